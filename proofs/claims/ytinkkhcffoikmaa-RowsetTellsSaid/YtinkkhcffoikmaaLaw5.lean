/-
  RowsetAlgebra: the chapter's examples, and the walk.
-/
import Derived.Test.YtinkkhcffoikmaaRsLaw3
import Derived.Test.YtinkkhcffoikmaaL9
namespace Go.Proofs.Ytinkkhcffoikmaa
open Go Go.Sh Go.RowKit

/-- a row that lies in memory -/
structure Rs (w : World) (q : Option Addr) (n c : Nat) (l : List Pr) : Prop where
  cs : Cs w q (prs l)
  len : l.length = n
  cap : n ≤ c
theorem Rs.ext {w w' : World} {q : Option Addr} {n c : Nat} {l : List Pr} (h : Rs w q n c l) (e : Ext w w') : Rs w' q n c l := ⟨h.cs.ext e, h.len, h.cap⟩
theorem Rs.of {w : World} {q : Option Addr} {n c base : Nat} {l : List Pr} (h : OwnP w base q n c l) : Rs w q n c l := ⟨ownP_cs h, ownP_len h, row_cap h⟩
/-- a row that may be -/
structure Ro (o : Int) (l : List Pr) : Prop where
  may : mayR o l = true
  inp : InP l
theorem Ro.some {o p : Int} {want : Ke → Bool} {a b : List Pr} (ha : Ro o a) (hb : Ro o b) : Ro o (someL o p want a b) := ⟨someL_may ha.may hb.may ha.inp hb.inp, someL_in ha.inp hb.inp⟩
section
variable {o p : Int} {a b : List Pr} {qa qb : Option Addr} {na ca nb cb : Nat} {w : World} {R : Ending → World → Prop}
theorem setL_some {want : Ke → Bool} (ra : Ro o a) (rb : Ro o b) (hp : may p = true) : setL o p want a b = someL o p want a b := by unfold setL; rw [ra.may, rb.may, hp]; rfl
theorem setE_some (ra : Ro o a) (rb : Ro o b) (hp : may p = true) : setE o p a b = 0 := by unfold setE; rw [ra.may, rb.may, hp]; rfl
theorem s_un (hA : Rs w qa na ca a) (hB : Rs w qb nb cb b) (hm : na + nb ≤ 1000000) (ra : Ro o a) (rb : Ro o b) (hp : may p = true)
    (h : ∀ p' n' c' w', Rs w' p' n' c' (someL o p wU a b) → Ext w w' → R (.returned (.tuple #[.slice p' n' c', .int .i64 0])) w') :
    Calls Try.prog 55 #[.int .u8 o, .int .u8 p, .slice qa na ca, .slice qb nb cb] w R :=
  c_un hA.cs hA.len hA.cap hB.cs hB.len hB.cap hm ra.inp rb.inp fun p' n' c' w' h1 e1 => by
    rw [setL_some ra rb hp] at h1; rw [setE_some ra rb hp]; exact h _ _ _ _ (Rs.of h1) e1
theorem s_me (hA : Rs w qa na ca a) (hB : Rs w qb nb cb b) (hm : na + nb ≤ 1000000) (ra : Ro o a) (rb : Ro o b) (hp : may p = true)
    (h : ∀ p' n' c' w', Rs w' p' n' c' (someL o p wM a b) → Ext w w' → R (.returned (.tuple #[.slice p' n' c', .int .i64 0])) w') :
    Calls Try.prog 56 #[.int .u8 o, .int .u8 p, .slice qa na ca, .slice qb nb cb] w R :=
  c_me hA.cs hA.len hA.cap hB.cs hB.len hB.cap hm ra.inp rb.inp fun p' n' c' w' h1 e1 => by
    rw [setL_some ra rb hp] at h1; rw [setE_some ra rb hp]; exact h _ _ _ _ (Rs.of h1) e1
theorem s_le (hA : Rs w qa na ca a) (hB : Rs w qb nb cb b) (hm : na + nb ≤ 1000000) (ra : Ro o a) (rb : Ro o b)
    (h : ∀ p' n' c' w', Rs w' p' n' c' (someL o 1 wL a b) → Ext w w' → R (.returned (.tuple #[.slice p' n' c', .int .i64 0])) w') :
    Calls Try.prog 57 #[.int .u8 o, .slice qa na ca, .slice qb nb cb] w R :=
  c_le hA.cs hA.len hA.cap hB.cs hB.len hB.cap hm ra.inp rb.inp fun p' n' c' w' h1 e1 => by
    rw [setL_some ra rb may1] at h1; rw [setE_some ra rb may1]; exact h _ _ _ _ (Rs.of h1) e1
theorem s_ap (hA : Rs w qa na ca a) (hB : Rs w qb nb cb b) (hm : na + nb ≤ 1000000) (ra : Ro o a) (rb : Ro o b)
    (h : ∀ p' n' c' w', Rs w' p' n' c' (someL o 1 wA a b) → Ext w w' → R (.returned (.tuple #[.slice p' n' c', .int .i64 0])) w') :
    Calls Try.prog 58 #[.int .u8 o, .slice qa na ca, .slice qb nb cb] w R :=
  c_ap hA.cs hA.len hA.cap hB.cs hB.len hB.cap hm ra.inp rb.inp fun p' n' c' w' h1 e1 => by
    rw [setL_some ra rb may1] at h1; rw [setE_some ra rb may1]; exact h _ _ _ _ (Rs.of h1) e1
theorem s_may (hA : Rs w qa na ca a) (hm : na ≤ 1000000) (ra : Ro o a) (h : ∀ w', Ext w w' → R (.returned (.bool true)) w') : Calls Try.prog 40 #[.int .u8 o, .slice qa na ca] w R :=
  c_may hA.cs hA.len (by omega) ra.inp fun w' e => by rw [ra.may]; exact h w' e
theorem s_same {r l : List Pr} {q q' : Option Addr} {n c n' c' : Nat} (hA : Rs w q n c r) (hB : Rs w q' n' c' l) (hm : n ≤ 1000000) (e : r = l) (h : ∀ w', Ext w w' → R (.returned (.bool true)) w') : Calls Try.prog 50 #[.slice q n c, .slice q' n' c'] w R :=
  c_r4same hA.cs hA.len hB.cs hB.len (by omega) fun w' e' => by rw [decide_eq_true e]; exact h w' e'
theorem s_sort {l : List Pr} {q : Option Addr} {n c : Nat} (hA : Rs w q n c l) (hm : n ≤ 1000000) (hI : InP l) (ho : isO o = true) (hp : may p = true)
    (h : ∀ p' n' c' w', Rs w' p' n' c' (sortL o p l) → n' ≤ n → Ext w w' → R (.returned (.tuple #[.slice p' n' c', .int .i64 0])) w') : Calls Try.prog 59 #[.int .u8 o, .int .u8 p, .slice q n c] w R :=
  c_rsort hA.cs hA.len hm hI fun p' n' c' w' h1 e1 => by
    rw [ho, hp] at h1 ⊢
    have := ownP_len h1
    have := (sortL_may ho hp hI).2.2
    have := hA.len
    exact h _ _ _ _ (Rs.of h1) (by simp only [Bool.and_self, cond_true] at *; omega) e1
end
theorem may2 : may 2 = true := by simp [may]
theorem may3 : may 3 = true := by simp [may]
/-! ### the chapter's examples -/
abbrev a5 : List Pr := [(1, 10), (2, 20)]
abbrev b5 : List Pr := [(2, 5), (3, 30)]
theorem a5I : InP a5 := by
  intro x hx
  simp at hx
  rcases hx with rfl | rfl <;> exact ⟨⟨by decide, by decide⟩, ⟨by decide, by decide⟩⟩
theorem b5I : InP b5 := by
  intro x hx
  simp at hx
  rcases hx with rfl | rfl <;> exact ⟨⟨by decide, by decide⟩, ⟨by decide, by decide⟩⟩
theorem a5R : Ro 1 a5 := ⟨by decide, a5I⟩
theorem b5R : Ro 1 b5 := ⟨by decide, b5I⟩
theorem al5u : someL 1 3 wU a5 b5 = [(1, 10), (2, 25), (3, 30)] := by rw [← setL_some a5R b5R may3, un_eq a5I b5I]; decide
theorem al5m : someL 1 1 wM a5 b5 = [(2, 20)] := by rw [← setL_some a5R b5R may1, me_eq a5I b5I]; decide
theorem al5l : someL 1 1 wL a5 b5 = [(1, 10)] := by rw [← setL_some a5R b5R may1, le_eq a5I b5I]; decide
theorem al5a : someL 1 1 wA a5 b5 = [(1, 10), (3, 30)] := by rw [← setL_some a5R b5R may1, ap_eq a5I b5I]; decide
theorem cs3 {w : World} {b : Nat} {u v x y s t : Int} {ty : TypeId} (h : Blk w b #[.int .i64 u, .int .i64 v, .int .i64 x, .int .i64 y, .int .i64 s, .int .i64 t] ty) : Cs w (some (blk b)) (prs [(u, v), (x, y), (s, t)]) := fun i v hv => by
  refine ⟨_, rfl, ?_⟩
  rw [add_blk]
  match i, hv with
  | 0, hv => cases hv; exact h.cell rfl rfl
  | 1, hv => cases hv; exact h.cell rfl rfl
  | 2, hv => cases hv; exact h.cell rfl rfl
  | 3, hv => cases hv; exact h.cell rfl rfl
  | 4, hv => cases hv; exact h.cell rfl rfl
  | 5, hv => cases hv; exact h.cell rfl rfl
  | i + 6, hv => simp at hv
set_option maxRecDepth 100000 in
set_option maxHeartbeats 800000 in
theorem c_alive5 {w : World} {R : Ending → World → Prop} (h : ∀ w', Ext w w' → R (.returned (.bool true)) w') : Calls Try.prog 53 #[] w R := by
  refine sh53_ok ?_
  unfold sh53
  refine ⟨⟨?_⟩⟩
  have e1 := ext_alloc w (.cells #[.int .i64 1, .int .i64 10, .int .i64 2, .int .i64 20] 38)
  have hb1 := blk_alloc w #[.int .i64 1, .int .i64 10, .int .i64 2, .int .i64 20] 38
  generalize w.heap.size = b1 at *
  generalize w.alloc (.cells #[.int .i64 1, .int .i64 10, .int .i64 2, .int .i64 20] 38) = w1 at *
  have e2 := ext_alloc w1 (.cells #[.int .i64 2, .int .i64 5, .int .i64 3, .int .i64 30] 38)
  have hb2 := blk_alloc w1 #[.int .i64 2, .int .i64 5, .int .i64 3, .int .i64 30] 38
  generalize w1.heap.size = b2 at *
  generalize w1.alloc (.cells #[.int .i64 2, .int .i64 5, .int .i64 3, .int .i64 30] 38) = w2 at *
  have hA : Rs w2 (some (blk b1)) 2 2 a5 := ⟨cs2 (hb1.ext e2), rfl, Nat.le_refl _⟩
  have hB : Rs w2 (some (blk b2)) 2 2 b5 := ⟨cs2 hb2, rfl, Nat.le_refl _⟩
  have E := e1.trans e2
  clear e1 e2 hb1 hb2
  refine do_call Try.call55 (s_un hA hB (by decide) a5R b5R may3 fun pu nu cu w3 hu e3 => retS_ret ⟨_, _, _, _, rfl, ?_⟩)
  refine do_call Try.call56 (s_me (hA.ext e3) (hB.ext e3) (by decide) a5R b5R may1 fun pm nm cm w4 hm e4 => retS_ret ⟨_, _, _, _, rfl, ?_⟩)
  have E4 := e3.trans e4
  refine do_call Try.call57 (s_le (hA.ext E4) (hB.ext E4) (by decide) a5R b5R fun pl nl cl w5 hl e5 => retS_ret ⟨_, _, _, _, rfl, ?_⟩)
  have E5 := E4.trans e5
  refine do_call Try.call58 (s_ap (hA.ext E5) (hB.ext E5) (by decide) a5R b5R fun pa na ca w6 ha e6 => retS_ret ⟨_, _, _, _, rfl, ?_⟩)
  have E6 := E5.trans e6
  refine do_call Try.call66 (c_cut (hA.ext E6).cs rfl (by decide) (by decide) a5I ⟨by decide, by decide⟩ fun p1 n1 c1 p2 n2 c2 w7 g1 g2 g3 g4 g5 g6 e7 => retS_ret ⟨_, _, _, _, _, _, _, _, rfl, ?_⟩)
  have E7 := E6.trans e7
  have k1 : cutA 1 a5 2 = [(1, 10)] := by decide
  have k2 : cutB 1 a5 2 = [] := by decide
  have k3 : getR 1 a5 2 = 20 := by decide
  have k4 : hasR 1 a5 2 = true := by decide
  rw [k1] at g1 g2
  rw [k2] at g5
  rw [k3, k4, ← g5]
  have hC : Rs w7 p1 n1 c1 [(1, 10)] := ⟨g1, g2, g3⟩
  rw [al5u] at hu
  rw [al5m] at hm
  rw [al5l] at hl
  rw [al5a] at ha
  have hu7 := hu.ext (((e4.trans e5).trans e6).trans e7)
  have hm7 := hm.ext ((e5.trans e6).trans e7)
  have hl7 := hl.ext (e6.trans e7)
  have ha7 := ha.ext e7
  have hA7 := hA.ext E7
  have hB7 := hB.ext E7
  have lu : nu = 3 := hu.len.symm
  have lm : nm = 1 := hm.len.symm
  have ll : nl = 1 := hl.len.symm
  have la : na = 2 := ha.len.symm
  have lc : n1 = 1 := hC.len.symm
  have EE := E.trans E7
  clear e3 e4 e5 e6 e7 E4 E5 E6 E7 hu hm hl ha hA hB g1 g2 g3 g4 g5 g6 E
  refine ifB_f rfl (ifB_f rfl (ifB_f rfl (ifB_f rfl (ifB_f rfl (ifB_f rfl (ifB_f rfl ?_))))))
  refine ⟨⟨fun w' => Ext w7 w', ext_drew _, ⟨?_⟩⟩⟩
  have e8 := (ext_drew w7).trans (ext_alloc w7.drew (.cells #[.int .i64 1, .int .i64 10, .int .i64 2, .int .i64 25, .int .i64 3, .int .i64 30] 38))
  refine ⟨e8, do_call Try.call50 (s_same (hu7.ext e8) ⟨cs3 (blk_alloc w7.drew _ _), rfl, Nat.le_refl _⟩ (by omega) rfl fun w9 e9 => retS_ret ⟨_, rfl, e8.trans e9, ifB_t rfl ?_⟩)⟩
  have E9 := e8.trans e9
  refine sl_pr (w := w9) (a := 1) (b := 2) (hA7.ext E9).cs rfl (Nat.le_refl 2) rfl rfl (by decide) (by decide) fun q1 hq1 _ => ?_
  refine do_call Try.call50 (s_same (hm7.ext E9) ⟨hq1, rfl, Nat.le_refl _⟩ (by omega) rfl fun w10 e10 => retS_ret ⟨_, rfl, E9.trans e10, ifB_t rfl ?_⟩)
  have E10 := E9.trans e10
  refine sl_pr (w := w10) (a := 0) (b := 1) (hA7.ext E10).cs rfl (Nat.le_refl 2) rfl rfl (by decide) (by decide) fun q2 hq2 _ => ?_
  refine do_call Try.call50 (s_same (hl7.ext E10) ⟨hq2, rfl, by decide⟩ (by omega) rfl fun w11 e11 => retS_ret ⟨_, rfl, E10.trans e11, ifB_t rfl ?_⟩)
  have E11 := E10.trans e11
  refine ix_prC (fun w' e => (hA7.ext e).cs) (ext_refl _) rfl (k := 0) rfl (by decide) fun a r1 r2 => ⟨_, r1, _, r2, ?_⟩
  refine ix_prC (fun w' e => (hB7.ext e).cs) (ext_refl _) rfl (k := 1) rfl (by decide) fun a r1 r2 => ⟨_, r1, _, r2, ⟨?_⟩⟩
  have e12 := E11.trans (ext_alloc w11 (.cells #[.int .i64 1, .int .i64 10, .int .i64 3, .int .i64 30] 38))
  refine do_call Try.call50 (s_same (ha7.ext e12) ⟨cs2 (blk_alloc w11 _ _), rfl, Nat.le_refl _⟩ (by omega) rfl fun w13 e13 => retS_ret ⟨_, rfl, e12.trans e13, ifB_t rfl ?_⟩)
  have E13 := e12.trans e13
  refine sl_pr (w := w13) (a := 0) (b := 1) (hA7.ext E13).cs rfl (Nat.le_refl 2) rfl rfl (by decide) (by decide) fun q2 hq2 _ => ?_
  refine do_call Try.call50 (s_same (hC.ext E13) ⟨hq2, rfl, by decide⟩ (by omega) rfl fun w14 e14 => retS_ret ⟨_, rfl, E13.trans e14, h _ (EE.trans (E13.trans e14))⟩)
theorem c_sorted5 {o : Int} (ho : isO o = true) {a b c : List Pr} {qa qb qc : Option Addr} {na ca nb cb nc cc : Nat} {w : World} {R : Ending → World → Prop} (hA : Rs w qa na ca a) (hB : Rs w qb nb cb b) (hC : Rs w qc nc cc c)
    (hma : na ≤ 1000000) (hmb : nb ≤ 1000000) (hmc : nc ≤ 1000000) (hIa : InP a) (hIb : InP b) (hIc : InP c)
    (h : ∀ p1 n1 c1 p2 n2 c2 p3 n3 c3 w', Rs w' p1 n1 c1 (sortL o 2 a) → Rs w' p2 n2 c2 (sortL o 2 b) → Rs w' p3 n3 c3 (sortL o 2 c) → n1 ≤ na → n2 ≤ nb → n3 ≤ nc → Ext w w' →
      R (.returned (.tuple #[.slice p1 n1 c1, .slice p2 n2 c2, .slice p3 n3 c3, .bool true])) w') :
    Calls Try.prog 54 #[.int .u8 o, .slice qa na ca, .slice qb nb cb, .slice qc nc cc] w R := by
  refine sh54_ok _ _ _ _ _ _ _ _ _ _ ?_
  unfold sh54
  refine do_call Try.call59 (s_sort hA hma hIa ho may2 fun p1 n1 c1 w1 h1 l1 e1 => retS_ret ⟨_, _, _, _, rfl, ?_⟩)
  refine do_call Try.call59 (s_sort (hB.ext e1) hmb hIb ho may2 fun p2 n2 c2 w2 h2 l2 e2 => retS_ret ⟨_, _, _, _, rfl, ?_⟩)
  refine do_call Try.call59 (s_sort (hC.ext (e1.trans e2)) hmc hIc ho may2 fun p3 n3 c3 w3 h3 l3 e3 => retS_ret ⟨_, _, _, _, rfl, ?_⟩)
  exact ifB_t rfl (ifB_t rfl (h _ _ _ _ _ _ _ _ _ _ (h1.ext (e2.trans e3)) (h2.ext e3) h3 l1 l2 l3 ((e1.trans e2).trans e3)))
theorem pol_of {p : Int} (h0 : 0 ≤ p) : ∃ p', IntKind.wrap .u8 (1 + (Int.tmod p 3)) = p' ∧ may p' = true := by
  refine ⟨_, rfl, ?_⟩
  have e : Int.tmod p 3 = p % 3 := Int.tmod_eq_emod_of_nonneg h0
  have e2 : IntKind.wrap .u8 (1 + p % 3) = 1 + p % 3 := by
    simp only [IntKind.wrap, IntKind.signed, IntKind.bits]
    simp
    omega
  rw [e, e2]
  simp [may]
  omega
theorem sortR {o : Int} (ho : isO o = true) {l : List Pr} (hI : InP l) : Ro o (sortL o 2 l) := ⟨(sortL_may ho may2 hI).1, (sortL_may ho may2 hI).2.1⟩
theorem i64add {a b c : Nat} (h : a + b = c) (hc : c ≤ 1000000000) : IntKind.wrap .i64 (((a : Nat) : Int) + ((b : Nat) : Int)) = ((c : Nat) : Int) := by
  rw [wrap_of (by omega) (by omega)]; omega
set_option maxRecDepth 100000 in
set_option maxHeartbeats 1600000 in
theorem c_rowsetAlgebra {o p : Int} {a b : List Pr} {qa qb : Option Addr} {na ca nb cb : Nat} {w : World} {R : Ending → World → Prop} (ho : 0 ≤ o ∧ o < 256) (hp : 0 ≤ p ∧ p < 256) (hA : Rs w qa na ca a) (hB : Rs w qb nb cb b) (hIa : InP a) (hIb : InP b)
    (h : ∀ w', Ext w w' → R (.returned (.bool true)) w') : Calls Try.prog 9 #[.int .u8 o, .int .u8 p, .slice qa na ca, .slice qb nb cb] w R := by
  refine sh9_ok _ _ _ _ _ _ _ _ ?_
  unfold sh9
  refine ifB_intro (fun _ => do_call Try.call53 (c_alive5 fun w1 e1 => retS_ret ⟨_, rfl, h _ e1⟩)) fun h1 => ?_
  refine ifB_intro (fun _ => do_call Try.call53 (c_alive5 fun w1 e1 => retS_ret ⟨_, rfl, h _ e1⟩)) fun h2 => ?_
  have h1 : na ≤ 100 := by have := of_decide_eq_false h1; omega
  have h2 : nb ≤ 100 := by have := of_decide_eq_false h2; omega
  obtain ⟨o', ho1, ho'⟩ := ord_of ho.1
  obtain ⟨p', hp1, hp'⟩ := pol_of hp.1
  rw [ho1, hp1]
  refine ⟨by decide, by decide, ?_⟩
  refine do_call Try.call54 (c_sorted5 (c := []) ho' hA hB ⟨cs_nil _ _, rfl, Nat.le_refl _⟩ (by omega) (by omega) (by omega) hIa hIb (fun x hx => by cases hx) fun px nx cx py ny cy pz nz cz w1 hx hy hz lx ly lz e1 => retS_ret ⟨_, _, _, _, _, _, _, _, _, _, rfl, ?_⟩)
  have rx := sortR ho' hIa
  have ry := sortR ho' hIb
  generalize sortL o' 2 a = x at *
  generalize sortL o' 2 b = y at *
  clear hA hB hz
  obtain ⟨u, hu⟩ : ∃ u, u = someL o' p' wU x y := ⟨_, rfl⟩
  obtain ⟨m, hm⟩ : ∃ m, m = someL o' p' wM x y := ⟨_, rfl⟩
  obtain ⟨s, hs⟩ : ∃ s, s = someL o' 1 wL x y := ⟨_, rfl⟩
  obtain ⟨t, ht⟩ : ∃ t, t = someL o' 1 wL y x := ⟨_, rfl⟩
  obtain ⟨d, hd⟩ : ∃ d, d = someL o' 1 wA x y := ⟨_, rfl⟩
  have ru : Ro o' u := hu ▸ rx.some ry
  have rm : Ro o' m := hm ▸ rx.some ry
  have rs : Ro o' s := hs ▸ rx.some ry
  have rt : Ro o' t := ht ▸ ry.some rx
  have rd : Ro o' d := hd ▸ rx.some ry
  have hcnt := alg_cnt (p := p') rx.may ry.may rx.inp ry.inp
  have hrow := alg_row (p := p') rx.may ry.may rx.inp ry.inp
  have tl := someL_len o' 1 wL y x
  rw [← hu, ← hm, ← hs, ← hd] at hcnt
  rw [← hu, ← hm, ← hs, ← hd, ← ht] at hrow
  rw [← ht] at tl
  have lx' := hx.len
  have ly' := hy.len
  refine do_call Try.call55 (s_un hx hy (by omega) rx ry hp' fun pu nu cu w2 gu e2 => retS_ret ⟨_, _, _, _, rfl, ?_⟩)
  refine do_call Try.call56 (s_me (hx.ext e2) (hy.ext e2) (by omega) rx ry hp' fun pm nm cm w3 gm e3 => retS_ret ⟨_, _, _, _, rfl, ?_⟩)
  have E3 := e2.trans e3
  refine do_call Try.call57 (s_le (hx.ext E3) (hy.ext E3) (by omega) rx ry fun ps ns cs w4 gs e4 => retS_ret ⟨_, _, _, _, rfl, ?_⟩)
  have E4 := E3.trans e4
  refine do_call Try.call57 (s_le (hy.ext E4) (hx.ext E4) (by omega) ry rx fun pt nt ct w5 gt e5 => retS_ret ⟨_, _, _, _, rfl, ?_⟩)
  have E5 := E4.trans e5
  refine do_call Try.call58 (s_ap (hx.ext E5) (hy.ext E5) (by omega) rx ry fun pd nd cd w6 gd e6 => retS_ret ⟨_, _, _, _, rfl, ?_⟩)
  rw [← hu] at gu
  rw [← hm] at gm
  rw [← hs] at gs
  rw [← ht] at gt
  rw [← hd] at gd
  have gu := gu.ext (((e3.trans e4).trans e5).trans e6)
  have gm := gm.ext ((e4.trans e5).trans e6)
  have gs := gs.ext (e5.trans e6)
  have gt := gt.ext e6
  have E6 := e1.trans (E5.trans e6)
  clear e1 e2 e3 e4 e5 e6 E3 E4 E5 hx hy hu hm hs ht hd
  have lu := gu.len
  have lm := gm.len
  have ls := gs.len
  have lt := gt.len
  have ld := gd.len
  refine ifB_f rfl (ifB_f rfl (ifB_f rfl (ifB_f rfl (ifB_f rfl (ifB_f rfl ?_)))))
  rw [i64add (a := nu) (b := nm) (c := nx + ny) (by omega) (by omega), i64add (a := nx) (b := ny) (c := nx + ny) rfl (by omega), i64add (a := nd) (b := nm) (c := nu) (by omega) (by omega), i64add (a := ns) (b := nm) (c := nx) (by omega) (by omega)]
  refine ifB_f (by simp) (ifB_f (by simp) (ifB_f (by simp) ?_))
  refine do_call Try.call40 (s_may gu (by omega) ru fun w7 e7 => retS_ret ⟨_, rfl, ifB_f rfl ?_⟩)
  refine do_call Try.call40 (s_may (gm.ext e7) (by omega) rm fun w8 e8 => retS_ret ⟨_, rfl, ifB_f rfl ?_⟩)
  have E8 := e7.trans e8
  refine do_call Try.call40 (s_may (gd.ext E8) (by omega) rd fun w9 e9 => retS_ret ⟨_, rfl, ifB_f rfl ?_⟩)
  have E9 := E8.trans e9
  refine do_call Try.call55 (s_un (gs.ext E9) (gt.ext E9) (by omega) rs rt hp' fun pv nv cv wv gv ev => retS_ret ⟨_, _, _, _, rfl, ?_⟩)
  have Ev := E9.trans ev
  refine do_call Try.call55 (s_un (gm.ext Ev) (gd.ext Ev) (by omega) rm rd hp' fun pk nk ck wk gk ek => retS_ret ⟨_, _, _, _, rfl, ?_⟩)
  have Ek := Ev.trans ek
  refine do_call Try.call57 (s_le (gu.ext Ek) (gm.ext Ek) (by omega) ru rm fun pz nz cz wz gz ez => retS_ret ⟨_, _, _, _, rfl, ?_⟩)
  have Ez := Ek.trans ez
  rw [hrow.1] at gv
  rw [hrow.2.1] at gk
  rw [hrow.2.2] at gz
  have gv := gv.ext (ek.trans ez)
  have gk := gk.ext ez
  have lv := gv.len
  have lk := gk.len
  have lz := gz.len
  refine ifB_t rfl (ifB_t rfl (ifB_t rfl ?_))
  refine do_call Try.call50 (s_same gv (gd.ext Ez) (by omega) rfl fun wA eA => retS_ret ⟨_, rfl, ifB_t rfl ?_⟩)
  refine do_call Try.call50 (s_same (gk.ext eA) (gu.ext (Ez.trans eA)) (by omega) rfl fun wB eB => retS_ret ⟨_, rfl, ifB_t rfl ?_⟩)
  refine do_call Try.call50 (s_same ((gz.ext eA).ext eB) (gd.ext ((Ez.trans eA).trans eB)) (by omega) rfl fun wC eC => retS_ret ⟨_, rfl, ifB_t rfl ?_⟩)
  exact do_call Try.call53 (c_alive5 fun wD eD => retS_ret ⟨_, rfl, h _ ((((E6.trans Ez).trans eA).trans eB).trans (eC.trans eD))⟩)
end Go.Proofs.Ytinkkhcffoikmaa
