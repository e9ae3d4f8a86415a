/-
  sound.Check, Ahead; a scheme's Check.
-/
import Derived.Test.YthgckfeocalbdaaGreatChkS
import Derived.Test.YthgckfeocalbdaaGreatLaw24
namespace Go.Proofs.YthgckfeocalbdaaGreat
open Go Go.Sh Go.RowKit

set_option maxRecDepth 20000 in
set_option maxHeartbeats 1600000 in
theorem c_scheckS {c o : Int} {t : Tr} {p : Option Addr} {w : World} {R : Ending → World → Prop} (ho : isO o = true) (ht : IsN w p t) (ha : asc o (itsC c t)) (hk : InK t) (h : ∀ k w', Ext w w' → R (.returned (.tuple #[.int .i64 k, .int .i64 0])) w') :
    Calls Tryz.prog 63 #[.int .u8 o, .pointer p] w R := by
  refine sh63_ok _ _ ?_
  unfold sh63
  have ho7 : 1 ≤ o ∧ o ≤ 7 := by simpa [isO] using ho
  refine ⟨⟨?_⟩⟩
  have e0 := ext_alloc w (.cells #[.int .i64 0] 3)
  have h2 := blk_alloc w #[.int .i64 0] 3
  have k2 : w.heap.size ≤ w.heap.size := Nat.le_refl _
  generalize hb2 : w.heap.size = b2 at h2 k2 ⊢
  generalize w.alloc (.cells #[.int .i64 0] 3) = w1 at *
  have e1 := ext_alloc w1 (.cells #[.int .i64 0] 34)
  have h4 := blk_alloc w1 #[.int .i64 0] 34
  have l2 := h2.lt
  have n24 : b2 < w1.heap.size := l2
  generalize w1.heap.size = b4 at *
  generalize w1.alloc (.cells #[.int .i64 0] 34) = w2 at *
  have h22 := h2.ext e1
  have l4 := h4.lt
  intro K11 K40
  refine ifB_f (decide_eq_false (by omega)) ?_
  simp -zeta -zetaHave only [K40]
  refine ifB_f (decide_eq_false (by omega)) ?_
  simp -zeta -zetaHave only [K11]
  intro K13
  refine do_call Tryz.call99 (sh99_ok _ _ ?_)
  unfold sh99
  refine ⟨⟨retS_ret ⟨_, _, _, rfl, do_rf fun fn L w6 d hd hL hst hpe e6 hd6 hl6 => ?_⟩⟩⟩
  have e3 := ext_alloc w2 (.cells #[.int .u8 o] 5)
  have hbo := blk_alloc w2 #[.int .u8 o] 5
  generalize w2.heap.size = bo at *
  generalize w2.alloc (.cells #[.int .u8 o] 5) = w3 at *
  have e5 := ext_alloc w3 (.cells #[.pointer p] 29)
  have hbt := blk_alloc w3 #[.pointer p] 29
  generalize w3.heap.size = bt at *
  generalize w3.alloc (.cells #[.pointer p] 29) = w5 at *
  have e26 : Ext w2 w6 := (e3.trans e5).trans e6
  have E6 : Ext w w6 := (e0.trans e1).trans e26
  have hbt6 := hbt.ext e6
  have d2 : b2 < d := by have := (h22.ext (e3.trans e5)).lt; omega
  have d4 : b4 < d := by have := (h4.ext (e3.trans e5)).lt; omega
  have dO : bo < d := by have := (hbo.ext e5).lt; omega
  obtain ⟨J, hJ⟩ : ∃ J : Nat → World → Prop, J = fun n w' => Ext w w' ∧ Blk w' b2 #[.int .i64 (IntKind.wrap .i64 (n : Nat))] 3 ∧ Blk w' b4 #[.int .i64 0] 34 ∧ Blk w' bo #[.int .u8 o] 5 ∧ w'.heap[d]? = some (.deferred (some [])) ∧ w'.heap[d + 1]? = some (.loop L) := ⟨_, rfl⟩
  have hJe : ∀ n w', J n w' → Ext w w' := fun n w' q => by rw [hJ] at q; exact q.1
  have hJo : ∀ n w', J n w' → Blk w' bo #[.int .u8 o] 5 := fun n w' q => by rw [hJ] at q; exact q.2.2.2.1
  have hJd : ∀ n w', J n w' → d + 1 < w'.heap.size := fun n w' q => by rw [hJ] at q; exact (Array.getElem?_eq_some_iff.1 q.2.2.2.2.2).1
  have hJx : ∀ n w' w'', J n w' → Ext w' w'' → J n w'' := fun n w' w'' q e => by
    rw [hJ] at q ⊢
    exact ⟨q.1.trans e, q.2.1.ext e, q.2.2.1.ext e, q.2.2.2.1.ext e, e.heap q.2.2.2.2.1, e.heap q.2.2.2.2.2⟩
  have hwl : w.heap.size ≤ d := by omega
  have hY : ∀ n q w' (K : Ending → World → Prop), J n w' →
      (∀ w'', J (n + 1) w'' → KP (d + 1) w' w'' → K (.returned (.bool true)) w'') → doCall Tryz.prog (.func (.yield (d + 1)) #[] #[]) #[.pointer q, .bool false] w' K := by
    intro n q w5 K hj hK
    rw [hJ] at hj
    obtain ⟨E5, j2, j4, jo, jd, jl⟩ := hj
    refine sh63_0_ok (by rw [jl, hL]) ?_
    unfold sh63_0
    refine ⟨_, jl, hst, ?_⟩
    have g7 := put_grown w5 (d + 1) (.loop { L with state := .busy })
    have l7 := put_heap (o' := .loop { L with state := .busy }) jl
    have E7 := E5.put (l := d + 1) (by omega) (.loop { L with state := .busy })
    have hlt := (Array.getElem?_eq_some_iff.1 jl).1
    have j2 := j2.grown g7 (ne_some (by omega))
    have j4 := j4.grown g7 (ne_some (by omega))
    have jo := jo.grown g7 (ne_some (by omega))
    have jd := heap_grown g7 jd (ne_some (by omega))
    have hfr : KP (d + 1) w5 (w5.putObj (d + 1) (.loop { L with state := .busy })) := fun b cs ty hb hk => hk.grown g7 (ne_some (by omega))
    generalize w5.putObj (d + 1) (.loop { L with state := .busy }) = w7 at *
    refine ifB_f rfl ⟨_, j2.cell (i := 0) rfl rfl, ?_⟩
    refine do_st j2 (i := 0) (add_blk _ _) (by simp) fun w9 h9 g9 => ?_
    have l9 := heap_grown g9 l7 (ne_some (by omega))
    refine ⟨_, l9, hK _ ?_ fun b cs ty hb hk => ?_⟩
    · rw [hJ, rec_back hst hpe]
      have gp := put_grown w9 (d + 1) (.loop L)
      have h9 : Blk w9 b2 #[.int .i64 (IntKind.wrap .i64 ((n + 1 : Nat) : Int))] 3 := by
        have : IntKind.wrap .i64 (IntKind.wrap .i64 (n : Int) + 1) = IntKind.wrap .i64 ((n + 1 : Nat) : Int) := by rw [wrap_add]; rfl
        rw [this] at h9; exact h9
      exact ⟨(E7.st g9 (by omega)).put (by omega) _, h9.grown gp (ne_some (by omega)), (j4.grown g9 (ne_some (by omega))).grown gp (ne_some (by omega)), (jo.grown g9 (ne_some (by omega))).grown gp (ne_some (by omega)), heap_grown gp (heap_grown g9 jd (ne_some (by omega))) (ne_some (by omega)), put_heap l9⟩
    · exact ((hfr b cs ty hb hk).grown g9 (ne_some (by omega))).grown (put_grown _ _ _) (ne_some (by omega))
  have hJ0 : J 0 w6 := by rw [hJ]; exact ⟨E6, h22.ext e26, h4.ext e26, hbo.ext (e5.trans e6), hd6, hl6⟩
  refine callE_c Tryz.call135 (by rfl) (sh135_ok _ _ _ _ _ ?_)
  unfold sh135
  refine ⟨⟨?_⟩⟩
  have e7 := ext_alloc w6 (.cells #[.func (.yield (d + 1)) #[] #[]] 198)
  have h7 := blk_alloc w6 #[.func (.yield (d + 1)) #[] #[]] 198
  have n7 : d + 1 < w6.heap.size := (Array.getElem?_eq_some_iff.1 hl6).1
  generalize w6.heap.size = b7 at *
  generalize w6.alloc (.cells #[.func (.yield (d + 1)) #[] #[]] 198) = w7 at *
  have n8 : b7 < w7.heap.size := h7.lt
  refine do_st (blk_alloc w7 _ _) (i := 0) (add_blk _ _) (by simp) fun w8 h8 g8 => ?_
  have e8 : Ext w7 w8 := (ext_alloc w7 _).st g8 (Nat.le_refl _)
  refine ⟨_, _, _, h8.cell (i := 0) rfl rfl, _, (hbt6.ext (e7.trans e8)).cell (i := 0) rfl rfl, ?_⟩
  have hM : MayB J (d + 1) w8 (fun _ => True) (.func 139) #[] #[] := by
    intro n w' key K _ _ _ _ hK
    refine do_call Tryz.call139 (sh139_ok _ ?_)
    unfold sh139
    exact hK _ (ext_refl _)
  refine do_onS (J := J) (d := d + 1) (c := c) (by omega) (by omega) hJd hJe hJx hJo hY t ht ha hk (fun _ _ => trivial) hM (hJx _ _ _ hJ0 (e7.trans e8)) (h7.ext e8) h8 fun w9 hj9 _ => retS_ret ⟨_, rfl, ?_⟩
  rw [hJ] at hj9
  obtain ⟨E9, j2, j4, _, jd, jl⟩ := hj9
  refine rf_done jl (by rw [hst]; simp) hpe fun ob => ?_
  have gp := put_grown w9 (d + 1) ob
  have E10 := E9.put (l := d + 1) (by omega) ob
  have j2 := j2.grown gp (ne_some (by omega))
  have j4 := j4.grown gp (ne_some (by omega))
  have jd := heap_grown gp jd (ne_some (by omega))
  generalize w9.putObj (d + 1) ob = w10 at *
  have dr := ext_drew w10
  refine ⟨⟨fun w' => Blk w' b2 #[.int .i64 (IntKind.wrap .i64 ((0 + t.size : Nat) : Int))] 3 ∧ Blk w' b4 #[.int .i64 0] 34, ⟨j2.ext dr, j4.ext dr⟩, _, fun w' q => q.1.cell (i := 0) rfl rfl, _, fun w' q => q.2.cell (i := 0) rfl rfl, ?_⟩⟩
  refine do_st (j2.ext dr) (i := 0) (add_blk _ _) (by simp) fun w11 h11' g11 => ⟨⟨h11', (j4.ext dr).grown g11 (ne_some (by omega))⟩, ?_⟩
  refine do_st ((j4.ext dr).grown g11 (ne_some (by omega))) (i := 0) (add_blk _ _) (by simp) fun w12 h12 g12 => ?_
  have jd12 := heap_grown g12 (heap_grown g11 (dr.heap jd) (ne_some (by omega))) (ne_some (by omega))
  rw [hd] at jd12
  refine ⟨jd12, ?_⟩
  have gp2 := put_grown w12 d (.deferred none)
  rw [hd] at gp2
  refine ⟨_, ((h11'.grown g12 (ne_some (by omega))).grown gp2 (ne_some (by omega))).cell (i := 0) rfl rfl, _, (h12.grown gp2 (ne_some (by omega))).cell (i := 0) rfl rfl, ?_⟩
  refine h _ _ ?_
  have E12 := ((E10.trans dr).st g11 (by omega)).st g12 (by omega)
  exact E12.st gp2 (by omega)
/-! ### the ends -/
def nodeN (w : World) : Value → Nat
  | .pointer (some q) => match w.cell? (q.add 4) with | some (.int _ k) => k.toNat | _ => 0
  | _ => 0
theorem nodeN_is {w : World} {p : Option Addr} {t : Tr} (ht : IsN w p t) : nodeN w (.pointer p) = t.size := by
  cases t with
  | nil => have : p = none := ht; subst this; rfl
  | node l k v g r =>
    obtain ⟨b, pl, pr, rfl, hb, _⟩ := ht
    have : w.cell? ((blk b).add 4) = some (.int .i64 ((Tr.node l k v g r).size : Nat)) := hb.cell (i := 4) (add_blk _ _) rfl
    show (match w.cell? ((blk b).add 4) with | some (.int _ k) => k.toNat | _ => 0) = _
    rw [this]
    rfl
/-- a side, as a function value -/
structure SideF (f : Fn) (s : Tr → Tr) : Prop where
  go : ∀ {w : World} {p : Option Addr} {t : Tr} {R : Ending → World → Prop}, IsN w p t → (∀ q, IsN w q (s t) → R (.returned (.pointer q)) w) → doCall Tryz.prog (.func f #[] #[]) #[.pointer p] w R
  lt : ∀ t : Tr, t.nn = true → (s t).size < t.size
  mem : ∀ (c : Int) (t : Tr) (x : It), x ∈ itsC c (s t) → x ∈ itsC c t
theorem side_right : SideF (.func 66) Tr.right := ⟨fun ht h => do_call Tryz.call66 (c_right ht h), fun t hn => by cases t with | nil => cases hn | node l k v g r => simp only [Tr.right, Tr.size]; omega,
  fun c t x hx => by cases t with | nil => exact hx | node l k v g r => rw [itsC_node]; simp [show x ∈ itsC c r from hx]⟩
theorem side_left : SideF (.func 68) Tr.left := ⟨fun ht h => do_call Tryz.call68 (c_left ht h), fun t hn => by cases t with | nil => cases hn | node l k v g r => simp only [Tr.left, Tr.size]; omega,
  fun c t x hx => by cases t with | nil => exact hx | node l k v g r => rw [itsC_node]; simp [show x ∈ itsC c l from hx]⟩
theorem c_send {c : Int} {f : Fn} {s : Tr → Tr} (hf : SideF f s) {t : Tr} {p : Option Addr} {w : World} {R : Ending → World → Prop} (ht : IsN w p t) (hn : t.nn = true)
    (h : ∀ q u, IsN w q u → (∃ x ∈ itsC c t, x.1 = u.key) → R (.returned (.pointer q)) w) : Calls Tryz.prog 65 #[.pointer p, .func f #[] #[]] w R := by
  refine sh65_ok _ _ _ _ ?_
  unfold sh65
  refine ⟨fun vs w' => ∃ (q : Option Addr) (u : Tr), vs = [.pointer q] ∧ w' = w ∧ IsN w q u ∧ u.nn = true ∧ ∀ x ∈ itsC c u, x ∈ itsC c t, fun vs w' => nodeN w' (vs.getD 0 undef), ⟨p, t, rfl, rfl, ht, hn, fun _ hx => hx⟩, ?_⟩
  rintro q_ _ w' ⟨q, u, hv, rfl, hu, hnu, hsub⟩
  simp only [List.cons.injEq, Value.pointer.injEq, and_true] at hv
  subst hv
  refine hf.go hu fun q1 h1 => retS_ret ⟨_, rfl, ?_⟩
  rw [h1.isNone]
  cases hs : (s u).nn with
  | true =>
    refine ifB_t rfl (hf.go hu fun q2 h2 => retS_ret ⟨_, rfl, ⟨q2, s u, rfl, rfl, h2, hs, fun x hx => hsub x (hf.mem c u x hx)⟩, ?_⟩)
    show nodeN w' (.pointer q2) < nodeN w' (.pointer q_)
    rw [nodeN_is h2, nodeN_is hu]
    exact hf.lt u hnu
  | false =>
    refine ifB_f rfl (h _ u hu ?_)
    cases u with
    | nil => cases hnu
    | node l k v g r => exact ⟨itC c (k, v, g), hsub _ (by rw [itsC_node]; simp), itC_key _ _⟩
/-- one tree stands ahead of another one -/
theorem c_sahead {c o : Int} {a u : Tr} {pa pu : Option Addr} {w : World} {R : Ending → World → Prop} (ho : isO o = true) (ha : IsN w pa a) (hu : IsN w pu u) (aa : asc o (itsC c a)) (au : asc o (itsC c u)) (ka : InK a) (ku : InK u)
    (hlt : ∀ x ∈ itsC c a, ∀ y ∈ itsC c u, cmpI o x.1 y.1 < 0) (h : ∀ w', Ext w w' → R (.returned (.bool true)) w') : Calls Tryz.prog 28 #[.int .u8 o, .pointer pa, .pointer pu] w R := by
  refine sh28_ok _ _ _ ?_
  unfold sh28
  refine do_call Tryz.call63 (c_scheckS ho ha aa ka fun k1 w1 e1 => retS_ret ⟨_, _, rfl, ?_⟩)
  refine do_call Tryz.call63 (c_scheckS ho (hu.ext e1) au ku fun k2 w2 e2 => retS_ret ⟨_, _, rfl, ?_⟩)
  have E2 := e1.trans e2
  intro K14
  refine ifB_f rfl ?_
  simp -zeta -zetaHave only [K14]
  refine ifB_f rfl ?_
  intro K17
  rw [ha.isNone, hu.isNone]
  cases hna : a.nn with
  | false => exact ifB_t rfl (h _ E2)
  | true =>
    refine ifB_f rfl ?_
    cases hnu : u.nn with
    | false => exact ifB_t rfl (h _ E2)
    | true =>
      refine ifB_f rfl ?_
      refine do_call Tryz.call65 (c_send (c := c) side_right (ha.ext E2) hna fun q s hs ⟨x, hx, ex⟩ => retS_ret ⟨_, rfl, ?_⟩)
      refine do_call Tryz.call67 (c_key hs fun w3 e3 => retS_ret ⟨_, rfl, ?_⟩)
      refine do_call Tryz.call65 (c_send (c := c) side_left (hu.ext (E2.trans e3)) hnu fun q' s' hs' ⟨y, hy, ey⟩ => retS_ret ⟨_, rfl, ?_⟩)
      refine do_call Tryz.call67 (c_key hs' fun w4 e4 => retS_ret ⟨_, rfl, ?_⟩)
      have ix := (inK_its (c := c)).1 ka x hx
      have iy := (inK_its (c := c)).1 ku y hy
      have hxy := hlt x hx y hy
      rw [ex] at ix hxy
      rw [ey] at iy hxy
      refine do_call Tryz.call64 (c_compare ix iy fun w5 e5 => retS_ret ⟨_, rfl, ?_⟩)
      simp -zeta -zetaHave only [K17]
      rw [decide_eq_true hxy]
      exact h _ (((E2.trans e3).trans e4).trans e5)
/-- a scheme's own Check -/
theorem c_schk {c : Int} {b : Nat} {t : Tr} {p : Option Addr} {w : World} {R : Ending → World → Prop} (hs : IsSch c b w) (ht : IsN w p t) (ok : OkM c t) (hn : t.size ≤ 5000) (h : ∀ k w', Gs b w w' → IsSch c b w' → R (.returned (.tuple #[.int .i64 k, .int .i64 0])) w') :
    Calls Tryz.prog 26 #[.pointer (some (blk b)), .pointer p] w R := by
  refine sh26_ok _ _ ?_
  unfold sh26
  refine ifB_f rfl (do_call Tryz.call62 (c_face hs fun w1 g1 hs1 => retS_ret ⟨_, _, _, _, _, _, _, _, _, _, _, _, _, _, _, _, _, _, _, _, rfl, ?_⟩))
  have ht1 := ht.gs hs g1
  obtain ⟨okp, okb⟩ := ok
  have hBg : t.size ≤ BIG := by simp only [BIG]; omega
  rcases okp with ⟨rfl, hk⟩ | ⟨rfl, hk⟩ | ⟨rfl, hk⟩ | ⟨rfl, hk⟩
  · exact do_call Tryz.call103 (c_avlcheck ht1 hk hn fun k w2 e2 => retS_ret ⟨_, _, rfl, h _ _ (g1.trans (gs_of e2)) (hs1.ext e2)⟩)
  · exact do_call Tryz.call109 (c_rbcheck ht1 hk (okb rfl) hn fun k w2 e2 => retS_ret ⟨_, _, rfl, h _ _ (g1.trans (gs_of e2)) (hs1.ext e2)⟩)
  · exact do_call Tryz.call115 (c_wbcheck ht1 hk hn fun k w2 e2 => retS_ret ⟨_, _, rfl, h _ _ (g1.trans (gs_of e2)) (hs1.ext e2)⟩)
  · exact do_call Tryz.call264 (c_tpcheck ht1 hk hBg fun k w2 e2 => retS_ret ⟨_, _, rfl, h _ _ (g1.trans (gs_of e2)) (hs1.ext e2)⟩)
end Go.Proofs.YthgckfeocalbdaaGreat
