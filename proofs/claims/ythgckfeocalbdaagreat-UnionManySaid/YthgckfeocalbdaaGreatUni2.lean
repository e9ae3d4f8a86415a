/-
  union: Union, Many; the document's answers of layer 28; the chapter's examples.
-/
import Derived.Test.YthgckfeocalbdaaGreatUni
namespace Go.Proofs.YthgckfeocalbdaaGreat
open Go Go.Sh Go.RowKit

abbrev ofF (p : Int) : Value := .func (.func 81) #[.int .u8 p] #[]
set_option maxRecDepth 20000 in
theorem c_both {c o p : Int} {b : Nat} (ho : isO o = true) (hp : may p = true) {a u : Tr} {pa pb : Option Addr} {w : World} {R : Ending → World → Prop} (hs : IsSch c b w)
    (ha : IsN w pa a) (hu : IsN w pb u) (oka : OkP c a) (oku : OkM c u) (hka : InK a) (hku : InK u) (hau : asc o (itsC c u)) (hB : a.size + u.size + 10 ≤ BIG)
    (h : ∀ q w', Gs b w w' → IsSch c b w' → IsN w' q (unionC c o p a u) → R (.returned (.pointer q)) w') :
    Calls Tryz.prog 80 #[.pointer (some (blk b)), .int .u8 o, ofF p, .pointer pa, .pointer pb] w R := by
  refine sh80_ok _ _ _ _ _ _ _ ?_
  unfold sh80
  refine ⟨⟨⟨⟨?_⟩⟩⟩⟩
  have hlt := hs.lt
  have e0 := ext_alloc w (.cells #[.pointer (some (blk b))] 23)
  have h8 := blk_alloc w #[.pointer (some (blk b))] 23
  have n8 : w.heap.size ≠ b := by omega
  have k8 : w.heap.size ≤ w.heap.size := Nat.le_refl _
  generalize hb8 : w.heap.size = b8 at h8 n8 k8 ⊢
  generalize w.alloc (.cells #[.pointer (some (blk b))] 23) = w1 at *
  have e1 := ext_alloc w1 (.cells #[.int .u8 o] 5)
  have h10 := blk_alloc w1 #[.int .u8 o] 5
  have l1 := h8.lt
  have n10 : w1.heap.size ≠ b := by omega
  generalize w1.heap.size = b10 at *
  generalize w1.alloc (.cells #[.int .u8 o] 5) = w2 at *
  have e2 := ext_alloc w2 (.cells #[ofF p] 123)
  have h12 := blk_alloc w2 #[ofF p] 123
  have l2 := (h8.ext e1).lt
  have n12 : w2.heap.size ≠ b := by omega
  generalize w2.heap.size = b12 at *
  generalize w2.alloc (.cells #[ofF p] 123) = w3 at *
  have e3 := ext_alloc w3 (.cells #[.nilFunc] 168)
  have l3 := (h8.ext (e1.trans e2)).lt
  have n14 : w3.heap.size ≠ b := by omega
  refine do_st (blk_alloc w3 _ _) (i := 0) (add_blk _ _) (by simp) fun w4 h4 g4 => ?_
  have e4 : Ext w3 w4 := e3.st g4 (Nat.le_refl _)
  have E4 := (e0.trans e1).trans (e2.trans e4)
  refine ⟨_, _, _, h4.cell (i := 0) rfl rfl, ?_⟩
  have caps : CapsU w4 b8 b10 w3.heap.size b12 b o p 123 168 :=
    ⟨h8.ext (e1.trans (e2.trans e4)), h10.ext (e2.trans e4), h4, h12.ext e4, n8, n10, n14, n12⟩
  exact c_on ho hp a caps (hs.ext E4) (ha.ext E4) (hu.ext E4) oka oku hka hku hau hB fun q w5 g5 hs5 h5 => retS_ret ⟨_, rfl, h _ _ ((gs_of E4).trans g5) hs5 h5⟩
theorem c_umay {c o p : Int} {b : Nat} (ho : isO o = true) {w : World} {R : Ending → World → Prop} (hs : IsSch c b w)
    (h : ∀ w', Gs b w w' → IsSch c b w' → R (.returned (.bool (may p))) w') : Calls Tryz.prog 79 #[.pointer (some (blk b)), .int .u8 o, .int .u8 p] w R := by
  refine sh79_ok _ _ _ ?_
  unfold sh79
  refine do_call Tryz.call16 (c_split ho ⟨by decide, by decide⟩ hs (t := .nil) rfl (OkM.nil hs.1).1 trivial (by decide) fun ql qr w1 g1 hs1 _ _ => retS_ret ⟨_, _, _, _, _, _, _, rfl, ⟨?_⟩⟩)
  refine do_st3 (blk_alloc w1 _ _) fun w2 h2 g2 => ?_
  have e2 : Ext w1 w2 := (ext_alloc w1 _).st g2 (Nat.le_refl _)
  intro K20
  exact ifB_t rfl (do_call Tryz.call71 (c_fmay fun w3 e3 => retS_ret ⟨_, rfl, h _ (g1.trans (gs_of (e2.trans e3))) (hs1.ext (e2.trans e3))⟩))
theorem c_umay_no {o p : Int} {sp : Option Addr} (hno : sp = none ∨ isO o = false) {w : World} {R : Ending → World → Prop}
    (h : ∀ w', Ext w w' → R (.returned (.bool false)) w') : Calls Tryz.prog 79 #[.pointer sp, .int .u8 o, .int .u8 p] w R := by
  refine sh79_ok _ _ _ ?_
  unfold sh79
  refine do_call Tryz.call16 (c_split_no ⟨by decide, by decide⟩ hno fun w1 e1 => retS_ret ⟨_, _, _, _, _, _, _, rfl, ⟨?_⟩⟩)
  refine do_st3 (blk_alloc w1 _ _) fun w2 h2 g2 => ?_
  have e2 : Ext w1 w2 := (ext_alloc w1 _).st g2 (Nat.le_refl _)
  intro K20
  exact ifB_f rfl (h _ (e1.trans e2))
set_option maxRecDepth 20000 in
theorem c_union {c o p : Int} {b : Nat} (ho : isO o = true) (hp : may p = true) {a u : Tr} {pa pb : Option Addr} {w : World} {R : Ending → World → Prop} (hs : IsSch c b w)
    (ha : IsN w pa a) (hu : IsN w pb u) (oka : OkP c a) (oku : OkM c u) (hka : InK a) (hku : InK u) (hau : asc o (itsC c u)) (hB : a.size + u.size + 10 ≤ BIG)
    (h : ∀ q w', Gs b w w' → IsSch c b w' → IsN w' q (unionC c o p a u) → R (.returned (.tuple #[.pointer q, .int .i64 0])) w') :
    Calls Tryz.prog 43 #[.pointer (some (blk b)), .int .u8 o, .int .u8 p, .pointer pa, .pointer pb] w R := by
  refine sh43_ok _ _ _ _ _ ?_
  unfold sh43
  refine do_call Tryz.call79 (c_umay ho hs fun w1 g1 hs1 => retS_ret ⟨_, rfl, ?_⟩)
  rw [hp]
  exact ifB_f rfl (do_call Tryz.call80 (c_both ho hp hs1 (ha.gs hs g1) (hu.gs hs g1) oka oku hka hku hau hB fun q w2 g2 hs2 h2 => retS_ret ⟨_, rfl, h _ _ (g1.trans g2) hs2 h2⟩))
theorem c_union_no2 {c o p : Int} {b : Nat} (ho : isO o = true) (hp : may p = false) {pa pb : Option Addr} {w : World} {R : Ending → World → Prop} (hs : IsSch c b w)
    (h : ∀ w', Gs b w w' → IsSch c b w' → R (.returned (.tuple #[.pointer none, .int .i64 2])) w') : Calls Tryz.prog 43 #[.pointer (some (blk b)), .int .u8 o, .int .u8 p, .pointer pa, .pointer pb] w R := by
  refine sh43_ok _ _ _ _ _ ?_
  unfold sh43
  refine do_call Tryz.call79 (c_umay ho hs fun w1 g1 hs1 => retS_ret ⟨_, rfl, ?_⟩)
  rw [hp]
  exact ifB_t rfl (h _ g1 hs1)
theorem c_union_no {o p : Int} {sp : Option Addr} (hno : sp = none ∨ isO o = false) {pa pb : Option Addr} {w : World} {R : Ending → World → Prop}
    (h : ∀ w', Ext w w' → R (.returned (.tuple #[.pointer none, .int .i64 2])) w') : Calls Tryz.prog 43 #[.pointer sp, .int .u8 o, .int .u8 p, .pointer pa, .pointer pb] w R := by
  refine sh43_ok _ _ _ _ _ ?_
  unfold sh43
  exact do_call Tryz.call79 (c_umay_no hno fun w1 e1 => retS_ret ⟨_, rfl, ifB_t rfl (h _ e1)⟩)
/-! ### Many -/
def manyC (c o p : Int) (l : List Tr) : Tr := l.foldl (unionC c o p) .nil
structure OkU (c o : Int) (t : Tr) : Prop where
  ok : OkM c t
  asc : asc o (itsC c t)
  k : InK t
theorem OkU.union {c o p : Int} {a u : Tr} (h : OkU c o a) (g : OkU c o u) : OkU c o (unionC c o p a u) ∧ (unionC c o p a u).size ≤ a.size + u.size := by
  have q := unionC_p (o := o) (p := p) h.ok.1 g.ok
  have e := unionC_ok (p := p) h.ok.1 g.ok h.asc g.asc
  refine ⟨⟨q.1, by rw [e]; exact asc_foldI h.asc, (inK_its (c := c)).2 ?_⟩, q.2⟩
  rw [e]
  exact foldI_all (P := fun a _ => In a) ((inK_its (c := c)).1 h.k) ((inK_its (c := c)).1 g.k)
abbrev ptrsV (L : List (Option Addr × Tr)) : List Value := L.flatMap fun x => [.pointer x.1]
set_option maxRecDepth 20000 in
theorem c_many {c o p : Int} {b M : Nat} (ho : isO o = true) (hp : may p = true) {L : List (Option Addr × Tr)} {q : Option Addr} {n cp : Nat} {w : World} {R : Ending → World → Prop} (hs : IsSch c b w)
    (hL : ∀ w', Gs b w w' → Cs w' q (ptrsV L)) (hn : L.length = n) (hT : ∀ x ∈ L, IsN w x.1 x.2 ∧ OkU c o x.2 ∧ x.2.size ≤ M) (hn6 : n ≤ 1000000) (hB : (n + 1) * M + 10 ≤ BIG)
    (h : ∀ t w', Gs b w w' → IsSch c b w' → IsN w' t (manyC c o p (L.map (·.2))) → OkU c o (manyC c o p (L.map (·.2))) → R (.returned (.tuple #[.pointer t, .int .i64 0])) w') :
    Calls Tryz.prog 45 #[.pointer (some (blk b)), .int .u8 o, .int .u8 p, .slice q n cp] w R := by
  refine sh45_ok _ _ _ _ _ _ ?_
  unfold sh45
  refine do_call Tryz.call79 (c_umay ho hs fun w1 g1 hs1 => retS_ret ⟨_, rfl, ?_⟩)
  rw [hp]
  refine ifB_f rfl ⟨fun vs w' => ∃ (i : Nat) (t : Option Addr), vs = [.pointer t, .int .i64 i] ∧ i ≤ n ∧ Gs b w w' ∧ IsSch c b w' ∧ IsN w' t (manyC c o p ((L.map (·.2)).take i)) ∧ OkU c o (manyC c o p ((L.map (·.2)).take i)) ∧ (manyC c o p ((L.map (·.2)).take i)).size ≤ i * M,
    fun vs _ => n - (intOf (vs.getD 1 undef)).toNat, ⟨0, none, rfl, by omega, g1, hs1, rfl, ⟨OkM.nil hs.1, List.Pairwise.nil, trivial⟩, by simp [manyC, Tr.size]⟩, ?_⟩
  rintro t_ i_ _ w2 ⟨i, t, hv, hi, g2, hs2, ht, hok, hsz⟩
  simp only [List.cons.injEq, Value.pointer.injEq, Value.int.injEq, true_and, and_true] at hv
  obtain ⟨rfl, rfl⟩ := hv
  refine ifB_intro (fun hlt => ?_) fun hge => ?_
  · have hlt : i < n := by have := of_decide_eq_true hlt; omega
    refine ix_flat (s := 1) (ec := fun x : Option Addr × Tr => [.pointer x.1]) (fun _ => rfl) (by omega) (hL w2 g2) hn rfl hlt fun a r _ => ⟨(L[i]'(by omega)).1, by have := r 0 _ rfl; rw [add_zero'] at this; exact this, ?_⟩
    obtain ⟨hx, ox, sx⟩ := hT (L[i]'(by omega)) (List.getElem_mem _)
    have hmul : (i + 1) * M ≤ n * M := Nat.mul_le_mul_right M hlt
    have e1 : (i + 1) * M = i * M + M := Nat.succ_mul i M
    have e2 : (n + 1) * M = n * M + M := Nat.succ_mul n M
    have U := hok.union (p := p) ox
    have hstep : manyC c o p ((L.map (·.2)).take (i + 1)) = unionC c o p (manyC c o p ((L.map (·.2)).take i)) (L[i]'(by omega)).2 := by
      unfold manyC
      rw [← List.take_append_getElem (by simp; omega), List.foldl_append]
      simp
    refine do_call Tryz.call80 (c_both ho hp hs2 ht (hx.gs hs g2) hok.ok.1 ox.ok hok.k ox.k ox.asc (by omega) fun q3 w3 g3 hs3 h3 => retS_ret ⟨_, rfl, ⟨i + 1, q3, ?_, by omega, g2.trans g3, hs3, by rw [hstep]; exact h3, by rw [hstep]; exact U.1, by rw [hstep]; have := U.2; omega⟩, ?_⟩)
    · rw [wrap_succ hlt (by omega)]
    · rw [wrap_succ hlt (by omega)]; simp [intOf]; omega
  · have hge : i = n := by have := of_decide_eq_false hge; omega
    rw [List.take_of_length_le (by simp; omega)] at ht hok
    exact h _ _ g2 hs2 ht hok
theorem c_many_no2 {c o p : Int} {b : Nat} (ho : isO o = true) (hp : may p = false) {q : Option Addr} {n cp : Nat} {w : World} {R : Ending → World → Prop} (hs : IsSch c b w)
    (h : ∀ w', Gs b w w' → IsSch c b w' → R (.returned (.tuple #[.pointer none, .int .i64 2])) w') : Calls Tryz.prog 45 #[.pointer (some (blk b)), .int .u8 o, .int .u8 p, .slice q n cp] w R := by
  refine sh45_ok _ _ _ _ _ _ ?_
  unfold sh45
  refine do_call Tryz.call79 (c_umay ho hs fun w1 g1 hs1 => retS_ret ⟨_, rfl, ?_⟩)
  rw [hp]
  exact ifB_t rfl (h _ g1 hs1)
theorem c_many_no {o p : Int} {sp : Option Addr} (hno : sp = none ∨ isO o = false) {q : Option Addr} {n cp : Nat} {w : World} {R : Ending → World → Prop}
    (h : ∀ w', Ext w w' → R (.returned (.tuple #[.pointer none, .int .i64 2])) w') : Calls Tryz.prog 45 #[.pointer sp, .int .u8 o, .int .u8 p, .slice q n cp] w R := by
  refine sh45_ok _ _ _ _ _ _ ?_
  unfold sh45
  exact do_call Tryz.call79 (c_umay_no hno fun w1 e1 => retS_ret ⟨_, rfl, ifB_t rfl (h _ e1)⟩)
/-! ### the document's -/
set_option maxRecDepth 20000 in
theorem c_r28union {o p : Int} {A B : List It} {q q' : Option Addr} {n c n' c' : Nat} {w : World} {R : Ending → World → Prop} (hA : Cs w q (its A)) (hn : A.length = n) (hB : Cs w q' (its B)) (hn' : B.length = n') (hm : n + n' ≤ 100000) (hIA : InI A) (hIB : InI B)
    (h : ∀ p1 n1 c1 w', OwnI w' w.heap.size p1 n1 c1 (foldI o p A B) → Ext w w' → R (.returned (.slice p1 n1 c1)) w') :
    Calls Tryz.prog 44 #[.int .u8 o, .int .u8 p, .slice q n c, .slice q' n' c'] w R := by
  refine sh44_ok _ _ _ _ _ _ _ _ ?_
  unfold sh44
  refine do_appL (ownI_nil w w.heap.size) hA hn (by omega) (Nat.le_refl _) fun p1 c1 w1 h1 e1 => retS_ret ⟨_, _, _, rfl, ?_⟩
  have E1 := e1 w (ext_refl _) (Nat.le_refl _)
  refine ⟨fun vs w' => ∃ (i n1 c1 : Nat) (p1 : Option Addr), vs = [.slice p1 n1 c1, .int .i64 i] ∧ i ≤ n' ∧ Ext w w' ∧ OwnI w' w.heap.size p1 n1 c1 (foldI o p A (B.take i)), fun vs _ => n' - (intOf (vs.getD 1 undef)).toNat,
    ⟨0, _, _, _, rfl, by omega, E1, h1⟩, ?_⟩
  rintro op on oc i_ _ w2 ⟨i, n1, c2, p2, hv, hi, E2, h2⟩
  simp only [List.cons.injEq, Value.slice.injEq, Value.int.injEq, true_and, and_true] at hv
  obtain ⟨⟨rfl, rfl, rfl⟩, rfl⟩ := hv
  refine ifB_intro (fun hlt => ?_) fun hge => ?_
  · have hlt : i < n' := by have := of_decide_eq_true hlt; omega
    refine ix_flat ecI_len (by omega) (hB.ext E2) hn' rfl hlt fun a r _ => ⟨_, r 0 _ rfl, _, r 1 _ rfl, _, r 2 _ rfl, ?_⟩
    have hlen := ownI_len h2
    have hfl := foldI_len (o := o) (p := p) (b := B.take i) (l := A)
    rw [List.length_take] at hfl
    have hin : InI (foldI o p A (B.take i)) := foldI_all (P := fun a _ => In a) hIA fun y hy => hIB y (List.mem_of_mem_take hy)
    refine do_call Tryz.call35 (c_r26insert (x := B[i]'(by omega)) (p := p) (hIB _ (List.getElem_mem _)) (ownI_cs h2) hlen (by omega) hin fun p3 n3 c3 w3 h3 e3 => retS_ret ⟨_, _, _, _, _, rfl, ⟨i + 1, n3, c3, p3, ?_, by omega, E2.trans e3, ?_⟩, ?_⟩)
    · rw [wrap_succ hlt (by omega)]
    · rw [← List.take_append_getElem (by omega), foldI_app]
      exact rowI_to h3 (ext_refl _) E2.size
    · rw [wrap_succ hlt (by omega)]; simp [intOf]; omega
  · have hge : i = n' := by have := of_decide_eq_false hge; omega
    rw [List.take_of_length_le (by omega)] at h2
    exact h _ _ _ _ h2 E2
end Go.Proofs.YthgckfeocalbdaaGreat
