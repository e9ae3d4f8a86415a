/-
  wb.Check of a tree in balance: nothing is wrong.
-/
import Derived.Test.YthgckfeocalbdaaGreatChkT
namespace Go.Proofs.YthgckfeocalbdaaGreat
open Go Go.Sh Go.RowKit

set_option maxRecDepth 100000 in
theorem elNd : ElT Tryz.prog 74 29 (.pointer none) 1 8 := ⟨Tryz.underlying74, ⟨_, Tryz.type29, by kernel_rfl, by kernel_rfl, by kernel_rfl⟩, rfl, by omega⟩
/-- the last one off -/
theorem sl_pop {w : World} {base ty k c : Nat} {p : Option Addr} {xs : List Value} (h : w.ownsRow base ty 1 (.slice p (k + 1) c) (k + 1) xs) {hi : Int} (hk : hi = (k : Int)) {K : Option Addr → Nat → Nat → Prop}
    (kk : w.ownsRow base ty 1 (.slice p k c) k (xs.take k) → K p k c) : doSl p c 1 0 hi K := by
  subst hk
  rcases h.2 with ⟨hv, hn⟩ | ⟨g, cap, cur, hv, hb, hg, hnc, hcm, hcs, htk⟩
  · omega
  · injection hv with hp _ hc
    subst hp hc
    refine ⟨by omega, by omega, by omega, ?_⟩
    rw [Int.toNat_natCast, show (0 : Int).toNat = 0 from rfl, if_neg (by omega)]
    have hadd : Option.map (fun x : Addr => x.add (0 * 1)) (some (⟨g, 0, none⟩ : Addr)) = some ⟨g, 0, none⟩ := by simp [add_zero']
    refine cast ?_ (kk ⟨?_, .inr ⟨g, c, cur, rfl, hb, hg, by omega, hcm, hcs, ?_⟩⟩)
    · simp only [Nat.sub_zero]
      exact congrFun (congrFun (congrArg K hadd.symm) _) _
    · have := h.1; rw [List.length_take]; omega
    · rw [← htk, List.take_take]; congr 1; omega
abbrev ndsV (L : List (Option Addr × Tr)) : List Value := L.flatMap fun x => [.pointer x.1]
def sizesN : List (Option Addr × Tr) → Nat
  | [] => 0
  | x :: l => x.2.size + sizesN l
theorem sizesN_app (a b : List (Option Addr × Tr)) : sizesN (a ++ b) = sizesN a + sizesN b := by
  induction a with
  | nil => simp [sizesN]
  | cons x a ih => simp only [List.cons_append, sizesN, ih]; omega
def sliceN : Value → Nat
  | .slice _ n _ => n
  | _ => 0
set_option maxRecDepth 20000 in
theorem c_wbcheck {t : Tr} {p : Option Addr} {w : World} {R : Ending → World → Prop} (ht : IsN w p t) (wt : Wb t) (hn : t.size ≤ 5000) (h : ∀ k w', Ext w w' → R (.returned (.tuple #[.int .i64 k, .int .i64 0])) w') :
    Calls Tryz.prog 115 #[.pointer p] w R := by
  refine sh115_ok _ ?_
  unfold sh115
  refine ⟨?_⟩
  have e0 := ext_alloc w (.cells #[.pointer p] 29)
  have hb := blk_alloc w #[.pointer p] 29
  intro K7
  refine ⟨fun vs w' => ∃ (a : Nat) (L : List (Option Addr × Tr)) (q : Option Addr) (c : Nat), vs = [.int .i64 a, .int .i64 0, .slice q L.length c] ∧ Ext w w' ∧ w'.ownsRow w.heap.size 29 1 (.slice q L.length c) L.length (ndsV L) ∧ (∀ x ∈ L, IsN w x.1 x.2 ∧ Wb x.2) ∧ a + sizesN L = t.size ∧ L.length ≤ a + 1,
    fun vs _ => 3 * (t.size - (intOf (vs.getD 0 undef)).toNat) + sliceN (vs.getD 2 undef),
    ⟨0, [(p, t)], _, _, rfl, e0, ⟨rfl, .inr ⟨w.heap.size, 1, _, rfl, Nat.le_refl _, hb, Nat.le_refl _, by decide, rfl, rfl⟩⟩, (fun x hx => by simp at hx; subst hx; exact ⟨ht, wt⟩), by simp [sizesN], Nat.le_refl _⟩, ?_⟩
  rintro a_ e_ q_ n_ c_ _ w1 ⟨a, L, q, c, hv, E, hr, hL, hsum, hlen⟩
  simp only [List.cons.injEq, Value.slice.injEq, Value.int.injEq, true_and, and_true] at hv
  obtain ⟨v1, v2, v3, v4, v5⟩ := hv
  have v1 := v1.symm; subst v1
  have v2 := v2.symm; subst v2
  have v3 := v3.symm; subst v3
  have v4 := v4.symm; subst v4
  have v5 := v5.symm; subst v5
  refine ifB_intro (fun hlt => ?_) fun hge => h _ _ E
  rcases List.eq_nil_or_concat L with rfl | ⟨L', x, rfl⟩
  · have := of_decide_eq_true hlt; simp at this
  simp only [List.concat_eq_append, List.length_append, List.length_singleton, sizesN_app] at *
  have hx := hL x (by simp)
  have hw : IntKind.wrap .i64 (((L'.length + 1 : Nat) : Int) - 1) = (L'.length : Int) := by rw [wrap_of (by omega) (by omega)]; omega
  rw [hw]
  refine ix_flat (s := 1) (ec := fun x : Option Addr × Tr => [.pointer x.1]) (fun _ => rfl) (by omega) (Cs.of_row hr) (by simp) rfl (Nat.lt_succ_self _) fun ad r _ => ⟨x.1, by have := r 0 (.pointer x.1) (by simp); rw [add_zero'] at this; exact this, ?_⟩
  refine sl_pop hr rfl fun hr' => ?_
  have htk : (ndsV (L' ++ [x])).take L'.length = ndsV L' := by
    have hl : (ndsV L').length = L'.length := by have := flat_length (ec := fun x : Option Addr × Tr => [Value.pointer x.1]) (s := 1) (fun _ => rfl) L'; rw [Nat.mul_one] at this; exact this
    rw [ndsV, List.flatMap_append, List.take_append_of_le_length (Nat.le_of_eq hl.symm), List.take_of_length_le (Nat.le_of_eq hl)]
  rw [htk] at hr'
  obtain ⟨px, tx⟩ := x
  obtain ⟨hx, hwx⟩ := hx
  cases tx with
  | nil =>
    have : px = none := hx
    subst this
    refine ifB_t rfl ⟨⟨a, L', q, c, rfl, E, hr', fun y hy => hL y (by simp [hy]), by simpa [sizesN, Tr.size] using hsum, by omega⟩, ?_⟩
    show 3 * (t.size - ((a : Nat) : Int).toNat) + L'.length < 3 * (t.size - ((a : Nat) : Int).toNat) + (L'.length + 1)
    omega
  | node l k v g r' =>
    obtain ⟨wl, wr, hg, hlk⟩ := hwx
    have e : (Tr.node l k v g r').size = l.size + 1 + r'.size := rfl
    simp only [sizesN] at hsum
    rw [show px.isNone = false from hx.isNone]
    refine ifB_f rfl ?_
    refine do_call Tryz.call126 (c_tag (hx.ext E) fun w2 e2 => retS_ret ⟨_, rfl, ?_⟩)
    refine ifB_f (by show (g != 0) = false; rw [hg]; rfl) ?_
    have E2 := E.trans e2
    refine do_call Tryz.call68 (c_left0 hx E2 fun pl hpl => retS_ret ⟨_, rfl, ?_⟩)
    have hpl : IsN w pl l := hpl
    refine do_call Tryz.call155 (c_weight (hpl.ext E2) (by simp only [BIG]; omega) fun w3 e3 => retS_ret ⟨_, rfl, ?_⟩)
    have E3 := E2.trans e3
    refine do_call Tryz.call66 (c_right0 hx E3 fun pr hpr => retS_ret ⟨_, rfl, ?_⟩)
    have hpr : IsN w pr r' := hpr
    refine do_call Tryz.call155 (c_weight (hpr.ext E3) (by simp only [BIG]; omega) fun w4 e4 => retS_ret ⟨_, rfl, ?_⟩)
    have E4 := E3.trans e4
    refine do_call Tryz.call157 (c_like (a := wtW l) (b := wtW r') (by simp only [wtW]; omega) (by simp only [wtW]; omega) fun w5 e5 => retS_ret ⟨_, rfl, ?_⟩)
    rw [hlk]
    have E5 := E4.trans e5
    refine ifB_f rfl ?_
    refine do_call Tryz.call66 (c_right0 hx E5 fun pr2 hpr2 => retS_ret ⟨_, rfl, ?_⟩)
    have hpr2 : IsN w pr2 r' := hpr2
    refine do_call Tryz.call68 (c_left0 hx E5 fun pl2 hpl2 => retS_ret ⟨_, rfl, ⟨?_⟩⟩)
    have hpl2 : IsN w pl2 l := hpl2
    have e6 := ext_alloc w5 (.cells #[.pointer pr2, .pointer pl2] 29)
    have c6 := cs_alloc w5 #[.pointer pr2, .pointer pl2] 29
    have E6 := E5.trans e6
    have r6 := ((((e2.trans e3).trans e4).trans e5).trans e6).row hr'
    refine do_app elNd r6 (m := 2) c6 rfl (fun u hu => by simp at hu; rcases hu with rfl | rfl <;> rfl) (by simp only [maxLen]; omega) (by omega) E6.size fun q7 c7 w7 h7 g7 => retS_ret ⟨_, _, _, rfl, ⟨a + 1, L' ++ [(pr2, r'), (pl2, l)], q7, c7, ?_, ?_, ?_, fun y hy => ?_, ?_, ?_⟩, ?_⟩
    · rw [wrap_of (by omega) (by omega)]; simp
    · exact E6.grown g7 fun k hk => (World.ownsRow.lt r6 k hk).1
    · rw [show ndsV (L' ++ [(pr2, r'), (pl2, l)]) = ndsV L' ++ [.pointer pr2, .pointer pl2] by simp [ndsV], show (L' ++ [(pr2, r'), (pl2, l)]).length = L'.length + 2 by simp]
      exact h7
    · rcases List.mem_append.1 hy with hy | hy
      · exact hL y (by simp [hy])
      · simp at hy
        rcases hy with rfl | rfl
        · exact ⟨hpr2, wr⟩
        · exact ⟨hpl2, wl⟩
    · rw [sizesN_app]; simp only [sizesN]; omega
    · simp; omega
    · rw [wrap_of (by omega) (by omega)]
      show 3 * (t.size - ((a : Int) + 1).toNat) + (L'.length + 2) < 3 * (t.size - ((a : Nat) : Int).toNat) + (L'.length + 1)
      omega
end Go.Proofs.YthgckfeocalbdaaGreat
