/-
  What the functions of fold do.
-/
import Derived.Test.YtinkkhcffoikmaaAll
namespace Go.Proofs.Ytinkkhcffoikmaa
open Go Go.Sh Go.RowKit

set_option maxRecDepth 100000 in
theorem elI : ElT Try.prog 23 2 (.int .i64 0) 1 8 := ⟨Try.underlying23, ⟨_, Try.type2, by kernel_rfl, by kernel_rfl, by kernel_rfl⟩, rfl, by omega⟩
def comb (p a b : Int) : Int := if p = 1 then a else if p = 2 then b else IntKind.wrap .i64 (a + b)
def may (p : Int) : Bool := p == 1 || p == 2 || p == 3
theorem may_cases {p : Int} (h : may p = true) : p = 1 ∨ p = 2 ∨ p = 3 := by simpa [may, or_assoc] using h
def fn (k : Nat) : Value := .agg #[.func (.func k) #[] #[]]
def kindEs : Array MapEntry := #[{ key := .int .u8 1, val := fn 135, born := 0 }, { key := .int .u8 2, val := fn 136, born := 1 }, { key := .int .u8 3, val := fn 137, born := 2 }]
theorem c_kinds {w : World} {R : Ending → World → Prop} (h : ∀ b w', Ext w w' → w'.heap[b]? = some (.map kindEs 3) → R (.returned (.map (some b))) w') : Calls Try.prog 120 #[] w R := by
  refine sh120_ok ?_
  unfold sh120
  refine ⟨?_⟩
  refine do_mu_new Try.underlying143 Try.underlying5 (heap_alloc_new w _) (by rfl) (by rfl) fun w3 h3 g3 => ?_
  refine do_mu_new Try.underlying143 Try.underlying5 h3 (by rfl) (by rfl) fun w4 h4 g4 => ?_
  refine do_mu_new Try.underlying143 Try.underlying5 h4 (by rfl) (by rfl) fun w5 h5 g5 => ?_
  have e := ext_alloc w (.map #[] 0)
  exact h _ _ (((e.grown g3 (by rintro _ ⟨⟩; exact Nat.le_refl _)).grown g4 (by rintro _ ⟨⟩; exact Nat.le_refl _)).grown g5 (by rintro _ ⟨⟩; exact Nat.le_refl _)) h5
/-- what the map holds at a policy -/
theorem find_kind {p : Int} (h : may p = true) : ∃ i k, Instr.findNow (.int .u8) (.int .u8 p) kindEs.toList 0 = some (some (i, fn k)) ∧
    ∀ (a b : Int) (w : World) (R : Ending → World → Prop), R (.returned (.int .i64 (comb p a b))) w → doCall Try.prog (.func (.func k) #[] #[]) #[.int .i64 a, .int .i64 b] w R := by
  rcases may_cases h with rfl | rfl | rfl
  · exact ⟨0, 135, rfl, fun a b w R h => do_call Try.call135 (sh135_ok _ _ h)⟩
  · exact ⟨1, 136, rfl, fun a b w R h => do_call Try.call136 (sh136_ok _ _ h)⟩
  · exact ⟨2, 137, rfl, fun a b w R h => do_call Try.call137 (sh137_ok _ _ h)⟩
theorem find_none {p : Int} (h : may p = false) : Instr.findNow (.int .u8) (.int .u8 p) kindEs.toList 0 = some none := by
  simp [may] at h
  obtain ⟨⟨h1, h2⟩, h3⟩ := h
  have e1 : (p == 1) = false := by simpa using h1
  have e2 : (p == 2) = false := by simpa using h2
  have e3 : (p == 3) = false := by simpa using h3
  simp [kindEs, Instr.findNow, Instr.sameNow, e1, e2, e3]
theorem c_fmay {p : Int} {w : World} {R : Ending → World → Prop} (h : ∀ w', Ext w w' → R (.returned (.bool (may p))) w') : Calls Try.prog 89 #[.int .u8 p] w R := by
  refine sh89_ok _ ?_
  unfold sh89
  refine do_call Try.call120 (c_kinds fun b w1 e1 hb => retS_ret ⟨_, rfl, ?_⟩)
  cases hm : may p
  · refine do_lk_miss Try.underlying143 Try.underlying5 hb (by rfl) (find_none hm) (z := .agg #[.nilFunc]) (by kernel_rfl) (.inr ⟨rfl, ⟨?_⟩⟩)
    refine ⟨⟨_, by rw [add_zero']; exact cell_alloc0 _ _ _⟩, by rw [add_zero']; exact frozen_alloc _ _ _ _, ?_⟩
    exact hm ▸ h _ ((e1.alloc _).set (by rw [add_block]; exact e1.size) _)
  · obtain ⟨i, k, hf, _⟩ := find_kind hm
    refine do_lk_hit Try.underlying143 Try.underlying5 hb (by rfl) hf (.inl ⟨_, _, _, _, rfl, ⟨?_⟩⟩)
    refine ⟨⟨_, by rw [add_zero']; exact cell_alloc0 _ _ _⟩, by rw [add_zero']; exact frozen_alloc _ _ _ _, ?_⟩
    exact hm ▸ h _ ((e1.alloc _).set (by rw [add_block]; exact e1.size) _)
theorem c_comb {p a b : Int} {w : World} {R : Ending → World → Prop} (h : ∀ w', Ext w w' → R (.returned (.tuple #[.int .i64 (cond (may p) (comb p a b) 0), .int .i64 (cond (may p) 0 2)])) w') :
    Calls Try.prog 91 #[.int .u8 p, .int .i64 a, .int .i64 b] w R := by
  refine sh91_ok _ _ _ ?_
  unfold sh91
  refine do_call Try.call120 (c_kinds fun b w1 e1 hb => retS_ret ⟨_, rfl, ?_⟩)
  cases hm : may p <;> simp only [hm] at h
  · refine do_lk_miss Try.underlying143 Try.underlying5 hb (by rfl) (find_none hm) (z := .agg #[.nilFunc]) (by kernel_rfl) (.inr ⟨rfl, ⟨?_⟩⟩)
    refine ⟨⟨_, by rw [add_zero']; exact cell_alloc0 _ _ _⟩, by rw [add_zero']; exact frozen_alloc _ _ _ _, ?_⟩
    exact h _ ((e1.alloc _).set (by rw [add_block]; exact e1.size) _)
  · obtain ⟨i, k, hf, hc⟩ := find_kind hm
    refine do_lk_hit Try.underlying143 Try.underlying5 hb (by rfl) hf (.inl ⟨_, _, _, _, rfl, ⟨?_⟩⟩)
    have hz := cell_alloc0 w1 .nilFunc 141
    rw [← add_zero' (blk _)] at hz
    refine ⟨⟨_, hz⟩, by rw [add_zero']; exact frozen_alloc _ _ _ _, ?_⟩
    refine ⟨_, _, _, World.cell?_setCell_same _ _ _ hz, hc _ _ _ _ (retS_ret ⟨_, rfl, ?_⟩)⟩
    exact h _ ((e1.alloc _).set (by rw [add_block]; exact e1.size) _)
/-- what comes of a row -/
def runL (p : Int) : List Int → Int
  | [] => 0
  | x :: xs => xs.foldl (comb p) x
def runV (p : Int) (l : List Int) : Int := cond (may p) (runL p l) 0
def runE (p : Int) (l : List Int) : Int := cond (may p) (cond l.isEmpty 3 0) 2
theorem take_succ {l : List Int} {k : Nat} (h : k < l.length) : l.take (k + 1) = l.take k ++ [l[k]] := (List.take_append_getElem h).symm
/-! ### Sums -/
abbrev W64 (x : Int) : Int := IntKind.wrap .i64 x
def sumL (l : List Int) : Int := l.foldl (fun s x => W64 (s + x)) 0
def sumsL (l : List Int) : List Int := (List.range l.length).map fun i => sumL (l.take (i + 1))
theorem sumL_take {l : List Int} {k : Nat} (h : k < l.length) : sumL (l.take (k + 1)) = W64 (sumL (l.take k) + l[k]) := by
  rw [take_succ h]; simp only [sumL, List.foldl_append, List.foldl_cons, List.foldl_nil]
theorem sumsL_take {l : List Int} {k : Nat} (h : k < l.length) : (sumsL l).take (k + 1) = (sumsL l).take k ++ [sumL (l.take (k + 1))] := by
  rw [take_succ (by simpa [sumsL] using h)]; simp [sumsL]
@[simp] theorem sumsL_length (l : List Int) : (sumsL l).length = l.length := by simp [sumsL]
theorem c_adder {w : World} {R : Ending → World → Prop} (h : ∀ b w', Ext w w' → w.heap.size ≤ b → b < w'.heap.size → w'.cell? (blk b) = some (.int .i64 0) → w'.frozen? (blk b) = false →
    R (.returned (.func (.func 158) #[] #[.pointer (some (blk b))])) w') : Calls Try.prog 131 #[] w R := by
  refine sh131_ok ?_
  unfold sh131
  have hz := cell_alloc0 w (.int .i64 0) 2
  have hf := frozen_alloc w #[.int .i64 0] 2 0
  refine ⟨⟨⟨_, by rw [add_zero']; exact hz⟩, by rw [add_zero']; exact hf, ?_⟩⟩
  rw [add_zero']
  exact h _ _ ((ext_alloc w _).set (Nat.le_refl _) _) (Nat.le_refl _) (by simp) (World.cell?_setCell_same _ _ _ hz) (by rw [World.frozen?_setCell]; exact hf)
theorem c_add {v x : Int} {a : Addr} {w : World} {R : Ending → World → Prop} (hc : w.cell? a = some (.int .i64 x)) (hf : w.frozen? a = false)
    (h : R (.returned (.int .i64 (W64 (x + v)))) (w.setCell a (.int .i64 (W64 (x + v))))) : doCall Try.prog (.func (.func 158) #[] #[.pointer (some a)]) #[.int .i64 v] w R := by
  refine do_callc Try.call158 (by rfl) (sh158_ok _ _ ?_)
  unfold sh158
  refine ⟨_, hc, ⟨⟨_, by rw [add_zero']; exact hc⟩, by rw [add_zero']; exact hf, ?_⟩⟩
  rw [add_zero']
  exact ⟨_, World.cell?_setCell_same _ _ _ hc, h⟩
theorem c_sum {l : List Int} {q : Option Addr} {n c : Nat} {w : World} {R : Ending → World → Prop} (hl : Cs w q (ints l)) (hn : l.length = n) (h63 : n ≤ 9223372036854775807)
    (h : ∀ w', Ext w w' → R (.returned (.int .i64 (sumL l))) w') : Calls Try.prog 98 #[.slice q n c] w R := by
  refine sh98_ok _ _ _ ?_
  unfold sh98
  refine do_call Try.call131 (c_adder fun b w1 e1 hb1 hb2 hc hf => retS_ret ⟨_, _, _, rfl, ?_⟩)
  refine ⟨fun vs w' => ∃ i : Nat, vs = [.int .i64 (sumL (l.take i)), .int .i64 i] ∧ i ≤ n ∧ Ext w w' ∧ w'.cell? (blk b) = some (.int .i64 (sumL (l.take i))) ∧ w'.frozen? (blk b) = false,
    fun vs _ => n - (intOf (vs.getD 1 undef)).toNat, ⟨0, rfl, by omega, e1, hc, hf⟩, ?_⟩
  rintro v i j w3 ⟨m, hv, hmn, e3, hc, hf⟩
  simp only [List.cons.injEq, Value.int.injEq, true_and, and_true] at hv
  obtain ⟨rfl, rfl⟩ := hv
  refine ifB_intro (fun h1 => ?_) fun h1 => ?_
  · have h1 : m < n := by simpa using h1
    refine ix_int (hl.ext e3) hn (by omega) (by omega) fun a' _ hx' => ⟨_, hx', c_add hc hf (retS_ret ⟨_, rfl, ⟨m + 1, ?_, by omega, e3.set hb1 _, ?_, by rw [World.frozen?_setCell]; exact hf⟩, ?_⟩)⟩
    · rw [wrap_succ h1 h63, sumL_take (by omega)]
      simp [List.getElem?_eq_getElem (show m < l.length by omega)]
    · rw [World.cell?_setCell_same _ _ _ hc, sumL_take (by omega)]
      simp [List.getElem?_eq_getElem (show m < l.length by omega)]
    · rw [wrap_succ h1 h63]
      simp [intOf]; omega
  · have h1 : m = n := by simp at h1; omega
    rw [List.take_of_length_le (by omega)]
    exact h _ e3
/-! ### The reference -/
theorem c_rmay {p : Int} {w : World} {R : Ending → World → Prop} (h : R (.returned (.bool (may p))) w) : Calls Try.prog 80 #[.int .u8 p] w R := by
  refine sh80_ok _ ?_
  unfold sh80
  unfold may at h
  refine ifB_intro (fun h1 => ?_) fun h1 => ifB_intro (fun h2 => ?_) fun h2 => ?_
  · simpa [h1] using h
  · simpa [h1, h2] using h
  · simpa [h1, h2] using h
theorem c_rcomb {p a b : Int} {w : World} {R : Ending → World → Prop} (h : R (.returned (.int .i64 (comb p a b))) w) : Calls Try.prog 97 #[.int .u8 p, .int .i64 a, .int .i64 b] w R := by
  refine sh97_ok _ _ _ ?_
  unfold sh97
  unfold comb at h
  refine ifB_intro (fun h1 => ?_) fun h1 => ifB_intro (fun h2 => ?_) fun h2 => ?_
  · simp at h1; simpa [h1] using h
  · simp at h1 h2; simpa [h1, h2] using h
  · simp at h1 h2; simpa [h1, h2] using h
theorem c_rsame {l r : List Int} {q q' : Option Addr} {n c n' c' : Nat} {w : World} {R : Ending → World → Prop} (hl : Cs w q (ints l)) (hn : l.length = n) (hr : Cs w q' (ints r)) (hn' : r.length = n') (h63 : n ≤ 9223372036854775807)
    (h : ∀ w', Ext w w' → R (.returned (.bool (decide (l = r)))) w') : Calls Try.prog 83 #[.slice q n c, .slice q' n' c'] w R := by
  refine sh83_ok _ _ _ _ _ _ ?_
  unfold sh83
  refine ifB_intro (fun h0 => ?_) fun h0 => ?_
  · have : ¬ l = r := fun e => by subst e; simp at h0; omega
    rw [decide_eq_false this] at h
    exact h _ (ext_refl _)
  have h0 : n = n' := by simp at h0; omega
  subst h0
  refine ⟨fun vs w' => ∃ i : Nat, vs = [.int .i64 i] ∧ i ≤ n ∧ Ext w w' ∧ l.take i = r.take i,
    fun vs _ => n - (intOf (vs.getD 0 undef)).toNat, ⟨0, rfl, by omega, ext_refl _, rfl⟩, ?_⟩
  rintro i j w3 ⟨m, hv, hmn, e3, ht⟩
  simp only [List.cons.injEq, Value.int.injEq, true_and, and_true] at hv
  obtain rfl := hv
  refine ifB_intro (fun h1 => ?_) fun h1 => ?_
  · have h1 : m < n := by simpa using h1
    refine ⟨⟨fun w' => Ext w3 w', ext_drew _, ?_⟩⟩
    refine ix_int (hl.ext e3) hn (by omega) (by omega) fun a _ hx => ⟨_, fun w' e' => e'.cell hx, ix_int (hr.ext e3) hn' (by omega) (by omega) fun a' _ hx' => ⟨_, fun w' e' => e'.cell hx', ?_⟩⟩
    have g1 : l.getD m 0 = l[m] := by simp [List.getElem?_eq_getElem (show m < l.length by omega)]
    have g2 : r.getD m 0 = r[m] := by simp [List.getElem?_eq_getElem (show m < r.length by omega)]
    rw [Int.toNat_natCast, g1, g2]
    refine ifB_intro (fun h2 => ?_) fun h2 => ⟨⟨m + 1, by rw [wrap_succ h1 h63], by omega, e3.drew, ?_⟩, ?_⟩
    · have : ¬ l = r := fun e => by subst e; simp at h2
      rw [decide_eq_false this] at h
      exact h _ e3.drew
    · rw [take_succ (by omega), take_succ (by omega), ht]; simp at h2; rw [h2]
    · rw [wrap_succ h1 h63]
      simp [intOf]; omega
  · have h1 : m = n := by simp at h1; omega
    rw [List.take_of_length_le (by omega), List.take_of_length_le (by omega)] at ht
    rw [decide_eq_true ht] at h
    exact h _ e3
end Go.Proofs.Ytinkkhcffoikmaa
