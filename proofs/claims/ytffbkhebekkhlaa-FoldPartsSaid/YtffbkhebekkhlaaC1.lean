/-
  What the functions of fold do.
-/
import Derived.Test.YtffbkhebekkhlaaS1
import Derived.Test.YtffbkhebekkhlaaLb
namespace Go.Proofs.Ytffbkhebekkhlaa
open Go Go.Sh Go.RowKit

theorem el22 : ElT Try.prog 22 2 (.int .i64 0) 1 8 := ⟨Try.underlying22, ⟨_, Try.type2, by kernel_rfl, by kernel_rfl, by kernel_rfl⟩, rfl, by omega⟩
def comb (p a b : Int) : Int := if p = 1 then a else if p = 2 then b else IntKind.wrap .i64 (a + b)
def may (p : Int) : Bool := p == 1 || p == 2 || p == 3
theorem may_cases {p : Int} (h : may p = true) : p = 1 ∨ p = 2 ∨ p = 3 := by simpa [may, or_assoc] using h
def fn (k : Nat) : Value := .agg #[.func (.func k) #[] #[]]
def kindEs : Array MapEntry := #[{ key := .int .u8 1, val := fn 21, born := 0 }, { key := .int .u8 2, val := fn 22, born := 1 }, { key := .int .u8 3, val := fn 23, born := 2 }]
theorem c_kinds {w : World} {R : Ending → World → Prop} (h : ∀ b w', Ext w w' → w'.heap[b]? = some (.map kindEs 3) → R (.returned (.map (some b))) w') : Calls Try.prog 19 #[] w R := by
  refine sh19_ok ?_
  unfold sh19
  refine ⟨?_⟩
  refine do_mu_new Try.underlying43 Try.underlying5 (heap_alloc_new w _) (by rfl) (by rfl) fun w3 h3 g3 => ?_
  refine do_mu_new Try.underlying43 Try.underlying5 h3 (by rfl) (by rfl) fun w4 h4 g4 => ?_
  refine do_mu_new Try.underlying43 Try.underlying5 h4 (by rfl) (by rfl) fun w5 h5 g5 => ?_
  have e := ext_alloc w (.map #[] 0)
  exact h _ _ (((e.grown g3 (by rintro _ ⟨⟩; exact Nat.le_refl _)).grown g4 (by rintro _ ⟨⟩; exact Nat.le_refl _)).grown g5 (by rintro _ ⟨⟩; exact Nat.le_refl _)) h5
/-- what the map holds at a policy -/
theorem find_kind {p : Int} (h : may p = true) : ∃ i k, Instr.findNow (.int .u8) (.int .u8 p) kindEs.toList 0 = some (some (i, fn k)) ∧
    ∀ (a b : Int) (w : World) (R : Ending → World → Prop), R (.returned (.int .i64 (comb p a b))) w → doCall Try.prog (.func (.func k) #[] #[]) #[.int .i64 a, .int .i64 b] w R := by
  rcases may_cases h with rfl | rfl | rfl
  · exact ⟨0, 21, rfl, fun a b w R h => do_call Try.call21 (sh21_ok _ _ h)⟩
  · exact ⟨1, 22, rfl, fun a b w R h => do_call Try.call22 (sh22_ok _ _ h)⟩
  · exact ⟨2, 23, rfl, fun a b w R h => do_call Try.call23 (sh23_ok _ _ h)⟩
theorem find_none {p : Int} (h : may p = false) : Instr.findNow (.int .u8) (.int .u8 p) kindEs.toList 0 = some none := by
  simp [may] at h
  obtain ⟨⟨h1, h2⟩, h3⟩ := h
  have e1 : (p == 1) = false := by simpa using h1
  have e2 : (p == 2) = false := by simpa using h2
  have e3 : (p == 3) = false := by simpa using h3
  simp [kindEs, Instr.findNow, Instr.sameNow, e1, e2, e3]
theorem c_fmay {p : Int} {w : World} {R : Ending → World → Prop} (h : ∀ w', Ext w w' → R (.returned (.bool (may p))) w') : Calls Try.prog 13 #[.int .u8 p] w R := by
  refine sh13_ok _ ?_
  unfold sh13
  refine do_call Try.call19 (c_kinds fun b w1 e1 hb => retS_ret ⟨_, rfl, ?_⟩)
  cases hm : may p
  · refine do_lk_miss Try.underlying43 Try.underlying5 hb (by rfl) (find_none hm) (z := .agg #[.nilFunc]) (by kernel_rfl) (.inr ⟨rfl, ⟨?_⟩⟩)
    refine ⟨⟨_, by rw [add_zero']; exact cell_alloc0 _ _ _⟩, by rw [add_zero']; exact frozen_alloc _ _ _ _, ?_⟩
    exact hm ▸ h _ ((e1.alloc _).set (by rw [add_block]; exact e1.size) _)
  · obtain ⟨i, k, hf, _⟩ := find_kind hm
    refine do_lk_hit Try.underlying43 Try.underlying5 hb (by rfl) hf (.inl ⟨_, _, _, _, rfl, ⟨?_⟩⟩)
    refine ⟨⟨_, by rw [add_zero']; exact cell_alloc0 _ _ _⟩, by rw [add_zero']; exact frozen_alloc _ _ _ _, ?_⟩
    exact hm ▸ h _ ((e1.alloc _).set (by rw [add_block]; exact e1.size) _)
theorem c_comb {p a b : Int} {w : World} {R : Ending → World → Prop} (h : ∀ w', Ext w w' → R (.returned (.tuple #[.int .i64 (cond (may p) (comb p a b) 0), .int .i64 (cond (may p) 0 2)])) w') :
    Calls Try.prog 8 #[.int .u8 p, .int .i64 a, .int .i64 b] w R := by
  refine sh8_ok _ _ _ ?_
  unfold sh8
  refine do_call Try.call19 (c_kinds fun b w1 e1 hb => retS_ret ⟨_, rfl, ?_⟩)
  cases hm : may p <;> simp only [hm] at h
  · refine do_lk_miss Try.underlying43 Try.underlying5 hb (by rfl) (find_none hm) (z := .agg #[.nilFunc]) (by kernel_rfl) (.inr ⟨rfl, ⟨?_⟩⟩)
    refine ⟨⟨_, by rw [add_zero']; exact cell_alloc0 _ _ _⟩, by rw [add_zero']; exact frozen_alloc _ _ _ _, ?_⟩
    exact h _ ((e1.alloc _).set (by rw [add_block]; exact e1.size) _)
  · obtain ⟨i, k, hf, hc⟩ := find_kind hm
    refine do_lk_hit Try.underlying43 Try.underlying5 hb (by rfl) hf (.inl ⟨_, _, _, _, rfl, ⟨?_⟩⟩)
    have hz := cell_alloc0 w1 .nilFunc 41
    rw [← add_zero' (blk _)] at hz
    refine ⟨⟨_, hz⟩, by rw [add_zero']; exact frozen_alloc _ _ _ _, ?_⟩
    refine ⟨_, _, _, World.cell?_setCell_same _ _ _ hz, hc _ _ _ _ (retS_ret ⟨_, rfl, ?_⟩)⟩
    exact h _ ((e1.alloc _).set (by rw [add_block]; exact e1.size) _)
/-- what comes of a row -/
def runL (p : Int) : List Int → Int
  | [] => 0
  | x :: xs => xs.foldl (comb p) x
def runV (p : Int) (l : List Int) : Int := cond (may p) (runL p l) 0
def runE (p : Int) (l : List Int) : Int := cond (may p) (cond l.isEmpty 3 0) 2
theorem take_succ {l : List Int} {k : Nat} (h : k < l.length) : l.take (k + 1) = l.take k ++ [l[k]] := (List.take_append_getElem h).symm
theorem c_run {p : Int} {l : List Int} {q : Option Addr} {n c : Nat} {w : World} {R : Ending → World → Prop} (hl : Cs w q (ints l)) (hn : l.length = n) (hc : n ≤ c) (h63 : n ≤ 9223372036854775807)
    (h : ∀ w', Ext w w' → R (.returned (.tuple #[.int .i64 (runV p l), .int .i64 (runE p l)])) w') :
    Calls Try.prog 7 #[.int .u8 p, .slice q n c] w R := by
  refine sh7_ok _ _ _ _ ?_
  unfold sh7
  refine do_call Try.call19 (c_kinds fun b w1 e1 hb => retS_ret ⟨_, rfl, ?_⟩)
  cases hm : may p <;> simp only [runV, runE, hm] at h
  · refine do_lk_miss Try.underlying43 Try.underlying5 hb (by rfl) (find_none hm) (z := .agg #[.nilFunc]) (by kernel_rfl) (.inr ⟨rfl, ⟨?_⟩⟩)
    refine ⟨⟨_, by rw [add_zero']; exact cell_alloc0 _ _ _⟩, by rw [add_zero']; exact frozen_alloc _ _ _ _, ?_⟩
    exact h _ ((e1.alloc _).set (by rw [add_block]; exact e1.size) _)
  · obtain ⟨i, k, hf, hc'⟩ := find_kind hm
    refine do_lk_hit Try.underlying43 Try.underlying5 hb (by rfl) hf (.inl ⟨_, _, _, _, rfl, ⟨?_⟩⟩)
    have hz := cell_alloc0 w1 .nilFunc 41
    rw [← add_zero' (blk _)] at hz
    refine ⟨⟨_, hz⟩, by rw [add_zero']; exact frozen_alloc _ _ _ _, ?_⟩
    have hk := World.cell?_setCell_same (w := w1.alloc (.cells #[.nilFunc] 41)) _ (.func (.func k) #[] #[]) hz
    have e2 := (e1.alloc (.cells #[.nilFunc] 41)).set (p := (blk w1.heap.size).add 0) (by rw [add_block]; exact e1.size) (.func (.func k) #[] #[])
    generalize (w1.alloc (.cells #[.nilFunc] 41)).setCell ((blk w1.heap.size).add 0) (.func (.func k) #[] #[]) = w2 at hk e2 ⊢
    refine ifB_f rfl (ifB_intro (fun h0 => ?_) fun h0 => ?_)
    · obtain rfl : l = [] := List.eq_nil_of_length_eq_zero (by simp at h0; omega)
      exact h _ e2
    have h0 : 0 < n := by simp at h0; omega
    obtain ⟨x, xs, rfl⟩ : ∃ x xs, l = x :: xs := by cases l with | nil => simp at hn; omega | cons x xs => exact ⟨_, _, rfl⟩
    refine ix_int (hl.ext e2) hn (by omega) (by omega) fun a ha hx => ⟨_, hx, ⟨by omega, by omega, by omega, ?_⟩⟩
    subst ha
    have hxs : Cs w2 (if c = 1 then some a else some (a.add 1)) (ints xs) := by
      have := (hl.ext e2).drop 1
      simp at this
      split
      · have : xs = [] := List.eq_nil_of_length_eq_zero (by simp at hn; omega)
        subst this; exact cs_nil _ _
      · exact this
    simp only [Int.toNat_one, Option.map_some, Int.toNat_natCast, Nat.mul_one]
    generalize (if c = 1 then some a else some (a.add 1)) = q' at hxs
    have hxl : xs.length = n - 1 := by simp at hn; omega
    refine ⟨fun vs w' => ∃ i : Nat, vs = [.int .i64 ((xs.take i).foldl (comb p) x), .int .i64 i] ∧ i ≤ n - 1 ∧ Ext w2 w', fun vs _ => n - (intOf (vs.getD 1 undef)).toNat, ⟨0, rfl, by omega, ext_refl _⟩, ?_⟩
    rintro v i j w3 ⟨m, hv, hmn, e3⟩
    simp only [List.cons.injEq, Value.int.injEq, true_and, and_true] at hv
    obtain ⟨rfl, rfl⟩ := hv
    refine ifB_intro (fun h1 => ?_) fun h1 => ?_
    · have h1 : m < n - 1 := by simpa using h1
      refine ix_int (hxs.ext e3) hxl (by omega) (by omega) fun a' _ hx' => ⟨_, hx', _, _, _, e3.cell hk, hc' _ _ _ _ (retS_ret ⟨_, rfl, ⟨m + 1, ?_, by omega, e3⟩, ?_⟩)⟩
      · rw [wrap_succ (n := n) (by omega) h63, take_succ (by omega), List.foldl_append]
        simp [List.getElem?_eq_getElem (show m < xs.length by omega)]
      · rw [wrap_succ (n := n) (by omega) h63]
        simp [intOf]; omega
    · have h1 : m = n - 1 := by simp at h1; omega
      rw [List.take_of_length_le (by omega)]
      exact h _ (e2.trans e3)

/-! ### Sums -/
abbrev W64 (x : Int) : Int := IntKind.wrap .i64 x
def sumL (l : List Int) : Int := l.foldl (fun s x => W64 (s + x)) 0
def sumsL (l : List Int) : List Int := (List.range l.length).map fun i => sumL (l.take (i + 1))
theorem sumL_take {l : List Int} {k : Nat} (h : k < l.length) : sumL (l.take (k + 1)) = W64 (sumL (l.take k) + l[k]) := by
  rw [take_succ h]; simp only [sumL, List.foldl_append, List.foldl_cons, List.foldl_nil]
theorem sumsL_take {l : List Int} {k : Nat} (h : k < l.length) : (sumsL l).take (k + 1) = (sumsL l).take k ++ [sumL (l.take (k + 1))] := by
  rw [take_succ (by simpa [sumsL] using h)]; simp [sumsL]
@[simp] theorem sumsL_length (l : List Int) : (sumsL l).length = l.length := by simp [sumsL]
theorem c_adder {w : World} {R : Ending → World → Prop} (h : ∀ b w', Ext w w' → w.heap.size ≤ b → b < w'.heap.size → w'.cell? (blk b) = some (.int .i64 0) → w'.frozen? (blk b) = false →
    R (.returned (.func (.func 24) #[] #[.pointer (some (blk b))])) w') : Calls Try.prog 20 #[] w R := by
  refine sh20_ok ?_
  unfold sh20
  have hz := cell_alloc0 w (.int .i64 0) 2
  have hf := frozen_alloc w #[.int .i64 0] 2 0
  refine ⟨⟨⟨_, by rw [add_zero']; exact hz⟩, by rw [add_zero']; exact hf, ?_⟩⟩
  rw [add_zero']
  exact h _ _ ((ext_alloc w _).set (Nat.le_refl _) _) (Nat.le_refl _) (by simp) (World.cell?_setCell_same _ _ _ hz) (by rw [World.frozen?_setCell]; exact hf)
theorem c_add {v x : Int} {a : Addr} {w : World} {R : Ending → World → Prop} (hc : w.cell? a = some (.int .i64 x)) (hf : w.frozen? a = false)
    (h : R (.returned (.int .i64 (W64 (x + v)))) (w.setCell a (.int .i64 (W64 (x + v))))) : doCall Try.prog (.func (.func 24) #[] #[.pointer (some a)]) #[.int .i64 v] w R := by
  refine do_callc Try.call24 (by rfl) (sh24_ok _ _ ?_)
  unfold sh24
  refine ⟨_, hc, ⟨⟨_, by rw [add_zero']; exact hc⟩, by rw [add_zero']; exact hf, ?_⟩⟩
  rw [add_zero']
  exact ⟨_, World.cell?_setCell_same _ _ _ hc, h⟩
theorem c_sum {l : List Int} {q : Option Addr} {n c : Nat} {w : World} {R : Ending → World → Prop} (hl : Cs w q (ints l)) (hn : l.length = n) (h63 : n ≤ 9223372036854775807)
    (h : ∀ w', Ext w w' → R (.returned (.int .i64 (sumL l))) w') : Calls Try.prog 9 #[.slice q n c] w R := by
  refine sh9_ok _ _ _ ?_
  unfold sh9
  refine do_call Try.call20 (c_adder fun b w1 e1 hb1 hb2 hc hf => retS_ret ⟨_, _, _, rfl, ?_⟩)
  refine ⟨fun vs w' => ∃ i : Nat, vs = [.int .i64 (sumL (l.take i)), .int .i64 i] ∧ i ≤ n ∧ Ext w w' ∧ w'.cell? (blk b) = some (.int .i64 (sumL (l.take i))) ∧ w'.frozen? (blk b) = false,
    fun vs _ => n - (intOf (vs.getD 1 undef)).toNat, ⟨0, rfl, by omega, e1, hc, hf⟩, ?_⟩
  rintro v i j w3 ⟨m, hv, hmn, e3, hc, hf⟩
  simp only [List.cons.injEq, Value.int.injEq, true_and, and_true] at hv
  obtain ⟨rfl, rfl⟩ := hv
  refine ifB_intro (fun h1 => ?_) fun h1 => ?_
  · have h1 : m < n := by simpa using h1
    refine ix_int (hl.ext e3) hn (by omega) (by omega) fun a' _ hx' => ⟨_, hx', c_add hc hf (retS_ret ⟨_, rfl, ⟨m + 1, ?_, by omega, e3.set hb1 _, ?_, by rw [World.frozen?_setCell]; exact hf⟩, ?_⟩)⟩
    · rw [wrap_succ h1 h63, sumL_take (by omega)]
      simp [List.getElem?_eq_getElem (show m < l.length by omega)]
    · rw [World.cell?_setCell_same _ _ _ hc, sumL_take (by omega)]
      simp [List.getElem?_eq_getElem (show m < l.length by omega)]
    · rw [wrap_succ h1 h63]
      simp [intOf]; omega
  · have h1 : m = n := by simp at h1; omega
    rw [List.take_of_length_le (by omega)]
    exact h _ e3
theorem c_sums {l : List Int} {q : Option Addr} {n c : Nat} {w : World} {R : Ending → World → Prop} (hl : Cs w q (ints l)) (hn : l.length = n) (hm : n ≤ 1000000000000)
    (h : ∀ p c w', Ext w w' → w'.ownsRow w.heap.size 2 1 (.slice p n c) n (ints (sumsL l)) → R (.returned (.slice p n c)) w') : Calls Try.prog 11 #[.slice q n c] w R := by
  refine sh11_ok _ _ _ ?_
  unfold sh11
  refine do_call Try.call20 (c_adder fun b w1 e1 hb1 hb2 hc hf => retS_ret ⟨_, _, _, rfl, ?_⟩)
  refine ⟨fun vs w' => ∃ (i : Nat) (p : Option Addr) (c : Nat), vs = [.slice p i c, .int .i64 i] ∧ i ≤ n ∧ Ext w w' ∧ b < w'.heap.size ∧ w'.ownsRow (b + 1) 2 1 (.slice p i c) i (ints ((sumsL l).take i)) ∧
      w'.cell? (blk b) = some (.int .i64 (sumL (l.take i))) ∧ w'.frozen? (blk b) = false,
    fun vs _ => n - (intOf (vs.getD 1 undef)).toNat, ⟨0, none, 0, rfl, by omega, e1, hb2, World.ownsRow_nil _ _ _ _, hc, hf⟩, ?_⟩
  rintro p n' c' i j w3 ⟨m, p', c'', hv, hmn, e3, hb3, hr, hc, hf⟩
  simp only [List.cons.injEq, Value.int.injEq, Value.slice.injEq, true_and, and_true] at hv
  obtain ⟨⟨rfl, rfl, rfl⟩, rfl⟩ := hv
  refine ifB_intro (fun h1 => ?_) fun h1 => ?_
  · have h1 : n' < n := by simpa using h1
    refine ix_int (hl.ext e3) hn (by omega) (by omega) fun a' _ hx' => ⟨_, hx', c_add hc hf (retS_ret ⟨_, rfl, ⟨?_⟩⟩)⟩
    have hx : W64 (sumL (l.take n') + l.getD n' 0) = sumL (l.take (n' + 1)) := by
      rw [sumL_take (by omega)]; simp [List.getElem?_eq_getElem (show n' < l.length by omega)]
    simp only [Int.toNat_natCast] at hx' ⊢
    rw [hx]
    have e4 := e3.set (p := blk b) hb1 (.int .i64 (sumL (l.take (n' + 1))))
    have hr4 := ownsRow_setCell_below hr (a := blk b) (Nat.lt_succ_self b) (.int .i64 (sumL (l.take (n' + 1))))
    have hc4 := World.cell?_setCell_same (w := w3) _ (.int .i64 (sumL (l.take (n' + 1)))) hc
    have hf4 : (w3.setCell (blk b) (.int .i64 (sumL (l.take (n' + 1))))).frozen? (blk b) = false := by rw [World.frozen?_setCell]; exact hf
    have hb4 : b < (w3.setCell (blk b) (.int .i64 (sumL (l.take (n' + 1))))).heap.size := by simpa using hb3
    generalize w3.setCell (blk b) (.int .i64 (sumL (l.take (n' + 1)))) = w4 at e4 hr4 hc4 hf4 hb4 ⊢
    refine do_append el22 (hr4.alloc _) (news := ints [sumL (l.take (n' + 1))]) (cs_alloc _ _ _) rfl ints_one (by simp only [maxLen]; omega) (by omega) (by simp; omega) fun p5 c5 w5 hr5 hg5 => retS_ret ⟨_, _, _, rfl, ⟨n' + 1, p5, c5, ?_, by omega, ?_, ?_, ?_, ?_, ?_⟩, ?_⟩
    · rw [wrap_succ h1 (by omega)]
    · exact (e4.alloc _).grown hg5 fun k hk => by have := (hr4.lt k hk).1; omega
    · have := hg5.size; simp at this; omega
    · rw [sumsL_take (by omega), ints_append]; exact hr5
    · have hne : some b ≠ (Value.slice p n' c').ownBlock := fun e => by have := (hr4.lt b e.symm).1; omega
      exact hg5.cell (by rw [World.cell?_alloc_lt _ _ _ hb4]; exact hc4) hne
    · have hne : some b ≠ (Value.slice p n' c').ownBlock := fun e => by have := (hr4.lt b e.symm).1; omega
      rw [World.frozen?_of_block (hg5.block b (by simp; omega) hne), World.frozen?_of_block (Below.heap_alloc w4 _ b hb4)]
      exact hf4
    · rw [wrap_succ h1 (by omega)]
      simp [intOf]; omega
  · have h1 : n' = n := by simp at h1; omega
    subst h1
    rw [List.take_of_length_le (by simp; omega)] at hr
    exact h _ _ _ e3 (row_mono hr (by omega))
theorem c_own {l : List Int} {q : Option Addr} {n c : Nat} {w : World} {R : Ending → World → Prop} (hl : Cs w q (ints l)) (hn : l.length = n) (hq : q = none → n = 0 ∧ c = 0) (hm : n ≤ 1000000000000)
    (h : ∀ p c w', Ext w w' → w'.ownsRow w.heap.size 2 1 (.slice p n c) n (ints l) → R (.returned (.slice p n c)) w') : Calls Try.prog 10 #[.slice q n c] w R := by
  refine sh10_ok _ _ _ ?_
  unfold sh10
  cases q with
  | none =>
    obtain ⟨rfl, rfl⟩ := hq rfl
    obtain rfl : l = [] := List.eq_nil_of_length_eq_zero hn
    exact do_append_none el22 (World.ownsRow_nil w w.heap.size 2 1) (retS_ret ⟨_, _, _, rfl, h _ _ _ (ext_refl _) (World.ownsRow_nil _ _ _ _)⟩)
  | some a =>
    refine do_append el22 (World.ownsRow_nil w w.heap.size 2 1) hl (by simpa using hn) ints_one (by simp only [maxLen]; omega) (by omega) (Nat.le_refl _) fun p5 c5 w5 hr5 hg5 => ?_
    rw [Nat.zero_add] at hr5 ⊢
    exact retS_ret ⟨_, _, _, rfl, h _ _ _ ((ext_refl w).grown hg5 (by simp [Value.ownBlock])) (by simpa using hr5)⟩

/-! ### The reference -/
theorem c_rmay {p : Int} {w : World} {R : Ending → World → Prop} (h : R (.returned (.bool (may p))) w) : Calls Try.prog 14 #[.int .u8 p] w R := by
  refine sh14_ok _ ?_
  unfold sh14
  unfold may at h
  refine ifB_intro (fun h1 => ?_) fun h1 => ifB_intro (fun h2 => ?_) fun h2 => ?_
  · simpa [h1] using h
  · simpa [h1, h2] using h
  · simpa [h1, h2] using h
theorem c_rcomb {p a b : Int} {w : World} {R : Ending → World → Prop} (h : R (.returned (.int .i64 (comb p a b))) w) : Calls Try.prog 18 #[.int .u8 p, .int .i64 a, .int .i64 b] w R := by
  refine sh18_ok _ _ _ ?_
  unfold sh18
  unfold comb at h
  refine ifB_intro (fun h1 => ?_) fun h1 => ifB_intro (fun h2 => ?_) fun h2 => ?_
  · simp at h1; simpa [h1] using h
  · simp at h1 h2; simpa [h1, h2] using h
  · simp at h1 h2; simpa [h1, h2] using h
theorem c_rrun {p : Int} {l : List Int} {q : Option Addr} {n c : Nat} {w : World} {R : Ending → World → Prop} (hl : Cs w q (ints l)) (hn : l.length = n) (h63 : n ≤ 9223372036854775807)
    (h : R (.returned (.tuple #[.int .i64 (runV p l), .int .i64 (runE p l)])) w) :
    Calls Try.prog 12 #[.int .u8 p, .slice q n c] w R := by
  refine sh12_ok _ _ _ _ ?_
  unfold sh12
  refine do_call Try.call14 (c_rmay (retS_ret ⟨_, rfl, ?_⟩))
  cases hm : may p <;> simp only [runV, runE, hm] at h
  · exact h
  · refine ifB_f rfl (ifB_intro (fun h0 => ?_) fun h0 => ?_)
    · obtain rfl : l = [] := List.eq_nil_of_length_eq_zero (by simp at h0; omega)
      exact h
    have h0 : 0 < n := by simp at h0; omega
    obtain ⟨x, xs, rfl⟩ : ∃ x xs, l = x :: xs := by cases l with | nil => simp at hn; omega | cons x xs => exact ⟨_, _, rfl⟩
    refine ix_int hl hn (by omega) (by omega) fun a ha hx => ⟨_, hx, ?_⟩
    have hxl : xs.length = n - 1 := by simp at hn; omega
    refine ⟨fun vs w' => ∃ i : Nat, vs = [.int .i64 ((xs.take i).foldl (comb p) x), .int .i64 ((i + 1 : Nat) : Int)] ∧ i + 1 ≤ n ∧ w' = w, fun vs _ => n - (intOf (vs.getD 1 undef)).toNat, ⟨0, rfl, by omega, rfl⟩, ?_⟩
    rintro v i j w3 ⟨m, hv, hmn, rfl⟩
    simp only [List.cons.injEq, Value.int.injEq, true_and, and_true] at hv
    obtain ⟨rfl, rfl⟩ := hv
    refine ifB_intro (fun h1 => ?_) fun h1 => ?_
    · have h1 : m + 1 < n := by have := of_decide_eq_true h1; omega
      refine ix_int hl hn (by omega) (by omega) fun a' _ hx' => ⟨_, hx', do_call Try.call18 (c_rcomb (retS_ret ⟨_, rfl, ⟨m + 1, ?_, by omega, rfl⟩, ?_⟩))⟩
      · rw [wrap_succ (n := n) (by omega) h63, take_succ (by omega), List.foldl_append]
        simp only [Int.toNat_natCast, List.getD_cons_succ, List.foldl_cons, List.foldl_nil]
        simp [List.getElem?_eq_getElem (show m < xs.length by omega)]
      · rw [wrap_succ (n := n) (by omega) h63]
        simp [intOf]; omega
    · have h1 : m + 1 = n := by simp at h1; omega
      rw [List.take_of_length_le (by omega)]
      exact h
theorem c_rsum {l : List Int} {q : Option Addr} {n c : Nat} {w : World} {R : Ending → World → Prop} (hl : Cs w q (ints l)) (hn : l.length = n) (h63 : n ≤ 9223372036854775807)
    (h : R (.returned (.int .i64 (sumL l))) w) : Calls Try.prog 15 #[.slice q n c] w R := by
  refine sh15_ok _ _ _ ?_
  unfold sh15
  refine ⟨fun vs w' => ∃ i : Nat, vs = [.int .i64 (sumL (l.take i)), .int .i64 i] ∧ i ≤ n ∧ w' = w,
    fun vs _ => n - (intOf (vs.getD 1 undef)).toNat, ⟨0, rfl, by omega, rfl⟩, ?_⟩
  rintro v i j w3 ⟨m, hv, hmn, rfl⟩
  simp only [List.cons.injEq, Value.int.injEq, true_and, and_true] at hv
  obtain ⟨rfl, rfl⟩ := hv
  refine ifB_intro (fun h1 => ?_) fun h1 => ?_
  · have h1 : m < n := by simpa using h1
    refine ix_int hl hn (by omega) (by omega) fun a' _ hx' => ⟨_, hx', ⟨m + 1, ?_, by omega, rfl⟩, ?_⟩
    · rw [wrap_succ h1 h63, sumL_take (by omega)]
      simp [List.getElem?_eq_getElem (show m < l.length by omega)]
    · rw [wrap_succ h1 h63]
      simp [intOf]; omega
  · have h1 : m = n := by simp at h1; omega
    rw [List.take_of_length_le (by omega)]
    exact h
theorem c_rsame {l r : List Int} {q q' : Option Addr} {n c n' c' : Nat} {w : World} {R : Ending → World → Prop} (hl : Cs w q (ints l)) (hn : l.length = n) (hr : Cs w q' (ints r)) (hn' : r.length = n') (h63 : n ≤ 9223372036854775807)
    (h : ∀ w', Ext w w' → R (.returned (.bool (decide (l = r)))) w') : Calls Try.prog 16 #[.slice q n c, .slice q' n' c'] w R := by
  refine sh16_ok _ _ _ _ _ _ ?_
  unfold sh16
  refine ifB_intro (fun h0 => ?_) fun h0 => ?_
  · have : ¬ l = r := fun e => by subst e; simp at h0; omega
    rw [decide_eq_false this] at h
    exact h _ (ext_refl _)
  have h0 : n = n' := by simp at h0; omega
  subst h0
  refine ⟨fun vs w' => ∃ i : Nat, vs = [.int .i64 i] ∧ i ≤ n ∧ Ext w w' ∧ l.take i = r.take i,
    fun vs _ => n - (intOf (vs.getD 0 undef)).toNat, ⟨0, rfl, by omega, ext_refl _, rfl⟩, ?_⟩
  rintro i j w3 ⟨m, hv, hmn, e3, ht⟩
  simp only [List.cons.injEq, Value.int.injEq, true_and, and_true] at hv
  obtain rfl := hv
  refine ifB_intro (fun h1 => ?_) fun h1 => ?_
  · have h1 : m < n := by simpa using h1
    refine ⟨⟨fun w' => Ext w3 w', ext_drew _, ?_⟩⟩
    refine ix_int (hl.ext e3) hn (by omega) (by omega) fun a _ hx => ⟨_, fun w' e' => e'.cell hx, ix_int (hr.ext e3) hn' (by omega) (by omega) fun a' _ hx' => ⟨_, fun w' e' => e'.cell hx', ?_⟩⟩
    have g1 : l.getD m 0 = l[m] := by simp [List.getElem?_eq_getElem (show m < l.length by omega)]
    have g2 : r.getD m 0 = r[m] := by simp [List.getElem?_eq_getElem (show m < r.length by omega)]
    rw [Int.toNat_natCast, g1, g2]
    refine ifB_intro (fun h2 => ?_) fun h2 => ⟨⟨m + 1, by rw [wrap_succ h1 h63], by omega, e3.drew, ?_⟩, ?_⟩
    · have : ¬ l = r := fun e => by subst e; simp at h2
      rw [decide_eq_false this] at h
      exact h _ e3.drew
    · rw [take_succ (by omega), take_succ (by omega), ht]; simp at h2; rw [h2]
    · rw [wrap_succ h1 h63]
      simp [intOf]; omega
  · have h1 : m = n := by simp at h1; omega
    rw [List.take_of_length_le (by omega), List.take_of_length_le (by omega)] at ht
    rw [decide_eq_true ht] at h
    exact h _ e3
theorem c_rsums {l : List Int} {q : Option Addr} {n c : Nat} {w : World} {R : Ending → World → Prop} (hl : Cs w q (ints l)) (hn : l.length = n) (hnc : n ≤ c) (hm : n ≤ 1000000000000)
    (h : ∀ p c w', Ext w w' → w'.ownsRow w.heap.size 2 1 (.slice p n c) n (ints (sumsL l)) → R (.returned (.slice p n c)) w') : Calls Try.prog 17 #[.slice q n c] w R := by
  refine sh17_ok _ _ _ ?_
  unfold sh17
  refine ⟨fun vs w' => ∃ (i : Nat) (p : Option Addr) (c : Nat), vs = [.slice p i c, .int .i64 i] ∧ i ≤ n ∧ Ext w w' ∧ w'.ownsRow w.heap.size 2 1 (.slice p i c) i (ints ((sumsL l).take i)),
    fun vs _ => n - (intOf (vs.getD 1 undef)).toNat, ⟨0, none, 0, rfl, by omega, ext_refl _, World.ownsRow_nil _ _ _ _⟩, ?_⟩
  rintro p n' c' i j w3 ⟨m, p', c'', hv, hmn, e3, hr⟩
  simp only [List.cons.injEq, Value.int.injEq, Value.slice.injEq, true_and, and_true] at hv
  obtain ⟨⟨rfl, rfl, rfl⟩, rfl⟩ := hv
  refine ifB_intro (fun h1 => ?_) fun h1 => ?_
  · have h1 : n' < n := by simpa using h1
    rw [wrap_succ h1 (by omega)]
    refine ⟨⟨by omega, by omega, by omega, ?_⟩⟩
    have hq : Cs w3 (if c = Int.toNat 0 then q else q.map (·.add (Int.toNat 0 * 1))) (ints (l.take (n' + 1))) := by
      have : q.map (fun a => a.add 0) = q := by cases q <;> simp [add_zero']
      simp [this]
      rw [← ints_take]
      exact (hl.ext e3).take _
    refine do_call Try.call15 (c_rsum hq (by simp; omega) (by simp; omega) (retS_ret ⟨_, rfl, ⟨?_⟩⟩))
    refine do_append el22 (hr.alloc _) (news := ints [sumL (l.take (n' + 1))]) (cs_alloc _ _ _) rfl ints_one (by simp only [maxLen]; omega) (by omega) (by simp; exact Nat.le_succ_of_le e3.size) fun p5 c5 w5 hr5 hg5 => retS_ret ⟨_, _, _, rfl, ⟨n' + 1, p5, c5, rfl, by omega, ?_, ?_⟩, ?_⟩
    · exact (e3.alloc _).grown hg5 fun k hk => (hr.lt k hk).1
    · rw [sumsL_take (by omega), ints_append]; exact hr5
    · simp [intOf]; omega
  · have h1 : n' = n := by simp at h1; omega
    subst h1
    rw [List.take_of_length_le (by simp; omega)] at hr
    exact h _ _ _ e3 hr
end Go.Proofs.Ytffbkhebekkhlaa
