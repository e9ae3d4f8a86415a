/-
  The plain laws of fold.
-/
import Derived.Test.YtffbkhebekkhlaaC1
namespace Go.Proofs.Ytffbkhebekkhlaa
open Go Go.Sh

theorem w64_def (x : Int) : W64 x = (x + 9223372036854775808) % 18446744073709551616 - 9223372036854775808 := by
  simp only [W64, IntKind.wrap, IntKind.signed, IntKind.bits]
  simp
  omega
theorem comb_assoc (p a b c : Int) : comb p (comb p a b) c = comb p a (comb p b c) := by
  unfold comb
  split
  · rfl
  · split
    · rfl
    · have := w64_def (a + b); have := w64_def (b + c); have := w64_def (W64 (a + b) + c); have := w64_def (a + W64 (b + c))
      simp only [W64] at *
      omega
theorem foldl_comb (p x y : Int) (ys : List Int) : ys.foldl (comb p) (comb p x y) = comb p x (ys.foldl (comb p) y) := by
  induction ys generalizing y with
  | nil => rfl
  | cons z zs ih => simp only [List.foldl_cons]; rw [comb_assoc, ih]
theorem runL_append {p : Int} {l r : List Int} (hl : l ≠ []) (hr : r ≠ []) : runL p (l ++ r) = comb p (runL p l) (runL p r) := by
  obtain ⟨x, xs, rfl⟩ := List.exists_cons_of_ne_nil hl
  obtain ⟨y, ys, rfl⟩ := List.exists_cons_of_ne_nil hr
  simp [runL, foldl_comb]
theorem foldl_w64 (l : List Int) (s : Int) : l.foldl (fun s x => W64 (s + x)) (W64 s) = W64 (s + l.sum) := by
  induction l generalizing s with
  | nil => simp
  | cons x xs ih =>
    simp only [List.foldl_cons, List.sum_cons]
    have : W64 (W64 s + x) = W64 (s + x) := by have := w64_def s; have := w64_def (s + x); have := w64_def (W64 s + x); omega
    rw [this, ih, Int.add_assoc]
theorem sumL_eq (l : List Int) : sumL l = W64 l.sum := by
  have := foldl_w64 l 0
  rw [Int.zero_add] at this
  exact this
theorem sumL_append (l r : List Int) : sumL (l ++ r) = W64 (sumL l + sumL r) := by
  simp only [sumL_eq, List.sum_append]
  have := w64_def l.sum; have := w64_def r.sum; have := w64_def (l.sum + r.sum); have := w64_def (W64 l.sum + W64 r.sum)
  omega
/-- an int64 -/
def In (x : Int) : Prop := -9223372036854775808 ≤ x ∧ x < 9223372036854775808
theorem w64_in {x : Int} (h : In x) : W64 x = x := wrap_of h.1 h.2
theorem comb3 (a b : Int) : comb 3 a b = W64 (a + b) := rfl
theorem runL3 {l : List Int} (h : ∀ x ∈ l, In x) (h0 : l ≠ []) : runL 3 l = sumL l := by
  obtain ⟨x, xs, rfl⟩ := List.exists_cons_of_ne_nil h0
  have e : (fun s x => W64 (s + x)) = comb 3 := rfl
  rw [sumL, e, List.foldl_cons, comb3, Int.zero_add, w64_in (h x (by simp))]; rfl
theorem runL1 {x : Int} {xs : List Int} : runL 1 (x :: xs) = x := by
  simp only [runL]
  induction xs with
  | nil => rfl
  | cons y ys ih => exact ih
theorem runL2 {l : List Int} (h : l ≠ []) : runL 2 l = l.getLast h := by
  obtain ⟨x, xs, rfl⟩ := List.exists_cons_of_ne_nil h
  simp only [runL]
  induction xs generalizing x with
  | nil => rfl
  | cons y ys ih =>
    rw [List.getLast_cons (by simp)]
    exact ih y (by simp)
theorem sum_set {l : List Int} {i : Nat} (h : i < l.length) (v : Int) : (l.set i v).sum = l.sum - l[i] + v := by
  induction l generalizing i with
  | nil => simp at h
  | cons x xs ih =>
    cases i with
    | zero => simp; omega
    | succ i => simp at h; simp [ih h]; omega
theorem sum_swap {l : List Int} {i k : Nat} (hi : i < l.length) (hk : k < l.length) : ((l.set i l[k]).set k l[i]).sum = l.sum := by
  rw [sum_set (by simpa using hk), sum_set hi]
  have : (l.set i l[k])[k]'(by simpa using hk) = l[k] := by rw [List.getElem_set]; split <;> simp_all
  rw [this]; omega
theorem set_in {l : List Int} (h : ∀ x ∈ l, In x) {i : Nat} {v : Int} (hv : In v) : ∀ x ∈ l.set i v, In x := fun x hx => by
  rcases List.mem_or_eq_of_mem_set hx with hx | rfl
  · exact h _ hx
  · exact hv
end Go.Proofs.Ytffbkhebekkhlaa
