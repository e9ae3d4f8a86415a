/-
  What the functions of fold do.
-/
import Derived.Test.YtmkpkmdnapccgaaGreatDoorZ12
import Derived.Test.YtmkpkmdnapccgaaGreatDoorZ16
import Derived.Test.YtmkpkmdnapccgaaGreatDoorZ14
import Derived.Test.YtmkpkmdnapccgaaGreatDoorZ17
import Derived.Laws.IdiomStrings

set_option maxRecDepth 100000
set_option maxHeartbeats 6400000
namespace Go.Proofs.YtmkpkmdnapccgaaGreatDoor
open Go Go.Sh Go.RowKit

def comb (p a b : Int) : Int := if p = 1 then a else if p = 2 then b else IntKind.wrap .i64 (a + b)
def may (p : Int) : Bool := p == 1 || p == 2 || p == 3
theorem may_cases {p : Int} (h : may p = true) : p = 1 ∨ p = 2 ∨ p = 3 := by simpa [may, or_assoc] using h
def fn (k : Nat) : Value := .agg #[.func (.func k) #[] #[]]
def kindEs : Array MapEntry := #[{ key := .int .u8 1, val := fn 81, born := 0 }, { key := .int .u8 2, val := fn 82, born := 1 }, { key := .int .u8 3, val := fn 83, born := 2 }]
theorem c_kinds {w : World} {R : EW} (h : ∀ b w', Ext w w' → w'.heap[b]? = some (.map kindEs 3) → R (.returned (.map (some b))) w') : Calls Tryz.prog 56 #[] w R := by
  refine sh56_ok ?_
  unfold sh56
  refine ⟨?_⟩
  refine do_mu_new Tryz.underlying110 Tryz.underlying5 (heap_alloc_new w _) (by rfl) (by rfl) fun w3 h3 g3 => ?_
  refine do_mu_new Tryz.underlying110 Tryz.underlying5 h3 (by rfl) (by rfl) fun w4 h4 g4 => ?_
  refine do_mu_new Tryz.underlying110 Tryz.underlying5 h4 (by rfl) (by rfl) fun w5 h5 g5 => ?_
  have e := ext_alloc w (.map #[] 0)
  exact h _ _ (((e.grown g3 (by rintro _ ⟨⟩; exact Nat.le_refl _)).grown g4 (by rintro _ ⟨⟩; exact Nat.le_refl _)).grown g5 (by rintro _ ⟨⟩; exact Nat.le_refl _)) h5
theorem find_kind {p : Int} (h : may p = true) : ∃ i k, Instr.findNow (.int .u8) (.int .u8 p) kindEs.toList 0 = some (some (i, fn k)) ∧
    ∀ (a b : Int) (w : World) (R : EW), R (.returned (.int .i64 (comb p a b))) w → doCall Tryz.prog (.func (.func k) #[] #[]) #[.int .i64 a, .int .i64 b] w R := by
  rcases may_cases h with rfl | rfl | rfl
  · exact ⟨0, 81, rfl, fun a b w R h => do_call Tryz.call81 (sh81_ok _ _ h)⟩
  · exact ⟨1, 82, rfl, fun a b w R h => do_call Tryz.call82 (sh82_ok _ _ h)⟩
  · exact ⟨2, 83, rfl, fun a b w R h => do_call Tryz.call83 (sh83_ok _ _ h)⟩
theorem find_none {p : Int} (h : may p = false) : Instr.findNow (.int .u8) (.int .u8 p) kindEs.toList 0 = some none := by
  simp [may] at h
  obtain ⟨⟨h1, h2⟩, h3⟩ := h
  have e1 : (p == 1) = false := by simpa using h1
  have e2 : (p == 2) = false := by simpa using h2
  have e3 : (p == 3) = false := by simpa using h3
  simp [kindEs, Instr.findNow, Instr.sameNow, e1, e2, e3]
theorem c_fmay {p : Int} {w : World} {R : EW} (h : ∀ w', Ext w w' → R (.returned (.bool (may p))) w') : Calls Tryz.prog 27 #[.int .u8 p] w R := by
  refine sh27_ok _ ?_
  unfold sh27
  refine do_call Tryz.call56 (c_kinds fun b w1 e1 hb => retS_ret ⟨_, rfl, ?_⟩)
  cases hm : may p
  · refine do_lk_miss Tryz.underlying110 Tryz.underlying5 hb (by rfl) (find_none hm) (z := .agg #[.nilFunc]) (by kernel_rfl) (.inr ⟨rfl, ⟨?_⟩⟩)
    refine ⟨⟨_, by rw [add_zero']; exact cell_alloc0 _ _ _⟩, by rw [add_zero']; exact frozen_alloc _ _ _ _, ?_⟩
    exact hm ▸ h _ ((e1.alloc _).set (by rw [add_block]; exact e1.size) _)
  · obtain ⟨i, k, hf, _⟩ := find_kind hm
    refine do_lk_hit Tryz.underlying110 Tryz.underlying5 hb (by rfl) hf (.inl ⟨_, _, _, _, rfl, ⟨?_⟩⟩)
    refine ⟨⟨_, by rw [add_zero']; exact cell_alloc0 _ _ _⟩, by rw [add_zero']; exact frozen_alloc _ _ _ _, ?_⟩
    exact hm ▸ h _ ((e1.alloc _).set (by rw [add_block]; exact e1.size) _)
theorem take_succ {l : List Int} {k : Nat} (h : k < l.length) : l.take (k + 1) = l.take k ++ [l[k]] := (List.take_append_getElem h).symm
abbrev W64 (x : Int) : Int := IntKind.wrap .i64 x
def sumL (l : List Int) : Int := l.foldl (fun s x => W64 (s + x)) 0
def sumsL (l : List Int) : List Int := (List.range l.length).map fun i => sumL (l.take (i + 1))
@[simp] theorem sumsL_length (l : List Int) : (sumsL l).length = l.length := by simp [sumsL]
theorem c_rmay {p : Int} {w : World} {R : EW} (h : R (.returned (.bool (may p))) w) : Calls Tryz.prog 36 #[.int .u8 p] w R := by
  refine sh36_ok _ ?_
  unfold sh36
  unfold may at h
  refine ifB_intro (fun h1 => ?_) fun h1 => ifB_intro (fun h2 => ?_) fun h2 => ?_
  · simpa [h1] using h
  · simpa [h1, h2] using h
  · simpa [h1, h2] using h
theorem c_rsame {l r : List Int} {q q' : OA} {n c n' c' : Nat} {w : World} {R : EW} (hl : Cs w q (ints l)) (hn : l.length = n) (hr : Cs w q' (ints r)) (hn' : r.length = n') (h63 : n ≤ 9223372036854775807)
    (h : ∀ w', Ext w w' → R (.returned (.bool (decide (l = r)))) w') : Calls Tryz.prog 39 #[.slice q n c, .slice q' n' c'] w R := by
  refine sh39_ok _ _ _ _ _ _ ?_
  unfold sh39
  refine ifB_intro (fun h0 => ?_) fun h0 => ?_
  · have : ¬ l = r := fun e => by subst e; simp at h0; omega
    rw [decide_eq_false this] at h
    exact h _ (ext_refl _)
  have h0 : n = n' := by simp at h0; omega
  subst h0
  refine ⟨fun vs w' => ∃ i : Nat, vs = [.int .i64 i] ∧ i ≤ n ∧ Ext w w' ∧ l.take i = r.take i,
    fun vs _ => n - (intOf (vs.getD 0 undef)).toNat, ⟨0, rfl, by omega, ext_refl _, rfl⟩, ?_⟩
  rintro i j w3 ⟨m, hv, hmn, e3, ht⟩
  simp only [List.cons.injEq, Value.int.injEq, true_and, and_true] at hv
  obtain rfl := hv
  refine ifB_intro (fun h1 => ?_) fun h1 => ?_
  · have h1 : m < n := by simpa using h1
    refine ⟨⟨fun w' => Ext w3 w', ext_drew _, ?_⟩⟩
    refine ix_int (hl.ext e3) hn (by omega) (by omega) fun a _ hx => ⟨_, fun w' e' => e'.cell hx, ix_int (hr.ext e3) hn' (by omega) (by omega) fun a' _ hx' => ⟨_, fun w' e' => e'.cell hx', ?_⟩⟩
    have g1 : l.getD m 0 = l[m] := by simp [List.getElem?_eq_getElem (show m < l.length by omega)]
    have g2 : r.getD m 0 = r[m] := by simp [List.getElem?_eq_getElem (show m < r.length by omega)]
    rw [Int.toNat_natCast, g1, g2]
    refine ifB_intro (fun h2 => ?_) fun h2 => ⟨⟨m + 1, by rw [wrap_succ h1 h63], by omega, e3.drew, ?_⟩, ?_⟩
    · have : ¬ l = r := fun e => by subst e; simp at h2
      rw [decide_eq_false this] at h
      exact h _ e3.drew
    · rw [take_succ (by omega), take_succ (by omega), ht]; simp at h2; rw [h2]
    · rw [wrap_succ h1 h63]
      simp [intOf]; omega
  · have h1 : m = n := by simp at h1; omega
    rw [List.take_of_length_le (by omega), List.take_of_length_le (by omega)] at ht
    rw [decide_eq_true ht] at h
    exact h _ e3
end Go.Proofs.YtmkpkmdnapccgaaGreatDoor

namespace Go.Proofs.YtmkpkmdnapccgaaGreatDoor
open Go Go.Sh Go.RowKit

abbrev Pr := Int × Int
theorem elP : ElT Tryz.prog 34 49 (.agg #[.int .i64 0, .int .i64 0]) 2 16 := ⟨Tryz.underlying34, ⟨_, Tryz.type49, by kernel_rfl, by kernel_rfl, by kernel_rfl⟩, rfl, by omega⟩
def agP (x : Pr) : Value := .agg #[.int .i64 x.1, .int .i64 x.2]
def InP (l : List Pr) : Prop := ∀ x ∈ l, In x.1 ∧ In x.2
def chain (o : Int) : List Pr → Bool
  | a :: b :: l => decide (cmpI o a.1 b.1 < 0) && chain o (b :: l)
  | _ => true
end Go.Proofs.YtmkpkmdnapccgaaGreatDoor

namespace Go.Proofs.YtmkpkmdnapccgaaGreatDoor
open Go Go.Sh Go.RowKit

end Go.Proofs.YtmkpkmdnapccgaaGreatDoor

namespace Go.Proofs.YtmkpkmdnapccgaaGreatDoor
open Go Go.Sh Go.RowKit

abbrev OwnP (w : World) (base : Nat) (p : OA) (n c : Nat) (l : List Pr) : Prop := w.ownsRow base 49 2 (.slice p n c) n (prs l)
theorem ownP_nil (w : World) (base : Nat) : OwnP w base none 0 0 [] := World.ownsRow_nil _ _ _ _
end Go.Proofs.YtmkpkmdnapccgaaGreatDoor

namespace Go.Proofs.YtmkpkmdnapccgaaGreatDoor
open Go Go.Sh Go.RowKit

def takesK (k a b : Int) (x : Pr) : Bool :=
  if k = 2 then decide (a ≤ x.1 ∧ x.1 ≤ b) else if k = 3 then decide (a ≤ x.2 ∧ x.2 ≤ b) else if k = 4 then decide (x.1 % a = b)
  else if k = 5 then decide (BitVec.ofInt 64 x.1 &&& BitVec.ofInt 64 a = BitVec.ofInt 64 b) else true
theorem wrap_bv (v : BitVec 64) : IntKind.wrap .i64 (v.toNat : Int) = v.toInt := by
  have := v.isLt
  rw [BitVec.toInt_eq_toNat_cond]
  simp only [IntKind.wrap, IntKind.signed, IntKind.bits]
  simp
  split <;> omega
theorem ofInt_toInt {a : Int} (h : In a) : (BitVec.ofInt 64 a).toInt = a := by
  unfold In at h
  rw [BitVec.toInt_ofInt]
  simp only [Int.bmod]
  omega
theorem bor_eq {a b : Int} (ha : In a) : ((bOr .i64 a b) == a) = decide (BitVec.ofInt 64 a ||| BitVec.ofInt 64 b = BitVec.ofInt 64 a) := by
  rw [Bool.eq_iff_iff]
  simp only [beq_iff_eq, decide_eq_true_eq]
  show IntKind.wrap .i64 ((BitVec.ofInt 64 a ||| BitVec.ofInt 64 b).toNat : Int) = a ↔ _
  rw [wrap_bv]
  constructor
  · intro h
    apply BitVec.eq_of_toInt_eq
    rw [h, ofInt_toInt ha]
  · intro h
    rw [h, ofInt_toInt ha]
theorem band_eq {a b c : Int} (hc : In c) : ((bAnd .i64 a b) == c) = decide (BitVec.ofInt 64 a &&& BitVec.ofInt 64 b = BitVec.ofInt 64 c) := by
  rw [Bool.eq_iff_iff]
  simp only [beq_iff_eq, decide_eq_true_eq]
  show IntKind.wrap .i64 ((BitVec.ofInt 64 a &&& BitVec.ofInt 64 b).toNat : Int) = c ↔ _
  rw [wrap_bv]
  constructor
  · intro h
    apply BitVec.eq_of_toInt_eq
    rw [h, ofInt_toInt hc]
  · intro h
    rw [h, ofInt_toInt hc]
theorem mod_eq {x a b : Int} (hx : In x) (ha : In a) (h : 1 ≤ a ∧ 0 ≤ b ∧ b < a) : (x.tmod a = b → x % a = b) ∧ (x.tmod a ≠ b → ((IntKind.wrap .i64 (x.tmod a + a)) == b) = decide (x % a = b)) := by
  have h0 := Int.emod_nonneg x (show a ≠ 0 by omega)
  have h1 := Int.emod_lt_of_pos x (show 0 < a by omega)
  have ht := Int.tmod_eq_emod (a := x) (b := a)
  have hw : ∀ y : Int, -9223372036854775808 ≤ y → y < 18446744073709551616 → (IntKind.wrap .i64 y = y ∧ y < 9223372036854775808) ∨ (IntKind.wrap .i64 y = y - 18446744073709551616 ∧ 9223372036854775808 ≤ y) := fun y h1 h2 => by
    by_cases hy : y < 9223372036854775808
    · exact .inl ⟨wrap_of h1 hy, hy⟩
    · right
      simp only [IntKind.wrap, IntKind.signed, IntKind.bits]
      simp
      omega
  unfold In at hx ha
  split at ht
  · rename_i hc
    have ht : x.tmod a = x % a := by simpa using ht
    rw [ht]
    refine ⟨id, fun hne => ?_⟩
    rw [show decide (x % a = b) = false by simpa using hne]
    have := hw (x % a + a) (by omega) (by omega)
    have hne : IntKind.wrap .i64 (x % a + a) ≠ b := by omega
    simpa using hne
  · rename_i hc
    have ht : x.tmod a = x % a - a := by
      rw [ht]
      have : ((a.natAbs : Nat) : Int) = a := by omega
      rw [this]
    have hne0 : x % a ≠ 0 := fun e => hc (.inr (Int.dvd_of_emod_eq_zero e))
    rw [ht]
    refine ⟨fun e => by omega, fun _ => ?_⟩
    rw [wrap_of (by omega) (by omega), show x % a - a + a = x % a by omega]
    by_cases e : x % a = b <;> simp [e]
def siftEs (b : Nat) : Array MapEntry := #[
  { key := .int .u8 1, val := .agg #[.func (.func 86) #[] #[], .func (.func 87) #[] #[]], born := 0 },
  { key := .int .u8 2, val := .agg #[.func (.func 84) #[] #[], .func (.func 88) #[] #[.pointer (some (blk b))]], born := 1 },
  { key := .int .u8 3, val := .agg #[.func (.func 84) #[] #[], .func (.func 89) #[] #[.pointer (some (blk b))]], born := 2 },
  { key := .int .u8 4, val := .agg #[.func (.func 90) #[] #[], .func (.func 91) #[] #[]], born := 3 },
  { key := .int .u8 5, val := .agg #[.func (.func 92) #[] #[], .func (.func 93) #[] #[]], born := 4 }]
abbrev fromV : Array Value := #[.func (.func 85) #[] #[]]
theorem c_skinds {w : World} {R : EW} (h : ∀ b m t w', Ext w w' → w'.heap[m]? = some (.map (siftEs b) 5) → Blk w' b fromV t → R (.returned (.map (some m))) w') : Calls Tryz.prog 57 #[] w R := by
  refine sh57_ok ?_
  unfold sh57
  refine ⟨do_st (blk_alloc w _ _) (i := 0) rfl (by simp) fun w0 h0 g0 => ⟨?_⟩⟩
  have e0 := (ext_alloc w (.cells (Value.cells .nilFunc) _)).st g0 (Nat.le_refl _)
  have hm0 := heap_alloc_new w0 (.map #[] 0)
  have e1 := ext_alloc w0 (.map #[] 0)
  have hb1 := Blk.ext h0 e1
  have hlt := Blk.lt h0
  generalize w0.alloc (.map #[] 0) = wm at *
  refine do_mu_new Tryz.underlying117 Tryz.underlying5 hm0 (by rfl) (by rfl) fun w1 h1 g1 => ?_
  refine do_mu_new Tryz.underlying117 Tryz.underlying5 h1 (by rfl) (by rfl) fun w2 h2 g2 => ?_
  refine do_mu_new Tryz.underlying117 Tryz.underlying5 h2 (by rfl) (by rfl) fun w3 h3 g3 => ?_
  refine do_mu_new Tryz.underlying117 Tryz.underlying5 h3 (by rfl) (by rfl) fun w4 h4 g4 => ?_
  refine do_mu_new Tryz.underlying117 Tryz.underlying5 h4 (by rfl) (by rfl) fun w5 h5 g5 => ?_
  have hne : some w.heap.size ≠ some w0.heap.size := ne_some (by omega)
  have s0 := e0.size
  exact h _ _ _ _ ((((((e0.trans e1).st g1 s0).st g2 s0).st g3 s0).st g4 s0).st g5 s0) h5 (((((hb1.grown g1 hne).grown g2 hne).grown g3 hne).grown g4 hne).grown g5 hne)
theorem find_sift {b : Nat} {k : Int} (hk : 1 ≤ k ∧ k ≤ 5) : ∃ i f g gc, Instr.findNow (.int .u8) (.int .u8 k) (siftEs b).toList 0 = some (some (i, .agg #[.func (.func f) #[] #[], .func (.func g) #[] gc])) ∧
    (∀ (a c : Int), In a → In c → ∀ (w : World) (R : EW), R (.returned (.bool (predMay k a c))) w → doCall Tryz.prog (.func (.func f) #[] #[]) #[.int .i64 a, .int .i64 c] w R) ∧
    ∀ (a c : Int) (x : Pr), In a → In c → In x.1 → predMay k a c = true → ∀ (w : World) (t : TypeId) (R : EW), Blk w b fromV t → (∀ w', Ext w w' → R (.returned (.bool (takesK k a c x))) w') →
      doCall Tryz.prog (.func (.func g) #[] gc) #[.int .i64 a, .int .i64 c, agP x] w R := by
  have any : ∀ (a c : Int) (w : World) (R : EW), R (.returned (.bool true)) w → doCall Tryz.prog (.func (.func 84) #[] #[]) #[.int .i64 a, .int .i64 c] w R := fun a c w R h => do_call Tryz.call84 (sh84_ok _ _ h)
  have from_ : ∀ (a c v : Int) (w : World) (R : EW), R (.returned (.bool (decide (a ≤ v ∧ v ≤ c)))) w → doCall Tryz.prog (.func (.func 85) #[] #[]) #[.int .i64 a, .int .i64 c, .int .i64 v] w R := fun a c v w R h => do_call Tryz.call85 (sh85_ok _ _ _ (by
    unfold sh85
    refine ifB_intro (fun z => ?_) fun z => ?_
    · have z := of_decide_eq_true z
      rw [show decide (a ≤ v ∧ v ≤ c) = decide (v ≤ c) by rw [Bool.eq_iff_iff]; simp; omega] at h
      exact h
    · have z := of_decide_eq_false z
      rw [show decide (a ≤ v ∧ v ≤ c) = false by simp; omega] at h
      exact h))
  rcases (show k = 1 ∨ k = 2 ∨ k = 3 ∨ k = 4 ∨ k = 5 by omega) with rfl | rfl | rfl | rfl | rfl
  · refine ⟨0, 86, 87, #[], rfl, fun a c ha hc w R h => do_call Tryz.call86 (sh86_ok _ _ ?_), fun a c x ha hc hx hp w t R hb h => do_call Tryz.call87 (sh87_ok _ _ _ _ ?_)⟩
    · unfold sh86
      refine ifB_intro (fun z => ?_) fun z => ?_
      · have z : a = 0 := by simpa using z
        rw [show predMay 1 a c = (c == 0) by rw [Bool.eq_iff_iff]; simp [predMay, z]] at h
        exact h
      · have z : a ≠ 0 := by simpa using z
        rw [show predMay 1 a c = false by simp [predMay, z]] at h
        exact h
    · unfold sh87
      exact ⟨h _ (ext_alloc w _)⟩
  · refine ⟨1, 84, 88, #[.pointer (some (blk b))], rfl, fun a c ha hc w R h => any a c w R h, fun a c x ha hc hx hp w t R hb h => do_callc Tryz.call88 rfl (sh88_ok _ _ _ _ _ ?_)⟩
    unfold sh88
    have e1 := ext_alloc w (.cells #[.int .i64 x.1, .int .i64 x.2] 49)
    exact ⟨⟨_, _, _, (hb.ext e1).cell (i := 0) rfl rfl, _, (blk_alloc w _ _).cell (i := 0) rfl rfl, from_ a c x.1 _ _ (retS_ret ⟨_, rfl, h _ e1⟩)⟩⟩
  · refine ⟨2, 84, 89, #[.pointer (some (blk b))], rfl, fun a c ha hc w R h => any a c w R h, fun a c x ha hc hx hp w t R hb h => do_callc Tryz.call89 rfl (sh89_ok _ _ _ _ _ ?_)⟩
    unfold sh89
    have e1 := ext_alloc w (.cells #[.int .i64 x.1, .int .i64 x.2] 49)
    exact ⟨⟨_, _, _, (hb.ext e1).cell (i := 0) rfl rfl, _, (blk_alloc w _ _).cell (i := 1) rfl rfl, from_ a c x.2 _ _ (retS_ret ⟨_, rfl, h _ e1⟩)⟩⟩
  · refine ⟨3, 90, 91, #[], rfl, fun a c ha hc w R h => do_call Tryz.call90 (sh90_ok _ _ ?_), fun a c x ha hc hx hp w t R hb h => do_call Tryz.call91 (sh91_ok _ _ _ _ ?_)⟩
    · unfold sh90
      have hp : predMay 4 a c = decide (1 ≤ a ∧ 0 ≤ c ∧ c < a) := rfl
      rw [hp] at h
      refine ifB_intro (fun z => ifB_intro (fun y => ?_) fun y => ?_) fun z => ?_
      · have z := of_decide_eq_true z
        have y := of_decide_eq_true y
        rw [show decide (1 ≤ a ∧ 0 ≤ c ∧ c < a) = decide (c < a) by rw [Bool.eq_iff_iff]; simp; omega] at h
        exact h
      · have y := of_decide_eq_false y
        rw [show decide (1 ≤ a ∧ 0 ≤ c ∧ c < a) = false by simp; omega] at h
        exact h
      · have z := of_decide_eq_false z
        rw [show decide (1 ≤ a ∧ 0 ≤ c ∧ c < a) = false by simp; omega] at h
        exact h
    · unfold sh91
      have hp : 1 ≤ a ∧ 0 ≤ c ∧ c < a := of_decide_eq_true (show decide (1 ≤ a ∧ 0 ≤ c ∧ c < a) = true from hp)
      have M := mod_eq hx ha hp
      have hb1 := blk_alloc w #[.int .i64 x.1, .int .i64 x.2] 49
      have hr := h _ (ext_alloc w (.cells #[.int .i64 x.1, .int .i64 x.2] 49))
      rw [show takesK 4 a c x = decide (x.1 % a = c) from rfl] at hr
      refine ⟨⟨_, hb1.cell (i := 0) rfl rfl, by omega, ifB_intro (fun z => ?_) fun z => ⟨_, hb1.cell (i := 0) rfl rfl, by omega, ?_⟩⟩⟩
      · rw [show decide (x.1 % a = c) = true by simpa using M.1 (by simpa using z)] at hr
        exact hr
      · show R (.returned (.bool ((IntKind.wrap .i64 (x.1.tmod a + a)) == c))) _
        rw [M.2 (by simpa using z)]
        exact hr
  · refine ⟨4, 92, 93, #[], rfl, fun a c ha hc w R h => do_call Tryz.call92 (sh92_ok _ _ ?_), fun a c x ha hc hx hp w t R hb h => do_call Tryz.call93 (sh93_ok _ _ _ _ ?_)⟩
    · unfold sh92
      rw [bor_eq ha]
      exact h
    · unfold sh93
      refine ⟨⟨_, (blk_alloc w _ _).cell (i := 0) rfl rfl, ?_⟩⟩
      rw [band_eq hc]
      exact h _ (ext_alloc w _)
theorem find_sift_none {b : Nat} {k : Int} (hk : ¬ (1 ≤ k ∧ k ≤ 5)) : Instr.findNow (.int .u8) (.int .u8 k) (siftEs b).toList 0 = some none := by
  have hn : ∀ i : Int, 1 ≤ i → i ≤ 5 → (k == i) = false := fun i h1 h2 => by simp; omega
  simp [siftEs, Instr.findNow, Instr.sameNow, hn]
theorem may_none {k a c : Int} (hk : ¬ (1 ≤ k ∧ k ≤ 5)) : predMay k a c = false := by
  cases h : predMay k a c
  · rfl
  · exact absurd (predMay_kind h).1 hk
theorem c_smay {k a c : Int} {f : Bool} {w : World} {R : EW} (ha : In a) (hc : In c) (h : ∀ w', Ext w w' → R (.returned (.bool (predMay k a c))) w') :
    Calls Tryz.prog 28 #[.agg #[.int .u8 k, .int .i64 a, .int .i64 c, .bool f]] w R := by
  refine sh28_ok _ _ _ _ ?_
  unfold sh28
  refine ⟨?_⟩
  have e1 := ext_alloc w (.cells #[.int .u8 k, .int .i64 a, .int .i64 c, .bool f] 33)
  have hb1 := blk_alloc w #[.int .u8 k, .int .i64 a, .int .i64 c, .bool f] 33
  generalize w.alloc (.cells #[.int .u8 k, .int .i64 a, .int .i64 c, .bool f] 33) = w1 at *
  generalize w.heap.size = b1 at hb1 ⊢
  intro K10
  refine ⟨?_⟩
  have e2 := e1.trans (ext_drew w1)
  have hb2 := hb1.ext (ext_drew w1)
  generalize w1.drew = w2 at *
  have hit : ∀ (w' : World) (bk ff : Nat) (gv : Value), Ext w2 w' → Blk w' bk #[.func (.func ff) #[] #[], gv] 115 → (∀ (a c : Int), In a → In c → ∀ (w : World) (R : EW), R (.returned (.bool (predMay k a c))) w → doCall Tryz.prog (.func (.func ff) #[] #[]) #[.int .i64 a, .int .i64 c] w R) → K10 (blk bk) true w' := fun w' bk ff gv e hbk hf =>
    ifB_t rfl ⟨_, _, _, hbk.cell (i := 0) rfl rfl, _, (hb2.ext e).cell (i := 1) rfl rfl, _, (hb2.ext e).cell (i := 2) rfl rfl, hf a c ha hc _ _ (retS_ret ⟨_, rfl, h _ (e2.trans e)⟩)⟩
  refine ⟨fun w' => Ext w2 w', ext_refl _, _, fun w' e => (hb2.ext e).cell (i := 0) rfl rfl, ⟨?_, ?_⟩⟩
  · refine do_call Tryz.call57 (c_skinds fun b m t w3 e3 hm hbf => retS_ret ⟨_, rfl, e3, ⟨?_, ?_⟩⟩)
    · by_cases hk : 1 ≤ k ∧ k ≤ 5
      · obtain ⟨i, ff, g, gc, hf, h1, _⟩ := find_sift (b := b) hk
        refine do_lk_hit Tryz.underlying117 Tryz.underlying5 hm (by rfl) hf (.inl ⟨_, _, _, _, _, _, _, rfl, ⟨e3.trans (ext_alloc _ _), ?_⟩⟩)
        refine do_st (blk_alloc w3 _ _) (i := 0) rfl (by simp) fun w4 h4 g4 => do_st h4 (i := 1) rfl (by simp) fun w5 h5 g5 => ?_
        exact hit w5 _ ff _ (((e3.alloc (.cells #[.nilFunc, .nilFunc] 115)).st g4 e3.size).st g5 e3.size) h5 h1
      · refine do_lk_miss Tryz.underlying117 Tryz.underlying5 hm (by rfl) (find_sift_none hk) (z := .agg #[.nilFunc, .nilFunc]) (by kernel_rfl) (.inr ⟨rfl, ⟨e3.trans (ext_alloc _ _), ?_⟩⟩)
        refine do_st (blk_alloc w3 _ _) (i := 0) rfl (by simp) fun w4 h4 g4 => do_st h4 (i := 1) rfl (by simp) fun w5 h5 g5 => ?_
        have := h w5 (e2.trans (((e3.alloc (.cells #[.nilFunc, .nilFunc] 115)).st g4 e3.size).st g5 e3.size))
        rw [may_none hk] at this; exact this
    · refine ⟨e3.trans (ext_alloc _ _), ?_⟩
      have e4 := e3.alloc (.cells #[.nilFunc, .nilFunc] 115)
      have hm4 := (ext_alloc w3 (.cells #[.nilFunc, .nilFunc] 115)).heap hm
      by_cases hk : 1 ≤ k ∧ k ≤ 5
      · obtain ⟨i, ff, g, gc, hf, h1, _⟩ := find_sift (b := b) hk
        refine do_lk_hit Tryz.underlying117 Tryz.underlying5 hm4 (by rfl) hf (.inl ⟨_, _, _, _, _, _, _, rfl, ?_⟩)
        refine do_st (blk_alloc w3 _ _) (i := 0) rfl (by simp) fun w4 h4 g4 => do_st h4 (i := 1) rfl (by simp) fun w5 h5 g5 => ?_
        exact hit w5 _ ff _ ((e4.st g4 e3.size).st g5 e3.size) h5 h1
      · refine do_lk_miss Tryz.underlying117 Tryz.underlying5 hm4 (by rfl) (find_sift_none hk) (z := .agg #[.nilFunc, .nilFunc]) (by kernel_rfl) (.inr ⟨rfl, ?_⟩)
        refine do_st (blk_alloc w3 _ _) (i := 0) rfl (by simp) fun w4 h4 g4 => do_st h4 (i := 1) rfl (by simp) fun w5 h5 g5 => ?_
        have := h w5 (e2.trans ((e4.st g4 e3.size).st g5 e3.size))
        rw [may_none hk] at this; exact this
  · refine ⟨ext_alloc _ _, ?_⟩
    have e3 := ext_alloc w2 (.cells #[.nilFunc, .nilFunc] 115)
    have hb3 := blk_alloc w2 #[.nilFunc, .nilFunc] 115
    have s3 : w2.heap.size ≤ w2.heap.size := Nat.le_refl _
    refine do_call Tryz.call57 (c_skinds fun b m t w4 e4 hm hbf => retS_ret ⟨_, rfl, e3.trans e4, ?_⟩)
    have hb4 := hb3.ext e4
    by_cases hk : 1 ≤ k ∧ k ≤ 5
    · obtain ⟨i, ff, g, gc, hf, h1, _⟩ := find_sift (b := b) hk
      refine do_lk_hit Tryz.underlying117 Tryz.underlying5 hm (by rfl) hf (.inl ⟨_, _, _, _, _, _, _, rfl, ?_⟩)
      refine do_st hb4 (i := 0) rfl (by simp) fun w5 h5 g5 => do_st h5 (i := 1) rfl (by simp) fun w6 h6 g6 => ?_
      exact hit w6 _ ff _ (((e3.trans e4).st g5 s3).st g6 s3) h6 h1
    · refine do_lk_miss Tryz.underlying117 Tryz.underlying5 hm (by rfl) (find_sift_none hk) (z := .agg #[.nilFunc, .nilFunc]) (by kernel_rfl) (.inr ⟨rfl, ?_⟩)
      refine do_st hb4 (i := 0) rfl (by simp) fun w5 h5 g5 => do_st h5 (i := 1) rfl (by simp) fun w6 h6 g6 => ?_
      have := h w6 (e2.trans (((e3.trans e4).st g5 s3).st g6 s3))
      rw [may_none hk] at this; exact this
end Go.Proofs.YtmkpkmdnapccgaaGreatDoor

namespace Go.Proofs.YtmkpkmdnapccgaaGreatDoor
open Go Go.Sh Go.RowKit

def opV (x : POp) (pv kv : Value) : Value := .agg (opCells x pv kv)
structure OpRd (w : World) (x : POp) (pv kv : Value) : Prop where
  p : ∃ a c, pv = .slice a x.pairs.length c ∧ x.pairs.length ≤ c ∧ Cs w a (prs x.pairs) ∧ ∀ d, a = some d → prs x.pairs ≠ [] → d.block < w.heap.size
  k : ∃ a c, kv = .slice a x.keys.length c ∧ x.keys.length ≤ c ∧ Cs w a (ints x.keys) ∧ ∀ d, a = some d → ints x.keys ≠ [] → d.block < w.heap.size
theorem OpRd.ext {w w' : World} {x : POp} {pv kv : Value} (h : OpRd w x pv kv) (e : Ext w w') : OpRd w' x pv kv := by
  obtain ⟨a, c, h1, h2, h3, h4⟩ := h.p
  obtain ⟨b, d, g1, g2, g3, g4⟩ := h.k
  exact ⟨⟨a, c, h1, h2, h3.ext e, fun x hx hz => Nat.lt_of_lt_of_le (h4 x hx hz) e.size⟩, ⟨b, d, g1, g2, g3.ext e, fun x hx hz => Nat.lt_of_lt_of_le (g4 x hx hz) e.size⟩⟩
theorem st15 {w : World} {b : Nat} {a0 a1 a2 a3 a4 a5 a6 a7 a8 a9 a10 a11 a12 a13 a14 v0 v1 v2 v3 v4 v5 v6 v7 v8 v9 v10 v11 v12 v13 v14 : Value} {t : TypeId} {K : World → Prop} (h : Blk w b #[a0, a1, a2, a3, a4, a5, a6, a7, a8, a9, a10, a11, a12, a13, a14] t)
    (k : ∀ w', Blk w' b #[v0, v1, v2, v3, v4, v5, v6, v7, v8, v9, v10, v11, v12, v13, v14] t → w.grownBy w' (some b) → K w') :
    doSt ((blk b).add 0) v0 w fun w1 => doSt ((blk b).add 1) v1 w1 fun w2 => doSt ((blk b).add 2) v2 w2 fun w3 => doSt ((blk b).add 3) v3 w3 fun w4 => doSt ((blk b).add 4) v4 w4 fun w5 => doSt ((blk b).add 5) v5 w5 fun w6 => doSt ((blk b).add 6) v6 w6 fun w7 => doSt ((blk b).add 7) v7 w7 fun w8 => doSt ((blk b).add 8) v8 w8 fun w9 => doSt ((blk b).add 9) v9 w9 fun w10 => doSt ((blk b).add 10) v10 w10 fun w11 => doSt ((blk b).add 11) v11 w11 fun w12 => doSt ((blk b).add 12) v12 w12 fun w13 => doSt ((blk b).add 13) v13 w13 fun w14 => doSt ((blk b).add 14) v14 w14 fun w15 => K w15 := by
  refine do_st h (i := 0) rfl (by simp) fun w1 h1 g1 => ?_
  have h1 : Blk w1 b #[v0, a1, a2, a3, a4, a5, a6, a7, a8, a9, a10, a11, a12, a13, a14] t := h1
  refine do_st h1 (i := 1) rfl (by simp) fun w2 h2 g2 => ?_
  have h2 : Blk w2 b #[v0, v1, a2, a3, a4, a5, a6, a7, a8, a9, a10, a11, a12, a13, a14] t := h2
  refine do_st h2 (i := 2) rfl (by simp) fun w3 h3 g3 => ?_
  have h3 : Blk w3 b #[v0, v1, v2, a3, a4, a5, a6, a7, a8, a9, a10, a11, a12, a13, a14] t := h3
  refine do_st h3 (i := 3) rfl (by simp) fun w4 h4 g4 => ?_
  have h4 : Blk w4 b #[v0, v1, v2, v3, a4, a5, a6, a7, a8, a9, a10, a11, a12, a13, a14] t := h4
  refine do_st h4 (i := 4) rfl (by simp) fun w5 h5 g5 => ?_
  have h5 : Blk w5 b #[v0, v1, v2, v3, v4, a5, a6, a7, a8, a9, a10, a11, a12, a13, a14] t := h5
  refine do_st h5 (i := 5) rfl (by simp) fun w6 h6 g6 => ?_
  have h6 : Blk w6 b #[v0, v1, v2, v3, v4, v5, a6, a7, a8, a9, a10, a11, a12, a13, a14] t := h6
  refine do_st h6 (i := 6) rfl (by simp) fun w7 h7 g7 => ?_
  have h7 : Blk w7 b #[v0, v1, v2, v3, v4, v5, v6, a7, a8, a9, a10, a11, a12, a13, a14] t := h7
  refine do_st h7 (i := 7) rfl (by simp) fun w8 h8 g8 => ?_
  have h8 : Blk w8 b #[v0, v1, v2, v3, v4, v5, v6, v7, a8, a9, a10, a11, a12, a13, a14] t := h8
  refine do_st h8 (i := 8) rfl (by simp) fun w9 h9 g9 => ?_
  have h9 : Blk w9 b #[v0, v1, v2, v3, v4, v5, v6, v7, v8, a9, a10, a11, a12, a13, a14] t := h9
  refine do_st h9 (i := 9) rfl (by simp) fun w10 h10 g10 => ?_
  have h10 : Blk w10 b #[v0, v1, v2, v3, v4, v5, v6, v7, v8, v9, a10, a11, a12, a13, a14] t := h10
  refine do_st h10 (i := 10) rfl (by simp) fun w11 h11 g11 => ?_
  have h11 : Blk w11 b #[v0, v1, v2, v3, v4, v5, v6, v7, v8, v9, v10, a11, a12, a13, a14] t := h11
  refine do_st h11 (i := 11) rfl (by simp) fun w12 h12 g12 => ?_
  have h12 : Blk w12 b #[v0, v1, v2, v3, v4, v5, v6, v7, v8, v9, v10, v11, a12, a13, a14] t := h12
  refine do_st h12 (i := 12) rfl (by simp) fun w13 h13 g13 => ?_
  have h13 : Blk w13 b #[v0, v1, v2, v3, v4, v5, v6, v7, v8, v9, v10, v11, v12, a13, a14] t := h13
  refine do_st h13 (i := 13) rfl (by simp) fun w14 h14 g14 => ?_
  have h14 : Blk w14 b #[v0, v1, v2, v3, v4, v5, v6, v7, v8, v9, v10, v11, v12, v13, a14] t := h14
  refine do_st h14 (i := 14) rfl (by simp) fun w15 h15 g15 => ?_
  have h15 : Blk w15 b #[v0, v1, v2, v3, v4, v5, v6, v7, v8, v9, v10, v11, v12, v13, v14] t := h15
  refine k _ h15 ?_
  exact grown_trans (grown_trans (grown_trans (grown_trans (grown_trans (grown_trans (grown_trans (grown_trans (grown_trans (grown_trans (grown_trans (grown_trans (grown_trans (grown_trans g1 g2) g3) g4) g5) g6) g7) g8) g9) g10) g11) g12) g13) g14) g15
theorem cs_grown {w w' : World} {p : OA} {vs : List Value} {b : Nat} (h : Cs w p vs) (g : w.grownBy w' (some b)) (hne : ∀ a, p = some a → vs ≠ [] → a.block ≠ b) : Cs w' p vs := fun i v hv => by
  obtain ⟨a, ha, hc⟩ := h i v hv
  refine ⟨a, ha, ?_⟩
  have hb := hne a ha (by rintro rfl; simp at hv)
  rw [World.cell?_of_block (g.block _ (World.block_lt_of_cell? _ _ hc) (by rw [add_block]; exact ne_some hb))]
  exact hc
theorem cs_not_bool {w : World} {a : Addr} {vs : List Value} {b : Nat} {v : Bool} {t : TypeId} (h : Cs w (some a) vs) (hb : Blk w b #[.bool v] t) (hv : ∀ u ∈ vs, ∃ k n, u = .int k n) (h0 : vs ≠ []) : a.block ≠ b := by
  intro e
  cases vs with
  | nil => exact h0 rfl
  | cons u us =>
    obtain ⟨a', ha, hc⟩ := h 0 u rfl
    cases ha
    rw [add_zero'] at hc
    obtain ⟨k, n, rfl⟩ := hv u (by simp)
    unfold World.cell? at hc
    rw [e, show w.heap[b]? = _ from hb] at hc
    simp only at hc
    split at hc
    · cases hc
    · generalize a.off = o at hc
      cases o with
      | zero => simp at hc
      | succ o => simp at hc
theorem prs_ints (l : List (Int × Int)) : ∀ u ∈ prs l, ∃ k n, u = Value.int k n := fun u hu => by
  simp only [prs, List.mem_flatMap] at hu
  obtain ⟨x, _, hx⟩ := hu
  simp at hx
  rcases hx with rfl | rfl <;> exact ⟨_, _, rfl⟩
theorem ints_ints (l : List Int) : ∀ u ∈ ints l, ∃ k n, u = Value.int k n := fun u hu => by
  simp only [ints, List.mem_map] at hu
  obtain ⟨x, _, rfl⟩ := hu
  exact ⟨_, _, rfl⟩
theorem rd_of {own : World → Nat → Prop} {yb ib : Nat} {w w1 w2 : World} {v : Value} {n : Nat} {vs : List Value} {t : TypeId} {f : Bool} (h : RowAt own yb w v n vs) (g1 : w.grownBy w1 (some yb)) (hb : Blk w1 ib #[.bool f] t) (g2 : w1.grownBy w2 (some ib)) (hi : ∀ u ∈ vs, ∃ k n, u = Value.int k n) :
    ∃ a c, v = .slice a n c ∧ n ≤ c ∧ Cs w2 a vs ∧ ∀ d, a = some d → vs ≠ [] → d.block < w2.heap.size := by
  obtain ⟨p, c, rfl, hn, hc, ha⟩ := h
  have h1 := cs_grown hc g1 fun a e hz => (ha a e hz).2.1
  refine ⟨p, c, rfl, hn, cs_grown h1 g2 fun a e h0 => ?_, fun d e hz => Nat.lt_of_lt_of_le (ha d e hz).2.2 (Nat.le_trans g1.size g2.size)⟩
  subst e
  exact cs_not_bool h1 hb hi h0
theorem zero_in : InO POp.zero := by
  refine ⟨?_, ?_, ?_, ?_, ?_, ?_, ?_, ?_, ?_, ?_, ?_, ?_, ?_, ?_⟩ <;> simp [POp.zero, In, InPs]
theorem below_chg {own : World → Nat → Prop} {S : Nat → Prop} {w0 w w' : World} (e : Ext w0 w) (c : Chg own S w w') (ho : ∀ k, k < w0.heap.size → ¬ own w k) (hs : ∀ k, k < w0.heap.size → ¬ S k) : Ext w0 w' := Below.trans e (c.ext ho hs e.size)
theorem c_copied {x : POp} {pv kv : Value} {w : World} {R : EW} (hx : InO x) (hr : OpRd w x pv kv) (hP : x.pairs.length ≤ 5000) (hK : x.keys.length ≤ 5000)
    (h : ∀ y pv' kv' w', copyO x = some y → Ext w w' → OpRd w' y pv' kv' → R (.returned (.tuple #[opV y pv' kv', .bool true])) w')
    (hn : ∀ y p n c q m c' w', copyO x = none → Ext w w' → R (.returned (.tuple #[opV y (.slice p n c) (.slice q m c'), .bool false])) w') : Calls Tryz.prog 25 #[opV x pv kv] w R := by
  obtain ⟨a, c, rfl, hac, hcs, hab⟩ := hr.p
  obtain ⟨q, c', rfl, hqc, hqs, hqb⟩ := hr.k
  refine sh25_ok _ _ _ _ _ _ _ _ _ _ _ _ _ _ _ _ _ _ _ ?_
  unfold sh25
  refine ⟨⟨⟨⟨?_⟩⟩⟩⟩
  have e1 := ext_alloc w (.cells #[.int .u8 x.op, .int .i64 x.a, .int .i64 x.b, .int .i64 x.key, .int .i64 x.val, .int .i64 x.lo, .int .i64 x.hi, .int .i64 x.n, .int .u8 x.pol, .int .u8 x.pk, .int .i64 x.pa, .int .i64 x.pb, .bool x.pnot, .slice a x.pairs.length c, .slice q x.keys.length c'] 37)
  have h1 : OpAt _ _ x (.slice a x.pairs.length c) (.slice q x.keys.length c') := blk_alloc w #[.int .u8 x.op, .int .i64 x.a, .int .i64 x.b, .int .i64 x.key, .int .i64 x.val, .int .i64 x.lo, .int .i64 x.hi, .int .i64 x.n, .int .u8 x.pol, .int .u8 x.pk, .int .i64 x.pa, .int .i64 x.pb, .bool x.pnot, .slice a x.pairs.length c, .slice q x.keys.length c'] 37
  generalize w.alloc (.cells #[.int .u8 x.op, .int .i64 x.a, .int .i64 x.b, .int .i64 x.key, .int .i64 x.val, .int .i64 x.lo, .int .i64 x.hi, .int .i64 x.n, .int .u8 x.pol, .int .u8 x.pk, .int .i64 x.pa, .int .i64 x.pb, .bool x.pnot, .slice a x.pairs.length c, .slice q x.keys.length c'] 37) = w1 at *
  have e2 := ext_alloc w1 (.cells #[.int .u8 0, .int .i64 0, .int .i64 0, .int .i64 0, .int .i64 0, .int .i64 0, .int .i64 0, .int .i64 0, .int .u8 0, .int .u8 0, .int .i64 0, .int .i64 0, .bool false, .slice none 0 0, .slice none 0 0] 37)
  have h2 : OpAt _ _ POp.zero (.slice none 0 0) (.slice none 0 0) := blk_alloc w1 #[.int .u8 0, .int .i64 0, .int .i64 0, .int .i64 0, .int .i64 0, .int .i64 0, .int .i64 0, .int .i64 0, .int .u8 0, .int .u8 0, .int .i64 0, .int .i64 0, .bool false, .slice none 0 0, .slice none 0 0] 37
  generalize w1.alloc (.cells #[.int .u8 0, .int .i64 0, .int .i64 0, .int .i64 0, .int .i64 0, .int .i64 0, .int .i64 0, .int .i64 0, .int .u8 0, .int .u8 0, .int .i64 0, .int .i64 0, .bool false, .slice none 0 0, .slice none 0 0] 37) = w2 at *
  have e3 := ext_alloc w2 (.cells #[.bool false] 4)
  have h3 := blk_alloc w2 #[.bool false] 4
  generalize w2.alloc (.cells #[.bool false] 4) = w3 at *
  have e4 := ext_alloc w3 (.cells #[.slice none 0 0] 53)
  have h4 := blk_alloc w3 #[.slice none 0 0] 53
  generalize w3.alloc (.cells #[.slice none 0 0] 53) = w4 at *
  have E4 := ((e1.trans e2).trans e3).trans e4
  have l1 := h1.lt
  have l2 := h2.lt
  have l3 := h3.lt
  have l4 := h4.lt
  generalize hxb : w.heap.size = xb at *
  generalize hyb : w1.heap.size = yb at *
  generalize hib : w2.heap.size = ib at *
  generalize hob : w3.heap.size = ob at *
  have own4 : ∀ k, OutOwn ob w4 k → k = ob := fun k hk => ((out_own h4 k).1 hk).resolve_right (by simp [Value.ownBlock])
  have hI4 : OutI ob w4 [] := ⟨none, 0, h4, World.ownsRow_nil _ _ _ _⟩
  have hx4 : OpAt w4 xb x (.slice a x.pairs.length c) (.slice q x.keys.length c') := Blk.ext h1 ((e2.trans e3).trans e4)
  have hy4 : OpAt w4 yb POp.zero (.slice none 0 0) (.slice none 0 0) := Blk.ext h2 (e3.trans e4)
  have hi4 := h3.ext e4
  have hrow : RowsAt (OutOwn ob) xb w4 x (.slice a x.pairs.length c) (.slice q x.keys.length c') := by
    refine ⟨⟨a, c, rfl, hac, hcs.ext E4, fun d ed hz => ?_⟩, ⟨q, c', rfl, hqc, hqs.ext E4, fun d ed hz => ?_⟩⟩
    · have := hab d ed hz
      exact ⟨fun hd => by have := own4 _ hd; omega, by omega, by omega⟩
    · have := hqb d ed hz
      exact ⟨fun hd => by have := own4 _ hd; omega, by omega, by omega⟩
  refine do_call Tryz.call23 (c_opall (OutC ob) (s := []) hI4 (by show 0 + 50000 * 20 ≤ lim; decide) (fun hd => by have := own4 _ hd; omega) hx4 hx hrow hP hK trivial trivial trivial (.inl fun s n s' h => by cases h; exact Nat.le_refl _) (.inl fun s n s' h => by cases h; exact Nat.le_refl _)
    (fun x5 s5 w5 pv5 kv5 hr5 hI5 _ _ _ hl5 c5 => retS_ret ⟨rfl, ?_⟩) fun ch w5 hn5 _ _ _ _ => by rw [all_outB] at hn5; cases hn5)
  rw [all_outB] at hr5
  cases hr5
  have hI5 : OutI ob w5 (wrB x) := hI5
  have hl5 : (wrB x).length ≤ 0 + 30000 * 20 := hl5
  obtain ⟨p5, c5', hb5, hrow5⟩ := hI5.ex
  have hpos : 0 < (wrB x).length := List.length_pos_iff.2 (wrB_ne x)
  obtain ⟨g, rfl, _, _⟩ := row_some hrow5 hpos
  have hcs5 := Cs.of_row hrow5
  refine ⟨_, rfl, _, _, _, hb5.cell (i := 0) rfl rfl, ⟨⟨(wrB x).toArray⟩, run_convert_bytes_back w5 _ _ 5 (blk g) c5' (wrB x) Tryz.underlying51 Tryz.underlying5 Tryz.underlying9 (fun j hj => ?_), ⟨?_⟩⟩⟩
  · obtain ⟨a', ha', hc⟩ := hcs5 j (.int .u8 (((wrB x)[j].toNat : Nat) : Int)) (by simp [bys, List.getElem?_eq_getElem hj])
    cases ha'
    exact hc
  have e6 := ext_alloc w5 (.cells #[.string ⟨(wrB x).toArray⟩] 79)
  have hI6 : InI w5.heap.size _ (wrB x) := blk_alloc w5 #[.string ⟨(wrB x).toArray⟩] 79
  generalize w5.alloc (.cells #[.string ⟨(wrB x).toArray⟩] 79) = w6 at *
  have l5 := c5.size
  generalize hsb : w5.heap.size = sb at *
  have ny : ¬ OutOwn ob w4 yb := fun hd => by have := own4 _ hd; omega
  have ni : ¬ OutOwn ob w4 ib := fun hd => by have := own4 _ hd; omega
  have hy6 : OpAt w6 yb POp.zero (.slice none 0 0) (.slice none 0 0) := Blk.ext (c5.blk hy4 ny (by omega)) e6
  have hi6 := (c5.blk hi4 ni (by omega)).ext e6
  have E5 : Ext w w5 := below_chg E4 c5 (fun k hk hd => by have := own4 _ hd; omega) (fun k hk e => by omega)
  have E6 := E5.trans e6
  have hrow6 : RowsAt (InOwn sb) yb w6 POp.zero (.slice none 0 0) (.slice none 0 0) := ⟨⟨none, 0, rfl, Nat.le_refl _, cs_nil _ _, fun d e => by cases e⟩, ⟨none, 0, rfl, Nat.le_refl _, cs_nil _ _, fun d e => by cases e⟩⟩
  refine do_call Tryz.call23 (c_opall (InC sb) (s := wrB x) hI6 (by show (wrB x).length + 50000 * 0 ≤ 1000000000000; omega) (fun hd => by have : yb = sb := hd; omega) hy6 zero_in hrow6 (Nat.zero_le _) (Nat.zero_le _) trivial trivial trivial (.inr ⟨rfl, rfl⟩) (.inr ⟨rfl, rfl⟩)
    (fun y s7 w7 pv7 kv7 hr7 hI7 hy7 hrow7 hin7 _ c7 => retS_ret ⟨rfl, ?_⟩) fun ch w7 hn7 hch hs7 _ c7 => ?_)
  · have E7 : Ext w w7 := below_chg E6 c7 (fun k hk hd => by have : k = sb := hd; omega) (fun k hk e => by omega)
    have hi7 := c7.blk hi6 (fun hd => by have : ib = sb := hd; omega) (by omega)
    obtain ⟨p7, d7, hpv7, _⟩ := hrow7.p
    obtain ⟨q7, f7, hkv7, _⟩ := hrow7.k
    have hrp := hrow7.p
    have hrk := hrow7.k
    subst hpv7 hkv7
    refine ⟨_, hy7.cell (i := 0) rfl rfl, _, hy7.cell (i := 1) rfl rfl, _, hy7.cell (i := 2) rfl rfl, _, hy7.cell (i := 3) rfl rfl, _, hy7.cell (i := 4) rfl rfl, _, hy7.cell (i := 5) rfl rfl, _, hy7.cell (i := 6) rfl rfl, _, hy7.cell (i := 7) rfl rfl, _, hy7.cell (i := 8) rfl rfl, _, hy7.cell (i := 9) rfl rfl, _, hy7.cell (i := 10) rfl rfl, _, hy7.cell (i := 11) rfl rfl, _, hy7.cell (i := 12) rfl rfl, _, _, _, hy7.cell (i := 13) rfl rfl, _, _, _, hy7.cell (i := 14) rfl rfl, st15 hy7 fun w8 h8 g8 => ?_⟩
    have hi8 := hi7.grown g8 (ne_some (by omega))
    refine do_st hi8 (i := 0) rfl (by simp) fun w9 h9 g9 => c_catch0 ⟨?_⟩
    have h8' : OpAt w9 yb y (.slice p7 y.pairs.length d7) (.slice q7 y.keys.length f7) := Blk.grown h8 g9 (ne_some (by omega))
    refine ⟨_, h8'.cell (i := 0) rfl rfl, _, h8'.cell (i := 1) rfl rfl, _, h8'.cell (i := 2) rfl rfl, _, h8'.cell (i := 3) rfl rfl, _, h8'.cell (i := 4) rfl rfl, _, h8'.cell (i := 5) rfl rfl, _, h8'.cell (i := 6) rfl rfl, _, h8'.cell (i := 7) rfl rfl, _, h8'.cell (i := 8) rfl rfl, _, h8'.cell (i := 9) rfl rfl, _, h8'.cell (i := 10) rfl rfl, _, h8'.cell (i := 11) rfl rfl, _, h8'.cell (i := 12) rfl rfl, _, _, _, h8'.cell (i := 13) rfl rfl, _, _, _, h8'.cell (i := 14) rfl rfl, _, h9.cell (i := 0) rfl rfl, h y _ _ w9 (by unfold copyO; rw [hr7]; rfl) ((E7.st g8 (by omega)).st g9 (by omega)) ⟨rd_of hrp g8 hi8 g9 (prs_ints _), rd_of hrk g8 hi8 g9 (ints_ints _)⟩⟩
  · have E7 : Ext w w7 := below_chg E6 c7 (fun k hk hd => by have : k = sb := hd; omega) (fun k hk e => by omega)
    have hi7 := c7.blk hi6 (fun hd => by have : ib = sb := hd; omega) (by omega)
    obtain ⟨y, p, n, c8, q8, m, c9, hy7⟩ := hs7
    refine c_catch1 hch hi7 fun w8 h8 g8 => ⟨?_⟩
    have h8' : OpAt w8 yb y (.slice p n c8) (.slice q8 m c9) := Blk.grown hy7 g8 (ne_some (by omega))
    exact ⟨_, h8'.cell (i := 0) rfl rfl, _, h8'.cell (i := 1) rfl rfl, _, h8'.cell (i := 2) rfl rfl, _, h8'.cell (i := 3) rfl rfl, _, h8'.cell (i := 4) rfl rfl, _, h8'.cell (i := 5) rfl rfl, _, h8'.cell (i := 6) rfl rfl, _, h8'.cell (i := 7) rfl rfl, _, h8'.cell (i := 8) rfl rfl, _, h8'.cell (i := 9) rfl rfl, _, h8'.cell (i := 10) rfl rfl, _, h8'.cell (i := 11) rfl rfl, _, h8'.cell (i := 12) rfl rfl, _, _, _, h8'.cell (i := 13) rfl rfl, _, _, _, h8'.cell (i := 14) rfl rfl, _, h8.cell (i := 0) rfl rfl, hn y p n c8 q8 m c9 w8 (by unfold copyO; rw [hn7]; rfl) (E7.st g8 (by omega))⟩
end Go.Proofs.YtmkpkmdnapccgaaGreatDoor

