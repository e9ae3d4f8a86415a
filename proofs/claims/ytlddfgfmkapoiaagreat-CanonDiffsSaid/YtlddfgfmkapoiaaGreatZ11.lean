/-
  The codes of keys, as numbers: plain laws of 64 bits. No claim of its own.
-/
/-
  What the functions of mix and order do.
-/
import Derived.Test.YtlddfgfmkapoiaaGreatZ03
import Derived.Test.YtlddfgfmkapoiaaGreatZ10

namespace Go.Sh
open Go

/-- A word as a number. -/
def U (x : BitVec 64) : Int := (x.toNat : Int)
theorem U_lt (x : BitVec 64) : 0 ≤ U x ∧ U x < 18446744073709551616 := by
  have := x.isLt
  unfold U; omega
theorem U_inj {x y : BitVec 64} (h : U x = U y) : x = y := BitVec.eq_of_toNat_eq (by unfold U at h; omega)
theorem wrap64u (n : Int) : IntKind.wrap .u64 n = n % 18446744073709551616 := by simp [IntKind.wrap, IntKind.bits, IntKind.signed]
theorem wrap_U (x : Int) : IntKind.wrap .u64 x = U (BitVec.ofInt 64 x) := by
  rw [wrap64u]; unfold U; simp
  omega
theorem ofInt_U (x : BitVec 64) : BitVec.ofInt 64 (U x) = x := by
  apply BitVec.eq_of_toNat_eq
  have := x.isLt
  simp [U]
theorem bits_u64 : IntKind.bits .u64 = 64 := rfl
theorem bXor_U (x y : BitVec 64) : bXor .u64 (U x) (U y) = U (x ^^^ y) := by
  unfold bXor
  rw [bits_u64, ofInt_U, ofInt_U]
  rw [wrap_U]
  exact congrArg U (ofInt_U (x ^^^ y))
theorem bAnd_U (x y : BitVec 64) : bAnd .u64 (U x) (U y) = U (x &&& y) := by
  unfold bAnd
  rw [bits_u64, ofInt_U, ofInt_U]
  rw [wrap_U]
  exact congrArg U (ofInt_U (x &&& y))
theorem bOr_U (x y : BitVec 64) : bOr .u64 (U x) (U y) = U (x ||| y) := by
  unfold bOr
  rw [bits_u64, ofInt_U, ofInt_U]
  rw [wrap_U]
  exact congrArg U (ofInt_U (x ||| y))
theorem shr_U (x : BitVec 64) (s : Nat) (hs : s ≤ 64) : Int.fdiv (U x) (2 ^ (min ((s : Int)).toNat (IntKind.bits .u64))) = U (x >>> s) := by
  rw [bits_u64, Int.toNat_natCast, Nat.min_eq_left hs]
  unfold U
  rw [BitVec.toNat_ushiftRight, Nat.shiftRight_eq_div_pow, Int.fdiv_eq_ediv_of_nonneg _ (Int.pow_nonneg (by omega))]
  simp
theorem shl_U (x : BitVec 64) (s : Nat) (hs : s ≤ 64) : IntKind.wrap .u64 (U x * 2 ^ (min ((s : Int)).toNat (IntKind.bits .u64))) = U (x <<< s) := by
  rw [bits_u64, Int.toNat_natCast, Nat.min_eq_left hs, wrap64u]
  unfold U
  rw [BitVec.toNat_shiftLeft, Nat.shiftLeft_eq]
  simp
theorem mul_U (x y : BitVec 64) : IntKind.wrap .u64 (U x * U y) = U (x * y) := by
  rw [wrap64u]; unfold U; rw [BitVec.toNat_mul]; simp
theorem add_U (x y : BitVec 64) : IntKind.wrap .u64 (U x + U y) = U (x + y) := by
  rw [wrap64u]; unfold U; rw [BitVec.toNat_add]; simp
theorem tdiv_U (x : BitVec 64) (s : Nat) : IntKind.wrap .u64 (Int.tdiv (U x) ((2 ^ s : Nat) : Int)) = U (x >>> s) := by
  rw [wrap64u]; unfold U
  rw [BitVec.toNat_ushiftRight, Nat.shiftRight_eq_div_pow, Int.tdiv_eq_ediv_of_nonneg (by omega)]
  rw [show ((x.toNat : Int) / ((2 ^ s : Nat) : Int)) = ((x.toNat / 2 ^ s : Nat) : Int) from (Int.natCast_ediv _ _).symm]
  have : x.toNat / 2 ^ s < 18446744073709551616 := Nat.lt_of_le_of_lt (Nat.div_le_self _ _) x.isLt
  generalize x.toNat / 2 ^ s = q at this ⊢
  omega

/-! ### Mixing -/
def xs (s : Nat) (x : BitVec 64) : BitVec 64 := x ^^^ (x >>> s)
def mixB (x : BitVec 64) : BitVec 64 := xs 31 (xs 27 (xs 30 x * 13787848793156543929#64) * 10723151780598845931#64)
theorem xs_inj {s : Nat} (hs : 22 ≤ s) {x y : BitVec 64} (h : xs s x = xs s y) : x = y := by
  have inv : ∀ x : BitVec 64, xs s x ^^^ (xs s x >>> s) ^^^ (xs s x >>> (2 * s)) = x := fun x => by
    apply BitVec.eq_of_getLsbD_eq
    intro i hi
    simp only [xs, BitVec.getLsbD_xor, BitVec.getLsbD_ushiftRight]
    have h1 : x.getLsbD (s + (2 * s + i)) = false := BitVec.getLsbD_of_ge _ _ (by omega)
    have e1 : s + (s + i) = 2 * s + i := by omega
    rw [h1, e1]
    cases x.getLsbD i <;> cases x.getLsbD (s + i) <;> cases x.getLsbD (2 * s + i) <;> rfl
  rw [← inv x, ← inv y, h]
theorem mul_inj {c d : BitVec 64} (hc : c * d = 1#64) {x y : BitVec 64} (h : x * c = y * c) : x = y := by
  have : x * c * d = y * c * d := by rw [h]
  rwa [BitVec.mul_assoc, BitVec.mul_assoc, hc, BitVec.mul_one, BitVec.mul_one] at this
theorem mixB_inj {x y : BitVec 64} (h : mixB x = mixB y) : x = y := by
  unfold mixB at h
  have h := xs_inj (by omega) h
  have h := mul_inj (d := 3573116690164977347#64) (by decide) h
  have h := xs_inj (by omega) h
  have h := mul_inj (d := 10871156337175269513#64) (by decide) h
  exact xs_inj (by omega) h

/-! ### The other way round -/
def Rev (x y : BitVec 64) : Prop := ∀ j, j < 64 → y.getLsbD j = x.getLsbD (63 - j)
theorem rev_eq {x y z : BitVec 64} (h : Rev x y) (k : Rev x z) : y = z := BitVec.eq_of_getLsbD_eq fun i hi => by rw [h i hi, k i hi]
theorem rev_inj {x y z : BitVec 64} (h : Rev x z) (k : Rev y z) : x = y := BitVec.eq_of_getLsbD_eq fun i hi => by
  have h1 := h (63 - i) (by omega)
  have h2 := k (63 - i) (by omega)
  rw [show 63 - (63 - i) = i by omega] at h1 h2
  rw [← h1, ← h2]
/-- Go's way: by halves, quarters, .. -/
def swapB (m : BitVec 64) (s : Nat) (x : BitVec 64) : BitVec 64 := ((x >>> s) &&& m) ||| ((x &&& m) <<< s)
def revBytes (x : BitVec 64) : BitVec 64 :=
  let a := swapB 71777214294589695#64 8 x
  let b := swapB 281470681808895#64 16 a
  (b >>> 32) ||| (b <<< 32)
def revB (x : BitVec 64) : BitVec 64 := revBytes (swapB 1085102592571150095#64 4 (swapB 3689348814741910323#64 2 (swapB 6148914691236517205#64 1 x)))
/-- one exchange of neighbours -/
theorem swap_get {m : BitVec 64} {s : Nat} {x : BitVec 64} {i : Nat} (hi : i < 64) (hs : 0 < s)
    (hm : ∀ i, i < 64 → m.getLsbD i = decide (i / s % 2 = 0)) : (swapB m s x).getLsbD i = x.getLsbD (if i / s % 2 = 0 then i + s else i - s) := by
  simp only [swapB, BitVec.getLsbD_or, BitVec.getLsbD_and, BitVec.getLsbD_ushiftRight, BitVec.getLsbD_shiftLeft, hm i hi, decide_eq_true hi, Bool.true_and]
  by_cases h : i / s % 2 = 0
  · rw [if_pos h, decide_eq_true h, Bool.and_true, Nat.add_comm s i]
    by_cases h1 : i < s
    · simp [h1]
    · have e : (i - s) / s % 2 = 1 := by
        have : i / s = (i - s) / s + 1 := by rw [← Nat.add_div_right _ hs, Nat.sub_add_cancel (by omega)]
        omega
      rw [hm (i - s) (by omega)]
      simp [e]
  · rw [if_neg h, decide_eq_false h, Bool.and_false, Bool.false_or]
    have h1 : ¬ i < s := fun h1 => h (by rw [Nat.div_eq_of_lt h1])
    have e : (i - s) / s % 2 = 0 := by
      have : i / s = (i - s) / s + 1 := by rw [← Nat.add_div_right _ hs, Nat.sub_add_cancel (by omega)]
      omega
    rw [hm (i - s) (by omega), decide_eq_true e, decide_eq_false h1]
    simp
theorem mask_of {m : BitVec 64} {s : Nat} (h : ∀ i : Fin 64, m.getLsbD i.val = decide (i.val / s % 2 = 0)) : ∀ i, i < 64 → m.getLsbD i = decide (i / s % 2 = 0) := fun i hi => h ⟨i, hi⟩
theorem revB_rev (x : BitVec 64) : Rev x (revB x) := by
  intro j hj
  simp only [revB, revBytes, BitVec.getLsbD_or, BitVec.getLsbD_ushiftRight, BitVec.getLsbD_shiftLeft, decide_eq_true hj, Bool.true_and]
  have s1 : ∀ (x : BitVec 64) i, i < 64 → (swapB 6148914691236517205#64 1 x).getLsbD i = x.getLsbD (if i / 1 % 2 = 0 then i + 1 else i - 1) := fun x i hi => swap_get hi (by omega) (mask_of (by decide))
  have s2 : ∀ (x : BitVec 64) i, i < 64 → (swapB 3689348814741910323#64 2 x).getLsbD i = x.getLsbD (if i / 2 % 2 = 0 then i + 2 else i - 2) := fun x i hi => swap_get hi (by omega) (mask_of (by decide))
  have s4 : ∀ (x : BitVec 64) i, i < 64 → (swapB 1085102592571150095#64 4 x).getLsbD i = x.getLsbD (if i / 4 % 2 = 0 then i + 4 else i - 4) := fun x i hi => swap_get hi (by omega) (mask_of (by decide))
  have s8 : ∀ (x : BitVec 64) i, i < 64 → (swapB 71777214294589695#64 8 x).getLsbD i = x.getLsbD (if i / 8 % 2 = 0 then i + 8 else i - 8) := fun x i hi => swap_get hi (by omega) (mask_of (by decide))
  have s16 : ∀ (x : BitVec 64) i, i < 64 → (swapB 281470681808895#64 16 x).getLsbD i = x.getLsbD (if i / 16 % 2 = 0 then i + 16 else i - 16) := fun x i hi => swap_get hi (by omega) (mask_of (by decide))
  have last : ∀ y : BitVec 64, (y.getLsbD (32 + j) || !decide (j < 32) && y.getLsbD (j - 32)) = y.getLsbD (if j < 32 then 32 + j else j - 32) := fun y => by
    by_cases h : j < 32
    · simp [h]
    · rw [BitVec.getLsbD_of_ge y (32 + j) (by omega)]; simp [h]
  rw [last]
  have hl : (if j < 32 then 32 + j else j - 32) < 64 := by split <;> omega
  generalize hk : (if j < 32 then 32 + j else j - 32) = k at hl
  rw [s16 _ k hl]
  have hl2 : (if k / 16 % 2 = 0 then k + 16 else k - 16) < 64 := by split <;> omega
  generalize hk2 : (if k / 16 % 2 = 0 then k + 16 else k - 16) = k2 at hl2
  rw [s8 _ k2 hl2]
  have hl3 : (if k2 / 8 % 2 = 0 then k2 + 8 else k2 - 8) < 64 := by split <;> omega
  generalize hk3 : (if k2 / 8 % 2 = 0 then k2 + 8 else k2 - 8) = k3 at hl3
  rw [s4 _ k3 hl3]
  have hl4 : (if k3 / 4 % 2 = 0 then k3 + 4 else k3 - 4) < 64 := by split <;> omega
  generalize hk4 : (if k3 / 4 % 2 = 0 then k3 + 4 else k3 - 4) = k4 at hl4
  rw [s2 _ k4 hl4]
  have hl5 : (if k4 / 2 % 2 = 0 then k4 + 2 else k4 - 2) < 64 := by split <;> omega
  generalize hk5 : (if k4 / 2 % 2 = 0 then k4 + 2 else k4 - 2) = k5 at hl5
  rw [s1 _ k5 hl5]
  congr 1
  have key : ∀ j : Fin 64, (let k := if j.val < 32 then 32 + j.val else j.val - 32
    let k2 := if k / 16 % 2 = 0 then k + 16 else k - 16
    let k3 := if k2 / 8 % 2 = 0 then k2 + 8 else k2 - 8
    let k4 := if k3 / 4 % 2 = 0 then k3 + 4 else k3 - 4
    let k5 := if k4 / 2 % 2 = 0 then k4 + 2 else k4 - 2
    if k5 / 1 % 2 = 0 then k5 + 1 else k5 - 1) = 63 - j.val := by decide
  have := key ⟨j, hj⟩
  simp only [hk, hk2, hk3, hk4, hk5] at this
  exact this
/-! The reference's way: bit by bit. -/
/-- what it has behind so many rounds -/
structure FlipI (x0 : BitVec 64) (i : Nat) (x y : BitVec 64) : Prop where
  x : x = x0 >>> i
  lt : y.toNat < 2 ^ i
  y : ∀ j, j < i → y.getLsbD j = x0.getLsbD (i - 1 - j)
theorem flipI_init (x0 : BitVec 64) : FlipI x0 0 x0 0#64 := ⟨by simp, by simp, fun j hj => by omega⟩
theorem flipI_step {x0 x y : BitVec 64} {i : Nat} (hi : i < 64) (h : FlipI x0 i x y) : FlipI x0 (i + 1) (x >>> 1) (y * 2#64 + (x &&& 1#64)) := by
  have hy2 : (y * 2#64 + (x &&& 1#64)) = (y <<< 1) ||| (x &&& 1#64) := by
    rw [← BitVec.add_eq_or_of_and_eq_zero]
    · congr 1
      rw [BitVec.shiftLeft_eq_mul_twoPow]; rfl
    · apply BitVec.eq_of_getLsbD_eq
      intro k hk
      simp only [BitVec.getLsbD_and, BitVec.getLsbD_shiftLeft, BitVec.getLsbD_zero]
      by_cases h0 : k < 1
      · simp [h0]
      · have : (1#64).getLsbD k = false := by
          have : ∀ k : Fin 64, ¬ k.val < 1 → (1#64).getLsbD k.val = false := by decide
          exact this ⟨k, hk⟩ h0
        simp [this]
  have hget : ∀ j, j < 64 → (y * 2#64 + (x &&& 1#64)).getLsbD j = if j = 0 then x.getLsbD 0 else y.getLsbD (j - 1) := fun j hj => by
    rw [hy2]
    simp only [BitVec.getLsbD_or, BitVec.getLsbD_and, BitVec.getLsbD_shiftLeft]
    by_cases h0 : j = 0
    · subst h0; simp
    · have : (1#64).getLsbD j = false := by
        have : ∀ k : Fin 64, ¬ k.val = 0 → (1#64).getLsbD k.val = false := by decide
        exact this ⟨j, hj⟩ h0
      rw [this, if_neg h0]
      simp [hj]
      intro; omega
  refine ⟨by rw [h.x]; simp [BitVec.shiftRight_add], ?_, fun j hj => ?_⟩
  · have h1 : (x &&& 1#64).toNat ≤ 1 := by
      rw [BitVec.toNat_and]; exact Nat.and_le_right
    have h2 : (y * 2#64).toNat ≤ y.toNat * 2 := by rw [BitVec.toNat_mul]; exact Nat.mod_le _ _
    have h3 : (y * 2#64 + (x &&& 1#64)).toNat ≤ (y * 2#64).toNat + (x &&& 1#64).toNat := by rw [BitVec.toNat_add]; exact Nat.mod_le _ _
    have := h.lt
    rw [Nat.pow_succ]; omega
  · rw [hget j (by omega)]
    by_cases h0 : j = 0
    · subst h0; rw [if_pos rfl, h.x, BitVec.getLsbD_ushiftRight]; congr 1
    · rw [if_neg h0, h.y (j - 1) (by omega)]; congr 1; omega
theorem flipI_rev {x0 x y : BitVec 64} (h : FlipI x0 64 x y) : Rev x0 y := fun j hj => by rw [h.y j hj]
theorem tdiv2_U (x : BitVec 64) : IntKind.wrap .u64 (Int.tdiv (U x) 2) = U (x >>> 1) := tdiv_U x 1
theorem tmod2_U (x : BitVec 64) : Int.tmod (U x) 2 = U (x &&& 1#64) := by
  unfold U
  rw [BitVec.toNat_and, show (1#64).toNat = 2 ^ 1 - 1 from rfl, Nat.and_two_pow_sub_one_eq_mod, Int.tmod_eq_emod_of_nonneg (by omega)]
  simp
theorem mul2_U (x : BitVec 64) : IntKind.wrap .u64 (U x * 2) = U (x * 2#64) := mul_U x 2#64

/-! ### The codes -/
/-- an int64 -/
def In (x : Int) : Prop := -9223372036854775808 ≤ x ∧ x < 9223372036854775808
def upI (k : Int) : Int := k + 9223372036854775808
def codeI (o k : Int) : Int :=
  if o = 1 then upI k
  else if o = 2 then 18446744073709551615 - upI k
  else if o = 3 then (if k < 0 then -2 * k - 1 else 2 * k)
  else if o = 4 then U (revB (BitVec.ofInt 64 k))
  else if o = 5 then upI k / 2 + (if k % 2 = 1 then 9223372036854775808 else 0)
  else if o = 6 then upI k % 4294967296 * 4294967296 + upI k / 4294967296
  else U (mixB (BitVec.ofInt 64 k))
theorem ofInt_inj {a b : Int} (ha : In a) (hb : In b) (h : BitVec.ofInt 64 a = BitVec.ofInt 64 b) : a = b := by
  have := congrArg BitVec.toInt h
  rw [BitVec.toInt_ofInt, BitVec.toInt_ofInt] at this
  unfold In at *
  simp [Int.bmod] at this
  omega
theorem codeI_inj {o a b : Int} (ha : In a) (hb : In b) (h : codeI o a = codeI o b) : a = b := by
  unfold codeI at h
  have ha' := ha; have hb' := hb
  unfold In at ha' hb'
  unfold upI at h
  split at h
  · omega
  split at h
  · omega
  split at h
  · split at h <;> split at h <;> omega
  split at h
  · exact ofInt_inj ha hb (rev_inj (revB_rev _) (by rw [U_inj h]; exact revB_rev _))
  split at h
  · split at h <;> split at h <;> omega
  split at h
  · omega
  · exact ofInt_inj ha hb (mixB_inj (U_inj h))
theorem codeI_rng {o k : Int} (hk : In k) : 0 ≤ codeI o k ∧ codeI o k < 18446744073709551616 := by
  unfold codeI upI
  unfold In at hk
  split
  · omega
  split
  · omega
  split
  · split <;> omega
  split
  · exact U_lt _
  split
  · split <;> omega
  split
  · omega
  · exact U_lt _
/-- how two keys stand -/
def cmpI (o a b : Int) : Int := if 1 ≤ o ∧ o ≤ 7 then (if codeI o a < codeI o b then -1 else if codeI o b < codeI o a then 1 else 0) else 0

theorem xor_top (x : BitVec 64) : x ^^^ 9223372036854775808#64 = x + 9223372036854775808#64 := by
  apply BitVec.eq_of_getLsbD_eq
  intro i hi
  rw [BitVec.getLsbD_xor]
  have e : (x + 9223372036854775808#64).getLsbD i = ((2 ^ 63 + x.toNat) % 2 ^ 64).testBit i := by
    rw [BitVec.getLsbD, BitVec.toNat_add, Nat.add_comm]; rfl
  rw [e, Nat.testBit_mod_two_pow, decide_eq_true hi, Bool.true_and]
  have ht : ∀ k : Fin 64, (9223372036854775808#64).getLsbD k.val = decide (k.val = 63) := by decide
  rw [ht ⟨i, hi⟩]
  by_cases h : i = 63
  · subst h
    rw [Nat.testBit_two_pow_add_eq]
    simp [BitVec.getLsbD]
  · rw [Nat.testBit_two_pow_add_gt (by omega)]
    simp [h, BitVec.getLsbD]
theorem U_ofInt (x : Int) : U (BitVec.ofInt 64 x) = x % 18446744073709551616 := by rw [← wrap_U, wrap64u]
theorem upB_U {k : Int} (hk : In k) : bXor .u64 (IntKind.wrap .u64 k) 9223372036854775808 = upI k := by
  rw [wrap_U, show (9223372036854775808 : Int) = U 9223372036854775808#64 from rfl, bXor_U, xor_top, ← add_U, U_ofInt, wrap64u]
  unfold upI In at *
  rw [show U 9223372036854775808#64 = 9223372036854775808 from rfl]
  omega
theorem upR_U {k : Int} (hk : In k) : IntKind.wrap .u64 (IntKind.wrap .u64 k + 9223372036854775808) = upI k := by
  rw [wrap64u, wrap64u]
  unfold upI In at *
  omega
theorem not_U {x : Int} (h0 : 0 ≤ x) (h1 : x < 18446744073709551616) : bXor .u64 (IntKind.max .u64) x = 18446744073709551615 - x := by
  have hx : U (BitVec.ofInt 64 x) = x := by rw [U_ofInt]; omega
  have hm : IntKind.max .u64 = U (BitVec.allOnes 64) := by decide
  rw [hm, ← hx, bXor_U, BitVec.allOnes_xor]
  unfold U
  rw [BitVec.toNat_not]
  have := (BitVec.ofInt 64 x).isLt
  omega
theorem size_U {k : Int} (hk : In k) : IntKind.wrap .u64 (bXor .i64 (IntKind.wrap .i64 (k * 2 ^ (min (1 : Int).toNat (IntKind.bits .i64)))) (Int.fdiv k (2 ^ (min (63 : Int).toNat (IntKind.bits .i64))))) = if k < 0 then -2 * k - 1 else 2 * k := by
  have e1 : (2 : Int) ^ (min (1 : Int).toNat (IntKind.bits .i64)) = 2 := by decide
  have e2 : (2 : Int) ^ (min (63 : Int).toNat (IntKind.bits .i64)) = 9223372036854775808 := by decide
  rw [e1, e2]
  have key : ∀ x y : Int, IntKind.wrap .u64 (bXor .i64 x y) = U (BitVec.ofInt 64 x ^^^ BitVec.ofInt 64 y) := fun x y => by
    unfold bXor
    rw [show IntKind.bits .i64 = 64 from rfl]
    have := (BitVec.ofInt 64 x ^^^ BitVec.ofInt 64 y).isLt
    unfold U
    generalize (BitVec.ofInt 64 x ^^^ BitVec.ofInt 64 y).toNat = n at this ⊢
    rw [wrap64u]
    simp [IntKind.wrap, IntKind.bits, IntKind.signed]
    omega
  rw [key]
  have hw : BitVec.ofInt 64 (IntKind.wrap .i64 (k * 2)) = BitVec.ofInt 64 (k * 2) := by
    apply U_inj
    rw [U_ofInt, U_ofInt]
    simp [IntKind.wrap, IntKind.bits, IntKind.signed]
    omega
  rw [hw]
  unfold In at hk
  rw [Int.fdiv_eq_ediv_of_nonneg _ (by omega)]
  by_cases h : k < 0
  · rw [if_pos h, show k / 9223372036854775808 = -1 by omega, show BitVec.ofInt 64 (-1) = BitVec.allOnes 64 from rfl, BitVec.xor_allOnes]
    have : U (~~~ BitVec.ofInt 64 (k * 2)) = 18446744073709551615 - U (BitVec.ofInt 64 (k * 2)) := by
      unfold U; rw [BitVec.toNat_not]
      have := (BitVec.ofInt 64 (k * 2)).isLt
      omega
    rw [this, U_ofInt]; omega
  · rw [if_neg h, show k / 9223372036854775808 = 0 by omega, show BitVec.ofInt 64 0 = 0#64 from rfl, BitVec.xor_zero, U_ofInt]; omega
/-- turned to the left by s -/
theorem rot_U (x : BitVec 64) {s : Nat} (h0 : 0 < s) (hs : s < 64) : U ((x <<< s) ||| (x >>> (64 - s))) = ((x.toNat % 2 ^ (64 - s) * 2 ^ s + x.toNat / 2 ^ (64 - s) : Nat) : Int) := by
  unfold U
  rw [BitVec.toNat_or, BitVec.toNat_shiftLeft, BitVec.toNat_ushiftRight, Nat.shiftLeft_eq, Nat.shiftRight_eq_div_pow]
  have e : x.toNat * 2 ^ s % 2 ^ 64 = 2 ^ s * (x.toNat % 2 ^ (64 - s)) := by
    have : (2 : Nat) ^ 64 = 2 ^ (64 - s) * 2 ^ s := by rw [← Nat.pow_add]; congr 1; omega
    rw [this, Nat.mul_mod_mul_right, Nat.mul_comm]
  have hlt : x.toNat / 2 ^ (64 - s) < 2 ^ s := by
    apply Nat.div_lt_of_lt_mul
    rw [← Nat.pow_add, show 64 - s + s = 64 by omega]
    exact x.isLt
  rw [e, ← Nat.two_pow_add_eq_or_of_lt hlt, Nat.mul_comm]

/-! ### The printed words -/
theorem shr_1 (x : BitVec 64) : Int.fdiv (U x) (2 ^ (min (1 : Int).toNat (IntKind.bits .u64))) = U (x >>> 1) := shr_U x 1 (by omega)
theorem shl_1 (x : BitVec 64) : IntKind.wrap .u64 (U x * 2 ^ (min (1 : Int).toNat (IntKind.bits .u64))) = U (x <<< 1) := shl_U x 1 (by omega)
theorem shr_2 (x : BitVec 64) : Int.fdiv (U x) (2 ^ (min (2 : Int).toNat (IntKind.bits .u64))) = U (x >>> 2) := shr_U x 2 (by omega)
theorem shl_2 (x : BitVec 64) : IntKind.wrap .u64 (U x * 2 ^ (min (2 : Int).toNat (IntKind.bits .u64))) = U (x <<< 2) := shl_U x 2 (by omega)
theorem shr_4 (x : BitVec 64) : Int.fdiv (U x) (2 ^ (min (4 : Int).toNat (IntKind.bits .u64))) = U (x >>> 4) := shr_U x 4 (by omega)
theorem shl_4 (x : BitVec 64) : IntKind.wrap .u64 (U x * 2 ^ (min (4 : Int).toNat (IntKind.bits .u64))) = U (x <<< 4) := shl_U x 4 (by omega)
theorem shr_8 (x : BitVec 64) : Int.fdiv (U x) (2 ^ (min (8 : Int).toNat (IntKind.bits .u64))) = U (x >>> 8) := shr_U x 8 (by omega)
theorem shl_8 (x : BitVec 64) : IntKind.wrap .u64 (U x * 2 ^ (min (8 : Int).toNat (IntKind.bits .u64))) = U (x <<< 8) := shl_U x 8 (by omega)
theorem shr_16 (x : BitVec 64) : Int.fdiv (U x) (2 ^ (min (16 : Int).toNat (IntKind.bits .u64))) = U (x >>> 16) := shr_U x 16 (by omega)
theorem shl_16 (x : BitVec 64) : IntKind.wrap .u64 (U x * 2 ^ (min (16 : Int).toNat (IntKind.bits .u64))) = U (x <<< 16) := shl_U x 16 (by omega)
theorem shr_32 (x : BitVec 64) : Int.fdiv (U x) (2 ^ (min (32 : Int).toNat (IntKind.bits .u64))) = U (x >>> 32) := shr_U x 32 (by omega)
theorem shl_32 (x : BitVec 64) : IntKind.wrap .u64 (U x * 2 ^ (min (32 : Int).toNat (IntKind.bits .u64))) = U (x <<< 32) := shl_U x 32 (by omega)
theorem and_a (x : BitVec 64) : bAnd .u64 (U x) 6148914691236517205 = U (x &&& 6148914691236517205#64) := bAnd_U x 6148914691236517205#64
theorem and_b (x : BitVec 64) : bAnd .u64 (U x) 3689348814741910323 = U (x &&& 3689348814741910323#64) := bAnd_U x 3689348814741910323#64
theorem and_c (x : BitVec 64) : bAnd .u64 (U x) 1085102592571150095 = U (x &&& 1085102592571150095#64) := bAnd_U x 1085102592571150095#64
theorem and_d (x : BitVec 64) : bAnd .u64 (U x) 71777214294589695 = U (x &&& 71777214294589695#64) := bAnd_U x 71777214294589695#64
theorem and_e (x : BitVec 64) : bAnd .u64 (U x) 281470681808895 = U (x &&& 281470681808895#64) := bAnd_U x 281470681808895#64

/-- the reference's turn by 32, bit by bit: what it has behind so many rounds -/
def turnY (x i : Nat) : Nat := if i ≤ 32 then x % 2 ^ i * 4294967296 else x % 4294967296 * 4294967296 + x / 4294967296 % 2 ^ (i - 32)
theorem turnY_step {x i : Nat} (hi : i < 64) : turnY x (i + 1) = turnY x i + x / 2 ^ i % 2 * 2 ^ ((i + 32) % 64) := by
  unfold turnY
  rcases Nat.lt_trichotomy i 32 with h | h | h
  · rw [if_pos (by omega), if_pos (by omega), Nat.mod_pow_succ, show (i + 32) % 64 = i + 32 by omega, Nat.pow_add]
    rw [Nat.add_mul, show (2 : Nat) ^ 32 = 4294967296 from rfl, Nat.mul_comm (2 ^ i), Nat.mul_assoc]
  · subst h
    rw [if_neg (by omega), if_pos (by omega)]
    simp
  · rw [if_neg (by omega), if_neg (by omega), show i + 1 - 32 = (i - 32) + 1 by omega, Nat.mod_pow_succ, show (i + 32) % 64 = i - 32 by omega]
    have : x / 4294967296 / 2 ^ (i - 32) = x / 2 ^ i := by
      rw [Nat.div_div_eq_div_mul, show (4294967296 : Nat) = 2 ^ 32 from rfl, ← Nat.pow_add, show 32 + (i - 32) = i by omega]
    rw [this, Nat.mul_comm (2 ^ (i - 32))]
    omega
theorem turnY_lt {x i : Nat} (_hx : x < 18446744073709551616) (_hi : i ≤ 64) : turnY x i < 18446744073709551616 := by
  unfold turnY
  split
  · rename_i h
    have : x % 2 ^ i < 2 ^ i := Nat.mod_lt _ (Nat.two_pow_pos _)
    have : 2 ^ i ≤ 2 ^ 32 := Nat.pow_le_pow_right (by omega) h
    omega
  · have h1 : x / 4294967296 % 2 ^ (i - 32) ≤ x / 4294967296 := Nat.mod_le _ _
    omega
theorem turnY_64 {x : Nat} (hx : x < 18446744073709551616) : turnY x 64 = x % 4294967296 * 4294967296 + x / 4294967296 := by
  unfold turnY
  rw [if_neg (by omega), Nat.mod_eq_of_lt (a := x / 4294967296) (by omega)]
/-- names -/
def isO (o : Int) : Bool := decide (1 ≤ o) && decide (o ≤ 7)
def nameB (o : Int) : ByteArray :=
  if o = 1 then ⟨#[117, 112]⟩ else if o = 2 then ⟨#[100, 111, 119, 110]⟩ else if o = 3 then ⟨#[115, 105, 122, 101]⟩ else if o = 4 then ⟨#[98, 105, 116, 115]⟩
  else if o = 5 then ⟨#[101, 118, 101, 110]⟩ else if o = 6 then ⟨#[108, 111, 119]⟩ else if o = 7 then ⟨#[109, 105, 120]⟩ else ⟨#[]⟩
theorem isO_cases {o : Int} (h : isO o = true) : o = 1 ∨ o = 2 ∨ o = 3 ∨ o = 4 ∨ o = 5 ∨ o = 6 ∨ o = 7 := by
  simp [isO] at h; omega
theorem name_empty (o : Int) : ((nameB o).toList == (⟨#[]⟩ : ByteArray).toList) = !isO o := by
  rw [ByteArray.toList_eq, ByteArray.toList_eq]
  cases h : isO o
  · have h' : ¬ (1 ≤ o ∧ o ≤ 7) := fun hh => by simp [isO, hh.1, hh.2] at h
    unfold nameB
    rw [if_neg (by omega), if_neg (by omega), if_neg (by omega), if_neg (by omega), if_neg (by omega), if_neg (by omega), if_neg (by omega)]
    rfl
  · rcases isO_cases h with rfl | rfl | rfl | rfl | rfl | rfl | rfl <;> decide
end Go.Sh

namespace Go.Proofs.YtlddfgfmkapoiaaGreat
open Go Go.Sh Go.RowKit

/-! ### mix.Mix: a range over a function -/
def stepsA : Array Value := #[.int .i64 30, .int .u64 13787848793156543929, .int .i64 27, .int .u64 10723151780598845931, .int .i64 31, .int .u64 1]
theorem c_all {w : World} {R : Ending → World → Prop} (h : ∀ w', Ext w w' → R (.returned (.agg stepsA)) w') : Calls Tryz.prog 254 #[] w R := by
  refine sh254_ok ?_
  unfold sh254
  refine ⟨?_⟩
  refine do_st (blk_alloc w _ _) (i := 0) rfl (by decide) fun w1 h1 g1 => ?_
  refine do_st h1 (i := 1) rfl (by decide) fun w2 h2 g2 => ?_
  refine do_st h2 (i := 2) rfl (by decide) fun w3 h3 g3 => ?_
  refine do_st h3 (i := 3) rfl (by decide) fun w4 h4 g4 => ?_
  refine do_st h4 (i := 4) rfl (by decide) fun w5 h5 g5 => ?_
  refine do_st h5 (i := 5) rfl (by decide) fun w6 h6 g6 => ?_
  refine ⟨_, h6.cell (i := 0) rfl rfl, _, h6.cell (i := 1) rfl rfl, _, h6.cell (i := 2) rfl rfl, _, h6.cell (i := 3) rfl rfl, _, h6.cell (i := 4) rfl rfl, _, h6.cell (i := 5) rfl rfl, ?_⟩
  have e := ext_alloc w (.cells #[.int .i64 0, .int .u64 0, .int .i64 0, .int .u64 0, .int .i64 0, .int .u64 0] 320)
  exact h _ ((((((e.st g1 (Nat.le_refl _)).st g2 (Nat.le_refl _)).st g3 (Nat.le_refl _)).st g4 (Nat.le_refl _)).st g5 (Nat.le_refl _)).st g6 (Nat.le_refl _))
theorem c_steps {back : Bool} {w : World} {R : Ending → World → Prop} (h : ∀ b1 b2 w', Ext w w' → w.heap.size ≤ b1 → w.heap.size ≤ b2 → b1 ≠ b2 → Blk w' b1 #[.bool back] 4 → Blk w' b2 stepsA 320 →
    R (.returned (.func (.func 255) #[] #[.pointer (some (blk b1)), .pointer (some (blk b2))])) w') : Calls Tryz.prog 197 #[.bool back] w R := by
  refine sh197_ok _ ?_
  unfold sh197
  refine ⟨?_⟩
  have hb := blk_alloc w #[.bool back] 4
  refine do_call Tryz.call254 (c_all fun w0 e0 => retS_ret ⟨_, _, _, _, _, _, rfl, ⟨?_⟩⟩)
  have E0 := (ext_alloc w (.cells #[.bool back] 4)).trans e0
  have hb0 := (hb.ext e0).ext (ext_alloc w0 (.cells #[.int .i64 0, .int .u64 0, .int .i64 0, .int .u64 0, .int .i64 0, .int .u64 0] 320))
  have hne : w.heap.size ≠ w0.heap.size := by have := (hb.ext e0).lt; omega
  have hle : w.heap.size ≤ w0.heap.size := by have := (hb.ext e0).lt; omega
  refine do_st (blk_alloc w0 _ _) (i := 0) rfl (by decide) fun w1 h1 g1 => ?_
  refine do_st h1 (i := 1) rfl (by decide) fun w2 h2 g2 => ?_
  refine do_st h2 (i := 2) rfl (by decide) fun w3 h3 g3 => ?_
  refine do_st h3 (i := 3) rfl (by decide) fun w4 h4 g4 => ?_
  refine do_st h4 (i := 4) rfl (by decide) fun w5 h5 g5 => ?_
  refine do_st h5 (i := 5) rfl (by decide) fun w6 h6 g6 => ?_
  have hb6 := (((((hb0.grown g1 (ne_some hne)).grown g2 (ne_some hne)).grown g3 (ne_some hne)).grown g4 (ne_some hne)).grown g5 (ne_some hne)).grown g6 (ne_some hne)
  have e := E0.alloc (.cells #[.int .i64 0, .int .u64 0, .int .i64 0, .int .u64 0, .int .i64 0, .int .u64 0] 320)
  exact h _ _ _ ((((((e.st g1 hle).st g2 hle).st g3 hle).st g4 hle).st g5 hle).st g6 hle) (Nat.le_refl _) hle hne hb6 h6
/-- a round of the mixing -/
def stepB (x : BitVec 64) : Nat → BitVec 64
  | 0 => xs 30 x * 13787848793156543929#64
  | 1 => xs 27 x * 10723151780598845931#64
  | _ => xs 31 x * 1#64
def stepsB (x : BitVec 64) : Nat → BitVec 64
  | 0 => x
  | i + 1 => stepB (stepsB x i) i
theorem stepsB_3 (x : BitVec 64) : stepsB x 3 = mixB x := by simp [stepsB, stepB, mixB]
set_option maxRecDepth 20000 in
theorem c_mix {x : BitVec 64} {w : World} {R : Ending → World → Prop} (h : ∀ w', Ext w w' → R (.returned (.int .u64 (U (mixB x)))) w') : Calls Tryz.prog 122 #[.int .u64 (U x)] w R := by
  refine sh122_ok _ ?_
  unfold sh122
  refine ⟨?_⟩
  have hx := blk_alloc w #[.int .u64 (U x)] 75
  refine do_call Tryz.call197 (c_steps fun b1 b2 w1 e1 hb1 hb2 hne h1 h2 => retS_ret ⟨_, _, _, rfl, ⟨fun fn => ?_⟩⟩)
  have hx1 := hx.ext e1
  have E1 := (ext_alloc w (.cells #[.int .u64 (U x)] 75)).trans e1
  have hd : (w1.alloc (.deferred (some []))).heap[w1.heap.size]? = some (.deferred (some [])) := heap_alloc_new _ _
  generalize hrec : mkLoop _ _ _ _ = L
  have hl : ((w1.alloc (.deferred (some []))).alloc (.loop (L fn w1.heap.size))).heap[w1.heap.size + 1]? = some (.loop (L fn w1.heap.size)) := by
    have := heap_alloc_new (w1.alloc (.deferred (some []))) (.loop (L fn w1.heap.size))
    simpa using this
  have e2 := (ext_alloc w1 (.deferred (some []))).trans (ext_alloc _ (.loop (L fn w1.heap.size)))
  have hd := (ext_alloc _ (.loop (L fn w1.heap.size))).heap hd
  have hE : w.heap.size < w1.heap.size := hx1.lt
  have hl1 := h1.lt
  have hl2 := h2.lt
  have hx2 := hx1.ext e2
  have h1 := h1.ext e2
  have h2 := h2.ext e2
  have E2 := E1.trans e2
  simp at hb1 hb2
  generalize (w1.alloc (.deferred (some []))).alloc (.loop (L fn w1.heap.size)) = w2 at hd hl hx2 h1 h2 E2 ⊢
  generalize hsz : w1.heap.size = d at *
  clear e1 hx1 e2 E1 hx
  have hst : (L fn d).state = .ready ∧ (L fn d).pending = none := by rw [← hrec]; exact ⟨rfl, rfl⟩
  refine callE_c Tryz.call255 (by rfl) (sh255_ok _ _ _ _ _ ?_)
  unfold sh255
  refine ⟨fun vs w' => ∃ i : Nat, vs = [.int .i64 i] ∧ i ≤ 3 ∧ Ext w w' ∧ w'.heap[d]? = some (.deferred (some [])) ∧ w'.heap[d + 1]? = some (.loop (L fn d)) ∧ Blk w' b1 #[.bool false] 4 ∧ Blk w' b2 stepsA 320 ∧
      Blk w' w.heap.size #[.int .u64 (U (stepsB x i))] 75, fun vs _ => 3 - (intOf (vs.getD 0 undef)).toNat, ⟨0, rfl, by omega, E2, hd, hl, h1, h2, hx2⟩, ?_⟩
  clear hd hl h1 h2 hx2 E2
  rintro i j w3 ⟨m, hm, hm3, E3, hd, hl, h1, h2, hx⟩
  simp only [List.cons.injEq, Value.int.injEq, true_and, and_true] at hm
  obtain rfl := hm
  refine ifB_intro (fun hlt => ?_) fun hge => ?_
  · have hlt : m < 3 := by have := of_decide_eq_true hlt; omega
    refine ⟨_, h1.cell (i := 0) rfl rfl, ifB_f rfl ?_⟩
    have hA : ∃ (s : Nat) (c : BitVec 64), stepsA[2 * m]? = some (.int .i64 s) ∧ stepsA[2 * m + 1]? = some (.int .u64 (U c)) ∧ s ≤ 64 ∧ stepsB x (m + 1) = xs s (stepsB x m) * c := by
      rcases m with _ | _ | _ | m
      · exact ⟨30, 13787848793156543929#64, rfl, rfl, by omega, rfl⟩
      · exact ⟨27, 10723151780598845931#64, rfl, rfl, by omega, rfl⟩
      · exact ⟨31, 1#64, rfl, rfl, by omega, rfl⟩
      · omega
    obtain ⟨s, c, hs, hc, hs64, hst'⟩ := hA
    have ha : ∀ k, ((blk b2).add ((m : Int).toNat * 2)).add k = ⟨b2, 2 * m + k, none⟩ := fun k => by rw [add_blk]; simp only [Addr.add]; split <;> simp <;> omega
    refine ⟨_, rfl, by omega, by omega, _, h2.cell (ha 0) hs, _, h2.cell (ha 1) hc, ?_⟩
    refine sh122_0_ok (by rw [hl, ← hrec]) ?_
    unfold sh122_0
    refine ⟨?_⟩
    have hw3 := hx.lt
    have hd3 := (Array.getElem?_eq_some_iff.1 hl).1
    refine do_st (blk_alloc w3 _ _) (i := 0) rfl (by simp) fun w5 h5 g5 => do_st h5 (i := 1) rfl (by simp) fun w6 h6 g6 => ?_
    have e6 : Ext w3 w6 := ((ext_alloc w3 _).st g5 (Nat.le_refl _)).st g6 (Nat.le_refl _)
    refine ⟨_, e6.heap hl, hst.1, ?_⟩
    have g7 := put_grown w6 (d + 1) (.loop { L fn d with state := .busy })
    have hl7 := put_heap (o' := .loop { L fn d with state := .busy }) (e6.heap hl)
    have hx7 := (hx.ext e6).grown g7 (ne_some (by omega))
    have h17 := (h1.ext e6).grown g7 (ne_some (by omega))
    have h27 := (h2.ext e6).grown g7 (ne_some (by omega))
    have hd7 := heap_grown g7 (e6.heap hd) (ne_some (by omega))
    have h67 := h6.grown g7 (ne_some (by omega))
    have E7 := (E3.trans e6).st g7 (by omega)
    generalize w6.putObj (d + 1) (.loop { L fn d with state := .busy }) = w7 at hl7 hx7 h17 h27 hd7 h67 E7 ⊢
    refine ⟨⟨fun w' => Ext w7 w', ext_drew _, ?_⟩⟩
    refine ⟨_, fun w' e' => (hx7.ext e').cell (i := 0) rfl rfl, _, fun w' e' => (hx7.ext e').cell (i := 0) rfl rfl, _, fun w' e' => (h67.ext e').cell (i := 0) rfl rfl, by omega, _, fun w' e' => (h67.ext e').cell (i := 1) rfl rfl, ?_⟩
    rw [shr_U _ s hs64, bXor_U, mul_U]
    refine do_st (w := w7.drew) (b := w.heap.size) hx7 (i := 0) rfl (by simp) fun w8 h8 g8 => ?_
    have hl8 := heap_grown (w := w7.drew) g8 hl7 (ne_some (by omega))
    refine ⟨_, hl8, ?_⟩
    rw [rec_back hst.1 hst.2]
    have g9 := put_grown w8 (d + 1) (.loop (L fn d))
    refine retS_ret ⟨_, rfl, ifB_f rfl ⟨⟨m + 1, by rw [wrap_succ hlt (by omega)], by omega, ?_, ?_, put_heap hl8, ?_, ?_, ?_⟩, ?_⟩⟩
    · exact (E7.drew.st g8 (Nat.le_refl _)).st g9 (by omega)
    · exact heap_grown g9 (heap_grown (w := w7.drew) g8 hd7 (ne_some (by omega))) (ne_some (by omega))
    · exact (Blk.grown (w := w7.drew) h17 g8 (ne_some (by omega))).grown g9 (ne_some (by omega))
    · exact (Blk.grown (w := w7.drew) h27 g8 (ne_some (by omega))).grown g9 (ne_some (by omega))
    · have : stepsB x (m + 1) = (xs s (stepsB x m)) * c := hst'
      rw [this]
      exact h8.grown g9 (ne_some (by omega))
    · rw [wrap_succ hlt (by omega)]
      simp [intOf]; omega
  · have hge : m = 3 := by have := of_decide_eq_false hge; omega
    subst hge
    rw [← stepsB_3] at h
    have hd3 := (Array.getElem?_eq_some_iff.1 hl).1
    refine rf_done hl (by rw [hst.1]; simp) hst.2 fun o => ?_
    have g9 := put_grown w3 (d + 1) o
    exact ⟨_, (hx.grown g9 (ne_some (by omega))).cell (i := 0) rfl rfl, heap_grown g9 hd (ne_some (by omega)), h _ ((E3.st g9 (by omega)).put (by omega) _)⟩

/-! ### bits -/
theorem c_revBytes {x : BitVec 64} {w : World} {R : Ending → World → Prop} (h : R (.returned (.int .u64 (U (revBytes x)))) w) : Calls Tryz.prog 344 #[.int .u64 (U x)] w R := by
  refine sh344_ok _ ?_
  unfold sh344
  refine ⟨by omega, by omega, by omega, by omega, by omega, by omega, ?_⟩
  simp only [shr_8, shr_16, shr_32, and_d, and_e, shl_8, shl_16, shl_32, bOr_U]
  exact h
theorem c_rev64 {x : BitVec 64} {w : World} {R : Ending → World → Prop} (h : R (.returned (.int .u64 (U (revB x)))) w) : Calls Tryz.prog 328 #[.int .u64 (U x)] w R := by
  refine sh328_ok _ ?_
  unfold sh328
  refine ⟨by omega, by omega, by omega, by omega, by omega, by omega, ?_⟩
  simp only [shr_1, shr_2, shr_4, and_a, and_b, and_c, shl_1, shl_2, shl_4, bOr_U]
  exact do_call Tryz.call344 (c_revBytes (retS_ret ⟨_, rfl, h⟩))
theorem c_flip {x : BitVec 64} {w : World} {R : Ending → World → Prop} (h : R (.returned (.int .u64 (U (revB x)))) w) : Calls Tryz.prog 287 #[.int .u64 (U x)] w R := by
  refine sh287_ok _ ?_
  unfold sh287
  exact do_call Tryz.call328 (c_rev64 (retS_ret ⟨_, rfl, h⟩))
theorem c_rotl {x : BitVec 64} {k : Int} {s : Nat} (hs : s < 64) (hk : bAnd .u64 (IntKind.wrap .u64 k) 63 = (s : Int)) {w : World} {R : Ending → World → Prop}
    (h : R (.returned (.int .u64 (U ((x <<< s) ||| (x >>> (64 - s)))))) w) : Calls Tryz.prog 198 #[.int .u64 (U x), .int .i64 k] w R := by
  refine sh198_ok _ _ ?_
  unfold sh198
  have e : IntKind.wrap .u64 (64 - (s : Int)) = ((64 - s : Nat) : Int) := by rw [wrap64u]; omega
  rw [hk, e]
  refine ⟨by omega, by omega, ?_⟩
  rw [shl_U x s (by omega), shr_U x (64 - s) (by omega), bOr_U]
  exact h
theorem c_turn {x : BitVec 64} {n : Int} {s : Nat} (hs : s < 64) (hk : bAnd .u64 (IntKind.wrap .u64 (Int.tmod n 64)) 63 = (s : Int)) {w : World} {R : Ending → World → Prop}
    (h : R (.returned (.int .u64 (U ((x <<< s) ||| (x >>> (64 - s)))))) w) : Calls Tryz.prog 124 #[.int .u64 (U x), .int .i64 n] w R := by
  refine sh124_ok _ _ ?_
  unfold sh124
  exact ⟨by omega, do_call Tryz.call198 (c_rotl hs hk (retS_ret ⟨_, rfl, h⟩))⟩

/-! ### the codes -/
theorem c_up {k : Int} (hk : In k) {w : World} {R : Ending → World → Prop} (h : R (.returned (.int .u64 (upI k))) w) : Calls Tryz.prog 280 #[.int .i64 k] w R := by
  refine sh280_ok _ ?_
  unfold sh280
  rw [upB_U hk]
  exact h
theorem up_U {k : Int} (hk : In k) : upI k = U (BitVec.ofInt 64 (upI k)) := by
  rw [U_ofInt]; unfold upI In at *; omega
def kd (nm : ByteArray) (f g : Nat) : Value := .agg #[.string nm, .func (.func f) #[] #[], .func (.func g) #[] #[]]
def orderEs : Array MapEntry := #[
  { key := .int .u8 1, val := kd ⟨#[117, 112]⟩ 280 281, born := 0 },
  { key := .int .u8 2, val := kd ⟨#[100, 111, 119, 110]⟩ 282 283, born := 1 },
  { key := .int .u8 3, val := kd ⟨#[115, 105, 122, 101]⟩ 284 285, born := 2 },
  { key := .int .u8 4, val := kd ⟨#[98, 105, 116, 115]⟩ 286 288, born := 3 },
  { key := .int .u8 5, val := kd ⟨#[101, 118, 101, 110]⟩ 289 290, born := 4 },
  { key := .int .u8 6, val := kd ⟨#[108, 111, 119]⟩ 291 292, born := 5 },
  { key := .int .u8 7, val := kd ⟨#[109, 105, 120]⟩ 293 294, born := 6 }]
theorem c_okinds {w : World} {R : Ending → World → Prop} (h : ∀ b w', Ext w w' → w'.heap[b]? = some (.map orderEs 7) → R (.returned (.map (some b))) w') : Calls Tryz.prog 235 #[] w R := by
  refine sh235_ok ?_
  unfold sh235
  refine ⟨?_⟩
  refine do_mu_new Tryz.underlying300 Tryz.underlying5 (heap_alloc_new w _) (by rfl) (by rfl) fun w1 h1 g1 => ?_
  refine do_mu_new Tryz.underlying300 Tryz.underlying5 h1 (by rfl) (by rfl) fun w2 h2 g2 => ?_
  refine do_mu_new Tryz.underlying300 Tryz.underlying5 h2 (by rfl) (by rfl) fun w3 h3 g3 => ?_
  refine do_mu_new Tryz.underlying300 Tryz.underlying5 h3 (by rfl) (by rfl) fun w4 h4 g4 => ?_
  refine do_mu_new Tryz.underlying300 Tryz.underlying5 h4 (by rfl) (by rfl) fun w5 h5 g5 => ?_
  refine do_mu_new Tryz.underlying300 Tryz.underlying5 h5 (by rfl) (by rfl) fun w6 h6 g6 => ?_
  refine do_mu_new Tryz.underlying300 Tryz.underlying5 h6 (by rfl) (by rfl) fun w7 h7 g7 => ?_
  have e := ext_alloc w (.map #[] 0)
  exact h _ _ (((((((e.st g1 (Nat.le_refl _)).st g2 (Nat.le_refl _)).st g3 (Nat.le_refl _)).st g4 (Nat.le_refl _)).st g5 (Nat.le_refl _)).st g6 (Nat.le_refl _)).st g7 (Nat.le_refl _)) h7
theorem find_order {o : Int} (h : isO o = true) : ∃ i f g, Instr.findNow (.int .u8) (.int .u8 o) orderEs.toList 0 = some (some (i, kd (nameB o) f g)) ∧
    ∀ (k : Int), In k → ∀ (w : World) (R : Ending → World → Prop), (∀ w', Ext w w' → R (.returned (.int .u64 (codeI o k))) w') → doCall Tryz.prog (.func (.func f) #[] #[]) #[.int .i64 k] w R := by
  rcases isO_cases h with rfl | rfl | rfl | rfl | rfl | rfl | rfl
  · exact ⟨0, 280, 281, rfl, fun k hk w R h => do_call Tryz.call280 (c_up hk (h _ (ext_refl _)))⟩
  · refine ⟨1, 282, 283, rfl, fun k hk w R h => do_call Tryz.call282 (sh282_ok _ ?_)⟩
    unfold sh282
    refine do_call Tryz.call280 (c_up hk (retS_ret ⟨_, rfl, ?_⟩))
    rw [not_U (by unfold upI In at *; omega) (by unfold upI In at *; omega)]
    exact h _ (ext_refl _)
  · refine ⟨2, 284, 285, rfl, fun k hk w R h => do_call Tryz.call284 (sh284_ok _ ?_)⟩
    unfold sh284
    refine ⟨by omega, by omega, ?_⟩
    rw [size_U hk]
    exact h _ (ext_refl _)
  · refine ⟨3, 286, 288, rfl, fun k hk w R h => do_call Tryz.call286 (sh286_ok _ ?_)⟩
    unfold sh286
    rw [wrap_U]
    exact do_call Tryz.call287 (c_flip (retS_ret ⟨_, rfl, h _ (ext_refl _)⟩))
  · refine ⟨4, 289, 290, rfl, fun k hk w R h => do_call Tryz.call289 (sh289_ok _ ?_)⟩
    unfold sh289
    refine do_call Tryz.call280 (c_up hk (retS_ret ⟨_, rfl, ?_⟩))
    have hu := up_U hk
    rw [hu]
    refine do_call Tryz.call124 (c_turn (s := 63) (by omega) (by decide) (retS_ret ⟨_, rfl, ?_⟩))
    have := h _ (ext_refl _)
    have e : U ((BitVec.ofInt 64 (upI k)) <<< 63 ||| (BitVec.ofInt 64 (upI k)) >>> (64 - 63)) = codeI 5 k := by
      rw [rot_U _ (by omega) (by omega)]
      have hn : ((BitVec.ofInt 64 (upI k)).toNat : Int) = upI k := hu.symm
      simp only [codeI]
      simp
      unfold upI In at *
      split <;> omega
    rw [e]; exact this
  · refine ⟨5, 291, 292, rfl, fun k hk w R h => do_call Tryz.call291 (sh291_ok _ ?_)⟩
    unfold sh291
    refine do_call Tryz.call280 (c_up hk (retS_ret ⟨_, rfl, ?_⟩))
    have hu := up_U hk
    rw [hu]
    refine do_call Tryz.call124 (c_turn (s := 32) (by omega) (by decide) (retS_ret ⟨_, rfl, ?_⟩))
    have := h _ (ext_refl _)
    have e : U ((BitVec.ofInt 64 (upI k)) <<< 32 ||| (BitVec.ofInt 64 (upI k)) >>> (64 - 32)) = codeI 6 k := by
      rw [rot_U _ (by omega) (by omega)]
      have hn : ((BitVec.ofInt 64 (upI k)).toNat : Int) = upI k := hu.symm
      simp only [codeI]
      simp
      unfold upI In at *
      omega
    rw [e]; exact this
  · refine ⟨6, 293, 294, rfl, fun k hk w R h => do_call Tryz.call293 (sh293_ok _ ?_)⟩
    unfold sh293
    rw [wrap_U]
    exact do_call Tryz.call122 (c_mix fun w' e => retS_ret ⟨_, rfl, h _ e⟩)
theorem find_order_none {o : Int} (h : isO o = false) : Instr.findNow (.int .u8) (.int .u8 o) orderEs.toList 0 = some none := by
  have hn : ∀ i : Int, 1 ≤ i → i ≤ 7 → (o == i) = false := fun i h1 h2 => by
    simp [isO] at h
    simp; omega
  simp [orderEs, Instr.findNow, Instr.sameNow, hn]
theorem c_name {o : Int} {w : World} {R : Ending → World → Prop} (h : ∀ w', Ext w w' → R (.returned (.string (nameB o))) w') : Calls Tryz.prog 172 #[.int .u8 o] w R := by
  refine sh172_ok _ ?_
  unfold sh172
  refine do_call Tryz.call235 (c_okinds fun b w1 e1 hb => retS_ret ⟨_, rfl, ?_⟩)
  cases hm : isO o
  · refine do_lk1_miss Tryz.underlying300 Tryz.underlying5 hb (by rfl) (find_order_none hm) (z := .agg #[.string ⟨#[]⟩, .nilFunc, .nilFunc]) (by kernel_rfl) (.inr ⟨rfl, ?_⟩)
    have : nameB o = ⟨#[]⟩ := by
      simp [isO] at hm
      unfold nameB
      rw [if_neg (by omega), if_neg (by omega), if_neg (by omega), if_neg (by omega), if_neg (by omega), if_neg (by omega), if_neg (by omega)]
    exact this ▸ h _ e1
  · obtain ⟨i, f, g, hf, hc⟩ := find_order hm
    exact do_lk1_hit Tryz.underlying300 Tryz.underlying5 hb (by rfl) hf (.inl ⟨_, _, _, _, _, _, _, rfl, h _ e1⟩)
theorem c_code {o k : Int} (hk : In k) {w : World} {R : Ending → World → Prop} (h : ∀ w', Ext w w' → R (.returned (.tuple #[.int .u64 (cond (isO o) (codeI o k) 0), .int .i64 (cond (isO o) 0 2)])) w') :
    Calls Tryz.prog 215 #[.int .u8 o, .int .i64 k] w R := by
  refine sh215_ok _ _ ?_
  unfold sh215
  refine do_call Tryz.call235 (c_okinds fun b w1 e1 hb => retS_ret ⟨_, rfl, ?_⟩)
  cases hm : isO o <;> simp only [hm] at h
  · refine do_lk_miss Tryz.underlying300 Tryz.underlying5 hb (by rfl) (find_order_none hm) (z := .agg #[.string ⟨#[]⟩, .nilFunc, .nilFunc]) (by kernel_rfl) (.inr ⟨rfl, ⟨?_⟩⟩)
    refine do_st (blk_alloc w1 _ _) (i := 0) rfl (by simp) fun w2 h2 g2 => do_st h2 (i := 1) rfl (by simp) fun w3 h3 g3 => do_st h3 (i := 2) rfl (by simp) fun w4 h4 g4 => ?_
    exact h _ ((((e1.alloc _).st g2 e1.size).st g3 e1.size).st g4 e1.size)
  · obtain ⟨i, f, g, hf, hc⟩ := find_order hm
    refine do_lk_hit Tryz.underlying300 Tryz.underlying5 hb (by rfl) hf (.inl ⟨_, _, _, _, _, _, _, _, rfl, ⟨?_⟩⟩)
    refine do_st (blk_alloc w1 _ _) (i := 0) rfl (by simp) fun w2 h2 g2 => do_st h2 (i := 1) rfl (by simp) fun w3 h3 g3 => do_st h3 (i := 2) rfl (by simp) fun w4 h4 g4 => ?_
    have E4 := (((e1.alloc (.cells #[.string ⟨#[]⟩, .nilFunc, .nilFunc] 299)).st g2 e1.size).st g3 e1.size).st g4 e1.size
    exact ⟨_, _, _, h4.cell (i := 1) rfl rfl, hc k hk _ _ fun w5 e5 => retS_ret ⟨_, rfl, h _ (E4.trans e5)⟩⟩
theorem c_cmp64 {x y : Int} {w : World} {R : Ending → World → Prop} (h : R (.returned (.int .i64 (if x < y then -1 else if y < x then 1 else 0))) w) : Calls Tryz.prog 217 #[.int .u64 x, .int .u64 y] w R := by
  have nan : ∀ x : Int, ∀ {w : World} {R : Ending → World → Prop}, R (.returned (.bool false)) w → Calls Tryz.prog 264 #[.int .u64 x] w R := fun x w R h => sh264_ok _ (by
    unfold sh264
    rw [show (x != x) = false by simp]; exact h)
  refine sh217_ok _ _ ?_
  unfold sh217
  refine do_call Tryz.call264 (nan _ (retS_ret ⟨_, rfl, do_call Tryz.call264 (nan _ (retS_ret ⟨_, rfl, ifB_f rfl (ifB_f rfl ?_)⟩))⟩))
  refine ifB_intro (fun h1 => ?_) fun h1 => ifB_intro (fun h2 => ?_) fun h2 => ?_
  · rw [if_pos (of_decide_eq_true h1)] at h; exact h
  · rw [if_neg (of_decide_eq_false h1), if_pos (of_decide_eq_true h2)] at h; exact h
  · rw [if_neg (of_decide_eq_false h1), if_neg (of_decide_eq_false h2)] at h; exact h
theorem c_compare {o a b : Int} (ha : In a) (hb : In b) {w : World} {R : Ending → World → Prop} (h : ∀ w', Ext w w' → R (.returned (.int .i64 (cmpI o a b))) w') :
    Calls Tryz.prog 176 #[.int .u8 o, .int .i64 a, .int .i64 b] w R := by
  refine sh176_ok _ _ _ ?_
  unfold sh176
  refine do_call Tryz.call215 (c_code ha fun w1 e1 => retS_ret ⟨_, _, rfl, do_call Tryz.call215 (c_code hb fun w2 e2 => retS_ret ⟨_, _, rfl, ?_⟩)⟩)
  cases hm : isO o
  · refine ifB_t rfl ?_
    have : cmpI o a b = 0 := by simp [isO] at hm; unfold cmpI; rw [if_neg (by omega)]
    exact this ▸ h _ (e1.trans e2)
  · have : cmpI o a b = (if codeI o a < codeI o b then -1 else if codeI o b < codeI o a then 1 else 0) := by simp [isO] at hm; unfold cmpI; rw [if_pos hm]
    exact ifB_f rfl (do_call Tryz.call217 (c_cmp64 (retS_ret ⟨_, rfl, this ▸ h _ (e1.trans e2)⟩)))

/-! ### the reference -/
theorem c_ris {o : Int} {w : World} {R : Ending → World → Prop} (h : R (.returned (.bool (isO o))) w) : Calls Tryz.prog 16 #[.int .u8 o] w R := by
  refine sh16_ok _ ?_
  unfold sh16
  unfold isO at h
  refine ifB_intro (fun h1 => ?_) fun h1 => ?_
  · have h1 : 1 ≤ o := by simpa using h1
    simpa [h1] using h
  · have h1 : ¬ 1 ≤ o := by simpa using h1
    simpa [h1] using h
theorem c_rup {k : Int} (hk : In k) {w : World} {R : Ending → World → Prop} (h : R (.returned (.int .u64 (upI k))) w) : Calls Tryz.prog 208 #[.int .i64 k] w R := by
  refine sh208_ok _ ?_
  unfold sh208
  rw [upR_U hk]
  exact h
theorem c_rflip {x : BitVec 64} {w : World} {R : Ending → World → Prop} (h : R (.returned (.int .u64 (U (revB x)))) w) : Calls Tryz.prog 209 #[.int .u64 (U x)] w R := by
  refine sh209_ok _ ?_
  unfold sh209
  refine ⟨fun vs w' => ∃ (i : Nat) (a b : BitVec 64), vs = [.int .u64 (U a), .int .u64 (U b), .int .i64 i] ∧ i ≤ 64 ∧ FlipI x i a b ∧ w' = w, fun vs _ => 64 - (intOf (vs.getD 2 undef)).toNat,
    ⟨0, x, 0#64, rfl, by omega, flipI_init x, rfl⟩, ?_⟩
  rintro a b i j w3 ⟨m, a', b', hv, hm, hf, rfl⟩
  simp only [List.cons.injEq, Value.int.injEq, true_and, and_true] at hv
  obtain ⟨rfl, rfl, rfl⟩ := hv
  refine ifB_intro (fun h1 => ?_) fun h1 => ?_
  · have h1 : m < 64 := by have := of_decide_eq_true h1; omega
    refine ⟨by omega, by omega, ?_⟩
    rw [tdiv2_U, tmod2_U, mul2_U, add_U, wrap_succ h1 (by omega)]
    exact ⟨⟨m + 1, _, _, rfl, by omega, flipI_step h1 hf, rfl⟩, by simp [intOf]; omega⟩
  · have h1 : m = 64 := by have := of_decide_eq_false h1; omega
    subst h1
    rw [rev_eq (flipI_rev hf) (revB_rev x)]
    exact h
theorem c_rturn {x : Nat} (hx : x < 18446744073709551616) {w : World} {R : Ending → World → Prop} (h : R (.returned (.int .u64 ((x % 4294967296 * 4294967296 + x / 4294967296 : Nat) : Int))) w) : Calls Tryz.prog 132 #[.int .u64 (x : Int), .int .i64 32] w R := by
  refine sh132_ok _ _ ?_
  unfold sh132
  rw [← turnY_64 hx] at h
  refine ⟨by omega, by omega, fun vs w' => ∃ i : Nat, vs = [.int .u64 ((turnY x i : Nat) : Int), .int .i64 i] ∧ i ≤ 64 ∧ w' = w, fun vs _ => 64 - (intOf (vs.getD 1 undef)).toNat,
    ⟨0, by simp [turnY, Nat.mod_one], by omega, rfl⟩, ?_⟩
  rintro y i j w3 ⟨m, hv, hm, rfl⟩
  simp only [List.cons.injEq, Value.int.injEq, true_and, and_true] at hv
  obtain ⟨rfl, rfl⟩ := hv
  refine ifB_intro (fun h1 => ?_) fun h1 => ?_
  · have h1 : m < 64 := by have := of_decide_eq_true h1; omega
    have e1 : Int.tmod (IntKind.wrap .i64 (Int.tmod 32 64 + 64)) 64 = 32 := by decide
    have e2 : IntKind.wrap .i64 ((m : Int) + 32) = ((m + 32 : Nat) : Int) := by rw [wrap_of (by omega) (by omega)]; simp
    have e3 : IntKind.wrap .u64 (Int.tmod ((m + 32 : Nat) : Int) 64) = (((m + 32) % 64 : Nat) : Int) := by
      rw [wrap64u, Int.tmod_eq_emod_of_nonneg (by omega)]; omega
    have e4 : IntKind.wrap .u64 (m : Int) = (m : Int) := by rw [wrap64u]; omega
    rw [e1, e2, e3, e4, wrap_succ h1 (by omega)]
    refine ⟨by omega, by omega, by omega, by omega, ?_⟩
    have e5 : Int.fdiv (x : Int) (2 ^ (min ((m : Nat) : Int).toNat (IntKind.bits .u64))) = ((x / 2 ^ m : Nat) : Int) := by
      rw [bits_u64, Int.toNat_natCast, Nat.min_eq_left (by omega), Int.fdiv_eq_ediv_of_nonneg _ (Int.pow_nonneg (by omega))]
      simp
    have e6 : Int.tmod ((x / 2 ^ m : Nat) : Int) 2 = ((x / 2 ^ m % 2 : Nat) : Int) := by
      generalize x / 2 ^ m = q
      rw [Int.tmod_eq_emod_of_nonneg (by omega)]; omega
    have hlt : x / 2 ^ m % 2 * 2 ^ ((m + 32) % 64) < 18446744073709551616 := by
      have h2 : x / 2 ^ m % 2 ≤ 1 := by omega
      have h3 : 2 ^ ((m + 32) % 64) ≤ 2 ^ 63 := Nat.pow_le_pow_right (by omega) (by omega)
      have := Nat.mul_le_mul h2 h3
      omega
    have e7 : IntKind.wrap .u64 (((x / 2 ^ m % 2 : Nat) : Int) * 2 ^ (min (((m + 32) % 64 : Nat) : Int).toNat (IntKind.bits .u64))) = ((x / 2 ^ m % 2 * 2 ^ ((m + 32) % 64) : Nat) : Int) := by
      rw [bits_u64, Int.toNat_natCast, Nat.min_eq_left (by omega), wrap64u]
      have : (((x / 2 ^ m % 2 : Nat) : Int) * 2 ^ ((m + 32) % 64)) = ((x / 2 ^ m % 2 * 2 ^ ((m + 32) % 64) : Nat) : Int) := by simp
      rw [this]
      generalize x / 2 ^ m % 2 * 2 ^ ((m + 32) % 64) = q at hlt ⊢
      omega
    have e8 : IntKind.wrap .u64 (((turnY x m : Nat) : Int) + ((x / 2 ^ m % 2 * 2 ^ ((m + 32) % 64) : Nat) : Int)) = ((turnY x (m + 1) : Nat) : Int) := by
      have h2 := turnY_step (x := x) h1
      have h3 := turnY_lt hx (show m + 1 ≤ 64 by omega)
      rw [h2] at h3 ⊢
      rw [wrap64u]
      generalize x / 2 ^ m % 2 * 2 ^ ((m + 32) % 64) = q at h3 ⊢
      omega
    rw [e5, e6, e7, e8]
    exact ⟨⟨m + 1, rfl, by omega, rfl⟩, by simp [intOf]; omega⟩
  · have h1 : m = 64 := by have := of_decide_eq_false h1; omega
    subst h1
    exact h
theorem c_rmix {x : BitVec 64} {w : World} {R : Ending → World → Prop} (h : R (.returned (.int .u64 (U (mixB x)))) w) : Calls Tryz.prog 131 #[.int .u64 (U x)] w R := by
  refine sh131_ok _ ?_
  unfold sh131
  refine ⟨by omega, by omega, by omega, ?_⟩
  have d1 : ∀ x : BitVec 64, IntKind.wrap .u64 (Int.tdiv (U x) 1073741824) = U (x >>> 30) := fun x => tdiv_U x 30
  have d2 : ∀ x : BitVec 64, IntKind.wrap .u64 (Int.tdiv (U x) 134217728) = U (x >>> 27) := fun x => tdiv_U x 27
  have d3 : ∀ x : BitVec 64, IntKind.wrap .u64 (Int.tdiv (U x) 2147483648) = U (x >>> 31) := fun x => tdiv_U x 31
  have m1 : ∀ x : BitVec 64, IntKind.wrap .u64 (U x * 13787848793156543929) = U (x * 13787848793156543929#64) := fun x => mul_U x 13787848793156543929#64
  have m2 : ∀ x : BitVec 64, IntKind.wrap .u64 (U x * 10723151780598845931) = U (x * 10723151780598845931#64) := fun x => mul_U x 10723151780598845931#64
  simp only [d1, bXor_U, m1, d2, m2, d3]
  exact h
theorem c_rcode {o k : Int} (ho : isO o = true) (hk : In k) {w : World} {R : Ending → World → Prop} (h : R (.returned (.int .u64 (codeI o k))) w) : Calls Tryz.prog 150 #[.int .u8 o, .int .i64 k] w R := by
  refine sh150_ok _ _ ?_
  unfold sh150
  have hr := codeI_rng (o := o) hk
  rcases isO_cases ho with rfl | rfl | rfl | rfl | rfl | rfl | rfl
  · exact ifB_t rfl (do_call Tryz.call208 (c_rup hk (retS_ret ⟨_, rfl, h⟩)))
  · refine ifB_f rfl (ifB_t rfl (do_call Tryz.call208 (c_rup hk (retS_ret ⟨_, rfl, ?_⟩))))
    rw [wrap64u, Int.emod_eq_of_lt (by unfold upI In at *; omega) (by unfold upI In at *; omega)]
    exact h
  · refine ifB_f rfl (ifB_f rfl (ifB_t rfl (ifB_intro (fun h1 => ?_) fun h1 => ?_)))
    · have h1 := of_decide_eq_true h1
      have e : IntKind.wrap .u64 (IntKind.wrap .u64 (IntKind.wrap .u64 (IntKind.wrap .i64 (0 - IntKind.wrap .i64 (k + 1))) * 2) + 1) = codeI 3 k := by
        unfold In at hk
        rw [wrap_of (x := k + 1) (by omega) (by omega), wrap_of (by omega) (by omega), wrap64u, wrap64u, wrap64u]
        simp only [codeI]; simp [h1]; omega
      rw [e]; exact h
    · have h1 := of_decide_eq_false h1
      have e : IntKind.wrap .u64 (IntKind.wrap .u64 k * 2) = codeI 3 k := by
        unfold In at hk
        rw [wrap64u, wrap64u]
        simp only [codeI]; simp [h1]; omega
      rw [e]; exact h
  · refine ifB_f rfl (ifB_f rfl (ifB_f rfl (ifB_t rfl ?_)))
    rw [wrap_U]
    exact do_call Tryz.call209 (c_rflip (retS_ret ⟨_, rfl, h⟩))
  · refine ifB_f rfl (ifB_f rfl (ifB_f rfl (ifB_f rfl (ifB_t rfl (do_call Tryz.call208 (c_rup hk (retS_ret ⟨_, rfl, by omega, by omega, ?_⟩)))))))
    have ht : Int.tdiv (upI k) 2 = upI k / 2 := Int.tdiv_eq_ediv_of_nonneg (by unfold upI In at *; omega)
    have hm : Int.tmod (IntKind.wrap .u64 k) 2 = k % 2 := by
      rw [wrap64u, Int.tmod_eq_emod_of_nonneg (by omega)]; omega
    rw [hm, ht]
    refine ifB_intro (fun h1 => ?_) fun h1 => ?_
    · have h1 : k % 2 = 1 := by simpa using h1
      have e : IntKind.wrap .u64 (IntKind.wrap .u64 (upI k / 2) + 9223372036854775808) = codeI 5 k := by
        unfold In at hk
        rw [wrap64u, wrap64u]
        simp only [codeI]; simp [h1]; unfold upI; omega
      rw [e]; exact h
    · have h1 : ¬ k % 2 = 1 := by simpa using h1
      have e : IntKind.wrap .u64 (upI k / 2) = codeI 5 k := by
        unfold In at hk
        rw [wrap64u]
        simp only [codeI]; simp [h1]; unfold upI; omega
      rw [e]; exact h
  · refine ifB_f rfl (ifB_f rfl (ifB_f rfl (ifB_f rfl (ifB_f rfl (ifB_t rfl (do_call Tryz.call208 (c_rup hk (retS_ret ⟨_, rfl, ?_⟩))))))))
    obtain ⟨x, hx⟩ : ∃ x : Nat, upI k = (x : Int) := ⟨(upI k).toNat, by unfold upI In at *; omega⟩
    rw [hx]
    refine do_call Tryz.call132 (c_rturn (by unfold upI In at *; omega) (retS_ret ⟨_, rfl, ?_⟩))
    have e : ((x % 4294967296 * 4294967296 + x / 4294967296 : Nat) : Int) = codeI 6 k := by
      simp only [codeI]; simp; rw [hx]
    rw [e]; exact h
  · refine ifB_f rfl (ifB_f rfl (ifB_f rfl (ifB_f rfl (ifB_f rfl (ifB_f rfl ?_)))))
    rw [wrap_U]
    exact do_call Tryz.call131 (c_rmix (retS_ret ⟨_, rfl, h⟩))
theorem c_rcompare {o a b : Int} (ha : In a) (hb : In b) {w : World} {R : Ending → World → Prop} (h : R (.returned (.int .i64 (cmpI o a b))) w) :
    Calls Tryz.prog 79 #[.int .u8 o, .int .i64 a, .int .i64 b] w R := by
  refine sh79_ok _ _ _ ?_
  unfold sh79
  refine do_call Tryz.call16 (c_ris (retS_ret ⟨_, rfl, ?_⟩))
  cases hm : isO o
  · refine ifB_t rfl ?_
    have : cmpI o a b = 0 := by simp [isO] at hm; unfold cmpI; rw [if_neg (by omega)]
    exact this ▸ h
  · have hc : cmpI o a b = (if codeI o a < codeI o b then -1 else if codeI o b < codeI o a then 1 else 0) := by simp [isO] at hm; unfold cmpI; rw [if_pos hm]
    refine ifB_f rfl (do_call Tryz.call150 (c_rcode hm ha (retS_ret ⟨_, rfl, do_call Tryz.call150 (c_rcode hm hb (retS_ret ⟨_, rfl, ?_⟩))⟩)))
    refine ifB_intro (fun h1 => ?_) fun h1 => ?_
    · have h1 : codeI o a = codeI o b := by simpa using h1
      rw [hc, if_neg (by omega), if_neg (by omega)] at h; exact h
    · have h1 : ¬ codeI o a = codeI o b := by simpa using h1
      refine do_call Tryz.call150 (c_rcode hm ha (retS_ret ⟨_, rfl, do_call Tryz.call150 (c_rcode hm hb (retS_ret ⟨_, rfl, ?_⟩))⟩))
      refine ifB_intro (fun h2 => ?_) fun h2 => ?_
      · rw [hc, if_pos (of_decide_eq_true h2)] at h; exact h
      · have h2 := of_decide_eq_false h2
        rw [hc, if_neg h2, if_pos (by omega)] at h; exact h
theorem c_rless {o a b : Int} (ha : In a) (hb : In b) {w : World} {R : Ending → World → Prop} (h : R (.returned (.bool (decide (cmpI o a b < 0)))) w) :
    Calls Tryz.prog 100 #[.int .u8 o, .int .i64 a, .int .i64 b] w R := by
  refine sh100_ok _ _ _ ?_
  unfold sh100
  exact do_call Tryz.call79 (c_rcompare ha hb (retS_ret ⟨_, rfl, h⟩))
end Go.Proofs.YtlddfgfmkapoiaaGreat

