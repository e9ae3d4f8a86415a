/-
  Ops as bytes: plain laws. No claim of its own.
-/
import Derived.Test.YtmkpkmdnapccgaaGreatDoorZ14

set_option maxRecDepth 100000
set_option maxHeartbeats 6400000
namespace Go.Sh
open Go

abbrev Bs := List UInt8
theorem u8n {n : Nat} (h : n < 256) : (UInt8.ofNat n).toNat = n := by simp [UInt8.toNat_ofNat']; omega
theorem u8b (b : UInt8) : UInt8.ofNat b.toNat = b := UInt8.toNat_inj.1 (u8n (UInt8.toNat_lt b))

def zig (v : Int) : Nat := (codeI 3 v).toNat
def zag (u : Nat) : Int := if u % 2 = 1 then -((u / 2 : Nat) : Int) - 1 else ((u / 2 : Nat) : Int)
theorem codeI3 (v : Int) : codeI 3 v = if v < 0 then -2 * v - 1 else 2 * v := by simp [codeI]
theorem zig_cast {v : Int} (h : In v) : ((zig v : Nat) : Int) = codeI 3 v := Int.toNat_of_nonneg (codeI_rng h).1
theorem zig_lt {v : Int} (h : In v) : zig v < 18446744073709551616 := by
  have := codeI_rng (o := 3) h
  unfold zig; omega
theorem zag_zig {v : Int} (h : In v) : zag (zig v) = v := by
  unfold zig; rw [codeI3]; unfold zag
  unfold In at h
  by_cases hv : v < 0
  · rw [if_pos hv, if_pos (by omega)]; omega
  · rw [if_neg hv, if_neg (by omega)]; omega
theorem zag_in {u : Nat} (h : u < 18446744073709551616) : In (zag u) := by
  unfold zag In
  split <;> omega
theorem zig_zag {u : Nat} (h : u < 18446744073709551616) : zig (zag u) = u := by
  unfold zig; rw [codeI3]; unfold zag
  by_cases hu : u % 2 = 1
  · rw [if_pos hu, if_pos (by omega)]; omega
  · rw [if_neg hu, if_neg (by omega)]; omega
def vEncF : Nat → Nat → Bs
  | 0, u => [UInt8.ofNat u]
  | f + 1, u => if u < 128 then [UInt8.ofNat u] else UInt8.ofNat (u % 128 + 128) :: vEncF f (u / 128)
def vEnc (u : Nat) : Bs := vEncF u u
theorem vEncF_fuel : ∀ (f g u : Nat), u ≤ f → u ≤ g → vEncF f u = vEncF g u
  | 0, 0, u, _, _ => rfl
  | 0, g + 1, u, h, _ => by rw [vEncF, vEncF, if_pos (by omega)]
  | f + 1, 0, u, _, h => by rw [vEncF, vEncF, if_pos (by omega)]
  | f + 1, g + 1, u, h1, h2 => by
    rw [vEncF, vEncF]
    split
    · rfl
    · rw [vEncF_fuel f g (u / 128) (by omega) (by omega)]
theorem vEnc_def (u : Nat) : vEnc u = if u < 128 then [UInt8.ofNat u] else UInt8.ofNat (u % 128 + 128) :: vEnc (u / 128) := by
  unfold vEnc
  cases u with
  | zero => rfl
  | succ u =>
    rw [vEncF]
    split
    · rfl
    · rw [vEncF_fuel u ((u + 1) / 128) ((u + 1) / 128) (by omega) (Nat.le_refl _)]
def vDec : Nat → Nat → Bs → Option (Nat × Bs)
  | _, _, [] => none
  | k, u, b :: s =>
    if (k < 9 ∨ b.toNat < 2) ∧ (k = 0 ∨ b.toNat ≠ 0) then
      (if b.toNat < 128 then some (u + b.toNat % 128 * 2 ^ (7 * k), s) else vDec (k + 1) (u + b.toNat % 128 * 2 ^ (7 * k)) s)
    else none
theorem pow_step (k : Nat) : 2 ^ (7 * (k + 1)) = 2 ^ (7 * k) * 128 := by rw [Nat.mul_add, Nat.pow_add]
theorem vDec_enc : ∀ (u k acc : Nat) (s : Bs), u * 2 ^ (7 * k) < 18446744073709551616 → (k = 0 ∨ 0 < u) → vDec k acc (vEnc u ++ s) = some (acc + u * 2 ^ (7 * k), s) := by
  intro u
  induction u using Nat.strongRecOn with
  | ind u ih =>
    intro k acc s hb h0
    have hk : k ≤ 9 := by
      rcases Nat.lt_or_ge 9 k with h | h
      · have h1 : 2 ^ 70 ≤ 2 ^ (7 * k) := Nat.pow_le_pow_right (by omega) (by omega)
        have h2 : 1 * 2 ^ (7 * k) ≤ u * 2 ^ (7 * k) := Nat.mul_le_mul_right _ (by omega)
        omega
      · exact h
    have h9 : k = 9 → u < 2 := fun h => by
      subst h
      rw [show 2 ^ (7 * 9) = 9223372036854775808 from rfl] at hb
      omega
    rw [vEnc_def]
    split
    · rename_i hu
      simp only [List.cons_append, List.nil_append, vDec, u8n (show u < 256 by omega)]
      rw [if_pos ⟨by omega, by omega⟩, if_pos hu, Nat.mod_eq_of_lt hu]
    · rename_i hu
      simp only [List.cons_append, vDec, u8n (show u % 128 + 128 < 256 by omega)]
      rw [if_pos ⟨by omega, by omega⟩, if_neg (by omega), ih (u / 128) (by omega) (k + 1) _ s ?_ (.inr (by omega))]
      · rw [pow_step, show (u % 128 + 128) % 128 = u % 128 by omega]
        congr 2
        have : u = u % 128 + u / 128 * 128 := by omega
        have h9 : acc + u % 128 * 2 ^ (7 * k) + u / 128 * (2 ^ (7 * k) * 128) = acc + (u % 128 + u / 128 * 128) * 2 ^ (7 * k) := by
          rw [Nat.add_mul, Nat.add_assoc, Nat.mul_assoc, Nat.mul_comm 128]
        rw [h9, ← this]
      · rw [pow_step]
        refine Nat.lt_of_le_of_lt ?_ hb
        rw [Nat.mul_comm (2 ^ (7 * k)), ← Nat.mul_assoc]
        exact Nat.mul_le_mul_right _ (by omega)
theorem vDec_inv : ∀ (s : Bs) (k acc r : Nat) (t : Bs), k ≤ 9 → vDec k acc s = some (r, t) →
    ∃ u, r = acc + u * 2 ^ (7 * k) ∧ s = vEnc u ++ t ∧ u * 2 ^ (7 * k) < 18446744073709551616 ∧ (k = 0 ∨ 0 < u)
  | [], _, _, _, _, _, h => by simp [vDec] at h
  | b :: s, k, acc, r, t, hk, h => by
    have hb := UInt8.toNat_lt b
    simp only [vDec] at h
    split at h
    · rename_i hc
      split at h
      · rename_i hlt
        simp only [Option.some.injEq, Prod.mk.injEq] at h
        obtain ⟨rfl, rfl⟩ := h
        rw [Nat.mod_eq_of_lt hlt]
        refine ⟨b.toNat, rfl, ?_, ?_, by omega⟩
        · rw [vEnc_def, if_pos hlt, u8b]; rfl
        · rcases Nat.lt_or_ge k 9 with h | h
          · have h1 : 2 ^ (7 * k) ≤ 2 ^ 56 := Nat.pow_le_pow_right (by omega) (by omega)
            have := Nat.mul_le_mul (show b.toNat ≤ 127 by omega) h1
            omega
          · have : k = 9 := by omega
            subst this
            rw [show 2 ^ (7 * 9) = 9223372036854775808 from rfl]
            omega
      · rename_i hge
        have hk9 : k < 9 := by omega
        obtain ⟨u, hr, hs, hu, h0⟩ := vDec_inv s (k + 1) _ r t hk9 h
        have hu0 : 0 < u := by omega
        rw [pow_step] at hr hu
        refine ⟨b.toNat % 128 + u * 128, ?_, ?_, ?_, by omega⟩
        · rw [hr, Nat.add_mul, Nat.add_assoc, Nat.mul_assoc, Nat.mul_comm 128]
        · rw [vEnc_def, if_neg (by omega), show (b.toNat % 128 + u * 128) % 128 + 128 = b.toNat by omega, u8b, show (b.toNat % 128 + u * 128) / 128 = u by omega, hs]; rfl
        · have e : (18446744073709551616 : Nat) = 2 ^ (64 - 7 * (k + 1)) * (2 ^ (7 * k) * 128) := by
            rw [← pow_step, ← Nat.pow_add, show 64 - 7 * (k + 1) + 7 * (k + 1) = 64 by omega]
          rw [e] at hu ⊢
          have hlt := Nat.lt_of_mul_lt_mul_right hu
          generalize 2 ^ (64 - 7 * (k + 1)) = M at hlt ⊢
          have h1 : b.toNat % 128 + u * 128 < M * 128 := by omega
          have h2 : M * (2 ^ (7 * k) * 128) = M * 128 * 2 ^ (7 * k) := by rw [Nat.mul_comm (2 ^ (7 * k)), ← Nat.mul_assoc]
          rw [h2]
          exact Nat.mul_lt_mul_of_pos_right h1 (Nat.pow_pos (by omega))
    · cases h
def numE (v : Int) : Bs := vEnc (zig v)
def numD (s : Bs) : Option (Int × Bs) := (vDec 0 0 s).map fun r => (zag r.1, r.2)
theorem numD_E {v : Int} (h : In v) (s : Bs) : numD (numE v ++ s) = some (v, s) := by
  unfold numD numE
  rw [vDec_enc _ _ _ _ (by have := zig_lt h; simpa using this) (.inl rfl)]
  simp [zag_zig h]
theorem numD_inv {s t : Bs} {v : Int} (h : numD s = some (v, t)) : s = numE v ++ t ∧ In v := by
  unfold numD at h
  cases hd : vDec 0 0 s with
  | none => simp [hd] at h
  | some r =>
    obtain ⟨r, t'⟩ := r
    simp only [hd, Option.map_some, Option.some.injEq, Prod.mk.injEq] at h
    obtain ⟨rfl, rfl⟩ := h
    obtain ⟨u, hr, hs, hu, _⟩ := vDec_inv s 0 0 r t' (by omega) hd
    have hu' : r = u := by simpa using hr
    subst hu'
    have hlt : r < 18446744073709551616 := by simpa using hu
    exact ⟨by rw [numE, zig_zag hlt]; exact hs, zag_in hlt⟩

structure POp where
  op : Int
  a : Int
  b : Int
  key : Int
  val : Int
  lo : Int
  hi : Int
  n : Int
  pol : Int
  pk : Int
  pa : Int
  pb : Int
  pnot : Bool
  pairs : List (Int × Int)
  keys : List Int
theorem POp.ext' : ∀ {x y : POp}, x.op = y.op → x.a = y.a → x.b = y.b → x.key = y.key → x.val = y.val → x.lo = y.lo → x.hi = y.hi → x.n = y.n → x.pol = y.pol → x.pk = y.pk → x.pa = y.pa → x.pb = y.pb → x.pnot = y.pnot → x.pairs = y.pairs → x.keys = y.keys → x = y := by
  rintro ⟨⟩ ⟨⟩ h1 h2 h3 h4 h5 h6 h7 h8 h9 h10 h11 h12 h13 h14 h15
  simp only at h1 h2 h3 h4 h5 h6 h7 h8 h9 h10 h11 h12 h13 h14 h15
  subst h1 h2 h3 h4 h5 h6 h7 h8 h9 h10 h11 h12 h13 h14 h15
  rfl
def POp.zero : POp := ⟨0, 0, 0, 0, 0, 0, 0, 0, 0, 0, 0, 0, false, [], []⟩
inductive Part where
  | a | b | n | key | val | lo | hi | pol | pred | pairs | keys
deriving DecidableEq
def partsOf (d : Int) : List Part :=
  if d = 1 then [.a, .key, .val, .pol]
  else if d = 2 ∨ d = 3 ∨ d = 6 ∨ d = 7 ∨ d = 16 ∨ d = 22 then [.a, .key]
  else if d = 4 ∨ d = 5 ∨ d = 21 then [.a]
  else if d = 8 then [.pol, .pairs]
  else if d = 9 ∨ d = 10 then [.a, .b, .pol]
  else if d = 11 ∨ d = 12 then [.a, .b]
  else if d = 13 then [.a, .pred]
  else if d = 14 then [.a, .pol, .pairs]
  else if d = 15 then [.a, .keys]
  else if d = 17 then [.a, .n]
  else if d = 18 ∨ d = 19 ∨ d = 20 then [.a, .lo, .hi]
  else []
theorem partsOf_cases (d : Int) {C : List Part → Prop} (h1 : C [.a, .key, .val, .pol]) (h2 : C [.a, .key]) (h3 : C [.a]) (h4 : C [.pol, .pairs]) (h5 : C [.a, .b, .pol]) (h6 : C [.a, .b]) (h7 : C [.a, .pred])
    (h8 : C [.a, .pol, .pairs]) (h9 : C [.a, .keys]) (h10 : C [.a, .n]) (h11 : C [.a, .lo, .hi]) (h12 : C []) : C (partsOf d) := by
  have g : ∀ {p : Prop} [Decidable p] {a b : List Part}, C a → C b → C (if p then a else b) := fun ha hb => by
    split
    · exact ha
    · exact hb
  exact g h1 (g h2 (g h3 (g h4 (g h5 (g h6 (g h7 (g h8 (g h9 (g h10 (g h11 h12))))))))))
structure PC (σ : Type) where
  num : Int → σ → Option (Int × σ)
  word : List Bs → Int → σ → Option (Int × σ)
  flag : Bool → σ → Option (Bool × σ)
  many : Nat → σ → Option (Nat × σ)
  pair : Int × Int → σ → Option ((Int × Int) × σ)
  words : Bool
def opNames : List Bs := [[], [105, 110, 115, 101, 114, 116], [100, 101, 108, 101, 116, 101], [103, 101, 116], [109, 105, 110], [109, 97, 120], [102, 108, 111, 111, 114], [99, 101, 105, 108], [98, 117, 105, 108, 100], [117, 110, 105, 111, 110], [109, 101, 101, 116], [108, 101, 115, 115], [97, 112, 97, 114, 116], [107, 101, 101, 112], [112, 117, 116, 115], [100, 114, 111, 112, 115], [114, 97, 110, 107], [115, 101, 108, 101, 99, 116], [114, 97, 110, 103, 101], [99, 111, 117, 110, 116], [115, 117, 109], [108, 105, 115, 116], [115, 112, 108, 105, 116]]
def polNames : List Bs := [[], [108, 101, 102, 116], [114, 105, 103, 104, 116], [115, 117, 109]]
def kindNames : List Bs := [[], [97, 108, 108], [107, 101, 121], [118, 97, 108], [109, 111, 100], [98, 105, 116, 115]]
def notW : Bs := [110, 111, 116]
section
variable {σ : Type}
def pairsP (c : PC σ) : Nat → Nat → List (Int × Int) → σ → Option (List (Int × Int) × σ)
  | 0, _, l, s => some (l, s)
  | m + 1, k, l, s => (c.pair (l.getD k (0, 0)) s).bind fun r => pairsP c m (k + 1) (if k = l.length then l ++ [r.1] else l) r.2
def keysP (c : PC σ) : Nat → Nat → List Int → σ → Option (List Int × σ)
  | 0, _, l, s => some (l, s)
  | m + 1, k, l, s => (c.num (l.getD k 0) s).bind fun r => keysP c m (k + 1) (if k = l.length then l ++ [r.1] else l) r.2
def predP (c : PC σ) (x : POp) (s : σ) : Option (POp × σ) :=
  if c.words = true then
    (c.flag x.pnot s).bind fun r => (c.word kindNames x.pk r.2).bind fun q =>
      if q.1 = 1 then some ({ x with pnot := r.1, pk := q.1 }, q.2) else
      (c.num x.pa q.2).bind fun u => (c.num x.pb u.2).bind fun v => some ({ x with pnot := r.1, pk := q.1, pa := u.1, pb := v.1 }, v.2)
  else
    (c.word kindNames x.pk s).bind fun q => (c.num x.pa q.2).bind fun u => (c.num x.pb u.2).bind fun v => (c.flag x.pnot v.2).bind fun r =>
      some ({ x with pk := q.1, pa := u.1, pb := v.1, pnot := r.1 }, r.2)
def partP (c : PC σ) : Part → POp → σ → Option (POp × σ)
  | .a, x, s => (c.num x.a s).bind fun r => some ({ x with a := r.1 }, r.2)
  | .b, x, s => (c.num x.b s).bind fun r => some ({ x with b := r.1 }, r.2)
  | .n, x, s => (c.num x.n s).bind fun r => some ({ x with n := r.1 }, r.2)
  | .key, x, s => (c.num x.key s).bind fun r => some ({ x with key := r.1 }, r.2)
  | .val, x, s => (c.num x.val s).bind fun r => some ({ x with val := r.1 }, r.2)
  | .lo, x, s => (c.num x.lo s).bind fun r => some ({ x with lo := r.1 }, r.2)
  | .hi, x, s => (c.num x.hi s).bind fun r => some ({ x with hi := r.1 }, r.2)
  | .pol, x, s => (c.word polNames x.pol s).bind fun r => some ({ x with pol := r.1 }, r.2)
  | .pred, x, s => predP c x s
  | .pairs, x, s => (c.many x.pairs.length s).bind fun r => (pairsP c r.1 0 x.pairs r.2).bind fun q => some ({ x with pairs := q.1 }, q.2)
  | .keys, x, s => (c.many x.keys.length s).bind fun r => (keysP c r.1 0 x.keys r.2).bind fun q => some ({ x with keys := q.1 }, q.2)
def partsP (c : PC σ) : List Part → POp → σ → Option (POp × σ)
  | [], x, s => some (x, s)
  | p :: ps, x, s => (partP c p x s).bind fun r => partsP c ps r.1 r.2
def allP (c : PC σ) (x : POp) (s : σ) : Option (POp × σ) := (c.word opNames x.op s).bind fun r => partsP c (partsOf r.1) { x with op := r.1 } r.2
end
def agree : Part → POp → POp → Prop
  | .a, x, y => x.a = y.a
  | .b, x, y => x.b = y.b
  | .n, x, y => x.n = y.n
  | .key, x, y => x.key = y.key
  | .val, x, y => x.val = y.val
  | .lo, x, y => x.lo = y.lo
  | .hi, x, y => x.hi = y.hi
  | .pol, x, y => x.pol = y.pol
  | .pred, x, y => x.pk = y.pk ∧ x.pa = y.pa ∧ x.pb = y.pb ∧ x.pnot = y.pnot
  | .pairs, x, y => x.pairs = y.pairs
  | .keys, x, y => x.keys = y.keys
theorem agree_refl (p : Part) (x : POp) : agree p x x := by cases p <;> simp [agree]
theorem agree_symm {p : Part} {x y : POp} (h : agree p x y) : agree p y x := by
  cases p <;> simp only [agree] at h ⊢ <;> first | exact h.symm | exact ⟨h.1.symm, h.2.1.symm, h.2.2.1.symm, h.2.2.2.symm⟩
theorem agree_trans {p : Part} {x y z : POp} (h : agree p x y) (k : agree p y z) : agree p x z := by
  cases p <;> simp only [agree] at h k ⊢ <;> first | exact h.trans k | exact ⟨h.1.trans k.1, h.2.1.trans k.2.1, h.2.2.1.trans k.2.2.1, h.2.2.2.trans k.2.2.2⟩
theorem POp.of_agree {x y : POp} (h0 : x.op = y.op) (h : ∀ p, agree p x y) : x = y :=
  POp.ext' h0 (h .a) (h .b) (h .key) (h .val) (h .lo) (h .hi) (h .n) (h .pol) (h .pred).1 (h .pred).2.1 (h .pred).2.2.1 (h .pred).2.2.2 (h .pairs) (h .keys)
def InPs (l : List (Int × Int)) : Prop := ∀ x ∈ l, In x.1 ∧ In x.2
def okP : Part → POp → Prop
  | .a, x => In x.a
  | .b, x => In x.b
  | .n, x => In x.n
  | .key, x => In x.key
  | .val, x => In x.val
  | .lo, x => In x.lo
  | .hi, x => In x.hi
  | .pol, x => 0 ≤ x.pol ∧ x.pol < 256
  | .pred, x => (0 ≤ x.pk ∧ x.pk < 256) ∧ In x.pa ∧ In x.pb
  | .pairs, x => x.pairs.length ≤ 4096 ∧ InPs x.pairs
  | .keys, x => x.keys.length ≤ 4096 ∧ ∀ v ∈ x.keys, In v
theorem okP_congr {p : Part} {x y : POp} (h : agree p x y) (k : okP p x) : okP p y := by
  cases p <;> simp only [agree] at h <;> simp only [okP] at k ⊢ <;> first | (rw [← h]; exact k) | (rw [← h.1, ← h.2.1, ← h.2.2.1]; exact k)
def copyP : Part → POp → POp → POp
  | .a, x, y => { y with a := x.a }
  | .b, x, y => { y with b := x.b }
  | .n, x, y => { y with n := x.n }
  | .key, x, y => { y with key := x.key }
  | .val, x, y => { y with val := x.val }
  | .lo, x, y => { y with lo := x.lo }
  | .hi, x, y => { y with hi := x.hi }
  | .pol, x, y => { y with pol := x.pol }
  | .pred, x, y => { y with pk := x.pk, pa := x.pa, pb := x.pb, pnot := x.pnot }
  | .pairs, x, y => { y with pairs := x.pairs }
  | .keys, x, y => { y with keys := x.keys }
theorem agree_copy (p : Part) (x y : POp) : agree p x (copyP p x y) := by cases p <;> simp [agree, copyP]
theorem agree_copy_ne {p q : Part} (h : q ≠ p) (x y : POp) : agree q y (copyP p x y) := by
  cases p <;> cases q <;> first | exact absurd rfl h | simp [agree, copyP]
theorem copy_op (p : Part) (x y : POp) : (copyP p x y).op = y.op := by cases p <;> rfl
theorem partsOf_nodup (d : Int) : (partsOf d).Nodup := partsOf_cases d (C := fun l => l.Nodup) (by simp) (by simp) (by simp) (by simp) (by simp) (by simp) (by simp) (by simp) (by simp) (by simp) (by simp) (by simp)
def Masked (x : POp) : Prop := ∀ p, p ∉ partsOf x.op → agree p POp.zero x

def u8 (v : Int) : UInt8 := UInt8.ofNat v.toNat
theorem u8_back {v : Int} (h0 : 0 ≤ v) (h1 : v < 256) : (((u8 v).toNat : Nat) : Int) = v := by unfold u8; rw [u8n (by omega)]; omega
theorem u8_of_nat (b : UInt8) : u8 ((b.toNat : Nat) : Int) = b := by unfold u8; rw [Int.toNat_natCast]; exact u8b b
def flagB (b : Bool) : UInt8 := if b then 1 else 0
def outB : PC Bs where
  num v s := some (v, s ++ numE v)
  word _ k s := some (k, s ++ [u8 k])
  flag b s := some (b, s ++ [flagB b])
  many n s := some (n, s ++ numE n)
  pair p s := some (p, s ++ (numE p.1 ++ numE p.2))
  words := false
def prB (l : List (Int × Int)) : Bs := l.flatMap fun p => numE p.1 ++ numE p.2
def keyB (l : List Int) : Bs := l.flatMap numE
def wrP : Part → POp → Bs
  | .a, x => numE x.a
  | .b, x => numE x.b
  | .n, x => numE x.n
  | .key, x => numE x.key
  | .val, x => numE x.val
  | .lo, x => numE x.lo
  | .hi, x => numE x.hi
  | .pol, x => [u8 x.pol]
  | .pred, x => u8 x.pk :: (numE x.pa ++ (numE x.pb ++ [flagB x.pnot]))
  | .pairs, x => numE x.pairs.length ++ prB x.pairs
  | .keys, x => numE x.keys.length ++ keyB x.keys
def wrs (ps : List Part) (x : POp) : Bs := ps.flatMap fun p => wrP p x
def wrB (x : POp) : Bs := u8 x.op :: wrs (partsOf x.op) x
theorem wrP_congr {p : Part} {x y : POp} (h : agree p x y) : wrP p x = wrP p y := by
  cases p
  case pred =>
    obtain ⟨h1, h2, h3, h4⟩ : x.pk = y.pk ∧ x.pa = y.pa ∧ x.pb = y.pb ∧ x.pnot = y.pnot := h
    simp only [wrP, h1, h2, h3, h4]
  case pairs =>
    have h : x.pairs = y.pairs := h
    simp only [wrP, h]
  case keys =>
    have h : x.keys = y.keys := h
    simp only [wrP, h]
  case pol =>
    have h : x.pol = y.pol := h
    simp only [wrP, h]
  all_goals
    have h := congrArg numE (show _ = _ from h)
    exact h
theorem pairs_outB : ∀ (m k : Nat) (l : List (Int × Int)) (s : Bs), k + m = l.length → pairsP outB m k l s = some (l, s ++ prB (l.drop k))
  | 0, k, l, s, h => by simp [pairsP, prB, List.drop_of_length_le (show l.length ≤ k by omega)]
  | m + 1, k, l, s, h => by
    have hk : k < l.length := by omega
    simp only [pairsP, outB, Option.bind_some, if_neg (show ¬ k = l.length by omega)]
    have := pairs_outB m (k + 1) l (s ++ (numE (l.getD k (0, 0)).1 ++ numE (l.getD k (0, 0)).2)) (by omega)
    simp only [outB] at this
    rw [this, List.drop_eq_getElem_cons hk]
    simp only [prB, List.flatMap_cons, List.append_assoc, List.getD_eq_getElem?_getD, List.getElem?_eq_getElem hk, Option.getD_some]
theorem keys_outB : ∀ (m k : Nat) (l : List Int) (s : Bs), k + m = l.length → keysP outB m k l s = some (l, s ++ keyB (l.drop k))
  | 0, k, l, s, h => by simp [keysP, keyB, List.drop_of_length_le (show l.length ≤ k by omega)]
  | m + 1, k, l, s, h => by
    have hk : k < l.length := by omega
    simp only [keysP, outB, Option.bind_some, if_neg (show ¬ k = l.length by omega)]
    have := keys_outB m (k + 1) l (s ++ numE (l.getD k 0)) (by omega)
    simp only [outB] at this
    rw [this, List.drop_eq_getElem_cons hk]
    simp only [keyB, List.flatMap_cons, List.append_assoc, List.getD_eq_getElem?_getD, List.getElem?_eq_getElem hk, Option.getD_some]
theorem some_eq {α : Type} {x y : POp} {s t : α} (h1 : x = y) (h2 : s = t) : some (x, s) = some (y, t) := by rw [h1, h2]
theorem part_outB (p : Part) (x : POp) (s : Bs) : partP outB p x s = some (x, s ++ wrP p x) := by
  have hn : ∀ v s, outB.num v s = some (v, s ++ numE v) := fun _ _ => rfl
  have hw : ∀ l k s, outB.word l k s = some (k, s ++ [u8 k]) := fun _ _ _ => rfl
  have hf : ∀ b s, outB.flag b s = some (b, s ++ [flagB b]) := fun _ _ => rfl
  have hm : ∀ (n : Nat) s, outB.many n s = some (n, s ++ numE n) := fun _ _ => rfl
  cases p
  case pairs =>
    have := pairs_outB x.pairs.length 0 x.pairs (s ++ numE x.pairs.length) (by omega)
    simp only [partP, hm, Option.bind_some, this, List.drop_zero]
    exact some_eq rfl (by simp only [wrP, List.append_assoc])
  case keys =>
    have := keys_outB x.keys.length 0 x.keys (s ++ numE x.keys.length) (by omega)
    simp only [partP, hm, Option.bind_some, this, List.drop_zero]
    exact some_eq rfl (by simp only [wrP, List.append_assoc])
  case pol =>
    simp only [partP, hw, Option.bind_some]
    exact some_eq rfl (by simp only [wrP])
  case pred =>
    have h0 : outB.words = false := rfl
    simp only [partP, predP, h0, Bool.false_eq_true, if_false, hw, hn, hf, Option.bind_some]
    exact some_eq rfl (by simp only [wrP, List.append_assoc, List.cons_append, List.nil_append])
  all_goals
    simp only [partP, hn, Option.bind_some]
    exact some_eq rfl (by simp only [wrP])
theorem parts_outB : ∀ (ps : List Part) (x : POp) (s : Bs), partsP outB ps x s = some (x, s ++ wrs ps x)
  | [], x, s => by simp [partsP, wrs]
  | p :: ps, x, s => by
    simp only [partsP, part_outB, Option.bind_some, parts_outB ps]
    simp [wrs]
theorem all_outB (x : POp) (s : Bs) : allP outB x s = some (x, s ++ wrB x) := by
  unfold allP
  rw [show outB.word opNames x.op s = some (x.op, s ++ [u8 x.op]) from rfl]
  simp only [Option.bind_some]
  rw [show ({ x with op := x.op } : POp) = x from rfl, parts_outB]
  simp [wrB]

def inB : PC Bs where
  num _ s := numD s
  word _ _ s := match s with | [] => none | b :: s => some (((b.toNat : Nat) : Int), s)
  flag _ s := match s with | [] => none | b :: s => if b.toNat < 2 then some (b == 1, s) else none
  many _ s := (numD s).bind fun r => if 0 ≤ r.1 ∧ r.1 ≤ 4096 then some (r.1.toNat, r.2) else none
  pair _ s := (numD s).bind fun r => (numD r.2).bind fun q => some ((r.1, q.1), q.2)
  words := false
theorem pairs_inB : ∀ (L l : List (Int × Int)) (s : Bs), InPs L → pairsP inB L.length l.length l (prB L ++ s) = some (l ++ L, s)
  | [], l, s, _ => by simp [pairsP, prB]
  | x :: L, l, s, h => by
    have hx := h x (by simp)
    have e : inB.pair (l.getD l.length (0, 0)) (prB (x :: L) ++ s) = some (x, prB L ++ s) := by
      simp only [inB, prB, List.flatMap_cons, List.append_assoc]
      rw [numD_E hx.1]
      simp only [Option.bind_some]
      rw [numD_E hx.2]
      rfl
    simp only [List.length_cons, pairsP, e, Option.bind_some, if_true]
    have := pairs_inB L (l ++ [x]) s fun y hy => h y (by simp [hy])
    rw [List.length_append, List.length_singleton] at this
    rw [this]
    simp
theorem keys_inB : ∀ (L l : List Int) (s : Bs), (∀ v ∈ L, In v) → keysP inB L.length l.length l (keyB L ++ s) = some (l ++ L, s)
  | [], l, s, _ => by simp [keysP, keyB]
  | x :: L, l, s, h => by
    have hx := h x (by simp)
    have e : inB.num (l.getD l.length 0) (keyB (x :: L) ++ s) = some (x, keyB L ++ s) := by
      simp only [inB, keyB, List.flatMap_cons, List.append_assoc]
      rw [numD_E hx]
    simp only [List.length_cons, keysP, e, Option.bind_some, if_true]
    have := keys_inB L (l ++ [x]) s fun y hy => h y (by simp [hy])
    rw [List.length_append, List.length_singleton] at this
    rw [this]
    simp
theorem many_inB {n : Nat} (h : n ≤ 4096) (m : Nat) (s : Bs) : inB.many m (numE n ++ s) = some (n, s) := by
  simp only [inB]
  rw [numD_E (by unfold In; omega)]
  simp only [Option.bind_some]
  rw [if_pos (by omega), Int.toNat_natCast]
theorem flag_inB (b c : Bool) (s : Bs) : inB.flag c (flagB b :: s) = some (b, s) := by
  cases b <;> rfl
theorem part_inB {p : Part} {x y : POp} (hx : okP p x) (h1 : agree p POp.zero y) (s : Bs) : partP inB p y (wrP p x ++ s) = some (copyP p x y, s) := by
  cases p
  case pairs =>
    have h1 : y.pairs = [] := h1.symm
    simp only [okP] at hx
    simp only [partP, wrP, List.append_assoc, many_inB hx.1, Option.bind_some]
    have := pairs_inB x.pairs [] s hx.2
    simp only [List.length_nil, List.nil_append] at this
    rw [h1, this]
    simp [copyP]
  case keys =>
    have h2 : y.keys = [] := h1.symm
    simp only [okP] at hx
    simp only [partP, wrP, List.append_assoc, many_inB hx.1, Option.bind_some]
    have := keys_inB x.keys [] s hx.2
    simp only [List.length_nil, List.nil_append] at this
    rw [h2, this]
    simp [copyP]
  case pol =>
    simp only [okP] at hx
    simp [partP, inB, wrP, copyP, u8_back hx.1 hx.2]
  case pred =>
    simp only [okP] at hx
    have hw : inB.words = false := rfl
    have e1 : inB.word kindNames y.pk (wrP .pred x ++ s) = some (x.pk, numE x.pa ++ (numE x.pb ++ (flagB x.pnot :: s))) := by
      simp [inB, wrP, u8_back hx.1.1 hx.1.2]
    have e2 : ∀ s, inB.num y.pa (numE x.pa ++ s) = some (x.pa, s) := fun s => numD_E hx.2.1 s
    have e3 : ∀ s, inB.num y.pb (numE x.pb ++ s) = some (x.pb, s) := fun s => numD_E hx.2.2 s
    simp only [partP, predP, hw, Bool.false_eq_true, if_false, e1, Option.bind_some, e2, e3, flag_inB]
    rfl
  all_goals
    simp only [okP] at hx
    simp only [partP, wrP, inB, numD_E hx, Option.bind_some]
    rfl
section
variable {α : Type} {c : PC (List α)} {wr : Part → POp → List α} {ok : Part → POp → Prop} {fin : Part → Prop}
theorem parts_rd (H : ∀ p x y s, ok p x → agree p POp.zero y → (fin p → s = []) → ∃ y', partP c p y (wr p x ++ s) = some (y', s) ∧ y'.op = y.op ∧ agree p x y' ∧ ∀ q, q ≠ p → agree q y y') :
    ∀ (ps : List Part) (x y : POp) (s : List α), ps.Nodup → (∀ p ∈ ps, fin p → s = [] ∧ ps.getLast? = some p) → (∀ p ∈ ps, ok p x) → (∀ p ∈ ps, agree p POp.zero y) →
    ∃ y', partsP c ps y (ps.flatMap (fun p => wr p x) ++ s) = some (y', s) ∧ y'.op = y.op ∧ (∀ p ∈ ps, agree p x y') ∧ ∀ p, p ∉ ps → agree p y y'
  | [], x, y, s, _, _, _, _ => ⟨y, by simp [partsP], rfl, by simp, fun p _ => agree_refl p y⟩
  | p :: ps, x, y, s, hn, hl, hok, h1 => by
    have hn' := List.nodup_cons.1 hn
    obtain ⟨y1, hr1, ho1, ha1, hb1⟩ := H p x y (ps.flatMap (fun p => wr p x) ++ s) (hok p (by simp)) (h1 p (by simp)) (fun hf => by
      obtain ⟨hs, hq⟩ := hl p (by simp) hf
      cases ps with
      | nil => simpa using hs
      | cons q ps =>
        rw [List.getLast?_cons_cons] at hq
        exact absurd (List.mem_of_getLast? hq) hn'.1)
    obtain ⟨y', hr, ho, ha, hb⟩ := parts_rd H ps x y1 s hn'.2 (fun q hq hf => by
      obtain ⟨hs, hg⟩ := hl q (List.mem_cons_of_mem _ hq) hf
      cases ps with
      | nil => simp at hq
      | cons r ps => rw [List.getLast?_cons_cons] at hg; exact ⟨hs, hg⟩) (fun r hr => hok r (List.mem_cons_of_mem _ hr))
      (fun r hr => agree_trans (h1 r (List.mem_cons_of_mem _ hr)) (hb1 r (fun e => hn'.1 (e ▸ hr))))
    refine ⟨y', ?_, ho.trans ho1, fun r hr => ?_, fun r hr => ?_⟩
    · rw [partsP, List.flatMap_cons, List.append_assoc, hr1]
      exact hr
    · rcases List.mem_cons.1 hr with rfl | hr
      · exact agree_trans ha1 (hb _ hn'.1)
      · exact ha r hr
    · exact agree_trans (hb1 r fun e => hr (by simp [e])) (hb r fun h => hr (List.mem_cons_of_mem _ h))
theorem parts_back (hw : ∀ p x y, agree p x y → wr p x = wr p y) (hk : ∀ p x y, agree p x y → ok p x → ok p y)
    (H : ∀ p y y' s t, agree p POp.zero y → partP c p y s = some (y', t) → s = wr p y' ++ t ∧ ok p y' ∧ (∀ q, q ≠ p → agree q y y') ∧ y'.op = y.op) :
    ∀ (ps : List Part) (y y' : POp) (s t : List α), ps.Nodup → (∀ p ∈ ps, agree p POp.zero y) → partsP c ps y s = some (y', t) →
    s = ps.flatMap (fun p => wr p y') ++ t ∧ (∀ p ∈ ps, ok p y') ∧ (∀ q, q ∉ ps → agree q y y') ∧ y'.op = y.op
  | [], y, y', s, t, _, _, h => by
    simp only [partsP, Option.some.injEq, Prod.mk.injEq] at h
    obtain ⟨rfl, rfl⟩ := h
    exact ⟨by simp, by simp, fun q _ => agree_refl q y, rfl⟩
  | p :: ps, y, y', s, t, hn, h1, h => by
    have hn' := List.nodup_cons.1 hn
    rw [partsP] at h
    obtain ⟨⟨y1, s1⟩, hp, h⟩ := Option.bind_eq_some_iff.1 h
    obtain ⟨hs, ho, ha, hop⟩ := H p y y1 s s1 (h1 p (by simp)) hp
    obtain ⟨hs', ho', ha', hop'⟩ := parts_back hw hk H ps y1 y' s1 t hn'.2 (fun r hr => agree_trans (h1 r (List.mem_cons_of_mem _ hr)) (ha r (fun e => hn'.1 (e ▸ hr)))) h
    have hpy := ha' p hn'.1
    refine ⟨?_, fun r hr => ?_, fun r hr => ?_, hop'.trans hop⟩
    · rw [hs, hs', hw p y1 y' hpy]; simp
    · rcases List.mem_cons.1 hr with rfl | hr
      · exact hk _ _ _ hpy ho
      · exact ho' r hr
    · exact agree_trans (ha r fun e => hr (by simp [e])) (ha' r fun h => hr (List.mem_cons_of_mem _ h))
end
theorem zero_op (p : Part) (v : Int) : agree p POp.zero { POp.zero with op := v } := by cases p <;> simp [agree]
theorem pairs_inv : ∀ (m : Nat) (l : List (Int × Int)) (s t : Bs) (l' : List (Int × Int)), pairsP inB m l.length l s = some (l', t) → ∃ L, l' = l ++ L ∧ L.length = m ∧ s = prB L ++ t ∧ InPs L
  | 0, l, s, t, l', h => by
    simp only [pairsP, Option.some.injEq, Prod.mk.injEq] at h
    exact ⟨[], by simp [h.1], rfl, by simp [prB, h.2], fun _ h => by simp at h⟩
  | m + 1, l, s, t, l', h => by
    simp only [pairsP, if_true] at h
    obtain ⟨⟨x, s1⟩, hp, h5⟩ := Option.bind_eq_some_iff.1 h
    clear h
    simp only [inB] at hp
    obtain ⟨⟨a, s2⟩, ha, hp⟩ := Option.bind_eq_some_iff.1 hp
    obtain ⟨⟨b, s3⟩, hb, hp⟩ := Option.bind_eq_some_iff.1 hp
    simp only [Option.some.injEq, Prod.mk.injEq] at hp
    obtain ⟨rfl, rfl⟩ := hp
    obtain ⟨rfl, ia⟩ := numD_inv ha
    obtain ⟨hs2, ib⟩ := numD_inv hb
    obtain ⟨L, h1, h2, h3, h4⟩ := pairs_inv m (l ++ [(a, b)]) s3 t l' (by rw [List.length_append]; exact h5)
    refine ⟨(a, b) :: L, by simp [h1], by simp [h2], ?_, fun x hx => ?_⟩
    · simp only at hs2
      rw [hs2, h3]; simp [prB]
    · rcases List.mem_cons.1 hx with rfl | hx
      · exact ⟨ia, ib⟩
      · exact h4 x hx
theorem keys_inv : ∀ (m : Nat) (l : List Int) (s t : Bs) (l' : List Int), keysP inB m l.length l s = some (l', t) → ∃ L, l' = l ++ L ∧ L.length = m ∧ s = keyB L ++ t ∧ ∀ v ∈ L, In v
  | 0, l, s, t, l', h => by
    simp only [keysP, Option.some.injEq, Prod.mk.injEq] at h
    exact ⟨[], by simp [h.1], rfl, by simp [keyB, h.2], fun _ h => by simp at h⟩
  | m + 1, l, s, t, l', h => by
    simp only [keysP, if_true] at h
    obtain ⟨⟨x, s1⟩, hp, h⟩ := Option.bind_eq_some_iff.1 h
    simp only [inB] at hp
    obtain ⟨hs, ia⟩ := numD_inv hp
    obtain ⟨L, h1, h2, h3, h4⟩ := keys_inv m (l ++ [x]) s1 t l' (by rw [List.length_append]; exact h)
    refine ⟨x :: L, by simp [h1], by simp [h2], ?_, fun v hx => ?_⟩
    · rw [hs, h3]; simp [keyB]
    · rcases List.mem_cons.1 hx with rfl | hx
      · exact ia
      · exact h4 v hx
theorem many_inv {m n : Nat} {s t : Bs} (h : inB.many m s = some (n, t)) : s = numE n ++ t ∧ n ≤ 4096 := by
  simp only [inB] at h
  obtain ⟨⟨v, s1⟩, ha, h⟩ := Option.bind_eq_some_iff.1 h
  simp only at h
  split at h
  · rename_i hv
    simp only [Option.some.injEq, Prod.mk.injEq] at h
    obtain ⟨rfl, rfl⟩ := h
    obtain ⟨hs, _⟩ := numD_inv ha
    rw [show ((v.toNat : Nat) : Int) = v by omega]
    exact ⟨hs, by omega⟩
  · cases h
theorem word_inv {k v : Int} {l : List Bs} {s t : Bs} (h : inB.word l k s = some (v, t)) : s = u8 v :: t ∧ 0 ≤ v ∧ v < 256 := by
  cases s with
  | nil => simp [inB] at h
  | cons b s =>
    simp only [inB, Option.some.injEq, Prod.mk.injEq] at h
    obtain ⟨rfl, rfl⟩ := h
    have := UInt8.toNat_lt b
    rw [u8_of_nat]
    exact ⟨rfl, by omega, by omega⟩
theorem flag_inv {c b : Bool} {s t : Bs} (h : inB.flag c s = some (b, t)) : s = flagB b :: t := by
  cases s with
  | nil => simp [inB] at h
  | cons x s =>
    simp only [inB] at h
    split at h
    · rename_i hx
      simp only [Option.some.injEq, Prod.mk.injEq] at h
      obtain ⟨rfl, rfl⟩ := h
      have : x = 0 ∨ x = 1 := by
        rcases (show x.toNat = 0 ∨ x.toNat = 1 by omega) with h | h
        · exact .inl (UInt8.toNat_inj.1 h)
        · exact .inr (UInt8.toNat_inj.1 h)
      rcases this with rfl | rfl <;> rfl
    · cases h
theorem part_inv {p : Part} {y y' : POp} {s t : Bs} (h0 : agree p POp.zero y) (h : partP inB p y s = some (y', t)) : s = wrP p y' ++ t ∧ okP p y' ∧ (∀ q, q ≠ p → agree q y y') ∧ y'.op = y.op := by
  cases p
  case pairs =>
    have h1 : y.pairs = [] := h0.symm
    simp only [partP] at h
    obtain ⟨⟨n, s1⟩, hm, h⟩ := Option.bind_eq_some_iff.1 h
    obtain ⟨⟨l, s2⟩, hp, h⟩ := Option.bind_eq_some_iff.1 h
    simp only [Option.some.injEq, Prod.mk.injEq] at h
    obtain ⟨rfl, rfl⟩ := h
    obtain ⟨rfl, hn⟩ := many_inv hm
    rw [h1] at hp
    obtain ⟨L, rfl, rfl, h3, h4⟩ := pairs_inv n [] s1 s2 l hp
    refine ⟨?_, ⟨by simpa using hn, by simpa using h4⟩, fun q hq => ?_, rfl⟩
    · rw [h3]; simp [wrP]
    · cases q <;> first | exact absurd rfl hq | simp [agree]
  case keys =>
    have h2 : y.keys = [] := h0.symm
    simp only [partP] at h
    obtain ⟨⟨n, s1⟩, hm, h⟩ := Option.bind_eq_some_iff.1 h
    obtain ⟨⟨l, s2⟩, hp, h⟩ := Option.bind_eq_some_iff.1 h
    simp only [Option.some.injEq, Prod.mk.injEq] at h
    obtain ⟨rfl, rfl⟩ := h
    obtain ⟨rfl, hn⟩ := many_inv hm
    rw [h2] at hp
    obtain ⟨L, rfl, rfl, h3, h4⟩ := keys_inv n [] s1 s2 l hp
    refine ⟨?_, ⟨by simpa using hn, by simpa using h4⟩, fun q hq => ?_, rfl⟩
    · rw [h3]; simp [wrP]
    · cases q <;> first | exact absurd rfl hq | simp [agree]
  case pol =>
    simp only [partP] at h
    obtain ⟨⟨v, s1⟩, hm, h⟩ := Option.bind_eq_some_iff.1 h
    simp only [Option.some.injEq, Prod.mk.injEq] at h
    obtain ⟨rfl, rfl⟩ := h
    obtain ⟨rfl, h3⟩ := word_inv hm
    refine ⟨by simp [wrP], h3, fun q hq => ?_, rfl⟩
    cases q <;> first | exact absurd rfl hq | simp [agree]
  case pred =>
    have hw : inB.words = false := rfl
    simp only [partP, predP, hw, Bool.false_eq_true, if_false] at h
    obtain ⟨⟨k, s1⟩, hm, h⟩ := Option.bind_eq_some_iff.1 h
    obtain ⟨⟨a, s2⟩, ha, h⟩ := Option.bind_eq_some_iff.1 h
    obtain ⟨⟨b, s3⟩, hb, h⟩ := Option.bind_eq_some_iff.1 h
    obtain ⟨⟨f, s4⟩, hf, h⟩ := Option.bind_eq_some_iff.1 h
    simp only [Option.some.injEq, Prod.mk.injEq] at h hm ha hb hf
    obtain ⟨rfl, rfl⟩ := h
    obtain ⟨rfl, h3⟩ := word_inv hm
    obtain ⟨ha, ia⟩ := numD_inv ha
    obtain ⟨hb, ib⟩ := numD_inv hb
    have hf := flag_inv hf
    refine ⟨by rw [ha, hb, hf]; simp [wrP], ⟨h3, ia, ib⟩, fun q hq => ?_, rfl⟩
    cases q <;> first | exact absurd rfl hq | simp [agree]
  all_goals
    simp only [partP] at h
    obtain ⟨⟨v, s1⟩, hm, h⟩ := Option.bind_eq_some_iff.1 h
    simp only [Option.some.injEq, Prod.mk.injEq] at h hm
    obtain ⟨rfl, rfl⟩ := h
    obtain ⟨hs, hi⟩ := numD_inv hm
    refine ⟨by rw [hs]; rfl, hi, fun q hq => ?_, rfl⟩
    cases q <;> first | exact absurd rfl hq | simp [agree]
theorem all_inB {x : POp} (h0 : 0 ≤ x.op ∧ x.op < 256) (hok : ∀ p ∈ partsOf x.op, okP p x) (s : Bs) :
    ∃ y, allP inB .zero (wrB x ++ s) = some (y, s) ∧ y.op = x.op ∧ (∀ p ∈ partsOf x.op, agree p x y) ∧ ∀ p, p ∉ partsOf x.op → agree p POp.zero y := by
  have e : inB.word opNames POp.zero.op (wrB x ++ s) = some (x.op, wrs (partsOf x.op) x ++ s) := by
    simp [inB, wrB, u8_back h0.1 h0.2]
  obtain ⟨y, hr, ho, ha, hb⟩ := parts_rd (c := inB) (wr := wrP) (ok := okP) (fin := fun _ => False) (fun p x y s hx h1 _ => ⟨_, part_inB hx h1 s, copy_op _ _ _, agree_copy _ _ _, fun q hq => agree_copy_ne hq _ _⟩)
    (partsOf x.op) x { POp.zero with op := x.op } s (partsOf_nodup _) (fun _ _ h => h.elim) hok (fun p _ => zero_op p _)
  exact ⟨y, by rw [allP, e]; exact hr, ho, ha, fun p hp => agree_trans (zero_op p _) (hb p hp)⟩
theorem all_inB_eq {x : POp} (h0 : 0 ≤ x.op ∧ x.op < 256) (hok : ∀ p ∈ partsOf x.op, okP p x) (hm : Masked x) (s : Bs) : allP inB .zero (wrB x ++ s) = some (x, s) := by
  obtain ⟨y, hr, ho, ha, hb⟩ := all_inB h0 hok s
  have : x = y := POp.of_agree ho.symm fun p => by
    by_cases hp : p ∈ partsOf x.op
    · exact ha p hp
    · exact agree_trans (agree_symm (hm p hp)) (hb p hp)
  rw [← this] at hr
  exact hr
theorem all_inv {y : POp} {s t : Bs} (h : allP inB .zero s = some (y, t)) : s = wrB y ++ t ∧ (0 ≤ y.op ∧ y.op < 256) ∧ (∀ p ∈ partsOf y.op, okP p y) ∧ Masked y := by
  unfold allP at h
  obtain ⟨⟨v, s1⟩, hw, h⟩ := Option.bind_eq_some_iff.1 h
  obtain ⟨hs, h0⟩ := word_inv hw
  obtain ⟨hs', ho, ha, hop⟩ := parts_back (c := inB) (wr := wrP) (ok := okP) (fun _ _ _ => wrP_congr) (fun _ _ _ => okP_congr) (fun _ _ _ _ _ => part_inv) (partsOf v) { POp.zero with op := v } y s1 t (partsOf_nodup _) (fun p _ => zero_op p _) h
  have hop : y.op = v := hop
  subst hop
  exact ⟨by rw [hs, hs']; rfl, h0, ho, fun p hp => agree_trans (zero_op p _) (ha p hp)⟩
end Go.Sh

