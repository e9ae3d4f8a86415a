/-
  Ops as words: plain laws. No claim of its own.
-/
import Derived.Test.YtmkpkmdnapccgaaGreatDoorZ15
import Derived.Lib.ItoaNum
import Derived.Lib.ParseIntB
import Derived.Lib.ParseIntBTie
import Derived.Test.YtmkpkmdnapccgaaGreatDoorZ03
import Derived.Lib.AppendZerosOnto
import Derived.Lib.Overlaps
import Derived.Laws.CopyRow

set_option maxRecDepth 100000
set_option maxHeartbeats 6400000
namespace Go.Sh
open Go

abbrev dec (v : Int) : Bs := Lib.itoa v
theorem digits_chars : ∀ (u : Nat), ∀ b ∈ Lib.decDigits u, 48 ≤ b.toNat ∧ b.toNat ≤ 57 := by
  intro u
  induction u using Nat.strongRecOn with
  | ind u ih =>
    intro b hb
    rw [Lib.decDigits] at hb
    split at hb
    · rename_i hu
      obtain rfl : b = UInt8.ofNat (48 + u) := by simpa using hb
      rw [u8n (by omega)]; omega
    · rename_i hu
      rcases List.mem_append.1 hb with hb | hb
      · exact ih (u / 10) (by omega) b hb
      · obtain rfl : b = UInt8.ofNat (48 + u % 10) := by simpa using hb
        rw [u8n (by omega)]; omega
theorem digits_ne (u : Nat) : Lib.decDigits u ≠ [] := by
  rw [Lib.decDigits]
  split <;> simp
theorem dec_chars {v : Int} : ∀ b ∈ dec v, b.toNat = 45 ∨ (48 ≤ b.toNat ∧ b.toNat ≤ 57) := by
  intro b hb
  unfold dec Lib.itoa at hb
  split at hb
  · rcases List.mem_cons.1 hb with rfl | hb
    · exact .inl rfl
    · exact .inr (digits_chars _ b hb)
  · exact .inr (digits_chars _ b hb)
theorem pM_snoc (M : Nat) (c : UInt8) : ∀ (l : Bs) (acc a : Nat), Lib.parseUintM M acc l = .ok a → Lib.parseUintM M acc (l ++ [c]) = Lib.parseUintM M a [c]
  | [], acc, a, h => by
    simp only [Lib.parseUintM, Lib.NumEnd.ok.injEq] at h
    subst h; rfl
  | x :: l, acc, a, h => by
    rw [Lib.parseUintM] at h
    rw [List.cons_append, Lib.parseUintM]
    split at h
    · rename_i h1
      rw [if_pos h1]
      split at h
      · cases h
      · rename_i h2
        rw [if_neg h2]
        split at h
        · cases h
        · rename_i h3
          rw [if_neg h3]
          exact pM_snoc M c l _ a h
    · cases h
theorem pM_digits (M : Nat) : ∀ (u : Nat), u ≤ M → u ≤ 9223372036854775808 → Lib.parseUintM M 0 (Lib.decDigits u) = .ok u := by
  intro u
  induction u using Nat.strongRecOn with
  | ind u ih =>
    intro h1 h2
    rw [Lib.decDigits]
    split
    · rename_i hu
      simp only [Lib.parseUintM, u8n (show 48 + u < 256 by omega)]
      rw [if_pos (by omega), if_neg (by omega), if_neg (by omega)]
      congr 1
      omega
    · rename_i hu
      rw [pM_snoc M _ _ _ (u / 10) (ih (u / 10) (by omega) (by omega) (by omega))]
      simp only [Lib.parseUintM, u8n (show 48 + u % 10 < 256 by omega)]
      rw [if_pos (by omega), if_neg (by omega), if_neg (by omega)]
      congr 1
      omega
theorem parse_dec {v : Int} (h : In v) : Lib.parseIntB 64 (dec v) = .ok v := by
  unfold In at h
  unfold dec Lib.itoa
  by_cases hv : v < 0
  · rw [if_pos hv]
    have hp : Lib.parseUintB 64 (Lib.decDigits v.natAbs) = .ok v.natAbs := by
      unfold Lib.parseUintB
      rw [if_neg (digits_ne _), pM_digits _ _ (by omega) (by omega)]
    simp only [Lib.parseIntB]
    rw [if_pos (.inr rfl), hp]
    simp only
    rw [if_neg (by simp), if_neg (by omega), if_pos (show (45 : UInt8).toNat = 45 from rfl)]
    congr 1
    omega
  · rw [if_neg hv]
    have hp : Lib.parseUintB 64 (Lib.decDigits v.toNat) = .ok v.toNat := by
      unfold Lib.parseUintB
      rw [if_neg (digits_ne _), pM_digits _ _ (by omega) (by omega)]
    cases hd : Lib.decDigits v.toNat with
    | nil => exact absurd hd (digits_ne _)
    | cons c r =>
      have hc := digits_chars v.toNat c (by rw [hd]; simp)
      rw [hd] at hp
      simp only [Lib.parseIntB]
      rw [if_neg (by omega), hp]
      simp only
      rw [if_neg (by omega), if_neg (by omega), if_neg (by omega)]
      congr 1
      omega
def undecW (s : Bs) : Option Int := match Lib.parseIntB 64 s with | .ok v => if dec v = s then some v else none | _ => none
theorem undec_dec {v : Int} (h : In v) : undecW (dec v) = some v := by
  unfold undecW
  rw [parse_dec h]
  simp
theorem undec_inv {s : Bs} {v : Int} (h : undecW s = some v) : s = dec v ∧ In v := by
  unfold undecW at h
  split at h
  · rename_i u hu
    split at h
    · rename_i hs
      cases h
      have := Lib.parseIntB_bounds hu
      rw [show 2 ^ (64 - 1) = 9223372036854775808 from rfl] at this
      refine ⟨hs.symm, ?_⟩
      unfold In
      omega
    · cases h
  · cases h
theorem no_char {v : Int} {c : UInt8} (hc : c.toNat ≠ 45 ∧ (c.toNat < 48 ∨ 57 < c.toNat)) : c ∉ dec v := fun h => by
  have := dec_chars c h
  omega

def prW (p : Int × Int) : Bs := dec p.1 ++ 58 :: dec p.2
def cutC : Bs → Option (Bs × Bs)
  | [] => none
  | c :: s => if c = 58 then some ([], s) else (cutC s).map fun r => (c :: r.1, r.2)
theorem cutC_app : ∀ {a b : Bs}, 58 ∉ a → cutC (a ++ 58 :: b) = some (a, b)
  | [], b, _ => by simp [cutC]
  | c :: a, b, h => by
    have h1 : c ≠ 58 := fun e => h (by simp [e])
    rw [List.cons_append, cutC, if_neg h1, cutC_app (fun h' => h (List.mem_cons_of_mem _ h'))]
    rfl
theorem cutC_inv : ∀ {w a b : Bs}, cutC w = some (a, b) → w = a ++ 58 :: b ∧ 58 ∉ a
  | [], a, b, h => by simp [cutC] at h
  | c :: w, a, b, h => by
    rw [cutC] at h
    split at h
    · rename_i hc
      simp only [Option.some.injEq, Prod.mk.injEq] at h
      obtain ⟨rfl, rfl⟩ := h
      exact ⟨by rw [hc]; rfl, by simp⟩
    · rename_i hc
      cases hr : cutC w with
      | none => simp [hr] at h
      | some r =>
        obtain ⟨a', b'⟩ := r
        simp only [hr, Option.map_some, Option.some.injEq, Prod.mk.injEq] at h
        obtain ⟨rfl, rfl⟩ := h
        obtain ⟨hw, hn⟩ := cutC_inv hr
        refine ⟨by rw [hw]; rfl, fun h => ?_⟩
        rcases List.mem_cons.1 h with h | h
        · exact hc h.symm
        · exact hn h
def pairR (w : Bs) : Option (Int × Int) := (cutC w).bind fun r => (undecW r.1).bind fun a => (undecW r.2).bind fun b => some (a, b)
theorem pairR_prW {p : Int × Int} (h : In p.1 ∧ In p.2) : pairR (prW p) = some p := by
  unfold pairR prW
  rw [cutC_app (no_char (by decide))]
  simp [undec_dec h.1, undec_dec h.2]
theorem pairR_inv {w : Bs} {p : Int × Int} (h : pairR w = some p) : w = prW p ∧ In p.1 ∧ In p.2 := by
  unfold pairR at h
  obtain ⟨⟨a, b⟩, hc, h⟩ := Option.bind_eq_some_iff.1 h
  obtain ⟨x, hx, h⟩ := Option.bind_eq_some_iff.1 h
  obtain ⟨y, hy, h⟩ := Option.bind_eq_some_iff.1 h
  cases h
  obtain ⟨rfl, h1⟩ := undec_inv hx
  obtain ⟨rfl, h2⟩ := undec_inv hy
  exact ⟨(cutC_inv hc).1, h1, h2⟩
def findW : List Bs → Nat → Bs → Option Int
  | [], _, _ => none
  | n :: ns, i, w => if n = w ∧ n ≠ [] then some (i : Int) else findW ns (i + 1) w
theorem findW_inv : ∀ {ns : List Bs} {i : Nat} {w : Bs} {v : Int}, findW ns i w = some v → ∃ j, v = ((i + j : Nat) : Int) ∧ ns[j]? = some w ∧ w ≠ []
  | [], _, _, _, h => by simp [findW] at h
  | n :: ns, i, w, v, h => by
    rw [findW] at h
    split at h
    · rename_i hn
      cases h
      exact ⟨0, by simp, by simp [hn.1], by rw [← hn.1]; exact hn.2⟩
    · obtain ⟨j, h1, h2, h3⟩ := findW_inv h
      exact ⟨j + 1, by rw [h1]; congr 1; omega, by simpa using h2, h3⟩
theorem find_op {k : Int} (h : 1 ≤ k ∧ k ≤ 22) : findW opNames 0 (opNames.getD k.toNat []) = some k := by
  have : ∀ j : Fin 22, findW opNames 0 (opNames.getD (j.val + 1) []) = some ((j.val + 1 : Nat) : Int) := by decide
  have := this ⟨k.toNat - 1, by omega⟩
  simp only at this
  rw [show k.toNat - 1 + 1 = k.toNat by omega] at this
  rw [this]; congr 1; omega
theorem find_pol {k : Int} (h : 1 ≤ k ∧ k ≤ 3) : findW polNames 0 (polNames.getD k.toNat []) = some k := by
  have : ∀ j : Fin 3, findW polNames 0 (polNames.getD (j.val + 1) []) = some ((j.val + 1 : Nat) : Int) := by decide
  have := this ⟨k.toNat - 1, by omega⟩
  simp only at this
  rw [show k.toNat - 1 + 1 = k.toNat by omega] at this
  rw [this]; congr 1; omega
theorem find_knd {k : Int} (h : 1 ≤ k ∧ k ≤ 5) : findW kindNames 0 (kindNames.getD k.toNat []) = some k ∧ kindNames.getD k.toNat [] ≠ notW := by
  have : ∀ j : Fin 5, findW kindNames 0 (kindNames.getD (j.val + 1) []) = some ((j.val + 1 : Nat) : Int) ∧ kindNames.getD (j.val + 1) [] ≠ notW := by decide
  have := this ⟨k.toNat - 1, by omega⟩
  simp only at this
  rw [show k.toNat - 1 + 1 = k.toNat by omega] at this
  rw [this.1]; exact ⟨by congr 1; omega, this.2⟩
theorem find_back {ns : List Bs} {w : Bs} {v : Int} {m : Nat} (h0 : ns[0]? = some []) (hm : ns.length = m + 1) (h : findW ns 0 w = some v) : w = ns.getD v.toNat [] ∧ 1 ≤ v ∧ v ≤ m := by
  obtain ⟨j, h1, h2, h3⟩ := findW_inv h
  have hj : j < ns.length := (List.getElem?_eq_some_iff.1 h2).1
  have hj0 : j ≠ 0 := fun e => by subst e; rw [h0] at h2; cases h2; exact h3 rfl
  rw [h1]
  refine ⟨?_, by omega, by omega⟩
  rw [Int.toNat_natCast, Nat.zero_add, List.getD_eq_getElem?_getD, h2]; rfl

def outW : PC (List Bs) where
  num v s := some (v, s ++ [dec v])
  word ns k s := some (k, s ++ [ns.getD k.toNat []])
  flag b s := some (b, if b = true then s ++ [notW] else s)
  many n s := some (n, s)
  pair p s := some (p, s ++ [prW p])
  words := true
def inW : PC (List Bs) where
  num _ s := match s with | [] => none | w :: s => (undecW w).map fun v => (v, s)
  word ns _ s := match s with | [] => none | w :: s => (findW ns 0 w).map fun v => (v, s)
  flag b s := match s with | [] => some (b, []) | w :: s => if w = notW then some (true, s) else some (b, w :: s)
  many _ s := if s.length ≤ 4096 then some (s.length, s) else none
  pair _ s := match s with | [] => none | w :: s => (pairR w).map fun v => (v, s)
  words := true
def wrW : Part → POp → List Bs
  | .a, x => [dec x.a]
  | .b, x => [dec x.b]
  | .n, x => [dec x.n]
  | .key, x => [dec x.key]
  | .val, x => [dec x.val]
  | .lo, x => [dec x.lo]
  | .hi, x => [dec x.hi]
  | .pol, x => [polNames.getD x.pol.toNat []]
  | .pred, x => (if x.pnot = true then [notW] else []) ++ ([kindNames.getD x.pk.toNat []] ++ if x.pk = 1 then [] else [dec x.pa, dec x.pb])
  | .pairs, x => x.pairs.map prW
  | .keys, x => x.keys.map dec
def wordsOf (x : POp) : List Bs := opNames.getD x.op.toNat [] :: (partsOf x.op).flatMap fun p => wrW p x
theorem wrW_congr {p : Part} {x y : POp} (h : agree p x y) : wrW p x = wrW p y := by
  cases p <;> simp only [agree] at h <;> simp only [wrW] <;> first | rw [h] | rw [h.1, h.2.1, h.2.2.1, h.2.2.2]
def okW : Part → POp → Prop
  | .pol, x => 1 ≤ x.pol ∧ x.pol ≤ 3
  | .pred, x => (1 ≤ x.pk ∧ x.pk ≤ 5) ∧ In x.pa ∧ In x.pb ∧ (x.pk = 1 → x.pa = 0 ∧ x.pb = 0)
  | p, x => okP p x
theorem okW_congr {p : Part} {x y : POp} (h : agree p x y) (k : okW p x) : okW p y := by
  cases p
  case pol => simp only [agree] at h; simp only [okW] at k ⊢; rw [← h]; exact k
  case pred => simp only [agree] at h; simp only [okW] at k ⊢; rw [← h.1, ← h.2.1, ← h.2.2.1]; exact k
  all_goals exact okP_congr h k
theorem pairs_outW : ∀ (m k : Nat) (l : List (Int × Int)) (s : List Bs), k + m = l.length → pairsP outW m k l s = some (l, s ++ (l.drop k).map prW)
  | 0, k, l, s, h => by simp [pairsP, List.drop_of_length_le (show l.length ≤ k by omega)]
  | m + 1, k, l, s, h => by
    have hk : k < l.length := by omega
    simp only [pairsP, outW, Option.bind_some, if_neg (show ¬ k = l.length by omega)]
    have := pairs_outW m (k + 1) l (s ++ [prW (l.getD k (0, 0))]) (by omega)
    simp only [outW] at this
    rw [this, List.drop_eq_getElem_cons hk]
    simp only [List.map_cons, List.append_assoc, List.cons_append, List.nil_append, List.getD_eq_getElem?_getD, List.getElem?_eq_getElem hk, Option.getD_some]
theorem keys_outW : ∀ (m k : Nat) (l : List Int) (s : List Bs), k + m = l.length → keysP outW m k l s = some (l, s ++ (l.drop k).map dec)
  | 0, k, l, s, h => by simp [keysP, List.drop_of_length_le (show l.length ≤ k by omega)]
  | m + 1, k, l, s, h => by
    have hk : k < l.length := by omega
    simp only [keysP, outW, Option.bind_some, if_neg (show ¬ k = l.length by omega)]
    have := keys_outW m (k + 1) l (s ++ [dec (l.getD k 0)]) (by omega)
    simp only [outW] at this
    rw [this, List.drop_eq_getElem_cons hk]
    simp only [List.map_cons, List.append_assoc, List.cons_append, List.nil_append, List.getD_eq_getElem?_getD, List.getElem?_eq_getElem hk, Option.getD_some]
theorem part_outW (p : Part) (x : POp) (s : List Bs) : partP outW p x s = some (x, s ++ wrW p x) := by
  cases p
  case pairs =>
    have := pairs_outW x.pairs.length 0 x.pairs s (by omega)
    simp only [partP, wrW]
    rw [show outW.many x.pairs.length s = some (x.pairs.length, s) from rfl]
    simp only [Option.bind_some, this]
    simp
  case keys =>
    have := keys_outW x.keys.length 0 x.keys s (by omega)
    simp only [partP, wrW]
    rw [show outW.many x.keys.length s = some (x.keys.length, s) from rfl]
    simp only [Option.bind_some, this]
    simp
  case pred =>
    have hs : (if x.pnot = true then s ++ [notW] else s) = s ++ (if x.pnot = true then [notW] else []) := by split <;> simp
    simp only [partP, predP, outW, wrW, if_true, Option.bind_some, hs]
    split
    · exact some_eq rfl (by simp only [List.append_assoc, List.append_nil])
    · exact some_eq rfl (by simp only [List.append_assoc, List.cons_append, List.nil_append])
  all_goals simp [partP, outW, wrW]
theorem parts_outW : ∀ (ps : List Part) (x : POp) (s : List Bs), partsP outW ps x s = some (x, s ++ ps.flatMap fun p => wrW p x)
  | [], x, s => by simp [partsP]
  | p :: ps, x, s => by
    simp only [partsP, part_outW, Option.bind_some, parts_outW ps]
    simp
theorem all_outW (x : POp) (s : List Bs) : allP outW x s = some (x, s ++ wordsOf x) := by
  unfold allP
  rw [show outW.word opNames x.op s = some (x.op, s ++ [opNames.getD x.op.toNat []]) from rfl]
  simp only [Option.bind_some]
  rw [show ({ x with op := x.op } : POp) = x from rfl, parts_outW]
  simp [wordsOf]
theorem pairs_inW : ∀ (L l : List (Int × Int)) (s : List Bs), InPs L → pairsP inW L.length l.length l (L.map prW ++ s) = some (l ++ L, s)
  | [], l, s, _ => by simp [pairsP]
  | x :: L, l, s, h => by
    have e : inW.pair (l.getD l.length (0, 0)) ((x :: L).map prW ++ s) = some (x, L.map prW ++ s) := by
      simp [inW, pairR_prW (h x (by simp))]
    simp only [List.length_cons, pairsP, e, Option.bind_some, if_true]
    have := pairs_inW L (l ++ [x]) s fun y hy => h y (by simp [hy])
    rw [List.length_append, List.length_singleton] at this
    rw [this]
    simp
theorem keys_inW : ∀ (L l : List Int) (s : List Bs), (∀ v ∈ L, In v) → keysP inW L.length l.length l (L.map dec ++ s) = some (l ++ L, s)
  | [], l, s, _ => by simp [keysP]
  | x :: L, l, s, h => by
    have e : inW.num (l.getD l.length 0) ((x :: L).map dec ++ s) = some (x, L.map dec ++ s) := by
      simp [inW, undec_dec (h x (by simp))]
    simp only [List.length_cons, keysP, e, Option.bind_some, if_true]
    have := keys_inW L (l ++ [x]) s fun y hy => h y (by simp [hy])
    rw [List.length_append, List.length_singleton] at this
    rw [this]
    simp
def finW (p : Part) : Prop := p = .pairs ∨ p = .keys
theorem part_inW {p : Part} {x y : POp} {s : List Bs} (hx : okW p x) (h1 : agree p POp.zero y) (hf : finW p → s = []) :
    ∃ y', partP inW p y (wrW p x ++ s) = some (y', s) ∧ y'.op = y.op ∧ agree p x y' ∧ ∀ q, q ≠ p → agree q y y' := by
  cases p
  case pairs =>
    obtain rfl := hf (.inl rfl)
    have h1 : y.pairs = [] := h1.symm
    have hx : x.pairs.length ≤ 4096 ∧ InPs x.pairs := hx
    have := pairs_inW x.pairs [] [] hx.2
    simp only [List.length_nil, List.nil_append, List.append_nil] at this
    refine ⟨{ y with pairs := x.pairs }, ?_, rfl, rfl, fun q hq => ?_⟩
    · simp only [partP, wrW, List.append_nil]
      rw [show inW.many y.pairs.length (x.pairs.map prW) = some (x.pairs.length, x.pairs.map prW) by simp [inW, hx.1]]
      simp only [Option.bind_some, h1, this]
    · cases q <;> first | exact absurd rfl hq | simp [agree]
  case keys =>
    obtain rfl := hf (.inr rfl)
    have h1 : y.keys = [] := h1.symm
    have hx : x.keys.length ≤ 4096 ∧ ∀ v ∈ x.keys, In v := hx
    have := keys_inW x.keys [] [] hx.2
    simp only [List.length_nil, List.nil_append, List.append_nil] at this
    refine ⟨{ y with keys := x.keys }, ?_, rfl, rfl, fun q hq => ?_⟩
    · simp only [partP, wrW, List.append_nil]
      rw [show inW.many y.keys.length (x.keys.map dec) = some (x.keys.length, x.keys.map dec) by simp [inW, hx.1]]
      simp only [Option.bind_some, h1, this]
    · cases q <;> first | exact absurd rfl hq | simp [agree]
  case pol =>
    have hx : 1 ≤ x.pol ∧ x.pol ≤ 3 := hx
    refine ⟨{ y with pol := x.pol }, ?_, rfl, rfl, fun q hq => ?_⟩
    · simp only [partP, inW, wrW, List.cons_append, List.nil_append, find_pol hx]
      rfl
    · cases q <;> first | exact absurd rfl hq | simp [agree]
  case pred =>
    obtain ⟨hk, ha, hb, h0⟩ : (1 ≤ x.pk ∧ x.pk ≤ 5) ∧ In x.pa ∧ In x.pb ∧ (x.pk = 1 → x.pa = 0 ∧ x.pb = 0) := hx
    obtain ⟨z1, z2, z3, z4⟩ : (0 : Int) = y.pk ∧ (0 : Int) = y.pa ∧ (0 : Int) = y.pb ∧ false = y.pnot := h1
    obtain ⟨f1, f2⟩ := find_knd hk
    have e1 : ∀ s, inW.flag y.pnot ((if x.pnot = true then [notW] else []) ++ ([kindNames.getD x.pk.toNat []] ++ s)) = some (x.pnot, [kindNames.getD x.pk.toNat []] ++ s) := fun s => by
      cases hp : x.pnot
      · simp only [inW, Bool.false_eq_true, if_false, List.nil_append, List.cons_append]
        rw [if_neg f2, ← z4]
      · simp [inW]
    have e2 : ∀ s, inW.word kindNames y.pk ([kindNames.getD x.pk.toNat []] ++ s) = some (x.pk, s) := fun s => by simp only [inW, List.singleton_append, f1]; rfl
    refine ⟨{ y with pk := x.pk, pa := x.pa, pb := x.pb, pnot := x.pnot }, ?_, rfl, ⟨rfl, rfl, rfl, rfl⟩, fun q hq => ?_⟩
    · simp only [partP, predP, show inW.words = true from rfl, if_true, wrW, List.append_assoc, e1, Option.bind_some, e2]
      by_cases hk1 : x.pk = 1
      · rw [if_pos hk1, if_pos hk1, (h0 hk1).1, (h0 hk1).2]
        simp only [List.nil_append]
        rw [show ({ y with pnot := x.pnot, pk := x.pk } : POp) = { y with pk := x.pk, pa := 0, pb := 0, pnot := x.pnot } from POp.ext' rfl rfl rfl rfl rfl rfl rfl rfl rfl rfl z2.symm z3.symm rfl rfl rfl]
      · rw [if_neg hk1, if_neg hk1]
        simp only [inW, List.cons_append, List.nil_append, undec_dec ha, undec_dec hb, Option.map_some, Option.bind_some]
    · cases q <;> first | exact absurd rfl hq | simp [agree]
  all_goals
    refine ⟨copyP _ x y, ?_, rfl, agree_copy _ _ _, fun q hq => agree_copy_ne hq _ _⟩
    simp [partP, inW, wrW, copyP, undec_dec (show In _ from hx)]
theorem pairs_backW : ∀ (m : Nat) (l : List (Int × Int)) (s t : List Bs) (l' : List (Int × Int)), pairsP inW m l.length l s = some (l', t) → ∃ L, l' = l ++ L ∧ L.length = m ∧ s = L.map prW ++ t ∧ InPs L
  | 0, l, s, t, l', h => by
    simp only [pairsP, Option.some.injEq, Prod.mk.injEq] at h
    exact ⟨[], by simp [h.1], rfl, by simp [h.2], fun _ h => by simp at h⟩
  | m + 1, l, s, t, l', h => by
    simp only [pairsP, if_true] at h
    obtain ⟨⟨x, s1⟩, hp, h5⟩ := Option.bind_eq_some_iff.1 h
    clear h
    cases s with
    | nil => simp [inW] at hp
    | cons w s =>
      simp only [inW] at hp
      obtain ⟨v, hv, hp⟩ := Option.map_eq_some_iff.1 hp
      cases hp
      obtain ⟨rfl, hi⟩ := pairR_inv hv
      obtain ⟨L, h1, h2, h3, h4⟩ := pairs_backW m (l ++ [x]) s1 t l' (by rw [List.length_append]; exact h5)
      refine ⟨x :: L, by simp [h1], by simp [h2], by rw [h3]; simp, fun y hy => ?_⟩
      rcases List.mem_cons.1 hy with rfl | hy
      · exact hi
      · exact h4 y hy
theorem keys_backW : ∀ (m : Nat) (l : List Int) (s t : List Bs) (l' : List Int), keysP inW m l.length l s = some (l', t) → ∃ L, l' = l ++ L ∧ L.length = m ∧ s = L.map dec ++ t ∧ ∀ v ∈ L, In v
  | 0, l, s, t, l', h => by
    simp only [keysP, Option.some.injEq, Prod.mk.injEq] at h
    exact ⟨[], by simp [h.1], rfl, by simp [h.2], fun _ h => by simp at h⟩
  | m + 1, l, s, t, l', h => by
    simp only [keysP, if_true] at h
    obtain ⟨⟨x, s1⟩, hp, h5⟩ := Option.bind_eq_some_iff.1 h
    clear h
    cases s with
    | nil => simp [inW] at hp
    | cons w s =>
      simp only [inW] at hp
      obtain ⟨v, hv, hp⟩ := Option.map_eq_some_iff.1 hp
      cases hp
      obtain ⟨rfl, hi⟩ := undec_inv hv
      obtain ⟨L, h1, h2, h3, h4⟩ := keys_backW m (l ++ [x]) s1 t l' (by rw [List.length_append]; exact h5)
      refine ⟨x :: L, by simp [h1], by simp [h2], by rw [h3]; simp, fun y hy => ?_⟩
      rcases List.mem_cons.1 hy with rfl | hy
      · exact hi
      · exact h4 y hy
theorem num_backW {u v : Int} {s t : List Bs} (h : inW.num u s = some (v, t)) : s = dec v :: t ∧ In v := by
  cases s with
  | nil => simp [inW] at h
  | cons w s =>
    simp only [inW] at h
    obtain ⟨x, hx, h⟩ := Option.map_eq_some_iff.1 h
    cases h
    obtain ⟨rfl, hi⟩ := undec_inv hx
    exact ⟨rfl, hi⟩
theorem word_backW {ns : List Bs} {m : Nat} (h0 : ns[0]? = some []) (hm : ns.length = m + 1) {u v : Int} {s t : List Bs} (h : inW.word ns u s = some (v, t)) : s = ns.getD v.toNat [] :: t ∧ 1 ≤ v ∧ v ≤ m := by
  cases s with
  | nil => simp [inW] at h
  | cons w s =>
    simp only [inW] at h
    obtain ⟨x, hx, h⟩ := Option.map_eq_some_iff.1 h
    cases h
    obtain ⟨rfl, hi⟩ := find_back h0 hm hx
    exact ⟨rfl, hi⟩
theorem part_backW {p : Part} {y y' : POp} {s t : List Bs} (h0 : agree p POp.zero y) (h : partP inW p y s = some (y', t)) : s = wrW p y' ++ t ∧ okW p y' ∧ (∀ q, q ≠ p → agree q y y') ∧ y'.op = y.op := by
  cases p
  case pairs =>
    have h1 : y.pairs = [] := h0.symm
    simp only [partP] at h
    obtain ⟨⟨n, s1⟩, hm, h⟩ := Option.bind_eq_some_iff.1 h
    obtain ⟨⟨l, s2⟩, hp, h⟩ := Option.bind_eq_some_iff.1 h
    cases h
    simp only [inW] at hm
    split at hm
    · rename_i hl
      cases hm
      rw [h1] at hp
      obtain ⟨L, rfl, h2, h3, h4⟩ := pairs_backW s.length [] s _ l hp
      refine ⟨by rw [h3]; simp [wrW], ⟨?_, by simpa using h4⟩, fun q hq => ?_, rfl⟩
      · simp only [List.nil_append, h2]; exact hl
      · cases q <;> first | exact absurd rfl hq | simp [agree]
    · cases hm
  case keys =>
    have h1 : y.keys = [] := h0.symm
    simp only [partP] at h
    obtain ⟨⟨n, s1⟩, hm, h⟩ := Option.bind_eq_some_iff.1 h
    obtain ⟨⟨l, s2⟩, hp, h⟩ := Option.bind_eq_some_iff.1 h
    cases h
    simp only [inW] at hm
    split at hm
    · rename_i hl
      cases hm
      rw [h1] at hp
      obtain ⟨L, rfl, h2, h3, h4⟩ := keys_backW s.length [] s _ l hp
      refine ⟨by rw [h3]; simp [wrW], ⟨?_, by simpa using h4⟩, fun q hq => ?_, rfl⟩
      · simp only [List.nil_append, h2]; exact hl
      · cases q <;> first | exact absurd rfl hq | simp [agree]
    · cases hm
  case pol =>
    simp only [partP] at h
    obtain ⟨⟨v, s1⟩, hm, h⟩ := Option.bind_eq_some_iff.1 h
    cases h
    obtain ⟨rfl, h3⟩ := word_backW (m := 3) rfl rfl hm
    refine ⟨by simp [wrW], h3, fun q hq => ?_, rfl⟩
    cases q <;> first | exact absurd rfl hq | simp [agree]
  case pred =>
    obtain ⟨z1, z2, z3, z4⟩ : (0 : Int) = y.pk ∧ (0 : Int) = y.pa ∧ (0 : Int) = y.pb ∧ false = y.pnot := h0
    simp only [partP, predP, show inW.words = true from rfl, if_true] at h
    obtain ⟨⟨f, s1⟩, hf, h⟩ := Option.bind_eq_some_iff.1 h
    obtain ⟨⟨k, s2⟩, hm, h⟩ := Option.bind_eq_some_iff.1 h
    obtain ⟨hs1, hk⟩ := word_backW (m := 5) rfl rfl hm
    simp only at hs1
    have hfs : s = (if f = true then [notW] else []) ++ s1 := by
      cases s with
      | nil => simp only [inW] at hf; cases hf; rw [← z4]; simp
      | cons w s =>
        simp only [inW] at hf
        split at hf
        · rename_i hw; cases hf; rw [hw]; simp
        · cases hf; rw [← z4]; simp
    split at h
    · rename_i hk1
      have hk1 : k = 1 := hk1
      cases h
      refine ⟨?_, ⟨hk, ?_, ?_, fun _ => ⟨z2.symm, z3.symm⟩⟩, fun q hq => ?_, rfl⟩
      · rw [hfs, hs1]; simp [wrW, hk1]
      · show In y.pa
        rw [← z2]; unfold In; omega
      · show In y.pb
        rw [← z3]; unfold In; omega
      · cases q <;> first | exact absurd rfl hq | simp [agree]
    · rename_i hk1
      have hk1 : ¬ k = 1 := hk1
      obtain ⟨⟨a, s3⟩, ha, h⟩ := Option.bind_eq_some_iff.1 h
      obtain ⟨⟨b, s4⟩, hb, h⟩ := Option.bind_eq_some_iff.1 h
      cases h
      obtain ⟨ha, ia⟩ := num_backW ha
      obtain ⟨hb, ib⟩ := num_backW hb
      simp only at ha hb
      refine ⟨?_, ⟨hk, ia, ib, fun h => absurd h hk1⟩, fun q hq => ?_, rfl⟩
      · rw [hfs, hs1, ha, hb]; simp [wrW, hk1]
      · cases q <;> first | exact absurd rfl hq | simp [agree]
  all_goals
    simp only [partP] at h
    obtain ⟨⟨v, s1⟩, hm, h⟩ := Option.bind_eq_some_iff.1 h
    cases h
    obtain ⟨rfl, hi⟩ := num_backW hm
    refine ⟨rfl, hi, fun q hq => ?_, rfl⟩
    cases q <;> first | exact absurd rfl hq | simp [agree]
theorem partsOf_fin (d : Int) : ∀ p ∈ partsOf d, finW p → (partsOf d).getLast? = some p :=
  partsOf_cases d (C := fun l => ∀ p ∈ l, finW p → l.getLast? = some p) (by simp [finW]) (by simp [finW]) (by simp [finW]) (by simp [finW]) (by simp [finW]) (by simp [finW]) (by simp [finW]) (by simp [finW]) (by simp [finW]) (by simp [finW]) (by simp [finW]) (by simp [finW])
theorem all_inW {x : POp} (h0 : 1 ≤ x.op ∧ x.op ≤ 22) (hok : ∀ p ∈ partsOf x.op, okW p x) (hm : Masked x) : allP inW .zero (wordsOf x) = some (x, []) := by
  have e : inW.word opNames POp.zero.op (wordsOf x) = some (x.op, (partsOf x.op).flatMap fun p => wrW p x) := by
    simp only [inW, wordsOf, find_op h0]; rfl
  obtain ⟨y, hr, ho, ha, hb⟩ := parts_rd (c := inW) (wr := wrW) (ok := okW) (fin := finW) (fun p x y s hx h1 hf => part_inW hx h1 hf)
    (partsOf x.op) x { POp.zero with op := x.op } [] (partsOf_nodup _) (fun p hp hf => ⟨rfl, partsOf_fin _ p hp hf⟩) hok (fun p _ => zero_op p _)
  rw [List.append_nil] at hr
  have : x = y := POp.of_agree ho.symm fun p => by
    by_cases hp : p ∈ partsOf x.op
    · exact ha p hp
    · exact agree_trans (agree_symm (hm p hp)) (agree_trans (zero_op p _) (hb p hp))
  rw [allP, e]
  rw [← this] at hr
  exact hr
theorem all_backW {y : POp} {s t : List Bs} (h : allP inW .zero s = some (y, t)) : s = wordsOf y ++ t ∧ (1 ≤ y.op ∧ y.op ≤ 22) ∧ (∀ p ∈ partsOf y.op, okW p y) ∧ Masked y := by
  unfold allP at h
  obtain ⟨⟨v, s1⟩, hw, h⟩ := Option.bind_eq_some_iff.1 h
  obtain ⟨hs, h0⟩ := word_backW (m := 22) rfl rfl hw
  obtain ⟨hs', ho, ha, hop⟩ := parts_back (c := inW) (wr := wrW) (ok := okW) (fun _ _ _ => wrW_congr) (fun _ _ _ => okW_congr) (fun _ _ _ _ _ => part_backW) (partsOf v) { POp.zero with op := v } y s1 t (partsOf_nodup _) (fun p _ => zero_op p _) h
  have hop : y.op = v := hop
  subst hop
  exact ⟨by rw [hs, hs']; rfl, h0, ho, fun p hp => agree_trans (zero_op p _) (ha p hp)⟩

def splitW : Bs → List Bs
  | [] => [[]]
  | c :: s => if c = 32 then [] :: splitW s else match splitW s with | [] => [[c]] | w :: ws => (c :: w) :: ws
def joinW : List Bs → Bs
  | [] => []
  | [w] => w
  | w :: v :: ws => w ++ 32 :: joinW (v :: ws)
theorem splitW_ne (s : Bs) : splitW s ≠ [] := by
  cases s with
  | nil => simp [splitW]
  | cons c s =>
    rw [splitW]
    split
    · simp
    · split <;> simp
theorem join_split : ∀ (s : Bs), joinW (splitW s) = s
  | [] => rfl
  | c :: s => by
    have ih := join_split s
    rw [splitW]
    split
    · rename_i hc
      cases hs : splitW s with
      | nil => exact absurd hs (splitW_ne s)
      | cons w ws => rw [hs] at ih; rw [joinW, ih, hc]; rfl
    · cases hs : splitW s with
      | nil => exact absurd hs (splitW_ne s)
      | cons w ws =>
        rw [hs] at ih
        cases ws with
        | nil => simp only [joinW] at ih ⊢; rw [ih]
        | cons v ws => simp only [joinW] at ih ⊢; rw [List.cons_append, ih]
theorem split_word : ∀ {w : Bs}, 32 ∉ w → splitW w = [w]
  | [], _ => rfl
  | c :: w, h => by
    rw [splitW, if_neg (fun e => h (by simp [e])), split_word (fun h' => h (List.mem_cons_of_mem _ h'))]
theorem split_app : ∀ {w s : Bs}, 32 ∉ w → splitW (w ++ 32 :: s) = w :: splitW s
  | [], s, _ => by rw [List.nil_append, splitW, if_pos rfl]
  | c :: w, s, h => by
    rw [List.cons_append, splitW, if_neg (fun e => h (by simp [e])), split_app (fun h' => h (List.mem_cons_of_mem _ h'))]
theorem split_join : ∀ {ws : List Bs}, ws ≠ [] → (∀ w ∈ ws, 32 ∉ w) → splitW (joinW ws) = ws
  | [], h, _ => absurd rfl h
  | [w], _, h => split_word (h w (by simp))
  | w :: v :: ws, _, h => by
    rw [joinW, split_app (h w (by simp)), split_join (by simp) fun u hu => h u (by simp only [List.mem_cons] at hu ⊢; exact .inr hu)]
theorem no_blank {x : POp} (h0 : 1 ≤ x.op ∧ x.op ≤ 22) (hok : ∀ p ∈ partsOf x.op, okW p x) : ∀ w ∈ wordsOf x, 32 ∉ w := by
  have hd : ∀ v : Int, (32 : UInt8) ∉ dec v := fun v => no_char (by decide)
  have hp : ∀ p : Int × Int, (32 : UInt8) ∉ prW p := fun p h => by
    unfold prW at h
    rcases List.mem_append.1 h with h | h
    · exact hd _ h
    · rcases List.mem_cons.1 h with h | h
      · exact absurd h (by decide)
      · exact hd _ h
  have t1 : ∀ w ∈ opNames, (32 : UInt8) ∉ w := by decide
  have t2 : ∀ w ∈ polNames, (32 : UInt8) ∉ w := by decide
  have t3 : ∀ w ∈ kindNames, (32 : UInt8) ∉ w := by decide
  have g : ∀ (ns : List Bs), (∀ w ∈ ns, (32 : UInt8) ∉ w) → ∀ k, (32 : UInt8) ∉ ns.getD k [] := fun ns hns k => by
    rw [List.getD_eq_getElem?_getD]
    cases hk : ns[k]? with
    | none => simp
    | some w => exact hns w (List.mem_of_getElem? hk)
  intro w hw
  rcases List.mem_cons.1 hw with rfl | hw
  · exact g _ t1 _
  · obtain ⟨p, _, hw⟩ := List.mem_flatMap.1 hw
    cases p <;> simp only [wrW, List.mem_singleton, List.mem_map, List.mem_append] at hw
    case pairs => obtain ⟨p, _, rfl⟩ := hw; exact hp _
    case keys => obtain ⟨p, _, rfl⟩ := hw; exact hd _
    case pol => rw [hw]; exact g _ t2 _
    case pred =>
      rcases hw with hw | hw | hw
      · split at hw
        · obtain rfl : w = notW := by simpa using hw
          decide
        · simp at hw
      · rw [hw]; exact g _ t3 _
      · split at hw
        · simp at hw
        · simp only [List.mem_cons, List.not_mem_nil, or_false] at hw
          rcases hw with rfl | rfl <;> exact hd _
    all_goals (rw [hw]; exact hd _)
end Go.Sh

namespace Go.Sh
open Go

def polMay (p : Int) : Bool := p == 1 || p == 2 || p == 3
def predMay (k a b : Int) : Bool :=
  if k = 1 then decide (a = 0 ∧ b = 0) else if k = 2 ∨ k = 3 then true else if k = 4 then decide (1 ≤ a ∧ 0 ≤ b ∧ b < a)
  else if k = 5 then decide (BitVec.ofInt 64 a ||| BitVec.ofInt 64 b = BitVec.ofInt 64 a) else false
theorem predMay_kind {k a b : Int} (h : predMay k a b = true) : (1 ≤ k ∧ k ≤ 5) ∧ (k = 1 → a = 0 ∧ b = 0) := by
  unfold predMay at h
  by_cases h1 : k = 1
  · rw [if_pos h1] at h; exact ⟨by omega, fun _ => of_decide_eq_true h⟩
  · rw [if_neg h1] at h
    refine ⟨?_, fun e => absurd e h1⟩
    by_cases h2 : k = 2 ∨ k = 3
    · omega
    · rw [if_neg h2] at h
      by_cases h3 : k = 4
      · omega
      · rw [if_neg h3] at h
        by_cases h4 : k = 5
        · omega
        · rw [if_neg h4] at h; cases h
def hasP (p : Part) (d : Int) : Bool := decide (p ∈ partsOf d)
instance (p : Part) (x y : POp) : Decidable (agree p x y) := by cases p <;> (simp only [agree]; infer_instance)
def allParts : List Part := [.a, .b, .n, .key, .val, .lo, .hi, .pol, .pred, .pairs, .keys]
theorem mem_allParts (p : Part) : p ∈ allParts := by cases p <;> simp [allParts]
def mayO (x : POp) : Bool :=
  decide (1 ≤ x.op ∧ x.op ≤ 22) && allParts.all (fun p => hasP p x.op || decide (agree p POp.zero x)) && (!hasP .pol x.op || polMay x.pol) && (!hasP .pred x.op || predMay x.pk x.pa x.pb) &&
    decide (x.pairs.length ≤ 4096 ∧ x.keys.length ≤ 4096)
structure May (x : POp) : Prop where
  op : 1 ≤ x.op ∧ x.op ≤ 22
  masked : Masked x
  pol : .pol ∈ partsOf x.op → polMay x.pol = true
  pred : .pred ∈ partsOf x.op → predMay x.pk x.pa x.pb = true
  pairs : x.pairs.length ≤ 4096
  keys : x.keys.length ≤ 4096
theorem mayO_iff {x : POp} : mayO x = true ↔ May x := by
  unfold mayO hasP
  simp only [Bool.and_eq_true, decide_eq_true_eq, List.all_eq_true, Bool.or_eq_true, Bool.not_eq_true', decide_eq_false_iff_not]
  constructor
  · rintro ⟨⟨⟨⟨h1, h2⟩, h3⟩, h4⟩, h5, h6⟩
    exact ⟨h1, fun p hp => (h2 p (mem_allParts p)).resolve_left hp, fun hp => h3.resolve_left (fun h => h hp), fun hp => h4.resolve_left (fun h => h hp), h5, h6⟩
  · rintro ⟨h1, h2, h3, h4, h5, h6⟩
    refine ⟨⟨⟨⟨h1, fun p _ => ?_⟩, ?_⟩, ?_⟩, h5, h6⟩
    · by_cases hp : p ∈ partsOf x.op
      · exact .inl hp
      · exact .inr (h2 p hp)
    · by_cases hp : .pol ∈ partsOf x.op
      · exact .inr (h3 hp)
      · exact .inl hp
    · by_cases hp : .pred ∈ partsOf x.op
      · exact .inr (h4 hp)
      · exact .inl hp
structure InO (x : POp) : Prop where
  op : 0 ≤ x.op ∧ x.op < 256
  a : In x.a
  b : In x.b
  key : In x.key
  val : In x.val
  lo : In x.lo
  hi : In x.hi
  n : In x.n
  pol : 0 ≤ x.pol ∧ x.pol < 256
  pk : 0 ≤ x.pk ∧ x.pk < 256
  pa : In x.pa
  pb : In x.pb
  pairs : InPs x.pairs
  keys : ∀ v ∈ x.keys, In v
theorem may_pol {p : Int} (h : polMay p = true) : 1 ≤ p ∧ p ≤ 3 := by
  have h : (p = 1 ∨ p = 2) ∨ p = 3 := by simpa [polMay] using h
  omega
theorem InO.okP {x : POp} (h : InO x) (p : Part) (hp : p = .pairs → x.pairs.length ≤ 4096) (hk : p = .keys → x.keys.length ≤ 4096) : okP p x := by
  cases p
  case pairs => exact ⟨hp rfl, h.pairs⟩
  case keys => exact ⟨hk rfl, h.keys⟩
  case pred => exact ⟨h.pk, h.pa, h.pb⟩
  case pol => exact h.pol
  case a => exact h.a
  case b => exact h.b
  case n => exact h.n
  case key => exact h.key
  case val => exact h.val
  case lo => exact h.lo
  case hi => exact h.hi
theorem May.okW {x : POp} (h : May x) (hi : InO x) : ∀ p ∈ partsOf x.op, okW p x := fun p hp => by
  cases p
  case pol => exact may_pol (h.pol hp)
  case pred =>
    have := predMay_kind (h.pred hp)
    exact ⟨this.1, hi.pa, hi.pb, this.2⟩
  case a => exact hi.a
  case b => exact hi.b
  case n => exact hi.n
  case key => exact hi.key
  case val => exact hi.val
  case lo => exact hi.lo
  case hi => exact hi.hi
  case pairs => exact ⟨h.pairs, hi.pairs⟩
  case keys => exact ⟨h.keys, hi.keys⟩
theorem May.okP {x : POp} (h : May x) (hi : InO x) : ∀ p ∈ partsOf x.op, okP p x := fun p _ => hi.okP p (fun _ => h.pairs) (fun _ => h.keys)
theorem masked_InO {x : POp} (h0 : 0 ≤ x.op ∧ x.op < 256) (hok : ∀ p ∈ partsOf x.op, okP p x) (hm : Masked x) : InO x := by
  have z : In 0 := by unfold In; omega
  have g : ∀ p, Go.Sh.okP p x := fun p => by
    by_cases hp : p ∈ partsOf x.op
    · exact hok p hp
    · refine okP_congr (hm p hp) ?_
      cases p <;> simp [Go.Sh.okP, POp.zero, z, InPs]
  exact ⟨h0, g .a, g .b, g .key, g .val, g .lo, g .hi, g .n, g .pol, (g .pred).1, (g .pred).2.1, (g .pred).2.2, (g .pairs).2, (g .keys).2⟩
theorem okW_okP {x : POp} {p : Part} (h : okW p x) : okP p x := by
  cases p
  case pol =>
    have h : 1 ≤ x.pol ∧ x.pol ≤ 3 := h
    exact ⟨by omega, by omega⟩
  case pred =>
    obtain ⟨h1, h2, h3, _⟩ : (1 ≤ x.pk ∧ x.pk ≤ 5) ∧ In x.pa ∧ In x.pb ∧ (x.pk = 1 → x.pa = 0 ∧ x.pb = 0) := h
    exact ⟨by omega, h2, h3⟩
  all_goals exact h

def copyO (x : POp) : Option POp := (allP inB .zero (wrB x)).map (·.1)
def sameO (x y : POp) : Bool := decide (x.op = y.op) && allParts.all fun p => decide (agree p x y)
theorem sameO_iff {x y : POp} : sameO x y = true ↔ x = y := by
  unfold sameO
  simp only [Bool.and_eq_true, decide_eq_true_eq, List.all_eq_true]
  constructor
  · rintro ⟨h0, h⟩
    exact POp.of_agree h0 fun p => h p (mem_allParts p)
  · rintro rfl
    exact ⟨rfl, fun p _ => agree_refl p x⟩
def checkO (x : POp) : Bool :=
  match copyO x with
  | none => false
  | some y => decide (1 ≤ x.op ∧ x.op ≤ 22) && sameO x y && (!hasP .pol x.op || polMay x.pol) && (!hasP .pred x.op || predMay x.pk x.pa x.pb)
theorem checkO_may {x : POp} (hi : InO x) : checkO x = mayO x := by
  rw [Bool.eq_iff_iff, mayO_iff]
  unfold checkO copyO
  constructor
  · intro h
    cases hc : allP inB .zero (wrB x) with
    | none => simp [hc] at h
    | some r =>
      obtain ⟨y, t⟩ := r
      simp only [hc, Option.map_some, Bool.and_eq_true, decide_eq_true_eq, sameO_iff, Bool.or_eq_true, Bool.not_eq_true', hasP, decide_eq_false_iff_not] at h
      obtain ⟨⟨⟨h1, rfl⟩, h3⟩, h4⟩ := h
      obtain ⟨_, _, ho, hm⟩ := all_inv hc
      refine ⟨h1, hm, fun hp => h3.resolve_left (fun h => h hp), fun hp => h4.resolve_left (fun h => h hp), ?_, ?_⟩
      · by_cases hp : .pairs ∈ partsOf x.op
        · exact (ho _ hp).1
        · have := hm .pairs hp
          simp only [agree, POp.zero] at this
          rw [← this]; simp
      · by_cases hp : .keys ∈ partsOf x.op
        · exact (ho _ hp).1
        · have := hm .keys hp
          simp only [agree, POp.zero] at this
          rw [← this]; simp
  · intro h
    have e := all_inB_eq hi.op (h.okP hi) h.masked []
    rw [List.append_nil] at e
    rw [e]
    simp only [Option.map_some, Bool.and_eq_true, decide_eq_true_eq, sameO_iff, Bool.or_eq_true, Bool.not_eq_true', hasP, decide_eq_false_iff_not]
    refine ⟨⟨⟨h.op, trivial⟩, ?_⟩, ?_⟩
    · by_cases hp : .pol ∈ partsOf x.op
      · exact .inr (h.pol hp)
      · exact .inl hp
    · by_cases hp : .pred ∈ partsOf x.op
      · exact .inr (h.pred hp)
      · exact .inl hp

def encO (l : List POp) : Bs := l.flatMap wrB
theorem wrB_ne (x : POp) : wrB x ≠ [] := by simp [wrB]
theorem allP_lt {s t : Bs} {y : POp} (h : allP inB .zero s = some (y, t)) : t.length < s.length := by
  obtain ⟨rfl, _⟩ := all_inv h
  have := List.length_pos_iff.2 (wrB_ne y)
  rw [List.length_append]; omega
def decO : Nat → Bs → Option (List POp)
  | 0, s => if s = [] then some [] else none
  | n + 1, s =>
    if s = [] then some [] else
    match allP inB .zero s with
    | none => none
    | some r => if mayO r.1 = true then (decO n r.2).map fun l => r.1 :: l else none
theorem decO_inv : ∀ (n : Nat) (s : Bs) (l : List POp), decO n s = some l → s = encO l ∧ ∀ x ∈ l, May x ∧ InO x
  | 0, s, l, h => by
    rw [decO] at h
    split at h
    · rename_i hs; cases h; exact ⟨by rw [hs]; rfl, by simp⟩
    · cases h
  | n + 1, s, l, h => by
    rw [decO] at h
    split at h
    · rename_i hs; cases h; exact ⟨by rw [hs]; rfl, by simp⟩
    · split at h
      · cases h
      · rename_i r hr
        obtain ⟨y, t⟩ := r
        split at h
        · rename_i hm
          obtain ⟨l', hl, h⟩ := Option.map_eq_some_iff.1 h
          cases h
          obtain ⟨hs, h0, ho, hk⟩ := all_inv hr
          obtain ⟨ht, hl'⟩ := decO_inv n t l' hl
          refine ⟨by rw [hs, ht]; simp [encO], fun x hx => ?_⟩
          rcases List.mem_cons.1 hx with rfl | hx
          · exact ⟨mayO_iff.1 hm, masked_InO h0 ho hk⟩
          · exact hl' x hx
        · cases h
theorem decO_le {n m : Nat} {s : Bs} (h1 : s.length ≤ n) (h2 : n ≤ m) : decO m s = decO n s := by
  induction n generalizing m s with
  | zero =>
    obtain rfl : s = [] := List.eq_nil_of_length_eq_zero (by omega)
    cases m <;> simp [decO]
  | succ n ih =>
    cases m with
    | zero => omega
    | succ m =>
      rw [decO, decO]
      split
      · rfl
      · split
        · rfl
        · rename_i r hr
          split
          · have := allP_lt (y := r.1) (t := r.2) hr
            rw [ih (by omega) (by omega)]
          · rfl
def lineO (x : POp) : Bs := joinW (wordsOf x)
theorem lineO_split {x : POp} (h : May x ∧ InO x) : splitW (lineO x) = wordsOf x := split_join (by simp [wordsOf]) (no_blank h.1.op (h.1.okW h.2))
def parseO (s : Bs) : Option POp :=
  match allP inW .zero (splitW s) with
  | some (x, []) => if mayO x = true then some x else none
  | _ => none
theorem parseO_line {x : POp} (h : May x ∧ InO x) : parseO (lineO x) = some x := by
  unfold parseO
  rw [lineO_split h, all_inW h.1.op (h.1.okW h.2) h.1.masked]
  simp only
  rw [if_pos (mayO_iff.2 h.1)]
theorem parseO_inv {s : Bs} {x : POp} (h : parseO s = some x) : s = lineO x ∧ May x ∧ InO x := by
  unfold parseO at h
  split at h
  · rename_i y hr
    split at h
    · rename_i hm
      cases h
      obtain ⟨hs, h0, ho, hk⟩ := all_backW hr
      rw [List.append_nil] at hs
      exact ⟨by rw [lineO, ← hs, join_split], mayO_iff.1 hm, masked_InO (by omega) (fun p hp => okW_okP (ho p hp)) hk⟩
    · cases h
  · cases h
end Go.Sh

namespace Go.Sh
open Go Go.RowKit

theorem grown_refl (w : World) (r : Option Nat) : w.grownBy w r := ⟨rfl, rfl, rfl, Nat.le_refl _, fun _ _ _ => rfl⟩
theorem grown_trans {a b c : World} {r : Option Nat} (g : a.grownBy b r) (k : b.grownBy c r) : a.grownBy c r :=
  ⟨k.os.trans g.os, k.tape.trans g.tape, k.output.trans g.output, Nat.le_trans g.size k.size, fun i hi hr => by rw [k.block i (Nat.lt_of_lt_of_le hi g.size) hr, g.block i hi hr]⟩
theorem flat_get {α : Type} {ec : α → List Value} {s : Nat} (hs : ∀ x, (ec x).length = s) {l : List α} {k j : Nat} (hk : k < l.length) (hj : j < s) : (l.flatMap ec)[k * s + j]? = (ec l[k])[j]? := by
  induction l generalizing k with
  | nil => simp at hk
  | cons x xs ih =>
    rw [List.flatMap_cons]
    cases k with
    | zero => rw [Nat.zero_mul, Nat.zero_add, List.getElem?_append_left (by rw [hs]; exact hj)]; rfl
    | succ k =>
      rw [List.getElem?_append_right (by rw [hs, Nat.add_mul]; omega), hs, show (k + 1) * s + j - s = k * s + j by rw [Nat.add_mul]; omega]
      exact ih (by simpa using hk)
theorem ix_flat {α : Type} {ec : α → List Value} {s : Nat} (hs : ∀ x, (ec x).length = s) (h0 : 0 < s) {w : World} {p : OA} {n : Nat} {i : Int} {l : List α} {K : Addr → Prop} (h : Cs w p (l.flatMap ec)) (hn : l.length = n) {k : Nat} (hk : i = (k : Int)) (h1 : k < n)
    (c : ∀ a : Addr, (∀ j v, (ec (l[k]'(by omega)))[j]? = some v → w.cell? (a.add j) = some v) → (∃ b, p = some b ∧ a = b.add (k * s)) → K a) : doIx p n s i K := by
  subst hk
  have hg : ∀ j v, (ec (l[k]'(by omega)))[j]? = some v → ∃ a, p = some a ∧ w.cell? (a.add (k * s + j)) = some v := fun j v hv => by
    have hj : j < s := by have := (List.getElem?_eq_some_iff.1 hv).1; rw [hs] at this; exact this
    exact h _ _ (by rw [flat_get hs (by omega) hj]; exact hv)
  obtain ⟨a, ha, _⟩ := hg 0 _ (List.getElem?_eq_getElem (by rw [hs]; exact h0))
  refine ⟨a, ha, by omega, by omega, ?_⟩
  rw [Int.toNat_natCast]
  refine c _ (fun j v hv => ?_) ⟨a, ha, rfl⟩
  obtain ⟨a', ha', hc⟩ := hg j v hv
  rw [ha] at ha'; cases ha'
  rw [add_add]; exact hc
theorem ix_flatC {α : Type} {ec : α → List Value} {s : Nat} (hs : ∀ x, (ec x).length = s) (h0 : 0 < s) {C : World → Prop} {p : OA} {n : Nat} {i : Int} {l : List α} {K : Addr → Prop} (h : ∀ w, C w → Cs w p (l.flatMap ec)) {w0 : World} (hw : C w0) (hn : l.length = n) {k : Nat} (hk : i = (k : Int)) (h1 : k < n)
    (c : ∀ a : Addr, (∀ w, C w → ∀ j v, (ec (l[k]'(by omega)))[j]? = some v → w.cell? (a.add j) = some v) → K a) : doIx p n s i K := by
  refine ix_flat hs h0 (h w0 hw) hn hk h1 fun a _ ⟨b, hb, hab⟩ => c a fun w hC j v hv => ?_
  have hj : j < s := by have := (List.getElem?_eq_some_iff.1 hv).1; rw [hs] at this; exact this
  obtain ⟨a', ha', hc⟩ := h w hC (k * s + j) v (by rw [flat_get hs (by omega) hj]; exact hv)
  rw [hb] at ha'; cases ha'
  rw [hab, add_add]; exact hc
end Go.Sh

namespace Go.Sh
open Go Go.RowKit

structure Chg (own : World → Nat → Prop) (S : Nat → Prop) (w w' : World) : Prop where
  os : w'.os = w.os
  tape : w'.tape = w.tape
  output : w'.output = w.output
  size : w.heap.size ≤ w'.heap.size
  block : ∀ k, k < w.heap.size → ¬ own w k → ¬ S k → w'.heap[k]? = w.heap[k]?
  out : ∀ k, k < w.heap.size → ¬ own w k → ¬ own w' k
section
variable {own : World → Nat → Prop} {S S' : Nat → Prop} {a b c : World}
theorem Chg.refl (own : World → Nat → Prop) (S : Nat → Prop) (a : World) : Chg own S a a := ⟨rfl, rfl, rfl, Nat.le_refl _, fun _ _ _ _ => rfl, fun _ _ h => h⟩
theorem Chg.trans (h : Chg own S a b) (k : Chg own S b c) : Chg own S a c :=
  ⟨k.os.trans h.os, k.tape.trans h.tape, k.output.trans h.output, Nat.le_trans h.size k.size,
    fun i hi ho hs => (k.block i (Nat.lt_of_lt_of_le hi h.size) (h.out i hi ho) hs).trans (h.block i hi ho hs),
    fun i hi ho => k.out i (Nat.lt_of_lt_of_le hi h.size) (h.out i hi ho)⟩
theorem Chg.cut (h : Chg own S a b) (hs : ∀ k, k < a.heap.size → S k → S' k) : Chg own S' a b :=
  ⟨h.os, h.tape, h.output, h.size, fun k hk ho hn => h.block k hk ho fun hS => hn (hs k hk hS), h.out⟩
abbrev SF (B : Nat) (S : Nat → Prop) : Nat → Prop := fun k => S k ∨ B ≤ k
theorem Chg.fresh (h : Chg own (SF a.heap.size S) a b) : Chg own S a b := h.cut fun k hk hs => hs.resolve_right (by omega)
theorem Chg.mono (h : Chg own S a b) (hs : ∀ k, S k → S' k) : Chg own S' a b := h.cut fun k _ => hs k
theorem Chg.of_grown {i : Nat} (g : a.grownBy b (some i)) (hS : i < a.heap.size → S i) (ho : ∀ k, own b k → own a k) : Chg own S a b :=
  ⟨g.os, g.tape, g.output, g.size, fun k hk _ hn => g.block k hk fun e => hn (by cases e; exact hS hk), fun k _ h1 h2 => h1 (ho k h2)⟩
theorem Chg.blk {i : Nat} {cs : Array Value} {t : TypeId} (h : Chg own S a b) (hb : Blk a i cs t) (ho : ¬ own a i) (hs : ¬ S i) : Blk b i cs t := by
  unfold Blk at *
  rw [h.block i (Array.getElem?_eq_some_iff.1 hb).1 ho hs]; exact hb
theorem Chg.heap {i : Nat} {o : Obj} (h : Chg own S a b) (hb : a.heap[i]? = some o) (ho : ¬ own a i) (hs : ¬ S i) : b.heap[i]? = some o := by
  rw [h.block i (Array.getElem?_eq_some_iff.1 hb).1 ho hs]; exact hb
theorem Chg.cell {p : Addr} {v : Value} (h : Chg own S a b) (hc : a.cell? p = some v) (ho : ¬ own a p.block) (hs : ¬ S p.block) : b.cell? p = some v := by
  rw [World.cell?_of_block (h.block _ (World.block_lt_of_cell? a p hc) ho hs)]; exact hc
theorem Chg.ext {B : Nat} (h : Chg own S a b) (ho : ∀ k, k < B → ¬ own a k) (hs : ∀ k, k < B → ¬ S k) (hB : B ≤ a.heap.size) : Below B a b :=
  ⟨h.os, h.tape, h.output, h.size, fun k hk => h.block k (by omega) (ho k hk) (hs k hk)⟩
end
theorem do_append' {P : Program} {t e : TypeId} {z : Value} {size bytes : Nat} (E : ElT P t e z size bytes) {base : Nat} {v : Value} {n : Nat} {xs : List Value} {w : World}
    (hown : w.ownsRow base e size v n xs) {ad : Addr} {m c : Nat} {news : List Value} (hnews : Cs w (some ad) news) (hl : news.length = m * size) (h1 : ∀ u ∈ news, u.oneCell' = true)
    (h63 : n + m ≤ maxLen) (hbytes : (n + m) * bytes ≤ 140737488355328) (hbase : base ≤ w.heap.size) {bs : Array Bool} {R : EW}
    (h : ∀ p c w', w'.ownsRow base e size (.slice p (n + m) c) (n + m) (xs ++ news) → w.grownBy w' v.ownBlock → (∀ b, (Value.slice p (n + m) c).ownBlock = some b → v.ownBlock = some b ∨ w.heap.size ≤ b) → R (.returned (.slice p (n + m) c)) w') :
    doGo P (.builtin .append #[t, t] t bs) #[v, .slice (some ad) m c] w R := by
  obtain ⟨i, hi, hz, hsz, hby⟩ := E.hi
  have hnw : ∀ j u, news[j]? = some u → w.cell? (ad.add j) = some u := fun j u hu => by obtain ⟨a, ha, hc⟩ := hnews j u hu; cases ha; exact hc
  obtain ⟨v', w', hr, h2, h3, _⟩ := run_append_own (P := P) w base t t e i z size bytes E.ht hi hz hsz hby E.hz E.hs v n xs hown ad m c news hl hnw h1 h63 hbytes hbase
  obtain ⟨p, c', rfl⟩ := row_slice h2
  refine goV_append hr (h p c' w' h2 h3 fun b hb => ?_)
  rcases hown.2 with ⟨rfl, rfl⟩ | ⟨g, cap, cur, rfl, hbg, hg, hnc, hcm, hcs, htake⟩
  · have hx : xs = [] := List.eq_nil_of_length_eq_zero (by simpa using hown.1)
    subst hx
    obtain ⟨v2, w2, hr2, h22, _⟩ := run_append_own (P := P) w w.heap.size t t e i z size bytes E.ht hi hz hsz hby E.hz E.hs (.slice none 0 0) 0 [] (World.ownsRow_nil w _ e size) ad m c news hl hnw h1 h63 hbytes (Nat.le_refl _)
    rw [hr] at hr2
    cases hr2
    exact .inr (h22.lt b hb).1
  · by_cases hroom : n + m ≤ cap
    · obtain ⟨w2, hr2, _⟩ := run_append_fits (P := P) w base t t e i size E.ht hi hsz g n cap xs hown ad m c news hl hnw h1 hroom
      rw [hr] at hr2
      cases hr2
      exact .inl hb
    · have holds : ∀ j u, xs[j]? = some u → w.cell? ((⟨g, 0, none⟩ : Addr).add j) = some u := hown.cells (g := g) rfl
      subst hsz hby
      have hr2 := run_append_grow (P := P) w t t e i z E.ht hi hz ⟨g, 0, none⟩ n cap xs hown.1 holds ad m c news hl hnw (by omega) (by simp only [maxLen] at h63; omega) (growslice_fits (by omega) hbytes)
      rw [hr] at hr2
      cases hr2
      right
      simp only [Value.ownBlock, Option.some.injEq] at hb
      omega
theorem row_rowAt {own : World → Nat → Prop} {w : World} {base e size n : Nat} {v : Value} {xs : List Value} (h : w.ownsRow base e size v n xs) (ho : ∀ b, v.ownBlock = some b → ¬ own w b) :
    ∃ p cap, v = .slice p n cap ∧ n ≤ cap ∧ Cs w p xs ∧ ∀ a, p = some a → ¬ own w a.block ∧ base ≤ a.block ∧ a.block < w.heap.size := by
  obtain ⟨p, c, rfl⟩ := row_slice h
  refine ⟨p, c, rfl, row_cap h, Cs.of_row h, fun a ha => ?_⟩
  subst ha
  have := h.lt a.block rfl
  exact ⟨ho _ rfl, this⟩
theorem chg_row {own : World → Nat → Prop} {S : Nat → Prop} {a b : World} (c : Chg own S a b) {base e size n : Nat} {v : Value} {xs : List Value} (h : a.ownsRow base e size v n xs) (ho : ∀ k, v.ownBlock = some k → ¬ own a k) (hs : ∀ k, v.ownBlock = some k → ¬ S k) :
    b.ownsRow base e size v n xs := by
  refine ⟨h.1, ?_⟩
  rcases h.2 with hn | ⟨g, cap, cur, rfl, hb, hgg, rest⟩
  · exact .inl hn
  · exact .inr ⟨g, cap, cur, rfl, hb, by rw [c.block g (Array.getElem?_eq_some_iff.1 hgg).1 (ho g rfl) (hs g rfl)]; exact hgg, rest⟩
structure CBase {σ : Type} (c : PC σ) where
  I : World → σ → Prop
  own : World → Nat → Prop
  lt : ∀ {w s k}, I w s → own w k → k < w.heap.size
  keep : ∀ {w w' s}, I w s → (∀ k, own w k → w'.heap[k]? = w.heap[k]?) → I w' s ∧ ∀ k, own w' k ↔ own w k
  len : σ → Nat
  grow : Nat
  numIn : ∀ {v s v' s'}, In v → c.num v s = some (v', s') → In v' ∧ len s' ≤ len s + grow
  wordIn : ∀ {l k s k' s'}, 0 ≤ k ∧ k < 256 → c.word l k s = some (k', s') → (0 ≤ k' ∧ k' < 256) ∧ len s' ≤ len s + grow
  flagIn : ∀ {f s f' s'}, c.flag f s = some (f', s') → len s' ≤ len s + grow
  manyIn : ∀ {n s n' s'}, n ≤ 1000000 → c.many n s = some (n', s') → n' ≤ max n 4096 ∧ len s' ≤ len s + grow
  pairIn : ∀ {p s p' s'}, In p.1 ∧ In p.2 → c.pair p s = some (p', s') → (In p'.1 ∧ In p'.2) ∧ len s' ≤ len s + grow
section
variable {σ : Type} {c : PC σ} (C : CBase c) {w w' : World} {s : σ}
theorem CBase.st {b : Nat} (h : C.I w s) (g : w.grownBy w' (some b)) (hb : ¬ C.own w b) : C.I w' s ∧ ∀ k, C.own w' k ↔ C.own w k :=
  C.keep h fun k hk => g.block k (C.lt h hk) fun e => hb (by cases e; exact hk)
theorem CBase.ext (h : C.I w s) (e : Ext w w') : C.I w' s ∧ ∀ k, C.own w' k ↔ C.own w k := C.keep h fun k hk => e.block k (C.lt h hk)
theorem CBase.chg_ext {S : Nat → Prop} (h : C.I w s) (e : Ext w w') : Chg C.own S w w' :=
  ⟨e.os, e.tape, e.output, e.size, fun k hk _ _ => e.block k hk, fun k _ h1 h2 => h1 (((C.ext h e).2 k).1 h2)⟩
theorem CBase.new' {k : Nat} (h : C.I w s) (hk : w.heap.size ≤ k) : ¬ C.own w k := fun hk' => by have := C.lt h hk'; omega
theorem CBase.new (h : C.I w s) : ¬ C.own w w.heap.size := fun hk => Nat.lt_irrefl _ (C.lt h hk)
theorem CBase.chg_st {S : Nat → Prop} {b : Nat} (h : C.I w s) (g : w.grownBy w' (some b)) (hb : ¬ C.own w b) (hS : b < w.heap.size → S b) : Chg C.own S w w' :=
  .of_grown g hS fun k => ((C.st h g hb).2 k).1
end
end Go.Sh

