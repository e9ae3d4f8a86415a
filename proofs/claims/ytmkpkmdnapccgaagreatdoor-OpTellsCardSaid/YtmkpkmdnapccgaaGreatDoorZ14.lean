/-
  Which ops may be; rows of ops: plain laws. No claim of its own.
-/
import Derived.Test.YtmkpkmdnapccgaaGreatDoorZ13
import Derived.Test.YtmkpkmdnapccgaaGreatDoorZ03
import Derived.Lib.AppendZerosOnto
import Derived.Lib.Overlaps
import Derived.Laws.CopyRow
import Derived.Test.YtmkpkmdnapccgaaGreatDoorZ12

set_option maxRecDepth 100000
set_option maxHeartbeats 6400000
namespace Go.Sh
open Go

def polMay (p : Int) : Bool := p == 1 || p == 2 || p == 3
def predMay (k a b : Int) : Bool :=
  if k = 1 then decide (a = 0 ∧ b = 0) else if k = 2 ∨ k = 3 then true else if k = 4 then decide (1 ≤ a ∧ 0 ≤ b ∧ b < a)
  else if k = 5 then decide (BitVec.ofInt 64 a ||| BitVec.ofInt 64 b = BitVec.ofInt 64 a) else false
theorem predMay_kind {k a b : Int} (h : predMay k a b = true) : (1 ≤ k ∧ k ≤ 5) ∧ (k = 1 → a = 0 ∧ b = 0) := by
  unfold predMay at h
  by_cases h1 : k = 1
  · rw [if_pos h1] at h; exact ⟨by omega, fun _ => of_decide_eq_true h⟩
  · rw [if_neg h1] at h
    refine ⟨?_, fun e => absurd e h1⟩
    by_cases h2 : k = 2 ∨ k = 3
    · omega
    · rw [if_neg h2] at h
      by_cases h3 : k = 4
      · omega
      · rw [if_neg h3] at h
        by_cases h4 : k = 5
        · omega
        · rw [if_neg h4] at h; cases h
def hasP (p : Part) (d : Int) : Bool := decide (p ∈ partsOf d)
instance (p : Part) (x y : POp) : Decidable (agree p x y) := by cases p <;> (simp only [agree]; infer_instance)
def allParts : List Part := [.a, .b, .n, .key, .val, .lo, .hi, .pol, .pred, .pairs, .keys]
theorem mem_allParts (p : Part) : p ∈ allParts := by cases p <;> simp [allParts]
def mayO (x : POp) : Bool :=
  decide (1 ≤ x.op ∧ x.op ≤ 22) && allParts.all (fun p => hasP p x.op || decide (agree p POp.zero x)) && (!hasP .pol x.op || polMay x.pol) && (!hasP .pred x.op || predMay x.pk x.pa x.pb) &&
    decide (x.pairs.length ≤ 4096 ∧ x.keys.length ≤ 4096)
structure May (x : POp) : Prop where
  op : 1 ≤ x.op ∧ x.op ≤ 22
  masked : Masked x
  pol : .pol ∈ partsOf x.op → polMay x.pol = true
  pred : .pred ∈ partsOf x.op → predMay x.pk x.pa x.pb = true
  pairs : x.pairs.length ≤ 4096
  keys : x.keys.length ≤ 4096
theorem mayO_iff {x : POp} : mayO x = true ↔ May x := by
  unfold mayO hasP
  simp only [Bool.and_eq_true, decide_eq_true_eq, List.all_eq_true, Bool.or_eq_true, Bool.not_eq_true', decide_eq_false_iff_not]
  constructor
  · rintro ⟨⟨⟨⟨h1, h2⟩, h3⟩, h4⟩, h5, h6⟩
    exact ⟨h1, fun p hp => (h2 p (mem_allParts p)).resolve_left hp, fun hp => h3.resolve_left (fun h => h hp), fun hp => h4.resolve_left (fun h => h hp), h5, h6⟩
  · rintro ⟨h1, h2, h3, h4, h5, h6⟩
    refine ⟨⟨⟨⟨h1, fun p _ => ?_⟩, ?_⟩, ?_⟩, h5, h6⟩
    · by_cases hp : p ∈ partsOf x.op
      · exact .inl hp
      · exact .inr (h2 p hp)
    · by_cases hp : .pol ∈ partsOf x.op
      · exact .inr (h3 hp)
      · exact .inl hp
    · by_cases hp : .pred ∈ partsOf x.op
      · exact .inr (h4 hp)
      · exact .inl hp
structure InO (x : POp) : Prop where
  op : 0 ≤ x.op ∧ x.op < 256
  a : In x.a
  b : In x.b
  key : In x.key
  val : In x.val
  lo : In x.lo
  hi : In x.hi
  n : In x.n
  pol : 0 ≤ x.pol ∧ x.pol < 256
  pk : 0 ≤ x.pk ∧ x.pk < 256
  pa : In x.pa
  pb : In x.pb
  pairs : InPs x.pairs
  keys : ∀ v ∈ x.keys, In v
theorem may_pol {p : Int} (h : polMay p = true) : 1 ≤ p ∧ p ≤ 3 := by
  have h : (p = 1 ∨ p = 2) ∨ p = 3 := by simpa [polMay] using h
  omega
theorem InO.okP {x : POp} (h : InO x) (p : Part) (hp : p = .pairs → x.pairs.length ≤ 4096) (hk : p = .keys → x.keys.length ≤ 4096) : okP p x := by
  cases p
  case pairs => exact ⟨hp rfl, h.pairs⟩
  case keys => exact ⟨hk rfl, h.keys⟩
  case pred => exact ⟨h.pk, h.pa, h.pb⟩
  case pol => exact h.pol
  case a => exact h.a
  case b => exact h.b
  case n => exact h.n
  case key => exact h.key
  case val => exact h.val
  case lo => exact h.lo
  case hi => exact h.hi
theorem May.okW {x : POp} (h : May x) (hi : InO x) : ∀ p ∈ partsOf x.op, okW p x := fun p hp => by
  cases p
  case pol => exact may_pol (h.pol hp)
  case pred =>
    have := predMay_kind (h.pred hp)
    exact ⟨this.1, hi.pa, hi.pb, this.2⟩
  case a => exact hi.a
  case b => exact hi.b
  case n => exact hi.n
  case key => exact hi.key
  case val => exact hi.val
  case lo => exact hi.lo
  case hi => exact hi.hi
  case pairs => exact ⟨h.pairs, hi.pairs⟩
  case keys => exact ⟨h.keys, hi.keys⟩
theorem May.okP {x : POp} (h : May x) (hi : InO x) : ∀ p ∈ partsOf x.op, okP p x := fun p _ => hi.okP p (fun _ => h.pairs) (fun _ => h.keys)
def copyO (x : POp) : Option POp := (allP inB .zero (wrB x)).map (·.1)
def sameO (x y : POp) : Bool := decide (x.op = y.op) && allParts.all fun p => decide (agree p x y)
theorem sameO_iff {x y : POp} : sameO x y = true ↔ x = y := by
  unfold sameO
  simp only [Bool.and_eq_true, decide_eq_true_eq, List.all_eq_true]
  constructor
  · rintro ⟨h0, h⟩
    exact POp.of_agree h0 fun p => h p (mem_allParts p)
  · rintro rfl
    exact ⟨rfl, fun p _ => agree_refl p x⟩
def checkO (x : POp) : Bool :=
  match copyO x with
  | none => false
  | some y => decide (1 ≤ x.op ∧ x.op ≤ 22) && sameO x y && (!hasP .pol x.op || polMay x.pol) && (!hasP .pred x.op || predMay x.pk x.pa x.pb)
theorem checkO_may {x : POp} (hi : InO x) : checkO x = mayO x := by
  rw [Bool.eq_iff_iff, mayO_iff]
  unfold checkO copyO
  constructor
  · intro h
    cases hc : allP inB .zero (wrB x) with
    | none => simp [hc] at h
    | some r =>
      obtain ⟨y, t⟩ := r
      simp only [hc, Option.map_some, Bool.and_eq_true, decide_eq_true_eq, sameO_iff, Bool.or_eq_true, Bool.not_eq_true', hasP, decide_eq_false_iff_not] at h
      obtain ⟨⟨⟨h1, rfl⟩, h3⟩, h4⟩ := h
      obtain ⟨_, _, ho, hm⟩ := all_inv hc
      refine ⟨h1, hm, fun hp => h3.resolve_left (fun h => h hp), fun hp => h4.resolve_left (fun h => h hp), ?_, ?_⟩
      · by_cases hp : .pairs ∈ partsOf x.op
        · exact (ho _ hp).1
        · have := hm .pairs hp
          simp only [agree, POp.zero] at this
          rw [← this]; simp
      · by_cases hp : .keys ∈ partsOf x.op
        · exact (ho _ hp).1
        · have := hm .keys hp
          simp only [agree, POp.zero] at this
          rw [← this]; simp
  · intro h
    have e := all_inB_eq hi.op (h.okP hi) h.masked []
    rw [List.append_nil] at e
    rw [e]
    simp only [Option.map_some, Bool.and_eq_true, decide_eq_true_eq, sameO_iff, Bool.or_eq_true, Bool.not_eq_true', hasP, decide_eq_false_iff_not]
    refine ⟨⟨⟨h.op, trivial⟩, ?_⟩, ?_⟩
    · by_cases hp : .pol ∈ partsOf x.op
      · exact .inr (h.pol hp)
      · exact .inl hp
    · by_cases hp : .pred ∈ partsOf x.op
      · exact .inr (h.pred hp)
      · exact .inl hp

def encO (l : List POp) : Bs := l.flatMap wrB
theorem wrB_ne (x : POp) : wrB x ≠ [] := by simp [wrB]
def lineO (x : POp) : Bs := joinW (wordsOf x)
def parseO (s : Bs) : Option POp :=
  match allP inW .zero (splitW s) with
  | some (x, []) => if mayO x = true then some x else none
  | _ => none
end Go.Sh

namespace Go.Sh
open Go Go.RowKit

theorem grown_refl (w : World) (r : Option Nat) : w.grownBy w r := ⟨rfl, rfl, rfl, Nat.le_refl _, fun _ _ _ => rfl⟩
theorem grown_trans {a b c : World} {r : Option Nat} (g : a.grownBy b r) (k : b.grownBy c r) : a.grownBy c r :=
  ⟨k.os.trans g.os, k.tape.trans g.tape, k.output.trans g.output, Nat.le_trans g.size k.size, fun i hi hr => by rw [k.block i (Nat.lt_of_lt_of_le hi g.size) hr, g.block i hi hr]⟩
theorem do_app {P : Program} {t e : TypeId} {z : Value} {size bytes : Nat} (E : ElT P t e z size bytes) {base : Nat} {v : Value} {n : Nat} {xs : List Value} {w : World}
    (hown : w.ownsRow base e size v n xs) {q : OA} {m c : Nat} {news : List Value} (hnews : Cs w q news) (hl : news.length = m * size) (h1 : ∀ u ∈ news, u.oneCell' = true)
    (h63 : n + m ≤ maxLen) (hbytes : (n + m) * bytes ≤ 140737488355328) (hbase : base ≤ w.heap.size) {bs : Array Bool} {R : EW}
    (h : ∀ p c w', w'.ownsRow base e size (.slice p (n + m) c) (n + m) (xs ++ news) → w.grownBy w' v.ownBlock → R (.returned (.slice p (n + m) c)) w') :
    doGo P (.builtin .append #[t, t] t bs) #[v, .slice q m c] w R := by
  cases q with
  | some a => exact do_append E hown hnews hl h1 h63 hbytes hbase h
  | none =>
    have hcs : news = [] := by
      cases news with
      | nil => rfl
      | cons x xs => obtain ⟨a, ha, _⟩ := hnews 0 x rfl; cases ha
    subst hcs
    have hm : m = 0 := by
      simp only [List.length_nil] at hl
      rcases Nat.eq_zero_or_pos m with h0 | h0
      · exact h0
      · have := Nat.mul_pos h0 E.hs; omega
    subst hm
    obtain ⟨i, hi, _, _, _⟩ := E.hi
    obtain ⟨p, c', rfl⟩ := row_slice hown
    have hr := h p c' w
    simp only [Nat.add_zero, List.append_nil] at hr
    refine goV_append (v' := .slice p n c') (w' := w) ?_ (hr hown (grown_refl w _))
    have hnc := row_cap hown
    cases p <;> simp [Builtin.append_, run_underlying E.ht, sizeOf, typeInfo, hi, Builtin.lenOf, Builtin.firstCells, hnc, storeCells]
theorem flat_get {α : Type} {ec : α → List Value} {s : Nat} (hs : ∀ x, (ec x).length = s) {l : List α} {k j : Nat} (hk : k < l.length) (hj : j < s) : (l.flatMap ec)[k * s + j]? = (ec l[k])[j]? := by
  induction l generalizing k with
  | nil => simp at hk
  | cons x xs ih =>
    rw [List.flatMap_cons]
    cases k with
    | zero => rw [Nat.zero_mul, Nat.zero_add, List.getElem?_append_left (by rw [hs]; exact hj)]; rfl
    | succ k =>
      rw [List.getElem?_append_right (by rw [hs, Nat.add_mul]; omega), hs, show (k + 1) * s + j - s = k * s + j by rw [Nat.add_mul]; omega]
      exact ih (by simpa using hk)
theorem ix_flat {α : Type} {ec : α → List Value} {s : Nat} (hs : ∀ x, (ec x).length = s) (h0 : 0 < s) {w : World} {p : OA} {n : Nat} {i : Int} {l : List α} {K : Addr → Prop} (h : Cs w p (l.flatMap ec)) (hn : l.length = n) {k : Nat} (hk : i = (k : Int)) (h1 : k < n)
    (c : ∀ a : Addr, (∀ j v, (ec (l[k]'(by omega)))[j]? = some v → w.cell? (a.add j) = some v) → (∃ b, p = some b ∧ a = b.add (k * s)) → K a) : doIx p n s i K := by
  subst hk
  have hg : ∀ j v, (ec (l[k]'(by omega)))[j]? = some v → ∃ a, p = some a ∧ w.cell? (a.add (k * s + j)) = some v := fun j v hv => by
    have hj : j < s := by have := (List.getElem?_eq_some_iff.1 hv).1; rw [hs] at this; exact this
    exact h _ _ (by rw [flat_get hs (by omega) hj]; exact hv)
  obtain ⟨a, ha, _⟩ := hg 0 _ (List.getElem?_eq_getElem (by rw [hs]; exact h0))
  refine ⟨a, ha, by omega, by omega, ?_⟩
  rw [Int.toNat_natCast]
  refine c _ (fun j v hv => ?_) ⟨a, ha, rfl⟩
  obtain ⟨a', ha', hc⟩ := hg j v hv
  rw [ha] at ha'; cases ha'
  rw [add_add]; exact hc
theorem ix_flatC {α : Type} {ec : α → List Value} {s : Nat} (hs : ∀ x, (ec x).length = s) (h0 : 0 < s) {C : World → Prop} {p : OA} {n : Nat} {i : Int} {l : List α} {K : Addr → Prop} (h : ∀ w, C w → Cs w p (l.flatMap ec)) {w0 : World} (hw : C w0) (hn : l.length = n) {k : Nat} (hk : i = (k : Int)) (h1 : k < n)
    (c : ∀ a : Addr, (∀ w, C w → ∀ j v, (ec (l[k]'(by omega)))[j]? = some v → w.cell? (a.add j) = some v) → K a) : doIx p n s i K := by
  refine ix_flat hs h0 (h w0 hw) hn hk h1 fun a _ ⟨b, hb, hab⟩ => c a fun w hC j v hv => ?_
  have hj : j < s := by have := (List.getElem?_eq_some_iff.1 hv).1; rw [hs] at this; exact this
  obtain ⟨a', ha', hc⟩ := h w hC (k * s + j) v (by rw [flat_get hs (by omega) hj]; exact hv)
  rw [hb] at ha'; cases ha'
  rw [hab, add_add]; exact hc
end Go.Sh

namespace Go.Sh
open Go Go.RowKit

structure Chg (own : World → Nat → Prop) (S : Nat → Prop) (w w' : World) : Prop where
  os : w'.os = w.os
  tape : w'.tape = w.tape
  output : w'.output = w.output
  size : w.heap.size ≤ w'.heap.size
  block : ∀ k, k < w.heap.size → ¬ own w k → ¬ S k → w'.heap[k]? = w.heap[k]?
  out : ∀ k, k < w.heap.size → ¬ own w k → ¬ own w' k
section
variable {own : World → Nat → Prop} {S S' : Nat → Prop} {a b c : World}
theorem Chg.refl (own : World → Nat → Prop) (S : Nat → Prop) (a : World) : Chg own S a a := ⟨rfl, rfl, rfl, Nat.le_refl _, fun _ _ _ _ => rfl, fun _ _ h => h⟩
theorem Chg.trans (h : Chg own S a b) (k : Chg own S b c) : Chg own S a c :=
  ⟨k.os.trans h.os, k.tape.trans h.tape, k.output.trans h.output, Nat.le_trans h.size k.size,
    fun i hi ho hs => (k.block i (Nat.lt_of_lt_of_le hi h.size) (h.out i hi ho) hs).trans (h.block i hi ho hs),
    fun i hi ho => k.out i (Nat.lt_of_lt_of_le hi h.size) (h.out i hi ho)⟩
theorem Chg.cut (h : Chg own S a b) (hs : ∀ k, k < a.heap.size → S k → S' k) : Chg own S' a b :=
  ⟨h.os, h.tape, h.output, h.size, fun k hk ho hn => h.block k hk ho fun hS => hn (hs k hk hS), h.out⟩
abbrev SF (B : Nat) (S : Nat → Prop) : Nat → Prop := fun k => S k ∨ B ≤ k
theorem Chg.fresh (h : Chg own (SF a.heap.size S) a b) : Chg own S a b := h.cut fun k hk hs => hs.resolve_right (by omega)
theorem Chg.mono (h : Chg own S a b) (hs : ∀ k, S k → S' k) : Chg own S' a b := h.cut fun k _ => hs k
theorem Chg.of_grown {i : Nat} (g : a.grownBy b (some i)) (hS : i < a.heap.size → S i) (ho : ∀ k, own b k → own a k) : Chg own S a b :=
  ⟨g.os, g.tape, g.output, g.size, fun k hk _ hn => g.block k hk fun e => hn (by cases e; exact hS hk), fun k _ h1 h2 => h1 (ho k h2)⟩
theorem Chg.blk {i : Nat} {cs : Array Value} {t : TypeId} (h : Chg own S a b) (hb : Blk a i cs t) (ho : ¬ own a i) (hs : ¬ S i) : Blk b i cs t := by
  unfold Blk at *
  rw [h.block i (Array.getElem?_eq_some_iff.1 hb).1 ho hs]; exact hb
theorem Chg.heap {i : Nat} {o : Obj} (h : Chg own S a b) (hb : a.heap[i]? = some o) (ho : ¬ own a i) (hs : ¬ S i) : b.heap[i]? = some o := by
  rw [h.block i (Array.getElem?_eq_some_iff.1 hb).1 ho hs]; exact hb
theorem Chg.cell {p : Addr} {v : Value} (h : Chg own S a b) (hc : a.cell? p = some v) (ho : ¬ own a p.block) (hs : ¬ S p.block) : b.cell? p = some v := by
  rw [World.cell?_of_block (h.block _ (World.block_lt_of_cell? a p hc) ho hs)]; exact hc
theorem Chg.ext {B : Nat} (h : Chg own S a b) (ho : ∀ k, k < B → ¬ own a k) (hs : ∀ k, k < B → ¬ S k) (hB : B ≤ a.heap.size) : Below B a b :=
  ⟨h.os, h.tape, h.output, h.size, fun k hk => h.block k (by omega) (ho k hk) (hs k hk)⟩
end
theorem do_append' {P : Program} {t e : TypeId} {z : Value} {size bytes : Nat} (E : ElT P t e z size bytes) {base : Nat} {v : Value} {n : Nat} {xs : List Value} {w : World}
    (hown : w.ownsRow base e size v n xs) {ad : Addr} {m c : Nat} {news : List Value} (hnews : Cs w (some ad) news) (hl : news.length = m * size) (h1 : ∀ u ∈ news, u.oneCell' = true)
    (h63 : n + m ≤ maxLen) (hbytes : (n + m) * bytes ≤ 140737488355328) (hbase : base ≤ w.heap.size) {bs : Array Bool} {R : EW}
    (h : ∀ p c w', w'.ownsRow base e size (.slice p (n + m) c) (n + m) (xs ++ news) → w.grownBy w' v.ownBlock → (∀ b, (Value.slice p (n + m) c).ownBlock = some b → v.ownBlock = some b ∨ w.heap.size ≤ b) → R (.returned (.slice p (n + m) c)) w') :
    doGo P (.builtin .append #[t, t] t bs) #[v, .slice (some ad) m c] w R := by
  obtain ⟨i, hi, hz, hsz, hby⟩ := E.hi
  have hnw : ∀ j u, news[j]? = some u → w.cell? (ad.add j) = some u := fun j u hu => by obtain ⟨a, ha, hc⟩ := hnews j u hu; cases ha; exact hc
  obtain ⟨v', w', hr, h2, h3, _⟩ := run_append_own (P := P) w base t t e i z size bytes E.ht hi hz hsz hby E.hz E.hs v n xs hown ad m c news hl hnw h1 h63 hbytes hbase
  obtain ⟨p, c', rfl⟩ := row_slice h2
  refine goV_append hr (h p c' w' h2 h3 fun b hb => ?_)
  rcases hown.2 with ⟨rfl, rfl⟩ | ⟨g, cap, cur, rfl, hbg, hg, hnc, hcm, hcs, htake⟩
  · have hx : xs = [] := List.eq_nil_of_length_eq_zero (by simpa using hown.1)
    subst hx
    obtain ⟨v2, w2, hr2, h22, _⟩ := run_append_own (P := P) w w.heap.size t t e i z size bytes E.ht hi hz hsz hby E.hz E.hs (.slice none 0 0) 0 [] (World.ownsRow_nil w _ e size) ad m c news hl hnw h1 h63 hbytes (Nat.le_refl _)
    rw [hr] at hr2
    cases hr2
    exact .inr (h22.lt b hb).1
  · by_cases hroom : n + m ≤ cap
    · obtain ⟨w2, hr2, _⟩ := run_append_fits (P := P) w base t t e i size E.ht hi hsz g n cap xs hown ad m c news hl hnw h1 hroom
      rw [hr] at hr2
      cases hr2
      exact .inl hb
    · have holds : ∀ j u, xs[j]? = some u → w.cell? ((⟨g, 0, none⟩ : Addr).add j) = some u := hown.cells (g := g) rfl
      subst hsz hby
      have hr2 := run_append_grow (P := P) w t t e i z E.ht hi hz ⟨g, 0, none⟩ n cap xs hown.1 holds ad m c news hl hnw (by omega) (by simp only [maxLen] at h63; omega) (growslice_fits (by omega) hbytes)
      rw [hr] at hr2
      cases hr2
      right
      simp only [Value.ownBlock, Option.some.injEq] at hb
      omega
theorem row_rowAt {own : World → Nat → Prop} {w : World} {base e size n : Nat} {v : Value} {xs : List Value} (h : w.ownsRow base e size v n xs) (ho : ∀ b, v.ownBlock = some b → ¬ own w b) :
    ∃ p cap, v = .slice p n cap ∧ n ≤ cap ∧ Cs w p xs ∧ ∀ a, p = some a → ¬ own w a.block ∧ base ≤ a.block ∧ a.block < w.heap.size := by
  obtain ⟨p, c, rfl⟩ := row_slice h
  refine ⟨p, c, rfl, row_cap h, Cs.of_row h, fun a ha => ?_⟩
  subst ha
  have := h.lt a.block rfl
  exact ⟨ho _ rfl, this⟩
theorem chg_row {own : World → Nat → Prop} {S : Nat → Prop} {a b : World} (c : Chg own S a b) {base e size n : Nat} {v : Value} {xs : List Value} (h : a.ownsRow base e size v n xs) (ho : ∀ k, v.ownBlock = some k → ¬ own a k) (hs : ∀ k, v.ownBlock = some k → ¬ S k) :
    b.ownsRow base e size v n xs := by
  refine ⟨h.1, ?_⟩
  rcases h.2 with hn | ⟨g, cap, cur, rfl, hb, hgg, rest⟩
  · exact .inl hn
  · exact .inr ⟨g, cap, cur, rfl, hb, by rw [c.block g (Array.getElem?_eq_some_iff.1 hgg).1 (ho g rfl) (hs g rfl)]; exact hgg, rest⟩
structure CBase {σ : Type} (c : PC σ) where
  I : World → σ → Prop
  own : World → Nat → Prop
  lt : ∀ {w s k}, I w s → own w k → k < w.heap.size
  keep : ∀ {w w' s}, I w s → (∀ k, own w k → w'.heap[k]? = w.heap[k]?) → I w' s ∧ ∀ k, own w' k ↔ own w k
  len : σ → Nat
  grow : Nat
  numIn : ∀ {v s v' s'}, In v → c.num v s = some (v', s') → In v' ∧ len s' ≤ len s + grow
  wordIn : ∀ {l k s k' s'}, 0 ≤ k ∧ k < 256 → c.word l k s = some (k', s') → (0 ≤ k' ∧ k' < 256) ∧ len s' ≤ len s + grow
  flagIn : ∀ {f s f' s'}, c.flag f s = some (f', s') → len s' ≤ len s + grow
  manyIn : ∀ {n s n' s'}, n ≤ 1000000 → c.many n s = some (n', s') → n' ≤ max n 4096 ∧ len s' ≤ len s + grow
  pairIn : ∀ {p s p' s'}, In p.1 ∧ In p.2 → c.pair p s = some (p', s') → (In p'.1 ∧ In p'.2) ∧ len s' ≤ len s + grow
section
variable {σ : Type} {c : PC σ} (C : CBase c) {w w' : World} {s : σ}
theorem CBase.st {b : Nat} (h : C.I w s) (g : w.grownBy w' (some b)) (hb : ¬ C.own w b) : C.I w' s ∧ ∀ k, C.own w' k ↔ C.own w k :=
  C.keep h fun k hk => g.block k (C.lt h hk) fun e => hb (by cases e; exact hk)
theorem CBase.ext (h : C.I w s) (e : Ext w w') : C.I w' s ∧ ∀ k, C.own w' k ↔ C.own w k := C.keep h fun k hk => e.block k (C.lt h hk)
theorem CBase.chg_ext {S : Nat → Prop} (h : C.I w s) (e : Ext w w') : Chg C.own S w w' :=
  ⟨e.os, e.tape, e.output, e.size, fun k hk _ _ => e.block k hk, fun k _ h1 h2 => h1 (((C.ext h e).2 k).1 h2)⟩
theorem CBase.new' {k : Nat} (h : C.I w s) (hk : w.heap.size ≤ k) : ¬ C.own w k := fun hk' => by have := C.lt h hk'; omega
theorem CBase.new (h : C.I w s) : ¬ C.own w w.heap.size := fun hk => Nat.lt_irrefl _ (C.lt h hk)
theorem CBase.chg_st {S : Nat → Prop} {b : Nat} (h : C.I w s) (g : w.grownBy w' (some b)) (hb : ¬ C.own w b) (hS : b < w.heap.size → S b) : Chg C.own S w w' :=
  .of_grown g hS fun k => ((C.st h g hb).2 k).1
end
end Go.Sh

namespace Go.Proofs.YtmkpkmdnapccgaaGreatDoor
open Go Go.Sh Go.RowKit

def noneE : PanicEntry := { v := .iface 129 (.agg #[]), recovered := false }
def NoneCh (ch : List PanicEntry) : Prop := ∃ rest, ch = noneE :: rest ∧ ∀ e ∈ rest, e.goexit = false
theorem noneCh1 : NoneCh [noneE] := ⟨[], rfl, by simp⟩
theorem NoneCh.app {a b : List PanicEntry} (h : NoneCh a) (k : NoneCh b) : NoneCh (a ++ b) := by
  obtain ⟨r, rfl, hr⟩ := h
  obtain ⟨q, rfl, hq⟩ := k
  refine ⟨r ++ noneE :: q, rfl, fun e he => ?_⟩
  rcases List.mem_append.1 he with he | he
  · exact hr e he
  · rcases List.mem_cons.1 he with rfl | he
    · rfl
    · exact hq e he
abbrev unitV : Value := .tuple #[]
def strs (l : List Bs) : List Value := l.map fun s => .string ⟨s.toArray⟩
def lim : Nat := 1000000000000
structure Coder {σ : Type} (c : PC σ) (ct : TypeId) (cp : Value) extends CBase c where
  pre : List Bs → Int → Prop
  nc : ∀ {K : Prop}, K → doNC Tryz.prog (.iface ct cp) K
  ncw : ∀ {K : Prop}, K → doNC Tryz.prog (.func (.method "joinery/op.word") #[.iface ct cp] #[]) K
  ta : ∃ p1 b1 p2 b2, (b1 || b2) = c.words ∧ (∀ (w : World) (S : Value → Prop), S (.tuple #[.pointer p1, .bool b1]) → doTA Tryz.prog (.iface ct cp) 97 61 true w S) ∧
    ∀ (w : World) (S : Value → Prop), S (.tuple #[.pointer p2, .bool b2]) → doTA Tryz.prog (.iface ct cp) 97 85 true w S
  num : ∀ {w : World} {s : σ} {b i : Nat} {cs : Array Value} {t : TypeId} {v : Int} {R : EW}, I w s → len s ≤ lim → ¬ own w b → Blk w b cs t → cs[i]? = some (.int .i64 v) → In v →
    (∀ v' s' w', c.num v s = some (v', s') → I w' s' → Blk w' b (cs.setIfInBounds i (.int .i64 v')) t → Chg own (· = b) w w' → R (.returned unitV) w') →
    (∀ ch u s' w', c.num v s = none → NoneCh ch → len s' ≤ len s + grow → I w' s' → Blk w' b (cs.setIfInBounds i (.int .i64 u)) t → Chg own (· = b) w w' → R (.panicked ch) w') →
    doGo Tryz.prog (.fn (.method "joinery/op.num") #[]) #[.iface ct cp, .pointer (some ⟨b, i, none⟩)] w R
  word : ∀ {w : World} {s : σ} {b i : Nat} {cs : Array Value} {t : TypeId} {v : Int} {names : List Bs} {q : OA} {n cap : Nat} {R : EW}, I w s → len s ≤ lim → ¬ own w b → Blk w b cs t → cs[i]? = some (.int .u8 v) → 0 ≤ v ∧ v < 256 →
    Cs w q (strs names) → names.length = n → n ≤ cap → pre names v →
    (∀ v' s' w', c.word names v s = some (v', s') → I w' s' → Blk w' b (cs.setIfInBounds i (.int .u8 v')) t → Chg own (· = b) w w' → R (.returned unitV) w') →
    (∀ ch u s' w', c.word names v s = none → NoneCh ch → len s' ≤ len s + grow → I w' s' → Blk w' b (cs.setIfInBounds i (.int .u8 u)) t → Chg own (· = b) w w' → R (.panicked ch) w') →
    doGo Tryz.prog (.fn (.method "joinery/op.word") #[]) #[.iface ct cp, .pointer (some ⟨b, i, none⟩), .slice q n cap] w R
  flag : ∀ {w : World} {s : σ} {b i : Nat} {cs : Array Value} {t : TypeId} {v : Bool} {R : EW}, I w s → len s ≤ lim → ¬ own w b → Blk w b cs t → cs[i]? = some (.bool v) →
    (∀ v' s' w', c.flag v s = some (v', s') → I w' s' → Blk w' b (cs.setIfInBounds i (.bool v')) t → Chg own (· = b) w w' → R (.returned unitV) w') →
    (∀ ch u s' w', c.flag v s = none → NoneCh ch → len s' ≤ len s + grow → I w' s' → Blk w' b (cs.setIfInBounds i (.bool u)) t → Chg own (· = b) w w' → R (.panicked ch) w') →
    doGo Tryz.prog (.fn (.method "joinery/op.flag") #[]) #[.iface ct cp, .pointer (some ⟨b, i, none⟩)] w R
  flagD : c.words = false → ∀ {w : World} {s : σ} {b i : Nat} {cs : Array Value} {t : TypeId} {v : Bool} {u : FrameMode} {K : FrameMode → World → Prop}, u ≠ .run → I w s → len s ≤ lim → ¬ own w b → Blk w b cs t → cs[i]? = some (.bool v) →
    (∀ v' s' w', c.flag v s = some (v', s') → I w' s' → Blk w' b (cs.setIfInBounds i (.bool v')) t → Chg own (· = b) w w' → K (settle u) w') →
    (∀ ch u' s' w', c.flag v s = none → NoneCh ch → len s' ≤ len s + grow → I w' s' → Blk w' b (cs.setIfInBounds i (.bool u')) t → Chg own (· = b) w w' → K (raised u ch) w') →
    doDf Tryz.prog (.fn (.method "joinery/op.flag") #[]) #[.iface ct cp, .pointer (some ⟨b, i, none⟩)] u w K
  many : ∀ {w : World} {s : σ} {b : Nat} {t : TypeId} {v : Nat} {R : EW}, I w s → len s ≤ lim → ¬ own w b → Blk w b #[.int .i64 (v : Int)] t → v ≤ 1000000 →
    (∀ v' s' w', c.many v s = some (v', s') → I w' s' → Blk w' b #[.int .i64 ((v' : Nat) : Int)] t → Chg own (· = b) w w' → R (.returned unitV) w') →
    (∀ ch s' w', c.many v s = none → NoneCh ch → len s' ≤ len s + grow → I w' s' → Chg own (· = b) w w' → R (.panicked ch) w') →
    doGo Tryz.prog (.fn (.method "joinery/op.many") #[]) #[.iface ct cp, .pointer (some ⟨b, 0, none⟩)] w R
  pair : ∀ {w : World} {s : σ} {b : Nat} {t : TypeId} {v : Int × Int} {R : EW}, I w s → len s ≤ lim → ¬ own w b → Blk w b #[.int .i64 v.1, .int .i64 v.2] t → In v.1 ∧ In v.2 →
    (∀ v' s' w', c.pair v s = some (v', s') → I w' s' → Blk w' b #[.int .i64 v'.1, .int .i64 v'.2] t → Chg own (· = b) w w' → R (.returned unitV) w') →
    (∀ ch s' w', c.pair v s = none → NoneCh ch → len s' ≤ len s + grow → I w' s' → Chg own (· = b) w w' → R (.panicked ch) w') →
    doGo Tryz.prog (.fn (.method "joinery/op.pair") #[]) #[.iface ct cp, .pointer (some ⟨b, 0, none⟩)] w R
def opCells (x : POp) (pv kv : Value) : Array Value :=
  #[.int .u8 x.op, .int .i64 x.a, .int .i64 x.b, .int .i64 x.key, .int .i64 x.val, .int .i64 x.lo, .int .i64 x.hi, .int .i64 x.n, .int .u8 x.pol, .int .u8 x.pk, .int .i64 x.pa, .int .i64 x.pb, .bool x.pnot, pv, kv]
def OpAt (w : World) (b : Nat) (x : POp) (pv kv : Value) : Prop := Blk w b (opCells x pv kv) 37
section
variable {σ : Type} {c : PC σ} {ct : TypeId} {cp : Value} (C : Coder c ct cp)
theorem c_plain {fp : OA} {w : World} {s : σ} {b i : Nat} {cs : Array Value} {t : TypeId} {v : Int} {R : EW} (hI : C.I w s) (hl : C.len s ≤ lim) (ho : ¬ C.own w b) (hb : Blk w b cs t) (hc : cs[i]? = some (.int .i64 v)) (hv : In v)
    (h : ∀ v' s' w', c.num v s = some (v', s') → C.I w' s' → Blk w' b (cs.setIfInBounds i (.int .i64 v')) t → Chg C.own (· = b) w w' → R (.returned unitV) w')
    (hn : ∀ ch s' w', c.num v s = none → NoneCh ch → C.len s' ≤ C.len s + C.grow → C.I w' s' → Blk w' b cs t → Chg C.own (· = b) w w' → R (.panicked ch) w') :
    Calls Tryz.prog 105 #[.agg #[.pointer fp, .iface ct cp], .pointer (some ⟨b, i, none⟩)] w R := by
  refine sh105_ok _ _ _ ?_
  unfold sh105
  refine ⟨?_⟩
  have e1 := ext_alloc w (.cells #[.pointer fp, .iface ct cp] 103)
  have hf1 := blk_alloc w #[.pointer fp, .iface ct cp] 103
  have z1 : (w.alloc (.cells #[.pointer fp, .iface ct cp] 103)).heap.size = w.heap.size + 1 := by simp
  generalize w.alloc (.cells #[.pointer fp, .iface ct cp] 103) = w1 at e1 hf1 z1 ⊢
  refine ⟨_, rfl, v, (hb.ext e1).cell rfl hc, ⟨?_⟩⟩
  refine do_st (blk_alloc w1 _ _) (i := 0) rfl (by simp) fun w2 h2 g2 => ?_
  have e2 : Ext w w2 := (e1.alloc _).st g2 e1.size
  have z2 : ¬ C.own w2 w1.heap.size := fun h => C.new' hI e1.size (((C.ext hI e2).2 _).1 h)
  have hf2 : Blk w2 w.heap.size #[.pointer fp, .iface ct cp] 103 := (hf1.ext (ext_alloc w1 _)).grown g2 (ne_some (by omega))
  refine ⟨_, hf2.cell (i := 1) rfl rfl, C.num (C.ext hI e2).1 hl z2 h2 rfl hv (fun v' s' w3 hr hI3 hb3 c3 => retS_ret ⟨rfl, ?_⟩) fun ch u s' w3 hr hch hls hI3 hb3 c3 => ?_⟩
  · refine ⟨v', hb3.cell (i := 0) rfl rfl, _, rfl, ?_⟩
    have hne : b ≠ w1.heap.size := fun e => by have := hb.lt; have := e1.size; omega
    have ho2 : ¬ C.own w2 b := fun h => ho (((C.ext hI e2).2 _).1 h)
    have hb3' : Blk w3 b cs t := c3.blk (hb.ext e2) ho2 hne
    have ho3 : ¬ C.own w3 b := c3.out b (hb.ext e2).lt ho2
    refine do_st hb3' (i := i) (by rw [add_zero']) (Array.getElem?_eq_some_iff.1 hc).1 fun w4 h4 g4 => ?_
    have k1 : Chg C.own (SF w.heap.size (· = b)) w w2 := C.chg_ext hI e2
    have k2 : Chg C.own (SF w.heap.size (· = b)) w2 w3 := c3.mono fun k hk => .inr (by have := e1.size; omega)
    have k3 : Chg C.own (SF w.heap.size (· = b)) w3 w4 := C.chg_st hI3 g4 ho3 fun _ => .inl rfl
    exact h v' s' w4 hr (C.st hI3 g4 ho3).1 h4 ((k1.trans k2).trans k3).fresh
  · have hne : b ≠ w1.heap.size := fun e => by have := hb.lt; have := e1.size; omega
    have ho2 : ¬ C.own w2 b := fun h => ho (((C.ext hI e2).2 _).1 h)
    have k1 : Chg C.own (SF w.heap.size (· = b)) w w2 := C.chg_ext hI e2
    have k2 : Chg C.own (SF w.heap.size (· = b)) w2 w3 := c3.mono fun k hk => .inr (by have := e1.size; omega)
    exact hn ch s' w3 hr hch hls hI3 (c3.blk (hb.ext e2) ho2 hne) (k1.trans k2).fresh
end
end Go.Proofs.YtmkpkmdnapccgaaGreatDoor

namespace Go.Proofs.YtmkpkmdnapccgaaGreatDoor
open Go Go.Sh Go.RowKit

def RowAt (own : World → Nat → Prop) (xb : Nat) (w : World) (v : Value) (n : Nat) (cells : List Value) : Prop :=
  ∃ p cap, v = .slice p n cap ∧ n ≤ cap ∧ Cs w p cells ∧ ∀ a, p = some a → cells ≠ [] → ¬ own w a.block ∧ a.block ≠ xb ∧ a.block < w.heap.size
theorem RowAt.chg {own : World → Nat → Prop} {xb : Nat} {w w' : World} {v : Value} {n : Nat} {cells : List Value} (h : RowAt own xb w v n cells) (c : Chg own (· = xb) w w') : RowAt own xb w' v n cells := by
  obtain ⟨p, cap, rfl, hn, hc, ha⟩ := h
  refine ⟨p, cap, rfl, hn, fun i u hu => ?_, fun a e hz => ?_⟩
  · obtain ⟨a, e, hcell⟩ := hc i u hu
    obtain ⟨h1, h2, _⟩ := ha a e (by rintro rfl; simp at hu)
    exact ⟨a, e, c.cell hcell (by rw [add_block]; exact h1) (by rw [add_block]; exact h2)⟩
  · obtain ⟨h1, h2, h3⟩ := ha a e hz
    exact ⟨c.out _ h3 h1, h2, Nat.lt_of_lt_of_le h3 c.size⟩
theorem RowAt.ext {own : World → Nat → Prop} {xb : Nat} {w w' : World} {v : Value} {n : Nat} {cells : List Value} (h : RowAt own xb w v n cells) (e : Ext w w') (ho : ∀ k, own w' k → own w k) : RowAt own xb w' v n cells := by
  obtain ⟨p, cap, rfl, hn, hc, ha⟩ := h
  exact ⟨p, cap, rfl, hn, hc.ext e, fun a ea hz => ⟨fun hk => (ha a ea hz).1 (ho _ hk), (ha a ea hz).2.1, Nat.lt_of_lt_of_le (ha a ea hz).2.2 e.size⟩⟩
structure RowsAt (own : World → Nat → Prop) (xb : Nat) (w : World) (x : POp) (pv kv : Value) : Prop where
  p : RowAt own xb w pv x.pairs.length (prs x.pairs)
  k : RowAt own xb w kv x.keys.length (ints x.keys)
theorem RowsAt.chg {own : World → Nat → Prop} {xb : Nat} {w w' : World} {x : POp} {pv kv : Value} (h : RowsAt own xb w x pv kv) (c : Chg own (· = xb) w w') : RowsAt own xb w' x pv kv := ⟨h.p.chg c, h.k.chg c⟩
def Some15 (w : World) (b : Nat) : Prop := ∃ x p n cap q m cap', OpAt w b x (.slice p n cap) (.slice q m cap')
theorem RowsAt.some {own : World → Nat → Prop} {xb : Nat} {w : World} {x : POp} {pv kv : Value} (h : RowsAt own xb w x pv kv) {w' : World} {y : POp} (ha : OpAt w' xb y pv kv) : Some15 w' xb := by
  obtain ⟨p, cap, rfl, _⟩ := h.p
  obtain ⟨q, cap', rfl, _⟩ := h.k
  exact ⟨y, p, _, cap, q, _, cap', ha⟩
section
variable {σ : Type} {c : PC σ} {ct : TypeId} {cp : Value} (C : Coder c ct cp)
theorem c_fkey {xb : Nat} {x : POp} {pv kv : Value} {w : World} {s : σ} {R : EW} (hI : C.I w s) (hl : C.len s ≤ lim) (ho : ¬ C.own w xb) (hx : OpAt w xb x pv kv) (hin : InO x) (hr : RowsAt C.own xb w x pv kv)
    (h : ∀ x' s' w', partP c .key x s = some (x', s') → C.I w' s' → OpAt w' xb x' pv kv → RowsAt C.own xb w' x' pv kv → Chg C.own (· = xb) w w' → R (.returned unitV) w')
    (hn : ∀ ch w', partP c .key x s = none → NoneCh ch → Some15 w' xb → (∃ s', C.I w' s') → Chg C.own (· = xb) w w' → R (.panicked ch) w') :
    Calls Tryz.prog 70 #[.agg #[.pointer (some (blk xb)), .iface ct cp]] w R := by
  refine sh70_ok _ _ ?_
  unfold sh70
  refine ⟨?_⟩
  have e1 := ext_alloc w (.cells #[.pointer (some (blk xb)), .iface ct cp] 103)
  have hf1 := blk_alloc w #[.pointer (some (blk xb)), .iface ct cp] 103
  generalize w.alloc (.cells #[.pointer (some (blk xb)), .iface ct cp] 103) = w1 at e1 hf1 ⊢
  refine ⟨?_⟩
  have e2 := e1.drew
  have hf2 := hf1.ext (ext_drew w1)
  generalize w1.drew = w2 at e2 hf2 ⊢
  have hxb := hx.lt
  have ho2 : ¬ C.own w2 xb := fun h => ho (((C.ext hI e2).2 _).1 h)
  have hof : ¬ C.own w2 w.heap.size := fun h => C.new' hI (Nat.le_refl _) (((C.ext hI e2).2 _).1 h)
  have hne : w.heap.size ≠ xb := by omega
  refine ⟨fun w' => Blk w' w.heap.size #[.pointer (some (blk xb)), .iface ct cp] 103, hf2, _, fun w' h' => h'.cell (i := 1) rfl rfl, _, fun w' h' => h'.cell (i := 0) rfl rfl, _, rfl, C.nc ?_⟩
  refine C.num (b := xb) (i := 3) (C.ext hI e2).1 hl ho2 (hx.ext e2) rfl hin.key (fun v' s' w3 hv hI3 hb3 c3 => retS_ret ⟨rfl, c3.blk hf2 hof hne, ?_⟩) fun ch u s' w3 hv hch hls hI3 hb3 c3 => ?_
  · have k1 : Chg C.own (SF w.heap.size (· = xb)) w w2 := C.chg_ext hI e2
    have k : Chg C.own (· = xb) w w3 := (k1.trans (c3.mono fun _ => .inl)).fresh
    refine h { x with key := v' } s' w3 (by simp only [partP, hv]; rfl) hI3 hb3 ?_ k
    exact ⟨(hr.chg k).p, (hr.chg k).k⟩
  · have k1 : Chg C.own (SF w.heap.size (· = xb)) w w2 := C.chg_ext hI e2
    have k : Chg C.own (· = xb) w w3 := (k1.trans (c3.mono fun _ => .inl)).fresh
    exact hn ch w3 (by simp only [partP, hv]; rfl) hch (hr.some (y := { x with key := u }) hb3) ⟨_, hI3⟩ k
theorem c_fval {xb : Nat} {x : POp} {pv kv : Value} {w : World} {s : σ} {R : EW} (hI : C.I w s) (hl : C.len s ≤ lim) (ho : ¬ C.own w xb) (hx : OpAt w xb x pv kv) (hin : InO x) (hr : RowsAt C.own xb w x pv kv)
    (h : ∀ x' s' w', partP c .val x s = some (x', s') → C.I w' s' → OpAt w' xb x' pv kv → RowsAt C.own xb w' x' pv kv → Chg C.own (· = xb) w w' → R (.returned unitV) w')
    (hn : ∀ ch w', partP c .val x s = none → NoneCh ch → Some15 w' xb → (∃ s', C.I w' s') → Chg C.own (· = xb) w w' → R (.panicked ch) w') :
    Calls Tryz.prog 71 #[.agg #[.pointer (some (blk xb)), .iface ct cp]] w R := by
  refine sh71_ok _ _ ?_
  unfold sh71
  refine ⟨?_⟩
  have e1 := ext_alloc w (.cells #[.pointer (some (blk xb)), .iface ct cp] 103)
  have hf1 := blk_alloc w #[.pointer (some (blk xb)), .iface ct cp] 103
  generalize w.alloc (.cells #[.pointer (some (blk xb)), .iface ct cp] 103) = w1 at e1 hf1 ⊢
  refine ⟨?_⟩
  have e2 := e1.drew
  have hf2 := hf1.ext (ext_drew w1)
  generalize w1.drew = w2 at e2 hf2 ⊢
  have hxb := hx.lt
  have ho2 : ¬ C.own w2 xb := fun h => ho (((C.ext hI e2).2 _).1 h)
  have hof : ¬ C.own w2 w.heap.size := fun h => C.new' hI (Nat.le_refl _) (((C.ext hI e2).2 _).1 h)
  have hne : w.heap.size ≠ xb := by omega
  refine ⟨fun w' => Blk w' w.heap.size #[.pointer (some (blk xb)), .iface ct cp] 103, hf2, _, fun w' h' => h'.cell (i := 1) rfl rfl, _, fun w' h' => h'.cell (i := 0) rfl rfl, _, rfl, C.nc ?_⟩
  refine C.num (b := xb) (i := 4) (C.ext hI e2).1 hl ho2 (hx.ext e2) rfl hin.val (fun v' s' w3 hv hI3 hb3 c3 => retS_ret ⟨rfl, c3.blk hf2 hof hne, ?_⟩) fun ch u s' w3 hv hch hls hI3 hb3 c3 => ?_
  · have k1 : Chg C.own (SF w.heap.size (· = xb)) w w2 := C.chg_ext hI e2
    have k : Chg C.own (· = xb) w w3 := (k1.trans (c3.mono fun _ => .inl)).fresh
    refine h { x with val := v' } s' w3 (by simp only [partP, hv]; rfl) hI3 hb3 ?_ k
    exact ⟨(hr.chg k).p, (hr.chg k).k⟩
  · have k1 : Chg C.own (SF w.heap.size (· = xb)) w w2 := C.chg_ext hI e2
    have k : Chg C.own (· = xb) w w3 := (k1.trans (c3.mono fun _ => .inl)).fresh
    exact hn ch w3 (by simp only [partP, hv]; rfl) hch (hr.some (y := { x with val := u }) hb3) ⟨_, hI3⟩ k
theorem c_flo {xb : Nat} {x : POp} {pv kv : Value} {w : World} {s : σ} {R : EW} (hI : C.I w s) (hl : C.len s ≤ lim) (ho : ¬ C.own w xb) (hx : OpAt w xb x pv kv) (hin : InO x) (hr : RowsAt C.own xb w x pv kv)
    (h : ∀ x' s' w', partP c .lo x s = some (x', s') → C.I w' s' → OpAt w' xb x' pv kv → RowsAt C.own xb w' x' pv kv → Chg C.own (· = xb) w w' → R (.returned unitV) w')
    (hn : ∀ ch w', partP c .lo x s = none → NoneCh ch → Some15 w' xb → (∃ s', C.I w' s') → Chg C.own (· = xb) w w' → R (.panicked ch) w') :
    Calls Tryz.prog 78 #[.agg #[.pointer (some (blk xb)), .iface ct cp]] w R := by
  refine sh78_ok _ _ ?_
  unfold sh78
  refine ⟨?_⟩
  have e1 := ext_alloc w (.cells #[.pointer (some (blk xb)), .iface ct cp] 103)
  have hf1 := blk_alloc w #[.pointer (some (blk xb)), .iface ct cp] 103
  generalize w.alloc (.cells #[.pointer (some (blk xb)), .iface ct cp] 103) = w1 at e1 hf1 ⊢
  refine ⟨?_⟩
  have e2 := e1.drew
  have hf2 := hf1.ext (ext_drew w1)
  generalize w1.drew = w2 at e2 hf2 ⊢
  have hxb := hx.lt
  have ho2 : ¬ C.own w2 xb := fun h => ho (((C.ext hI e2).2 _).1 h)
  have hof : ¬ C.own w2 w.heap.size := fun h => C.new' hI (Nat.le_refl _) (((C.ext hI e2).2 _).1 h)
  have hne : w.heap.size ≠ xb := by omega
  refine ⟨fun w' => Blk w' w.heap.size #[.pointer (some (blk xb)), .iface ct cp] 103, hf2, _, fun w' h' => h'.cell (i := 1) rfl rfl, _, fun w' h' => h'.cell (i := 0) rfl rfl, _, rfl, C.nc ?_⟩
  refine C.num (b := xb) (i := 5) (C.ext hI e2).1 hl ho2 (hx.ext e2) rfl hin.lo (fun v' s' w3 hv hI3 hb3 c3 => retS_ret ⟨rfl, c3.blk hf2 hof hne, ?_⟩) fun ch u s' w3 hv hch hls hI3 hb3 c3 => ?_
  · have k1 : Chg C.own (SF w.heap.size (· = xb)) w w2 := C.chg_ext hI e2
    have k : Chg C.own (· = xb) w w3 := (k1.trans (c3.mono fun _ => .inl)).fresh
    refine h { x with lo := v' } s' w3 (by simp only [partP, hv]; rfl) hI3 hb3 ?_ k
    exact ⟨(hr.chg k).p, (hr.chg k).k⟩
  · have k1 : Chg C.own (SF w.heap.size (· = xb)) w w2 := C.chg_ext hI e2
    have k : Chg C.own (· = xb) w w3 := (k1.trans (c3.mono fun _ => .inl)).fresh
    exact hn ch w3 (by simp only [partP, hv]; rfl) hch (hr.some (y := { x with lo := u }) hb3) ⟨_, hI3⟩ k
theorem c_fhi {xb : Nat} {x : POp} {pv kv : Value} {w : World} {s : σ} {R : EW} (hI : C.I w s) (hl : C.len s ≤ lim) (ho : ¬ C.own w xb) (hx : OpAt w xb x pv kv) (hin : InO x) (hr : RowsAt C.own xb w x pv kv)
    (h : ∀ x' s' w', partP c .hi x s = some (x', s') → C.I w' s' → OpAt w' xb x' pv kv → RowsAt C.own xb w' x' pv kv → Chg C.own (· = xb) w w' → R (.returned unitV) w')
    (hn : ∀ ch w', partP c .hi x s = none → NoneCh ch → Some15 w' xb → (∃ s', C.I w' s') → Chg C.own (· = xb) w w' → R (.panicked ch) w') :
    Calls Tryz.prog 79 #[.agg #[.pointer (some (blk xb)), .iface ct cp]] w R := by
  refine sh79_ok _ _ ?_
  unfold sh79
  refine ⟨?_⟩
  have e1 := ext_alloc w (.cells #[.pointer (some (blk xb)), .iface ct cp] 103)
  have hf1 := blk_alloc w #[.pointer (some (blk xb)), .iface ct cp] 103
  generalize w.alloc (.cells #[.pointer (some (blk xb)), .iface ct cp] 103) = w1 at e1 hf1 ⊢
  refine ⟨?_⟩
  have e2 := e1.drew
  have hf2 := hf1.ext (ext_drew w1)
  generalize w1.drew = w2 at e2 hf2 ⊢
  have hxb := hx.lt
  have ho2 : ¬ C.own w2 xb := fun h => ho (((C.ext hI e2).2 _).1 h)
  have hof : ¬ C.own w2 w.heap.size := fun h => C.new' hI (Nat.le_refl _) (((C.ext hI e2).2 _).1 h)
  have hne : w.heap.size ≠ xb := by omega
  refine ⟨fun w' => Blk w' w.heap.size #[.pointer (some (blk xb)), .iface ct cp] 103, hf2, _, fun w' h' => h'.cell (i := 1) rfl rfl, _, fun w' h' => h'.cell (i := 0) rfl rfl, _, rfl, C.nc ?_⟩
  refine C.num (b := xb) (i := 6) (C.ext hI e2).1 hl ho2 (hx.ext e2) rfl hin.hi (fun v' s' w3 hv hI3 hb3 c3 => retS_ret ⟨rfl, c3.blk hf2 hof hne, ?_⟩) fun ch u s' w3 hv hch hls hI3 hb3 c3 => ?_
  · have k1 : Chg C.own (SF w.heap.size (· = xb)) w w2 := C.chg_ext hI e2
    have k : Chg C.own (· = xb) w w3 := (k1.trans (c3.mono fun _ => .inl)).fresh
    refine h { x with hi := v' } s' w3 (by simp only [partP, hv]; rfl) hI3 hb3 ?_ k
    exact ⟨(hr.chg k).p, (hr.chg k).k⟩
  · have k1 : Chg C.own (SF w.heap.size (· = xb)) w w2 := C.chg_ext hI e2
    have k : Chg C.own (· = xb) w w3 := (k1.trans (c3.mono fun _ => .inl)).fresh
    exact hn ch w3 (by simp only [partP, hv]; rfl) hch (hr.some (y := { x with hi := u }) hb3) ⟨_, hI3⟩ k
theorem c_fa {xb : Nat} {x : POp} {pv kv : Value} {w : World} {s : σ} {R : EW} (hI : C.I w s) (hl : C.len s ≤ lim) (ho : ¬ C.own w xb) (hx : OpAt w xb x pv kv) (hin : InO x) (hr : RowsAt C.own xb w x pv kv)
    (h : ∀ x' s' w', partP c .a x s = some (x', s') → C.I w' s' → OpAt w' xb x' pv kv → RowsAt C.own xb w' x' pv kv → Chg C.own (· = xb) w w' → R (.returned unitV) w')
    (hn : ∀ ch w', partP c .a x s = none → NoneCh ch → Some15 w' xb → (∃ s', C.I w' s') → Chg C.own (· = xb) w w' → R (.panicked ch) w') :
    Calls Tryz.prog 69 #[.agg #[.pointer (some (blk xb)), .iface ct cp]] w R := by
  refine sh69_ok _ _ ?_
  unfold sh69
  refine ⟨?_⟩
  have e1 := ext_alloc w (.cells #[.pointer (some (blk xb)), .iface ct cp] 103)
  have hf1 := blk_alloc w #[.pointer (some (blk xb)), .iface ct cp] 103
  generalize w.alloc (.cells #[.pointer (some (blk xb)), .iface ct cp] 103) = w1 at e1 hf1 ⊢
  refine ⟨?_⟩
  have e2 := e1.drew
  have hf2 := hf1.ext (ext_drew w1)
  generalize w1.drew = w2 at e2 hf2 ⊢
  have hxb := hx.lt
  have ho2 : ¬ C.own w2 xb := fun h => ho (((C.ext hI e2).2 _).1 h)
  have hof : ¬ C.own w2 w.heap.size := fun h => C.new' hI (Nat.le_refl _) (((C.ext hI e2).2 _).1 h)
  have hne : w.heap.size ≠ xb := by omega
  refine ⟨fun w' => Blk w' w.heap.size #[.pointer (some (blk xb)), .iface ct cp] 103, hf2, _, fun w' h' => h'.cell (i := 0) rfl rfl, _, fun w' h' => h'.cell (i := 1) rfl rfl, _, fun w' h' => h'.cell (i := 0) rfl rfl, _, rfl, do_call Tryz.call105 ?_⟩
  refine c_plain C (b := xb) (i := 1) (C.ext hI e2).1 hl ho2 (hx.ext e2) rfl hin.a (fun v' s' w3 hv hI3 hb3 c3 => retS_ret ⟨rfl, c3.blk hf2 hof hne, ?_⟩) fun ch s' w3 hv hch hls hI3 hb3 c3 => ?_
  · have k1 : Chg C.own (SF w.heap.size (· = xb)) w w2 := C.chg_ext hI e2
    have k : Chg C.own (· = xb) w w3 := (k1.trans (c3.mono fun _ => .inl)).fresh
    refine h { x with a := v' } s' w3 (by simp only [partP, hv]; rfl) hI3 hb3 ?_ k
    exact ⟨(hr.chg k).p, (hr.chg k).k⟩
  · have k1 : Chg C.own (SF w.heap.size (· = xb)) w w2 := C.chg_ext hI e2
    have k : Chg C.own (· = xb) w w3 := (k1.trans (c3.mono fun _ => .inl)).fresh
    exact hn ch w3 (by simp only [partP, hv]; rfl) hch (hr.some (y := x) hb3) ⟨_, hI3⟩ k
theorem c_fb {xb : Nat} {x : POp} {pv kv : Value} {w : World} {s : σ} {R : EW} (hI : C.I w s) (hl : C.len s ≤ lim) (ho : ¬ C.own w xb) (hx : OpAt w xb x pv kv) (hin : InO x) (hr : RowsAt C.own xb w x pv kv)
    (h : ∀ x' s' w', partP c .b x s = some (x', s') → C.I w' s' → OpAt w' xb x' pv kv → RowsAt C.own xb w' x' pv kv → Chg C.own (· = xb) w w' → R (.returned unitV) w')
    (hn : ∀ ch w', partP c .b x s = none → NoneCh ch → Some15 w' xb → (∃ s', C.I w' s') → Chg C.own (· = xb) w w' → R (.panicked ch) w') :
    Calls Tryz.prog 74 #[.agg #[.pointer (some (blk xb)), .iface ct cp]] w R := by
  refine sh74_ok _ _ ?_
  unfold sh74
  refine ⟨?_⟩
  have e1 := ext_alloc w (.cells #[.pointer (some (blk xb)), .iface ct cp] 103)
  have hf1 := blk_alloc w #[.pointer (some (blk xb)), .iface ct cp] 103
  generalize w.alloc (.cells #[.pointer (some (blk xb)), .iface ct cp] 103) = w1 at e1 hf1 ⊢
  refine ⟨?_⟩
  have e2 := e1.drew
  have hf2 := hf1.ext (ext_drew w1)
  generalize w1.drew = w2 at e2 hf2 ⊢
  have hxb := hx.lt
  have ho2 : ¬ C.own w2 xb := fun h => ho (((C.ext hI e2).2 _).1 h)
  have hof : ¬ C.own w2 w.heap.size := fun h => C.new' hI (Nat.le_refl _) (((C.ext hI e2).2 _).1 h)
  have hne : w.heap.size ≠ xb := by omega
  refine ⟨fun w' => Blk w' w.heap.size #[.pointer (some (blk xb)), .iface ct cp] 103, hf2, _, fun w' h' => h'.cell (i := 0) rfl rfl, _, fun w' h' => h'.cell (i := 1) rfl rfl, _, fun w' h' => h'.cell (i := 0) rfl rfl, _, rfl, do_call Tryz.call105 ?_⟩
  refine c_plain C (b := xb) (i := 2) (C.ext hI e2).1 hl ho2 (hx.ext e2) rfl hin.b (fun v' s' w3 hv hI3 hb3 c3 => retS_ret ⟨rfl, c3.blk hf2 hof hne, ?_⟩) fun ch s' w3 hv hch hls hI3 hb3 c3 => ?_
  · have k1 : Chg C.own (SF w.heap.size (· = xb)) w w2 := C.chg_ext hI e2
    have k : Chg C.own (· = xb) w w3 := (k1.trans (c3.mono fun _ => .inl)).fresh
    refine h { x with b := v' } s' w3 (by simp only [partP, hv]; rfl) hI3 hb3 ?_ k
    exact ⟨(hr.chg k).p, (hr.chg k).k⟩
  · have k1 : Chg C.own (SF w.heap.size (· = xb)) w w2 := C.chg_ext hI e2
    have k : Chg C.own (· = xb) w w3 := (k1.trans (c3.mono fun _ => .inl)).fresh
    exact hn ch w3 (by simp only [partP, hv]; rfl) hch (hr.some (y := x) hb3) ⟨_, hI3⟩ k
theorem c_fn {xb : Nat} {x : POp} {pv kv : Value} {w : World} {s : σ} {R : EW} (hI : C.I w s) (hl : C.len s ≤ lim) (ho : ¬ C.own w xb) (hx : OpAt w xb x pv kv) (hin : InO x) (hr : RowsAt C.own xb w x pv kv)
    (h : ∀ x' s' w', partP c .n x s = some (x', s') → C.I w' s' → OpAt w' xb x' pv kv → RowsAt C.own xb w' x' pv kv → Chg C.own (· = xb) w w' → R (.returned unitV) w')
    (hn : ∀ ch w', partP c .n x s = none → NoneCh ch → Some15 w' xb → (∃ s', C.I w' s') → Chg C.own (· = xb) w w' → R (.panicked ch) w') :
    Calls Tryz.prog 77 #[.agg #[.pointer (some (blk xb)), .iface ct cp]] w R := by
  refine sh77_ok _ _ ?_
  unfold sh77
  refine ⟨?_⟩
  have e1 := ext_alloc w (.cells #[.pointer (some (blk xb)), .iface ct cp] 103)
  have hf1 := blk_alloc w #[.pointer (some (blk xb)), .iface ct cp] 103
  generalize w.alloc (.cells #[.pointer (some (blk xb)), .iface ct cp] 103) = w1 at e1 hf1 ⊢
  refine ⟨?_⟩
  have e2 := e1.drew
  have hf2 := hf1.ext (ext_drew w1)
  generalize w1.drew = w2 at e2 hf2 ⊢
  have hxb := hx.lt
  have ho2 : ¬ C.own w2 xb := fun h => ho (((C.ext hI e2).2 _).1 h)
  have hof : ¬ C.own w2 w.heap.size := fun h => C.new' hI (Nat.le_refl _) (((C.ext hI e2).2 _).1 h)
  have hne : w.heap.size ≠ xb := by omega
  refine ⟨fun w' => Blk w' w.heap.size #[.pointer (some (blk xb)), .iface ct cp] 103, hf2, _, fun w' h' => h'.cell (i := 0) rfl rfl, _, fun w' h' => h'.cell (i := 1) rfl rfl, _, fun w' h' => h'.cell (i := 0) rfl rfl, _, rfl, do_call Tryz.call105 ?_⟩
  refine c_plain C (b := xb) (i := 7) (C.ext hI e2).1 hl ho2 (hx.ext e2) rfl hin.n (fun v' s' w3 hv hI3 hb3 c3 => retS_ret ⟨rfl, c3.blk hf2 hof hne, ?_⟩) fun ch s' w3 hv hch hls hI3 hb3 c3 => ?_
  · have k1 : Chg C.own (SF w.heap.size (· = xb)) w w2 := C.chg_ext hI e2
    have k : Chg C.own (· = xb) w w3 := (k1.trans (c3.mono fun _ => .inl)).fresh
    refine h { x with n := v' } s' w3 (by simp only [partP, hv]; rfl) hI3 hb3 ?_ k
    exact ⟨(hr.chg k).p, (hr.chg k).k⟩
  · have k1 : Chg C.own (SF w.heap.size (· = xb)) w w2 := C.chg_ext hI e2
    have k : Chg C.own (· = xb) w w3 := (k1.trans (c3.mono fun _ => .inl)).fresh
    exact hn ch w3 (by simp only [partP, hv]; rfl) hch (hr.some (y := x) hb3) ⟨_, hI3⟩ k
end
end Go.Proofs.YtmkpkmdnapccgaaGreatDoor

