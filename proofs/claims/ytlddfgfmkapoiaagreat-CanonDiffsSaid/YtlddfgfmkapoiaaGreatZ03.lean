/-
  Small lemmas for reading the printed formulas: what a call leaves alone, slices, maps, appends. No claim of its own.
-/
/-
  Printed by a program (gen.py): what the functions of the program do, as formulas; each with the proof that its call is what the formula says.
-/
/-
  Printed by a program (gen.py): what the functions of the program do, as formulas; each with the proof that its call is what the formula says.
-/
import Derived.Test.YtlddfgfmkapoiaaGreatZ02
import Derived.MapKept
import Derived.Laws.OwnMore
import Derived.Test.YtlddfgfmkapoiaaGreatProg

namespace Go.Sh
open Go Go.RowKit

/-- All blocks that were there are as they were. -/
abbrev Ext (w w' : World) : Prop := Below w.heap.size w w'
theorem Ext.trans {a b c : World} (h : Ext a b) (k : Ext b c) : Ext a c := Below.trans h (Below.mono k h.size)
theorem ext_alloc (w : World) (o : Obj) : Ext w (w.alloc o) := Below.alloc (.refl _ _) (Nat.le_refl _) o
theorem ext_drew (w : World) : Ext w w.drew := Below.drew (.refl _ _)
theorem ext_refl (w : World) : Ext w w := .refl _ _
theorem Ext.alloc {a b : World} (h : Ext a b) (o : Obj) : Ext a (b.alloc o) := Below.alloc h h.size o
theorem Ext.drew {a b : World} (h : Ext a b) : Ext a b.drew := Below.drew h
theorem Ext.set {a b : World} (h : Ext a b) {p : Addr} (hp : a.heap.size ≤ p.block) (u : Value) : Ext a (b.setCell p u) := Below.setCell h hp u
theorem Ext.cell {a b : World} (h : Ext a b) {p : Addr} {v : Value} (hc : a.cell? p = some v) : b.cell? p = some v := by
  rw [Below.cell h (World.block_lt_of_cell? a p hc)]; exact hc
theorem Ext.heap {a b : World} (h : Ext a b) {k : Nat} {o : Obj} (hc : a.heap[k]? = some o) : b.heap[k]? = some o := by
  rw [h.block k (Array.getElem?_eq_some_iff.1 hc).1]; exact hc
theorem Ext.grownBy {a b : World} (h : Ext a b) : a.grownBy b none := ⟨h.os, h.tape, h.output, h.size, fun k hk _ => h.block k hk⟩
theorem Ext.grown {a w w' : World} {row : Option Nat} (h : Ext a w) (hg : w.grownBy w' row) (hr : ∀ k, row = some k → a.heap.size ≤ k) : Ext a w' := Below.grown h hg h.size hr
theorem Ext.row {a b : World} (h : Ext a b) {base e size n : Nat} {v : Value} {xs : List Value} (ho : a.ownsRow base e size v n xs) : b.ownsRow base e size v n xs :=
  ho.kept h.grownBy (by cases v.ownBlock <;> simp)

/-! ### Slices -/
/-- From that address on lie the values. -/
def Cs (w : World) (p : Option Addr) (vs : List Value) : Prop := ∀ i v, vs[i]? = some v → ∃ a, p = some a ∧ w.cell? (a.add i) = some v
theorem Cs.ext {w w' : World} {p : Option Addr} {vs : List Value} (h : Cs w p vs) (e : Ext w w') : Cs w' p vs := fun i v hv => by
  obtain ⟨a, ha, hc⟩ := h i v hv
  exact ⟨a, ha, e.cell hc⟩
theorem cs_nil (w : World) (p : Option Addr) : Cs w p [] := fun i v h => by simp at h
theorem add_add (a : Addr) (i j : Nat) : (a.add i).add j = a.add (i + j) := by
  simp only [Addr.add]
  by_cases hi : i = 0 <;> by_cases hj : j = 0 <;> simp_all [Nat.add_assoc]
theorem add_blk (b i : Nat) : (blk b).add i = ⟨b, i, none⟩ := by unfold Addr.add; split <;> simp_all
theorem add_zero' (a : Addr) : a.add 0 = a := by simp [Addr.add]
theorem add_block (a : Addr) (i : Nat) : (a.add i).block = a.block := by simp only [Addr.add]; split <;> rfl
theorem Cs.drop {w : World} {a : Addr} {vs : List Value} (h : Cs w (some a) vs) (k : Nat) : Cs w (some (a.add k)) (vs.drop k) := fun i v hv => by
  obtain ⟨b, hb, hc⟩ := h (k + i) v (by simpa using hv)
  cases hb
  exact ⟨_, rfl, by rw [add_add]; exact hc⟩
theorem Cs.take {w : World} {p : Option Addr} {vs : List Value} (h : Cs w p vs) (k : Nat) : Cs w p (vs.take k) := fun i v hv => by
  rw [List.getElem?_take] at hv
  split at hv
  · exact h i v hv
  · cases hv
theorem Cs.of_row {w : World} {base e size n c : Nat} {p : Option Addr} {xs : List Value} (h : w.ownsRow base e size (.slice p n c) n xs) : Cs w p xs := fun i v hv => by
  rcases h.2 with ⟨hv', hn⟩ | ⟨g, cap, cur, hv', _⟩
  · subst hn; cases List.eq_nil_of_length_eq_zero (by simpa using h.1); simp at hv
  · cases hv'
    exact ⟨_, rfl, h.cells rfl i v hv⟩
theorem row_slice {w : World} {base e size n : Nat} {v : Value} {xs : List Value} (h : w.ownsRow base e size v n xs) : ∃ p c, v = .slice p n c := by
  rcases h.2 with ⟨hv', hn⟩ | ⟨g, cap, cur, hv', _⟩
  · exact ⟨_, _, by rw [hv', hn]⟩
  · exact ⟨_, _, hv'⟩
/-- The numbers of a slice of int64. -/
def ints (l : List Int) : List Value := l.map (.int .i64)
@[simp] theorem ints_length (l : List Int) : (ints l).length = l.length := by simp [ints]
@[simp] theorem ints_append (l r : List Int) : ints (l ++ r) = ints l ++ ints r := by simp [ints]
@[simp] theorem ints_drop (l : List Int) (k : Nat) : (ints l).drop k = ints (l.drop k) := by simp [ints]
@[simp] theorem ints_take (l : List Int) (k : Nat) : (ints l).take k = ints (l.take k) := by simp [ints]
@[simp] theorem ints_set (l : List Int) (k : Nat) (v : Int) : (ints l).set k (.int .i64 v) = ints (l.set k v) := by simp [ints, List.map_set]
theorem Cs.int {w : World} {p : Option Addr} {l : List Int} (h : Cs w p (ints l)) {i : Nat} (hi : i < l.length) : ∃ a, p = some a ∧ w.cell? (a.add i) = some (.int .i64 l[i]) :=
  h i _ (by simp [ints, hi])
/-- An element of a slice of numbers. -/
theorem ix_int {w : World} {p : Option Addr} {n : Nat} {i : Int} {l : List Int} {K : Addr → Prop} (h : Cs w p (ints l)) (hn : l.length = n) (h0 : 0 ≤ i) (h1 : i < n)
    (k : ∀ a, p = some a → w.cell? (a.add (i.toNat * 1)) = some (.int .i64 (l.getD i.toNat 0)) → K (a.add (i.toNat * 1))) : doIx p n 1 i K := by
  have hi : i.toNat < l.length := by omega
  obtain ⟨a, ha, hc⟩ := h.int hi
  refine ⟨a, ha, h0, h1, k a ha ?_⟩
  rw [Nat.mul_one, hc, List.getD_eq_getElem?_getD, List.getElem?_eq_getElem hi]; rfl

theorem row_cap {w : World} {base e size n c : Nat} {p : Option Addr} {xs : List Value} (h : w.ownsRow base e size (.slice p n c) n xs) : n ≤ c := by
  rcases h.2 with ⟨hv', hn⟩ | ⟨g, cap, cur, hv', _, _, hc, _⟩
  · omega
  · cases hv'; exact hc
theorem row_mono {w : World} {base base' e size n : Nat} {v : Value} {xs : List Value} (h : w.ownsRow base e size v n xs) (hb : base' ≤ base) : w.ownsRow base' e size v n xs :=
  ⟨h.1, h.2.imp id fun ⟨g, cap, cur, h1, h2, h3⟩ => ⟨g, cap, cur, h1, Nat.le_trans hb h2, h3⟩⟩
/-- The cells of a row of pairs of int64. -/
def prs (l : List (Int × Int)) : List Value := l.flatMap fun x => [.int .i64 x.1, .int .i64 x.2]
@[simp] theorem prs_nil : prs [] = [] := rfl
@[simp] theorem prs_cons (x : Int × Int) (l : List (Int × Int)) : prs (x :: l) = .int .i64 x.1 :: .int .i64 x.2 :: prs l := rfl
@[simp] theorem prs_length (l : List (Int × Int)) : (prs l).length = l.length * 2 := by
  induction l with
  | nil => rfl
  | cons x xs ih => simp [ih]; omega
@[simp] theorem prs_append (l r : List (Int × Int)) : prs (l ++ r) = prs l ++ prs r := by simp [prs]
theorem prs_drop (l : List (Int × Int)) (k : Nat) : (prs l).drop (k * 2) = prs (l.drop k) := by
  induction l generalizing k with
  | nil => simp
  | cons x xs ih =>
    cases k with
    | zero => rfl
    | succ k => rw [show (k + 1) * 2 = k * 2 + 1 + 1 by omega]; simp only [prs_cons, List.drop_succ_cons]; exact ih k
theorem prs_take (l : List (Int × Int)) (k : Nat) : (prs l).take (k * 2) = prs (l.take k) := by
  induction l generalizing k with
  | nil => simp
  | cons x xs ih =>
    cases k with
    | zero => rfl
    | succ k => rw [show (k + 1) * 2 = k * 2 + 1 + 1 by omega]; simp only [prs_cons, List.take_succ_cons]; rw [ih k]
theorem prs_get {l : List (Int × Int)} {i : Nat} (hi : i < l.length) : (prs l)[i * 2]? = some (.int .i64 l[i].1) ∧ (prs l)[i * 2 + 1]? = some (.int .i64 l[i].2) := by
  induction l generalizing i with
  | nil => simp at hi
  | cons x xs ih =>
    cases i with
    | zero => exact ⟨rfl, rfl⟩
    | succ i =>
      have := ih (i := i) (by simpa using hi)
      rw [show (i + 1) * 2 = i * 2 + 1 + 1 by omega]
      simpa using this
theorem prs_one {l : List (Int × Int)} : ∀ u ∈ prs l, u.oneCell' = true := fun u hu => by
  simp only [prs, List.mem_flatMap] at hu
  obtain ⟨x, _, hx⟩ := hu
  simp at hx
  rcases hx with rfl | rfl <;> rfl
/-- An element of a slice of pairs. -/
theorem ix_pr {w : World} {p : Option Addr} {n : Nat} {i : Int} {l : List (Int × Int)} {K : Addr → Prop} (h : Cs w p (prs l)) (hn : l.length = n) {k : Nat} (hk : i = (k : Int)) (h1 : k < n)
    (c : ∀ a : Addr, w.cell? (a.add 0) = some (.int .i64 (l[k]'(by omega)).1) → w.cell? (a.add 1) = some (.int .i64 (l[k]'(by omega)).2) → (∃ b, p = some b ∧ a = b.add (k * 2)) → K a) : doIx p n 2 i K := by
  subst hk
  have hg := prs_get (l := l) (i := k) (by omega)
  obtain ⟨a, ha, hc0⟩ := h _ _ hg.1
  obtain ⟨a', ha', hc1⟩ := h _ _ hg.2
  rw [ha] at ha'
  cases ha'
  refine ⟨a, ha, by omega, by omega, ?_⟩
  rw [Int.toNat_natCast]
  exact c _ (by rw [add_zero']; exact hc0) (by rw [add_add]; exact hc1) ⟨a, ha, rfl⟩
/-- An element of a slice of pairs, the same in all worlds of a class. -/
theorem ix_prC {C : World → Prop} {p : Option Addr} {n : Nat} {i : Int} {l : List (Int × Int)} {K : Addr → Prop} (h : ∀ w, C w → Cs w p (prs l)) {w0 : World} (hw : C w0) (hn : l.length = n) {k : Nat} (hk : i = (k : Int)) (h1 : k < n)
    (c : ∀ a : Addr, (∀ w, C w → w.cell? (a.add 0) = some (.int .i64 (l[k]'(by omega)).1)) → (∀ w, C w → w.cell? (a.add 1) = some (.int .i64 (l[k]'(by omega)).2)) → K a) : doIx p n 2 i K := by
  subst hk
  have hg := prs_get (l := l) (i := k) (by omega)
  obtain ⟨a, ha, _⟩ := h w0 hw _ _ hg.1
  refine ⟨a, ha, by omega, by omega, ?_⟩
  rw [Int.toNat_natCast]
  refine c _ (fun w hC => ?_) (fun w hC => ?_)
  · obtain ⟨a', ha', hc⟩ := h w hC _ _ hg.1
    rw [ha] at ha'; cases ha'
    rw [add_zero']; exact hc
  · obtain ⟨a', ha', hc⟩ := h w hC _ _ hg.2
    rw [ha] at ha'; cases ha'
    rw [add_add]; exact hc
/-- A part of a slice of pairs. -/
theorem sl_pr {w : World} {q : Option Addr} {n c : Nat} {lo hi : Int} {l : List (Int × Int)} {K : Option Addr → Nat → Nat → Prop} (hl : Cs w q (prs l)) (hn : l.length = n) (hnc : n ≤ c) {a b : Nat} (ha : lo = (a : Int)) (hb : hi = (b : Int)) (h1 : a ≤ b) (h2 : b ≤ n)
    (k : ∀ p, Cs w p (prs ((l.take b).drop a)) → (p = if c = a then q else q.map (·.add (a * 2))) → K p (b - a) (c - a)) : doSl q c 2 lo hi K := by
  subst ha; subst hb
  refine ⟨by omega, by omega, by omega, ?_⟩
  rw [Int.toNat_natCast, Int.toNat_natCast]
  refine k _ ?_ rfl
  rw [← prs_drop, ← prs_take]
  split
  · rw [List.drop_of_length_le (by simp; omega)]; exact cs_nil _ _
  · cases q with
    | none =>
      have : l = [] := by
        cases l with
        | nil => rfl
        | cons x xs => obtain ⟨a, ha, _⟩ := hl 0 (.int .i64 x.1) rfl; cases ha
      subst this; simp; exact cs_nil _ _
    | some ad => exact (hl.take _).drop _

/-! ### Numbers -/
theorem wrap_of {x : Int} (h1 : -9223372036854775808 ≤ x) (h2 : x < 9223372036854775808) : IntKind.wrap .i64 x = x := by
  simp only [IntKind.wrap, IntKind.signed, IntKind.bits]
  simp
  omega
theorem wrap_succ {k n : Nat} (h : k < n) (hn : n ≤ 9223372036854775807) : IntKind.wrap .i64 ((k : Int) + 1) = ((k + 1 : Nat) : Int) := by
  rw [wrap_of (by omega) (by omega)]; simp

/-! ### Own rows, append -/
/-- The type of a slice and its elements. -/
structure ElT (P : Program) (t e : TypeId) (z : Value) (size bytes : Nat) : Prop where
  ht : P.underlying t = some (.slice e)
  hi : ∃ i, P.info? e = some i ∧ i.zero = some z ∧ i.size = size ∧ i.bytes = bytes
  hz : z.cells.size = size
  hs : 0 < size
theorem goV_append {P : Program} {t : TypeId} {bs : Array Bool} {v x v' : Value} {w w' : World} {R : Ending → World → Prop}
    (hr : (Builtin.append_ #[t, t] t #[v, x]).run P w = .ok v' w') (h : R (.returned v') w') : doGo P (.builtin .append #[t, t] t bs) #[v, x] w R := by
  refine ⟨?_⟩
  unfold goV
  simp only [invoke, builtin, Sem.run_bind, hr, Result.andThen_ok, Sem.run_pure]
  exact h
/-- append to a row of one's own -/
theorem do_append {P : Program} {t e : TypeId} {z : Value} {size bytes : Nat} (E : ElT P t e z size bytes) {base : Nat} {v : Value} {n : Nat} {xs : List Value} {w : World}
    (hown : w.ownsRow base e size v n xs) {ad : Addr} {m c : Nat} {news : List Value} (hnews : Cs w (some ad) news) (hl : news.length = m * size) (h1 : ∀ u ∈ news, u.oneCell' = true)
    (h63 : n + m ≤ maxLen) (hbytes : (n + m) * bytes ≤ 140737488355328) (hbase : base ≤ w.heap.size) {bs : Array Bool} {R : Ending → World → Prop}
    (h : ∀ p c w', w'.ownsRow base e size (.slice p (n + m) c) (n + m) (xs ++ news) → w.grownBy w' v.ownBlock → R (.returned (.slice p (n + m) c)) w') :
    doGo P (.builtin .append #[t, t] t bs) #[v, .slice (some ad) m c] w R := by
  obtain ⟨i, hi, hz, hsz, hby⟩ := E.hi
  obtain ⟨v', w', hr, h2, h3, _⟩ := run_append_own (P := P) w base t t e i z size bytes E.ht hi hz hsz hby E.hz E.hs v n xs hown ad m c news hl
    (fun j u hu => by obtain ⟨a, ha, hc⟩ := hnews j u hu; cases ha; exact hc) h1 h63 hbytes hbase
  obtain ⟨p, c', rfl⟩ := row_slice h2
  exact goV_append hr (h p c' w' h2 h3)
/-- a new block of cells -/
theorem cs_alloc (w : World) (cs : Array Value) (t : TypeId) : Cs (w.alloc (.cells cs t)) (some (blk w.heap.size)) cs.toList := fun i v hv => by
  refine ⟨_, rfl, ?_⟩
  rw [add_blk, cell_of_row _ w.heap.size i cs t (0, 0) (heap_alloc_new w _)]
  simpa using hv
theorem cell_alloc0 (w : World) (v : Value) (t : TypeId) : (w.alloc (.cells #[v] t)).cell? (blk w.heap.size) = some v := by
  obtain ⟨a, ha, hc⟩ := cs_alloc w #[v] t 0 v rfl
  cases ha
  rw [add_zero'] at hc
  exact hc
theorem frozen_alloc (w : World) (cs : Array Value) (t : TypeId) (i : Nat) : (w.alloc (.cells cs t)).frozen? ⟨w.heap.size, i, none⟩ = false :=
  frozen_of_row _ w.heap.size i cs t (heap_alloc_new w _)

/-! ### Maps with plain keys -/
theorem do_mu_new {P : Program} {t kt et : TypeId} {d : TypeDesc} (hm : P.underlying t = some (.map kt et)) (hd : P.underlying kt = some d) {b clock : Nat} {es : Array MapEntry} {k x : Value} {w : World}
    (hb : w.heap[b]? = some (.map es clock)) (hk : MapKept.IsKey d k) (hf : Instr.findNow d k es.toList 0 = some none) {K : World → Prop}
    (h : ∀ w', w'.heap[b]? = some (.map (es.push { key := k, val := x, born := clock }) (clock + 1)) → w.grownBy w' (some b) → K w') :
    doMu P t (.map (some b)) k x w K := by
  refine ⟨_, ?_, h { w with heap := w.heap.setIfInBounds b (.map (es.push { key := k, val := x, born := clock }) (clock + 1)) } (MapKept.heap_set hb).1
    ⟨rfl, rfl, rfl, by simp, fun k _ hk => (MapKept.heap_set hb).2 k (fun e => hk (by simp [e]))⟩⟩
  simp [Instr.mapUpdate, run_underlying hm, MapKept.run_getObj_map hb, MapKept.run_checkKey hd hk, MapKept.run_findKey hd hf, MapKept.run_setObj_map _ hb, Result.andThen]
theorem do_lk_hit {P : Program} {t kt et : TypeId} {d : TypeDesc} (hm : P.underlying t = some (.map kt et)) (hd : P.underlying kt = some d) {b clock : Nat} {es : Array MapEntry} {k : Value} {w : World}
    (hb : w.heap[b]? = some (.map es clock)) (hk : MapKept.IsKey d k) {i : Nat} {v : Value} (hf : Instr.findNow d k es.toList 0 = some (some (i, v))) {S : Value → Prop}
    (h : S (.tuple #[v, .bool true])) : doLk P t (.map (some b)) k true w S := by
  refine ⟨_, ?_, h⟩
  simp [Instr.lookup, run_underlying hm, MapKept.run_getObj_map hb, MapKept.run_checkKey hd hk, MapKept.run_findKey hd hf, Result.andThen]
theorem do_lk_miss {P : Program} {t kt et : TypeId} {d : TypeDesc} (hm : P.underlying t = some (.map kt et)) (hd : P.underlying kt = some d) {b clock : Nat} {es : Array MapEntry} {k z : Value} {w : World}
    (hb : w.heap[b]? = some (.map es clock)) (hk : MapKept.IsKey d k) (hf : Instr.findNow d k es.toList 0 = some none) (hz : (P.info? et).bind (·.zero) = some z) {S : Value → Prop}
    (h : S (.tuple #[z, .bool false])) : doLk P t (.map (some b)) k true w S := by
  refine ⟨_, ?_, h⟩
  have : (zeroValue et).run P w = .ok z w := by
    cases hi : P.info? et with
    | none => simp [hi] at hz
    | some i => simp [hi] at hz; simp [zeroValue, typeInfo, hi, hz, Result.andThen]
  simp [Instr.lookup, run_underlying hm, MapKept.run_getObj_map hb, MapKept.run_checkKey hd hk, MapKept.run_findKey hd hf, Result.andThen, this]

theorem do_lk1_hit {P : Program} {t kt et : TypeId} {d : TypeDesc} (hm : P.underlying t = some (.map kt et)) (hd : P.underlying kt = some d) {b clock : Nat} {es : Array MapEntry} {k : Value} {w : World}
    (hb : w.heap[b]? = some (.map es clock)) (hk : MapKept.IsKey d k) {i : Nat} {v : Value} (hf : Instr.findNow d k es.toList 0 = some (some (i, v))) {S : Value → Prop}
    (h : S v) : doLk P t (.map (some b)) k false w S := by
  refine ⟨_, ?_, h⟩
  simp [Instr.lookup, run_underlying hm, MapKept.run_getObj_map hb, MapKept.run_checkKey hd hk, MapKept.run_findKey hd hf, Result.andThen]
theorem do_lk1_miss {P : Program} {t kt et : TypeId} {d : TypeDesc} (hm : P.underlying t = some (.map kt et)) (hd : P.underlying kt = some d) {b clock : Nat} {es : Array MapEntry} {k z : Value} {w : World}
    (hb : w.heap[b]? = some (.map es clock)) (hk : MapKept.IsKey d k) (hf : Instr.findNow d k es.toList 0 = some none) (hz : (P.info? et).bind (·.zero) = some z) {S : Value → Prop}
    (h : S z) : doLk P t (.map (some b)) k false w S := by
  refine ⟨_, ?_, h⟩
  have : (zeroValue et).run P w = .ok z w := by
    cases hi : P.info? et with
    | none => simp [hi] at hz
    | some i => simp [hi] at hz; simp [zeroValue, typeInfo, hi, hz, Result.andThen]
  simp [Instr.lookup, run_underlying hm, MapKept.run_getObj_map hb, MapKept.run_checkKey hd hk, MapKept.run_findKey hd hf, Result.andThen, this]

/-! ### Blocks of one's own -/
/-- Block b holds these cells, none frozen. -/
def Blk (w : World) (b : Nat) (cs : Array Value) (t : TypeId) : Prop := w.heap[b]? = some (.cells cs t (0, 0))
theorem blk_alloc (w : World) (cs : Array Value) (t : TypeId) : Blk (w.alloc (.cells cs t)) w.heap.size cs t := heap_alloc_new w _
theorem Blk.cell {w : World} {b : Nat} {cs : Array Value} {t : TypeId} (h : Blk w b cs t) {a : Addr} {i : Nat} {v : Value} (ha : a = ⟨b, i, none⟩) (hv : cs[i]? = some v) : w.cell? a = some v := by
  subst ha; rw [cell_of_row w b i cs t (0, 0) h]; exact hv
theorem Blk.frozen {w : World} {b : Nat} {cs : Array Value} {t : TypeId} (h : Blk w b cs t) {a : Addr} {i : Nat} (ha : a = ⟨b, i, none⟩) : w.frozen? a = false := by
  subst ha; exact frozen_of_row w b i cs t h
theorem Blk.lt {w : World} {b : Nat} {cs : Array Value} {t : TypeId} (h : Blk w b cs t) : b < w.heap.size := (Array.getElem?_eq_some_iff.1 h).1
theorem Blk.ext {w w' : World} {b : Nat} {cs : Array Value} {t : TypeId} (h : Blk w b cs t) (e : Ext w w') : Blk w' b cs t := e.heap h
theorem heap_grown {w w' : World} {row : Option Nat} (g : w.grownBy w' row) {b : Nat} {o : Obj} (h : w.heap[b]? = some o) (hne : some b ≠ row) : w'.heap[b]? = some o := by
  rw [g.block b (Array.getElem?_eq_some_iff.1 h).1 hne]; exact h
theorem Blk.grown {w w' : World} {row : Option Nat} {b : Nat} {cs : Array Value} {t : TypeId} (h : Blk w b cs t) (g : w.grownBy w' row) (hne : some b ≠ row) : Blk w' b cs t := heap_grown g h hne
theorem do_st {w : World} {b : Nat} {cs : Array Value} {t : TypeId} (h : Blk w b cs t) {a : Addr} {i : Nat} {v : Value} {K : World → Prop} (ha : a = ⟨b, i, none⟩) (hi : i < cs.size)
    (k : ∀ w', Blk w' b (cs.setIfInBounds i v) t → w.grownBy w' (some b) → K w') : doSt a v w K := by
  subst ha
  refine ⟨⟨_, by rw [cell_of_row w b i cs t (0, 0) h]; exact Array.getElem?_eq_getElem hi⟩, frozen_of_row w b i cs t h, k _ (heap_setCell_same w b i cs t v h) ?_⟩
  exact ⟨rfl, rfl, rfl, by simp, fun k _ hk => heap_setCell_other w ⟨b, i, none⟩ k v (fun e => hk (by simp [e]))⟩
theorem put_heap {w : World} {l : Nat} {o o' : Obj} (h : w.heap[l]? = some o) : (w.putObj l o').heap[l]? = some o' := World.putObj_heap_same (Array.getElem?_eq_some_iff.1 h).1
theorem put_grown (w : World) (l : Nat) (o : Obj) : w.grownBy (w.putObj l o) (some l) :=
  ⟨rfl, rfl, rfl, by simp [World.putObj], fun k _ hk => World.putObj_heap_other (fun e => hk (by simp [e]))⟩
theorem Ext.put {a b : World} (h : Ext a b) {l : Nat} (hl : a.heap.size ≤ l) (o : Obj) : Ext a (b.putObj l o) := h.grown (put_grown b l o) (by rintro _ ⟨⟩; exact hl)
theorem Ext.st {a w w' : World} {b : Nat} (h : Ext a w) (g : w.grownBy w' (some b)) (hb : a.heap.size ≤ b) : Ext a w' := h.grown g (by rintro _ ⟨⟩; exact hb)
theorem ne_some {a b : Nat} (h : a ≠ b) : some a ≠ some b := fun e => h (Option.some.inj e)

/-! ### Calls -/
theorem do_call {P : Program} {k : Nat} {ars : Array Value} {w : World} {R : Ending → World → Prop} (he : ∀ ars w, (callFunc k ars).run P w = .ok (.enter k ars) w) (h : Calls P k ars w R) :
    doCall P (.func (.func k) #[] #[]) ars w R := ⟨callV_func he (by simpa using h)⟩
theorem do_callc {P : Program} {k : Nat} {cap ars bs : Array Value} {w : World} {R : Ending → World → Prop} (he : ∀ ars w, (callFunc k ars).run P w = .ok (.enter k ars) w) (hb : ars ++ cap = bs) (h : Calls P k bs w R) :
    doCall P (.func (.func k) #[] cap) ars w R := ⟨callV_func he (by subst hb; simpa using h)⟩
theorem ifB_t {b : Bool} {X Y : Prop} (hb : b = true) (h : X) : ifB b X Y := by subst hb; exact h
theorem ifB_f {b : Bool} {X Y : Prop} (hb : b = false) (h : Y) : ifB b X Y := by subst hb; exact h
theorem callE_c {P : Program} {f : FuncId} {first cap args bs : Array Value} {w : World} {R : Ending → World → Prop} (he : ∀ ars w, (callFunc f ars).run P w = .ok (.enter f ars) w) (hb : first ++ args ++ cap = bs)
    (h : Calls P f bs w R) : callE P (.func (.func f) first cap) args w R := callE_func he (by subst hb; exact h)
theorem rec_back {r : Loop} (h1 : r.state = .ready) (h2 : r.pending = none) : ({ ({ r with state := .busy } : Loop) with state := .ready, pending := none } : Loop) = r := by
  cases r; simp only at h1 h2; subst h1; subst h2; rfl
/-- What a range over a function finds, and leaves. -/
theorem rf_done {l : Nat} {N R : World → Prop} {Xs : List (Nat × (World → Prop))} {v : Value} {w : World} {r : Loop} (hr : w.heap[l]? = some (.loop r)) (hs : r.state ≠ .busy) (hp : r.pending = none)
    (h : ∀ o, N (w.putObj l o)) : rfPost l N R Xs (.returned v) w := ⟨r, hr, hs, by rw [hp]; exact h _⟩
theorem rf_ret {l : Nat} {N R : World → Prop} {Xs : List (Nat × (World → Prop))} {v : Value} {w : World} {r : Loop} (hr : w.heap[l]? = some (.loop r)) (hs : r.state ≠ .busy) (hp : r.pending = some .ret)
    (h : ∀ o, R (w.putObj l o)) : rfPost l N R Xs (.returned v) w := ⟨r, hr, hs, by rw [hp]; exact h _⟩
theorem rf_exit {l i : Nat} {N R X : World → Prop} {Xs : List (Nat × (World → Prop))} {v : Value} {w : World} {r : Loop} (hr : w.heap[l]? = some (.loop r)) (hs : r.state ≠ .busy) (hp : r.pending = some (.exit i))
    (hX : Xs.lookup i = some X) (h : ∀ o, X (w.putObj l o)) : rfPost l N R Xs (.returned v) w := ⟨r, hr, hs, by rw [hp]; simp only [jmpW, hX]; exact h _⟩
/-- A range over a function: its record, and the row of deferred calls. -/
theorem do_rf {P : Program} {gv : Value} {tm : Array Value} {ps : Array Tmp} {ars body : Code} {N R : World → Prop} {Xs : List (Nat × (World → Prop))} {w : World}
    (h : ∀ (fn : FuncId) (L : Loop) (W : World) (d : Nat), d = w.heap.size → L = mkLoop tm ps ars body fn d → L.state = .ready → L.pending = none → Ext w W → W.heap[d]? = some (.deferred (some [])) → W.heap[d + 1]? = some (.loop L) →
      callE P gv #[.func (.yield (d + 1)) #[] #[]] W (rfPost (d + 1) N R Xs)) : rfW P gv (mkLoop tm ps ars body) N R Xs w := by
  refine ⟨fun fn => h fn _ _ _ rfl rfl rfl rfl ((ext_alloc w (.deferred (some []))).trans (ext_alloc _ _)) ((ext_alloc _ _).heap (heap_alloc_new w _)) ?_⟩
  have := heap_alloc_new (w.alloc (.deferred (some []))) (.loop (mkLoop tm ps ars body fn w.heap.size))
  simpa using this
/-- What a function that is ranged over asks of yield: from the state before an element, to that behind it, or to a stop. -/
def YieldsTo (P : Program) (y : Value) (xs : List (Array Value)) (St : Nat → World → Prop) (Stop : World → Prop) : Prop :=
  ∀ (i : Nat) (x : Array Value), xs[i]? = some x → ∀ w, St i w → ∀ R : Ending → World → Prop, (∀ w', St (i + 1) w' → R (.returned (.bool true)) w') → (∀ w', Stop w' → R (.returned (.bool false)) w') → doCall P y x w R
theorem retS_ret {S : Value → World → Prop} {Kp : List PanicEntry → World → Prop} {v : Value} {w : World} (h : S v w) : retS S Kp (.returned v) w := h
end Go.Sh

namespace Go.Proofs.YtlddfgfmkapoiaaGreat
open Go Go.Sh
theorem follows_mixed : Tryz.prog.follows .mixedOrders = true := by kernel_rfl
set_option maxRecDepth 100000 in
/-- joinery/joineryref02.Is -/
def sh16 (o_1 : Int) (R : Ending → World → Prop) (w : World) : Prop :=
 let K4 : Bool → World → Prop := fun (x2 : Bool) (w3 : World) => 
 R (.returned (.bool x2)) w3
 ifB (decide ((o_1 : Int) ≥ 1)) (
 K4 (decide ((o_1 : Int) ≤ 7)) w) (
 R (.returned (.bool false)) w)
set_option maxRecDepth 100000 in
theorem sh16_ok (o_1 : Int) {R : Ending → World → Prop} {w : World} : sh16 o_1 R w → Calls Tryz.prog 16 #[.int .u8 o_1] w R :=
  calls_of_eq (ann := fun _ => []) (fn := Tryz.f16) (c := bodyOf Tryz.f16) (args := #[.int .u8 o_1]) 400 follows_mixed Tryz.func16 (by kernel_rfl) (by kernel_rfl)
set_option maxRecDepth 100000 in
/-- joinery/joineryref03.May -/
def sh17 (p_1 : Int) (R : Ending → World → Prop) (w : World) : Prop :=
 let K4 : Bool → World → Prop := fun (x2 : Bool) (w3 : World) => 
 R (.returned (.bool x2)) w3
 ifB ((p_1 : Int) == 1) (
 R (.returned (.bool true)) w) (
 ifB ((p_1 : Int) == 2) (
 R (.returned (.bool true)) w) (
 K4 ((p_1 : Int) == 3) w))
set_option maxRecDepth 100000 in
theorem sh17_ok (p_1 : Int) {R : Ending → World → Prop} {w : World} : sh17 p_1 R w → Calls Tryz.prog 17 #[.int .u8 p_1] w R :=
  calls_of_eq (ann := fun _ => []) (fn := Tryz.f17) (c := bodyOf Tryz.f17) (args := #[.int .u8 p_1]) 400 follows_mixed Tryz.func17 (by kernel_rfl) (by kernel_rfl)
set_option maxRecDepth 100000 in
/-- joinery/build.Of -/
def sh23 (s_1 : Option Addr) (o_2 : Int) (p_3 : Int) (d_4 : Option Addr) (l_p5 : Option Addr) (l_n6 : Nat) (l_c7 : Nat) (R : Ending → World → Prop) (w : World) : Prop :=
 doCall Tryz.prog (.func (.func 95) #[] #[]) #[.int .u8 o_2, .int .u8 p_3, .slice l_p5 l_n6 l_c7] w (retS (fun v12 w13 => ∃ (xp8 : Option Addr), ∃ (xn9 : Nat), ∃ (xc10 : Nat), ∃ (x11 : Int), v12 = (.tuple #[.slice xp8 xn9 xc10, .int .i64 x11] : Value) ∧ (
 ifB ((x11 : Int) != 0) (
 R (.returned (.tuple #[.pointer none, .int .i64 x11])) w13) (
 doCall Tryz.prog (.func (.func 32) #[] #[]) #[.pointer s_1, .int .u8 o_2, .pointer d_4, .slice xp8 xn9 xc10] w13 (retS (fun v16 w17 => ∃ (x14 : Option Addr), ∃ (x15 : Int), v16 = (.tuple #[.pointer x14, .int .i64 x15] : Value) ∧ (
 R (.returned (.tuple #[.pointer x14, .int .i64 x15])) w17)) (fun ch w => Kfn R ch [] w))))) (fun ch w => Kfn R ch [] w))
set_option maxRecDepth 100000 in
theorem sh23_ok (s_1 : Option Addr) (o_2 : Int) (p_3 : Int) (d_4 : Option Addr) (l_p5 : Option Addr) (l_n6 : Nat) (l_c7 : Nat) {R : Ending → World → Prop} {w : World} : sh23 s_1 o_2 p_3 d_4 l_p5 l_n6 l_c7 R w → Calls Tryz.prog 23 #[.pointer s_1, .int .u8 o_2, .int .u8 p_3, .pointer d_4, .slice l_p5 l_n6 l_c7] w R :=
  calls_of_eq (ann := fun _ => []) (fn := Tryz.f23) (c := bodyOf Tryz.f23) (args := #[.pointer s_1, .int .u8 o_2, .int .u8 p_3, .pointer d_4, .slice l_p5 l_n6 l_c7]) 400 follows_mixed Tryz.func23 (by kernel_rfl) (by kernel_rfl)
set_option maxRecDepth 100000 in
/-- joinery/joineryref04.May -/
def sh30 (o_1 : Int) (l_p2 : Option Addr) (l_n3 : Nat) (_l_c4 : Nat) (R : Ending → World → Prop) (w : World) : Prop :=
 ∃ (I5 : List Value → World → Prop) (μ6 : List Value → World → Nat), I5 [.int .i64 1] w ∧ (∀ (i_9 : Int), ∀ (_j7 : Nat → Value) (w8 : World), I5 [.int .i64 i_9] w8 → (
 ifB (decide ((i_9 : Int) < ((l_n3 : Nat) : Int))) (
 doDr w8 (fun w11 =>
 ∃ (C10 : World → Prop), C10 w11 ∧ (
 doIx l_p2 l_n3 2 (IntKind.wrap .i64 (i_9 - 1)) (fun a12 =>
 ∃ (x13 : Int), (∀ w, C10 w → World.cell? w (a12.add 0) = some (.int .i64 x13)) ∧ (
 doIx l_p2 l_n3 2 (i_9) (fun a14 =>
 ∃ (x15 : Int), (∀ w, C10 w → World.cell? w (a14.add 0) = some (.int .i64 x15)) ∧ (
 doCall Tryz.prog (.func (.func 100) #[] #[]) #[.int .u8 o_1, .int .i64 x13, .int .i64 x15] w11 (retS (fun v17 w18 => ∃ (x16 : Bool), v17 = (.bool x16 : Value) ∧ (
 ifB (!x16) (
 R (.returned (.bool false)) w18) (
 I5 [.int .i64 (IntKind.wrap .i64 (i_9 + 1))] w18 ∧ μ6 [.int .i64 (IntKind.wrap .i64 (i_9 + 1))] w18 < μ6 [.int .i64 i_9] w8))) (fun ch w => Kfn R ch [] w))))))))) (
 doCall Tryz.prog (.func (.func 16) #[] #[]) #[.int .u8 o_1] w8 (retS (fun v20 w21 => ∃ (x19 : Bool), v20 = (.bool x19 : Value) ∧ (
 R (.returned (.bool x19)) w21)) (fun ch w => Kfn R ch [] w)))))
set_option maxRecDepth 100000 in
theorem sh30_ok (o_1 : Int) (l_p2 : Option Addr) (l_n3 : Nat) (l_c4 : Nat) {R : Ending → World → Prop} {w : World} : sh30 o_1 l_p2 l_n3 l_c4 R w → Calls Tryz.prog 30 #[.int .u8 o_1, .slice l_p2 l_n3 l_c4] w R :=
  calls_of_eq (ann := fun i => if i = 0 then [(5, .int .i64 0)] else []) (fn := Tryz.f30) (c := bodyOf Tryz.f30) (args := #[.int .u8 o_1, .slice l_p2 l_n3 l_c4]) 400 follows_mixed Tryz.func30 (by kernel_rfl) (by kernel_rfl)
set_option maxRecDepth 100000 in
/-- joinery/build.Row -/
def sh32 (s_1 : Option Addr) (o_2 : Int) (d_3 : Option Addr) (l_p4 : Option Addr) (l_n5 : Nat) (l_c6 : Nat) (R : Ending → World → Prop) (w : World) : Prop :=
 let K13 : Bool → Value → Value → Value → Value → World → Prop := fun (x7 : Bool) (d8 : Value) (d9 : Value) (d10 : Value) (d11 : Value) (w12 : World) => 
 doAl (.cells #[.slice none 0 0] 40) w12 (fun b14 w15 =>
 doCall Tryz.prog (.func (.func 102) #[] #[]) #[.pointer s_1, .pointer d_3, .slice l_p4 l_n5 l_c6] w15 (retS (fun v19 w20 => ∃ (xf16 : Fn), ∃ (xx17 : Array Value), ∃ (xc18 : Array Value), v19 = (.func xf16 xx17 xc18 : Value) ∧ (
 rfW Tryz.prog (.func xf16 xx17 xc18) (mkLoop #[.pointer s_1, .int .u8 o_2, .pointer d_3, .slice l_p4 l_n5 l_c6, undef, undef, undef, undef, .pointer none, .int .i64 0, .pointer (some (blk b14)), undef, .pointer s_1, .bool ((s_1).isNone), .bool x7, d8, d9, d10, d11, .bool false, .pointer s_1, .pointer d_3, .slice l_p4 l_n5 l_c6, .func xf16 xx17 xc18, undef, undef, undef, undef, undef, undef, undef, undef] (rfOf Tryz.f32 0).1 (rfOf Tryz.f32 0).2.1 (rfOf Tryz.f32 0).2.2)
 (fun w21 =>
 ∃ (xp22 : Option Addr), ∃ (xn23 : Nat), ∃ (xc24 : Nat), World.cell? w21 (blk b14) = some (.slice xp22 xn23 xc24) ∧ (
 doCall Tryz.prog (.func (.func 93) #[] #[]) #[.pointer s_1, .slice xp22 xn23 xc24] w21 (retS (fun v26 w27 => ∃ (x25 : Option Addr), v26 = (.pointer x25 : Value) ∧ (
 w27.heap[w20.heap.size]? = some (.deferred (some [])) ∧ (
 let w28 : World := w27.putObj w20.heap.size (.deferred none)
 R (.returned (.tuple #[.pointer x25, .int .i64 0])) w28))) (fun ch w => Kfn R ch [{ target := .collected w20.heap.size, args := #[] }] w))))
 (fun w29 =>
 w29.heap[w20.heap.size]? = some (.deferred (some [])) ∧ (
 let w30 : World := w29.putObj w20.heap.size (.deferred none)
 R (.returned (.tuple #[.pointer none, .int .i64 0])) w30))
 [] w20)) (fun ch w => Kfn R ch [] w)))
 let _K38 : Bool → Value → Value → Value → Value → Bool → World → Prop := fun (x31 : Bool) (d32 : Value) (d33 : Value) (d34 : Value) (d35 : Value) (x36 : Bool) (w37 : World) => 
 ifB x36 (
 R (.returned (.tuple #[.pointer none, .int .i64 2])) w37) (
 K13 x31 (d32 : Value) (d33 : Value) (d34 : Value) (d35 : Value) w37)
 ifB ((s_1).isNone) (
 R (.returned (.tuple #[.pointer none, .int .i64 2])) w) (
 doCall Tryz.prog (.func (.func 101) #[] #[]) #[.int .u8 o_2, .slice l_p4 l_n5 l_c6] w (retS (fun v40 w41 => ∃ (x39 : Bool), v40 = (.bool x39 : Value) ∧ (
 ifB (!x39) (
 R (.returned (.tuple #[.pointer none, .int .i64 2])) w41) (
 K13 false (.int .u8 o_2 : Value) (.slice l_p4 l_n5 l_c6 : Value) (.bool x39 : Value) (.bool (!x39) : Value) w41))) (fun ch w => Kfn R ch [] w)))
set_option maxRecDepth 100000 in
theorem sh32_ok (s_1 : Option Addr) (o_2 : Int) (d_3 : Option Addr) (l_p4 : Option Addr) (l_n5 : Nat) (l_c6 : Nat) {R : Ending → World → Prop} {w : World} : sh32 s_1 o_2 d_3 l_p4 l_n5 l_c6 R w → Calls Tryz.prog 32 #[.pointer s_1, .int .u8 o_2, .pointer d_3, .slice l_p4 l_n5 l_c6] w R :=
  calls_of_eq (ann := fun _ => []) (fn := Tryz.f32) (c := bodyOf Tryz.f32) (args := #[.pointer s_1, .int .u8 o_2, .pointer d_3, .slice l_p4 l_n5 l_c6]) 400 follows_mixed Tryz.func32 (by kernel_rfl) (by kernel_rfl)
set_option maxRecDepth 100000 in
/-- joinery/build.Row, a round of loop 0 -/
def sh32_0 (all_1 : Addr) (y33 : Int) (y34 : Int) (y35 : Int) (l : Nat) (R : Ending → World → Prop) (w : World) : Prop :=
 doAl (.cells #[.int .i64 0, .int .i64 0, .int .u64 0] 114) w (fun b36 w37 =>
 doSt ((blk b36).add 0) (.int .i64 y33) w37 (fun w38 =>
 doSt ((blk b36).add 1) (.int .i64 y34) w38 (fun w39 =>
 doSt ((blk b36).add 2) (.int .u64 y35) w39 (fun w40 =>
 ∃ (r41 : Loop), w40.heap[l]? = some (.loop r41) ∧ r41.state = .ready ∧ (
 let w42 : World := w40.putObj l (.loop { r41 with state := .busy })
 ∃ (xp43 : Option Addr), ∃ (xn44 : Nat), ∃ (xc45 : Nat), World.cell? w42 all_1 = some (.slice xp43 xn44 xc45) ∧ (
 ∃ (x46 : Int), World.cell? w42 ((blk b36).add 0) = some (.int .i64 x46) ∧ (
 ∃ (x47 : Int), World.cell? w42 ((blk b36).add 1) = some (.int .i64 x47) ∧ (
 ∃ (x48 : Int), World.cell? w42 ((blk b36).add 2) = some (.int .u64 x48) ∧ (
 doAl (.cells #[.int .i64 x46, .int .i64 x47, .int .u64 x48] 114) w42 (fun b49 w50 =>
 doGo Tryz.prog (.builtin .append #[40, 40] 40 #[false, false]) #[.slice xp43 xn44 xc45, .slice (some (blk b49)) 1 1] w50 (retS (fun v54 w55 => ∃ (xp51 : Option Addr), ∃ (xn52 : Nat), ∃ (xc53 : Nat), v54 = (.slice xp51 xn52 xc53 : Value) ∧ (
 doSt (all_1.add 0) (.slice xp51 xn52 xc53) w55 (fun w56 =>
 ∃ (r57 : Loop), w56.heap[l]? = some (.loop r57) ∧ R (.returned (.bool true)) (w56.putObj l (.loop { r57 with state := .ready, pending := none }))))) (fun _ _ => False))))))))))))
set_option maxRecDepth 100000 in
theorem sh32_0_ok {dd2 : Value} {dd3 : Value} {dd4 : Value} {dd5 : Value} {dd6 : Value} {dd7 : Value} {dd8 : Value} {dd9 : Value} {dd10 : Value} {dd11 : Value} {dd12 : Value} {dd13 : Value} {dd14 : Value} {dd15 : Value} {dd16 : Value} {dd17 : Value} {dd18 : Value} {dd19 : Value} {dd20 : Value} {dd21 : Value} {dd22 : Value} {dd23 : Value} {dd24 : Value} {dd25 : Value} {dd26 : Value} {dd27 : Value} {dd28 : Value} {dd29 : Value} {dd30 : Value} {dd31 : Value} {dd32 : Value} {all_1 : Addr} {y33 : Int} {y34 : Int} {y35 : Int} {l fn D : Nat} {R : Ending → World → Prop} {w : World} (hl : w.heap[l]? = some (.loop (mkLoop #[dd2, dd3, dd4, dd5, dd6, dd7, dd8, dd9, dd10, dd11, .pointer (some all_1), dd12, dd13, dd14, dd15, dd16, dd17, dd18, dd19, dd20, dd21, dd22, dd23, dd24, dd25, dd26, dd27, dd28, dd29, dd30, dd31, dd32] (rfOf Tryz.f32 0).1 (rfOf Tryz.f32 0).2.1 (rfOf Tryz.f32 0).2.2 fn D))) : sh32_0 all_1 y33 y34 y35 l R w → doCall Tryz.prog (.func (.yield l) #[] #[]) #[.agg #[.int .i64 y33, .int .i64 y34, .int .u64 y35]] w R :=
  fun h => ⟨round_of_eq (ann := fun _ => []) 400 follows_mixed hl (by kernel_rfl) (by kernel_rfl) h⟩
end Go.Proofs.YtlddfgfmkapoiaaGreat

namespace Go.Proofs.YtlddfgfmkapoiaaGreat
open Go Go.Sh
set_option maxRecDepth 100000 in
/-- joinery/joinerylaw09.Make -/
def sh39 (l_p1 : Option Addr) (l_n2 : Nat) (l_c3 : Nat) (R : Ending → World → Prop) (w : World) : Prop :=
 ifB ((((l_n2 : Nat) : Int) : Int) == 0) (
 R (.returned (.pointer none)) w) (
 doCall Tryz.prog (.func (.func 109) #[] #[]) #[.slice l_p1 l_n2 l_c3] w (retS (fun v17 w18 => ∃ (x4 : Int), ∃ (x5 : Int), ∃ (x6 : Int), ∃ (x7 : Int), ∃ (x8 : Int), ∃ (x9 : Bool), ∃ (x10 : Bool), ∃ (xp11 : Option Addr), ∃ (xn12 : Nat), ∃ (xc13 : Nat), ∃ (xp14 : Option Addr), ∃ (xn15 : Nat), ∃ (xc16 : Nat), v17 = (.tuple #[.agg #[.int .i64 x4, .int .i64 x5, .int .i64 x6, .int .i64 x7, .int .u64 x8, .bool x9, .bool x10], .slice xp11 xn12 xc13, .slice xp14 xn15 xc16] : Value) ∧ (
 doAl (.cells #[.int .i64 0, .int .i64 0, .int .i64 0, .int .i64 0, .int .u64 0, .bool false, .bool false] 150) w18 (fun b19 w20 =>
 doSt ((blk b19).add 0) (.int .i64 x4) w20 (fun w21 =>
 doSt ((blk b19).add 1) (.int .i64 x5) w21 (fun w22 =>
 doSt ((blk b19).add 2) (.int .i64 x6) w22 (fun w23 =>
 doSt ((blk b19).add 3) (.int .i64 x7) w23 (fun w24 =>
 doSt ((blk b19).add 4) (.int .u64 x8) w24 (fun w25 =>
 doSt ((blk b19).add 5) (.bool x9) w25 (fun w26 =>
 doSt ((blk b19).add 6) (.bool x10) w26 (fun w27 =>
 doDr w27 (fun w29 =>
 ∃ (C28 : World → Prop), C28 w29 ∧ (
 ∃ (x30 : Int), (∀ w, C28 w → World.cell? w ((blk b19).add 0) = some (.int .i64 x30)) ∧ (
 ∃ (x31 : Int), (∀ w, C28 w → World.cell? w ((blk b19).add 1) = some (.int .i64 x31)) ∧ (
 ∃ (x32 : Int), (∀ w, C28 w → World.cell? w ((blk b19).add 4) = some (.int .u64 x32)) ∧ (
 doCall Tryz.prog (.func (.func 39) #[] #[]) #[.slice xp11 xn12 xc13] w29 (retS (fun v34 w35 => ∃ (x33 : Option Addr), v34 = (.pointer x33 : Value) ∧ (
 C28 w35 ∧ (
 doCall Tryz.prog (.func (.func 39) #[] #[]) #[.slice xp14 xn15 xc16] w35 (retS (fun v37 w38 => ∃ (x36 : Option Addr), v37 = (.pointer x36 : Value) ∧ (
 C28 w38 ∧ (
 doCall Tryz.prog (.func (.func 105) #[] #[]) #[.pointer x33, .int .i64 x30, .int .i64 x31, .int .u64 x32, .pointer x36] w38 (retS (fun v40 w41 => ∃ (x39 : Option Addr), v40 = (.pointer x39 : Value) ∧ (
 R (.returned (.pointer x39)) w41)) (fun ch w => Kfn R ch [] w))))) (fun ch w => Kfn R ch [] w))))) (fun ch w => Kfn R ch [] w))))))))))))))))) (fun ch w => Kfn R ch [] w)))
set_option maxRecDepth 100000 in
theorem sh39_ok (l_p1 : Option Addr) (l_n2 : Nat) (l_c3 : Nat) {R : Ending → World → Prop} {w : World} : sh39 l_p1 l_n2 l_c3 R w → Calls Tryz.prog 39 #[.slice l_p1 l_n2 l_c3] w R :=
  calls_of_eq (ann := fun _ => []) (fn := Tryz.f39) (c := bodyOf Tryz.f39) (args := #[.slice l_p1 l_n2 l_c3]) 400 follows_mixed Tryz.func39 (by kernel_rfl) (by kernel_rfl)
set_option maxRecDepth 100000 in
/-- joinery/joineryref09.Of -/
def sh47 (l_p1 : Option Addr) (l_n2 : Nat) (l_c3 : Nat) (R : Ending → World → Prop) (w : World) : Prop :=
 ifB ((((l_n2 : Nat) : Int) : Int) == 0) (
 R (.returned (.slice none 0 0)) w) (
 doCall Tryz.prog (.func (.func 109) #[] #[]) #[.slice l_p1 l_n2 l_c3] w (retS (fun v17 w18 => ∃ (x4 : Int), ∃ (x5 : Int), ∃ (x6 : Int), ∃ (x7 : Int), ∃ (x8 : Int), ∃ (x9 : Bool), ∃ (x10 : Bool), ∃ (xp11 : Option Addr), ∃ (xn12 : Nat), ∃ (xc13 : Nat), ∃ (xp14 : Option Addr), ∃ (xn15 : Nat), ∃ (xc16 : Nat), v17 = (.tuple #[.agg #[.int .i64 x4, .int .i64 x5, .int .i64 x6, .int .i64 x7, .int .u64 x8, .bool x9, .bool x10], .slice xp11 xn12 xc13, .slice xp14 xn15 xc16] : Value) ∧ (
 doAl (.cells #[.int .i64 0, .int .i64 0, .int .i64 0, .int .i64 0, .int .u64 0, .bool false, .bool false] 150) w18 (fun b19 w20 =>
 doSt ((blk b19).add 0) (.int .i64 x4) w20 (fun w21 =>
 doSt ((blk b19).add 1) (.int .i64 x5) w21 (fun w22 =>
 doSt ((blk b19).add 2) (.int .i64 x6) w22 (fun w23 =>
 doSt ((blk b19).add 3) (.int .i64 x7) w23 (fun w24 =>
 doSt ((blk b19).add 4) (.int .u64 x8) w24 (fun w25 =>
 doSt ((blk b19).add 5) (.bool x9) w25 (fun w26 =>
 doSt ((blk b19).add 6) (.bool x10) w26 (fun w27 =>
 doSt (((blk b19).add 3).add 0) (.int .i64 ((l_n2 : Nat) : Int)) w27 (fun w28 =>
 doCall Tryz.prog (.func (.func 115) #[] #[]) #[.slice l_p1 l_n2 l_c3] w28 (retS (fun v30 w31 => ∃ (x29 : Int), v30 = (.int .i64 x29 : Value) ∧ (
 doSt (((blk b19).add 2).add 0) (.int .i64 x29) w31 (fun w32 =>
 let K37 : (Option Addr) → Nat → Nat → World → Prop := fun (out_p33 : Option Addr) (out_n34 : Nat) (out_c35 : Nat) (w36 : World) => 
 doCall Tryz.prog (.func (.func 47) #[] #[]) #[.slice xp14 xn15 xc16] w36 (retS (fun v41 w42 => ∃ (xp38 : Option Addr), ∃ (xn39 : Nat), ∃ (xc40 : Nat), v41 = (.slice xp38 xn39 xc40 : Value) ∧ (
 doGo Tryz.prog (.builtin .append #[57, 57] 57 #[false, false]) #[.slice out_p33 out_n34 out_c35, .slice xp38 xn39 xc40] w42 (retS (fun v46 w47 => ∃ (xp43 : Option Addr), ∃ (xn44 : Nat), ∃ (xc45 : Nat), v46 = (.slice xp43 xn44 xc45 : Value) ∧ (
 R (.returned (.slice xp43 xn44 xc45)) w47)) (fun ch w => Kfn R ch [] w)))) (fun ch w => Kfn R ch [] w))
 doDr w32 (fun w49 =>
 ∃ (C48 : World → Prop), C48 w49 ∧ (
 ∃ (x50 : Int), (∀ w, C48 w → World.cell? w ((blk b19).add 0) = some (.int .i64 x50)) ∧ (
 ∃ (x51 : Int), (∀ w, C48 w → World.cell? w ((blk b19).add 1) = some (.int .i64 x51)) ∧ (
 ∃ (x52 : Int), (∀ w, C48 w → World.cell? w ((blk b19).add 2) = some (.int .i64 x52)) ∧ (
 ∃ (x53 : Int), (∀ w, C48 w → World.cell? w ((blk b19).add 3) = some (.int .i64 x53)) ∧ (
 ∃ (x54 : Int), (∀ w, C48 w → World.cell? w ((blk b19).add 4) = some (.int .u64 x54)) ∧ (
 ∃ (x55 : Bool), (∀ w, C48 w → World.cell? w ((blk b19).add 5) = some (.bool x55)) ∧ (
 ∃ (x56 : Bool), (∀ w, C48 w → World.cell? w ((blk b19).add 6) = some (.bool x56)) ∧ (
 (doAl (.cells #[.int .i64 x50, .int .i64 x51, .int .i64 x52, .int .i64 x53, .int .u64 x54, .bool x55, .bool x56] 150) w49 (fun b57 w58 =>
 doCall Tryz.prog (.func (.func 47) #[] #[]) #[.slice xp11 xn12 xc13] w58 (retS (fun v62 w63 => ∃ (xp59 : Option Addr), ∃ (xn60 : Nat), ∃ (xc61 : Nat), v62 = (.slice xp59 xn60 xc61 : Value) ∧ (
 C48 w63 ∧ (
 doGo Tryz.prog (.builtin .append #[57, 57] 57 #[false, false]) #[.slice (some (blk b57)) 1 1, .slice xp59 xn60 xc61] w63 (retS (fun v67 w68 => ∃ (xp64 : Option Addr), ∃ (xn65 : Nat), ∃ (xc66 : Nat), v67 = (.slice xp64 xn65 xc66 : Value) ∧ (
 C48 w68 ∧ (
 K37 xp64 xn65 xc66 w68))) (fun ch w => Kfn R ch [] w))))) (fun ch w => Kfn R ch [] w)))) ∧ (doCall Tryz.prog (.func (.func 47) #[] #[]) #[.slice xp11 xn12 xc13] w49 (retS (fun v72 w73 => ∃ (xp69 : Option Addr), ∃ (xn70 : Nat), ∃ (xc71 : Nat), v72 = (.slice xp69 xn70 xc71 : Value) ∧ (
 C48 w73 ∧ (
 doAl (.cells #[.int .i64 x50, .int .i64 x51, .int .i64 x52, .int .i64 x53, .int .u64 x54, .bool x55, .bool x56] 150) w73 (fun b74 w75 =>
 doGo Tryz.prog (.builtin .append #[57, 57] 57 #[false, false]) #[.slice (some (blk b74)) 1 1, .slice xp69 xn70 xc71] w75 (retS (fun v79 w80 => ∃ (xp76 : Option Addr), ∃ (xn77 : Nat), ∃ (xc78 : Nat), v79 = (.slice xp76 xn77 xc78 : Value) ∧ (
 C48 w80 ∧ (
 K37 xp76 xn77 xc78 w80))) (fun ch w => Kfn R ch [] w)))))) (fun ch w => Kfn R ch [] w))))))))))))))) (fun ch w => Kfn R ch [] w))))))))))))) (fun ch w => Kfn R ch [] w)))
set_option maxRecDepth 100000 in
theorem sh47_ok (l_p1 : Option Addr) (l_n2 : Nat) (l_c3 : Nat) {R : Ending → World → Prop} {w : World} : sh47 l_p1 l_n2 l_c3 R w → Calls Tryz.prog 47 #[.slice l_p1 l_n2 l_c3] w R :=
  calls_of_eq (ann := fun _ => []) (fn := Tryz.f47) (c := bodyOf Tryz.f47) (args := #[.slice l_p1 l_n2 l_c3]) 400 follows_mixed Tryz.func47 (by kernel_rfl) (by kernel_rfl)
set_option maxRecDepth 100000 in
/-- joinery/joinerylaw41.alive -/
def sh48  (R : Ending → World → Prop) (w : World) : Prop :=
 doAl (.cells #[.int .i64 1, .int .i64 10, .int .i64 2, .int .i64 20] 46) w (fun b1 w2 =>
 doCall Tryz.prog (.func (.func 49) #[] #[]) #[.int .u8 1, .int .u8 3, .slice (some (blk b1)) 2 2] w2 (retS (fun v5 w6 => ∃ (x3 : Option Addr), ∃ (x4 : Int), v5 = (.tuple #[.pointer x3, .int .i64 x4] : Value) ∧ (
 doAl (.cells #[.int .i64 3, .int .i64 30, .int .i64 2, .int .i64 21] 46) w6 (fun b7 w8 =>
 doCall Tryz.prog (.func (.func 49) #[] #[]) #[.int .u8 1, .int .u8 3, .slice (some (blk b7)) 2 2] w8 (retS (fun v11 w12 => ∃ (x9 : Option Addr), ∃ (x10 : Int), v11 = (.tuple #[.pointer x9, .int .i64 x10] : Value) ∧ (
 doCall Tryz.prog (.func (.func 58) #[] #[]) #[.int .u8 1, .pointer x3, .pointer x9] w12 (retS (fun v17 w18 => ∃ (xp13 : Option Addr), ∃ (xn14 : Nat), ∃ (xc15 : Nat), ∃ (x16 : Int), v17 = (.tuple #[.slice xp13 xn14 xc15, .int .i64 x16] : Value) ∧ (
 doCall Tryz.prog (.func (.func 49) #[] #[]) #[.int .u8 1, .int .u8 4, .slice none 0 0] w18 (retS (fun v21 w22 => ∃ (x19 : Option Addr), ∃ (x20 : Int), v21 = (.tuple #[.pointer x19, .int .i64 x20] : Value) ∧ (
 let K25 : Bool → World → Prop := fun (x23 : Bool) (w24 : World) => 
 R (.returned (.bool x23)) w24
 ifB ((x4 : Int) == 0) (
 ifB ((x10 : Int) == 0) (
 ifB ((x16 : Int) == 0) (
 ifB ((x20 : Int) == 2) (
 doAl (.cells #[.int .i64 1, .int .i64 2, .int .i64 3] 2) w22 (fun b26 w27 =>
 doCall Tryz.prog (.func (.func 61) #[] #[]) #[.slice xp13 xn14 xc15, .slice (some (blk b26)) 3 3] w27 (retS (fun v29 w30 => ∃ (x28 : Bool), v29 = (.bool x28 : Value) ∧ (
 ifB x28 (
 doCall Tryz.prog (.func (.func 55) #[] #[]) #[.pointer none] w30 (retS (fun v32 w33 => ∃ (x31 : Int), v32 = (.int .u64 x31 : Value) ∧ (
 ifB ((x31 : Int) == 0) (
 doCall Tryz.prog (.func (.func 51) #[] #[]) #[.int .u8 1, .pointer x3] w33 (retS (fun v35 w36 => ∃ (x34 : Bool), v35 = (.bool x34 : Value) ∧ (
 ifB x34 (
 doCall Tryz.prog (.func (.func 54) #[] #[]) #[.pointer x3, .pointer x9] w36 (retS (fun v38 w39 => ∃ (x37 : Bool), v38 = (.bool x37 : Value) ∧ (
 K25 (!x37) w39)) (fun ch w => Kfn R ch [] w))) (
 R (.returned (.bool false)) w36))) (fun ch w => Kfn R ch [] w))) (
 R (.returned (.bool false)) w33))) (fun ch w => Kfn R ch [] w))) (
 R (.returned (.bool false)) w30))) (fun ch w => Kfn R ch [] w)))) (
 R (.returned (.bool false)) w22)) (
 R (.returned (.bool false)) w22)) (
 R (.returned (.bool false)) w22)) (
 R (.returned (.bool false)) w22))) (fun ch w => Kfn R ch [] w)))) (fun ch w => Kfn R ch [] w)))) (fun ch w => Kfn R ch [] w))))) (fun ch w => Kfn R ch [] w)))
set_option maxRecDepth 100000 in
theorem sh48_ok  {R : Ending → World → Prop} {w : World} : sh48  R w → Calls Tryz.prog 48 #[] w R :=
  calls_of_eq (ann := fun _ => []) (fn := Tryz.f48) (c := bodyOf Tryz.f48) (args := #[]) 400 follows_mixed Tryz.func48 (by kernel_rfl) (by kernel_rfl)
set_option maxRecDepth 100000 in
/-- joinery/canon.Of -/
def sh49 (o_1 : Int) (p_2 : Int) (l_p3 : Option Addr) (l_n4 : Nat) (l_c5 : Nat) (R : Ending → World → Prop) (w : World) : Prop :=
 doCall Tryz.prog (.func (.func 92) #[] #[]) #[.int .u8 4] w (retS (fun v8 w9 => ∃ (x6 : Option Addr), ∃ (x7 : Int), v8 = (.tuple #[.pointer x6, .int .i64 x7] : Value) ∧ (
 ifB ((x7 : Int) != 0) (
 R (.returned (.tuple #[.pointer none, .int .i64 x7])) w9) (
 doCall Tryz.prog (.func (.func 23) #[] #[]) #[.pointer x6, .int .u8 o_1, .int .u8 p_2, .pointer none, .slice l_p3 l_n4 l_c5] w9 (retS (fun v12 w13 => ∃ (x10 : Option Addr), ∃ (x11 : Int), v12 = (.tuple #[.pointer x10, .int .i64 x11] : Value) ∧ (
 R (.returned (.tuple #[.pointer x10, .int .i64 x11])) w13)) (fun ch w => Kfn R ch [] w))))) (fun ch w => Kfn R ch [] w))
set_option maxRecDepth 100000 in
theorem sh49_ok (o_1 : Int) (p_2 : Int) (l_p3 : Option Addr) (l_n4 : Nat) (l_c5 : Nat) {R : Ending → World → Prop} {w : World} : sh49 o_1 p_2 l_p3 l_n4 l_c5 R w → Calls Tryz.prog 49 #[.int .u8 o_1, .int .u8 p_2, .slice l_p3 l_n4 l_c5] w R :=
  calls_of_eq (ann := fun _ => []) (fn := Tryz.f49) (c := bodyOf Tryz.f49) (args := #[.int .u8 o_1, .int .u8 p_2, .slice l_p3 l_n4 l_c5]) 400 follows_mixed Tryz.func49 (by kernel_rfl) (by kernel_rfl)
end Go.Proofs.YtlddfgfmkapoiaaGreat

