/-
  Small lemmas for reading the printed formulas: what a call leaves alone, slices, maps, appends. No claim of its own.
-/
/-
  copy, clear, append on rows of one's own, cell by cell. No claim of its own.
-/
/-
  The codes of keys, as numbers: plain laws of 64 bits. No claim of its own.
-/
/-
  Trees, and rows of beads: plain. No claim of its own.
-/
import Derived.Test.YtlddfgfmkapoiaaGreatZ02
import Derived.MapKept
import Derived.Laws.OwnMore
import Derived.Lib.AppendZerosOnto
import Derived.Lib.Overlaps
import Derived.Laws.CopyRow

namespace Go.Sh
open Go Go.RowKit

/-- All blocks that were there are as they were. -/
abbrev Ext (w w' : World) : Prop := Below w.heap.size w w'
theorem Ext.trans {a b c : World} (h : Ext a b) (k : Ext b c) : Ext a c := Below.trans h (Below.mono k h.size)
theorem ext_alloc (w : World) (o : Obj) : Ext w (w.alloc o) := Below.alloc (.refl _ _) (Nat.le_refl _) o
theorem ext_drew (w : World) : Ext w w.drew := Below.drew (.refl _ _)
theorem ext_refl (w : World) : Ext w w := .refl _ _
theorem Ext.alloc {a b : World} (h : Ext a b) (o : Obj) : Ext a (b.alloc o) := Below.alloc h h.size o
theorem Ext.drew {a b : World} (h : Ext a b) : Ext a b.drew := Below.drew h
theorem Ext.set {a b : World} (h : Ext a b) {p : Addr} (hp : a.heap.size ≤ p.block) (u : Value) : Ext a (b.setCell p u) := Below.setCell h hp u
theorem Ext.cell {a b : World} (h : Ext a b) {p : Addr} {v : Value} (hc : a.cell? p = some v) : b.cell? p = some v := by
  rw [Below.cell h (World.block_lt_of_cell? a p hc)]; exact hc
theorem Ext.heap {a b : World} (h : Ext a b) {k : Nat} {o : Obj} (hc : a.heap[k]? = some o) : b.heap[k]? = some o := by
  rw [h.block k (Array.getElem?_eq_some_iff.1 hc).1]; exact hc
theorem Ext.grownBy {a b : World} (h : Ext a b) : a.grownBy b none := ⟨h.os, h.tape, h.output, h.size, fun k hk _ => h.block k hk⟩
theorem Ext.grown {a w w' : World} {row : Option Nat} (h : Ext a w) (hg : w.grownBy w' row) (hr : ∀ k, row = some k → a.heap.size ≤ k) : Ext a w' := Below.grown h hg h.size hr
theorem Ext.row {a b : World} (h : Ext a b) {base e size n : Nat} {v : Value} {xs : List Value} (ho : a.ownsRow base e size v n xs) : b.ownsRow base e size v n xs :=
  ho.kept h.grownBy (by cases v.ownBlock <;> simp)

/-! ### Slices -/
/-- From that address on lie the values. -/
def Cs (w : World) (p : Option Addr) (vs : List Value) : Prop := ∀ i v, vs[i]? = some v → ∃ a, p = some a ∧ w.cell? (a.add i) = some v
theorem Cs.ext {w w' : World} {p : Option Addr} {vs : List Value} (h : Cs w p vs) (e : Ext w w') : Cs w' p vs := fun i v hv => by
  obtain ⟨a, ha, hc⟩ := h i v hv
  exact ⟨a, ha, e.cell hc⟩
theorem cs_nil (w : World) (p : Option Addr) : Cs w p [] := fun i v h => by simp at h
theorem add_add (a : Addr) (i j : Nat) : (a.add i).add j = a.add (i + j) := by
  simp only [Addr.add]
  by_cases hi : i = 0 <;> by_cases hj : j = 0 <;> simp_all [Nat.add_assoc]
theorem add_blk (b i : Nat) : (blk b).add i = ⟨b, i, none⟩ := by unfold Addr.add; split <;> simp_all
theorem add_zero' (a : Addr) : a.add 0 = a := by simp [Addr.add]
theorem add_block (a : Addr) (i : Nat) : (a.add i).block = a.block := by simp only [Addr.add]; split <;> rfl
theorem Cs.drop {w : World} {a : Addr} {vs : List Value} (h : Cs w (some a) vs) (k : Nat) : Cs w (some (a.add k)) (vs.drop k) := fun i v hv => by
  obtain ⟨b, hb, hc⟩ := h (k + i) v (by simpa using hv)
  cases hb
  exact ⟨_, rfl, by rw [add_add]; exact hc⟩
theorem Cs.take {w : World} {p : Option Addr} {vs : List Value} (h : Cs w p vs) (k : Nat) : Cs w p (vs.take k) := fun i v hv => by
  rw [List.getElem?_take] at hv
  split at hv
  · exact h i v hv
  · cases hv
theorem Cs.of_row {w : World} {base e size n c : Nat} {p : Option Addr} {xs : List Value} (h : w.ownsRow base e size (.slice p n c) n xs) : Cs w p xs := fun i v hv => by
  rcases h.2 with ⟨hv', hn⟩ | ⟨g, cap, cur, hv', _⟩
  · subst hn; cases List.eq_nil_of_length_eq_zero (by simpa using h.1); simp at hv
  · cases hv'
    exact ⟨_, rfl, h.cells rfl i v hv⟩
theorem row_slice {w : World} {base e size n : Nat} {v : Value} {xs : List Value} (h : w.ownsRow base e size v n xs) : ∃ p c, v = .slice p n c := by
  rcases h.2 with ⟨hv', hn⟩ | ⟨g, cap, cur, hv', _⟩
  · exact ⟨_, _, by rw [hv', hn]⟩
  · exact ⟨_, _, hv'⟩
/-- The numbers of a slice of int64. -/
def ints (l : List Int) : List Value := l.map (.int .i64)
@[simp] theorem ints_length (l : List Int) : (ints l).length = l.length := by simp [ints]
@[simp] theorem ints_append (l r : List Int) : ints (l ++ r) = ints l ++ ints r := by simp [ints]
@[simp] theorem ints_drop (l : List Int) (k : Nat) : (ints l).drop k = ints (l.drop k) := by simp [ints]
@[simp] theorem ints_take (l : List Int) (k : Nat) : (ints l).take k = ints (l.take k) := by simp [ints]
@[simp] theorem ints_set (l : List Int) (k : Nat) (v : Int) : (ints l).set k (.int .i64 v) = ints (l.set k v) := by simp [ints, List.map_set]
theorem Cs.int {w : World} {p : Option Addr} {l : List Int} (h : Cs w p (ints l)) {i : Nat} (hi : i < l.length) : ∃ a, p = some a ∧ w.cell? (a.add i) = some (.int .i64 l[i]) :=
  h i _ (by simp [ints, hi])
/-- An element of a slice of numbers. -/
theorem ix_int {w : World} {p : Option Addr} {n : Nat} {i : Int} {l : List Int} {K : Addr → Prop} (h : Cs w p (ints l)) (hn : l.length = n) (h0 : 0 ≤ i) (h1 : i < n)
    (k : ∀ a, p = some a → w.cell? (a.add (i.toNat * 1)) = some (.int .i64 (l.getD i.toNat 0)) → K (a.add (i.toNat * 1))) : doIx p n 1 i K := by
  have hi : i.toNat < l.length := by omega
  obtain ⟨a, ha, hc⟩ := h.int hi
  refine ⟨a, ha, h0, h1, k a ha ?_⟩
  rw [Nat.mul_one, hc, List.getD_eq_getElem?_getD, List.getElem?_eq_getElem hi]; rfl

theorem row_cap {w : World} {base e size n c : Nat} {p : Option Addr} {xs : List Value} (h : w.ownsRow base e size (.slice p n c) n xs) : n ≤ c := by
  rcases h.2 with ⟨hv', hn⟩ | ⟨g, cap, cur, hv', _, _, hc, _⟩
  · omega
  · cases hv'; exact hc
theorem row_mono {w : World} {base base' e size n : Nat} {v : Value} {xs : List Value} (h : w.ownsRow base e size v n xs) (hb : base' ≤ base) : w.ownsRow base' e size v n xs :=
  ⟨h.1, h.2.imp id fun ⟨g, cap, cur, h1, h2, h3⟩ => ⟨g, cap, cur, h1, Nat.le_trans hb h2, h3⟩⟩
/-- The cells of a row of pairs of int64. -/
def prs (l : List (Int × Int)) : List Value := l.flatMap fun x => [.int .i64 x.1, .int .i64 x.2]
@[simp] theorem prs_nil : prs [] = [] := rfl
@[simp] theorem prs_cons (x : Int × Int) (l : List (Int × Int)) : prs (x :: l) = .int .i64 x.1 :: .int .i64 x.2 :: prs l := rfl
@[simp] theorem prs_length (l : List (Int × Int)) : (prs l).length = l.length * 2 := by
  induction l with
  | nil => rfl
  | cons x xs ih => simp [ih]; omega
@[simp] theorem prs_append (l r : List (Int × Int)) : prs (l ++ r) = prs l ++ prs r := by simp [prs]
theorem prs_get {l : List (Int × Int)} {i : Nat} (hi : i < l.length) : (prs l)[i * 2]? = some (.int .i64 l[i].1) ∧ (prs l)[i * 2 + 1]? = some (.int .i64 l[i].2) := by
  induction l generalizing i with
  | nil => simp at hi
  | cons x xs ih =>
    cases i with
    | zero => exact ⟨rfl, rfl⟩
    | succ i =>
      have := ih (i := i) (by simpa using hi)
      rw [show (i + 1) * 2 = i * 2 + 1 + 1 by omega]
      simpa using this
theorem prs_one {l : List (Int × Int)} : ∀ u ∈ prs l, u.oneCell' = true := fun u hu => by
  simp only [prs, List.mem_flatMap] at hu
  obtain ⟨x, _, hx⟩ := hu
  simp at hx
  rcases hx with rfl | rfl <;> rfl
/-- An element of a slice of pairs. -/
theorem ix_pr {w : World} {p : Option Addr} {n : Nat} {i : Int} {l : List (Int × Int)} {K : Addr → Prop} (h : Cs w p (prs l)) (hn : l.length = n) {k : Nat} (hk : i = (k : Int)) (h1 : k < n)
    (c : ∀ a : Addr, w.cell? (a.add 0) = some (.int .i64 (l[k]'(by omega)).1) → w.cell? (a.add 1) = some (.int .i64 (l[k]'(by omega)).2) → (∃ b, p = some b ∧ a = b.add (k * 2)) → K a) : doIx p n 2 i K := by
  subst hk
  have hg := prs_get (l := l) (i := k) (by omega)
  obtain ⟨a, ha, hc0⟩ := h _ _ hg.1
  obtain ⟨a', ha', hc1⟩ := h _ _ hg.2
  rw [ha] at ha'
  cases ha'
  refine ⟨a, ha, by omega, by omega, ?_⟩
  rw [Int.toNat_natCast]
  exact c _ (by rw [add_zero']; exact hc0) (by rw [add_add]; exact hc1) ⟨a, ha, rfl⟩
/-- An element of a slice of pairs, the same in all worlds of a class. -/
theorem ix_prC {C : World → Prop} {p : Option Addr} {n : Nat} {i : Int} {l : List (Int × Int)} {K : Addr → Prop} (h : ∀ w, C w → Cs w p (prs l)) {w0 : World} (hw : C w0) (hn : l.length = n) {k : Nat} (hk : i = (k : Int)) (h1 : k < n)
    (c : ∀ a : Addr, (∀ w, C w → w.cell? (a.add 0) = some (.int .i64 (l[k]'(by omega)).1)) → (∀ w, C w → w.cell? (a.add 1) = some (.int .i64 (l[k]'(by omega)).2)) → K a) : doIx p n 2 i K := by
  subst hk
  have hg := prs_get (l := l) (i := k) (by omega)
  obtain ⟨a, ha, _⟩ := h w0 hw _ _ hg.1
  refine ⟨a, ha, by omega, by omega, ?_⟩
  rw [Int.toNat_natCast]
  refine c _ (fun w hC => ?_) (fun w hC => ?_)
  · obtain ⟨a', ha', hc⟩ := h w hC _ _ hg.1
    rw [ha] at ha'; cases ha'
    rw [add_zero']; exact hc
  · obtain ⟨a', ha', hc⟩ := h w hC _ _ hg.2
    rw [ha] at ha'; cases ha'
    rw [add_add]; exact hc
/-! ### Numbers -/
theorem wrap_of {x : Int} (h1 : -9223372036854775808 ≤ x) (h2 : x < 9223372036854775808) : IntKind.wrap .i64 x = x := by
  simp only [IntKind.wrap, IntKind.signed, IntKind.bits]
  simp
  omega
theorem wrap_succ {k n : Nat} (h : k < n) (hn : n ≤ 9223372036854775807) : IntKind.wrap .i64 ((k : Int) + 1) = ((k + 1 : Nat) : Int) := by
  rw [wrap_of (by omega) (by omega)]; simp

/-! ### Own rows, append -/
/-- The type of a slice and its elements. -/
structure ElT (P : Program) (t e : TypeId) (z : Value) (size bytes : Nat) : Prop where
  ht : P.underlying t = some (.slice e)
  hi : ∃ i, P.info? e = some i ∧ i.zero = some z ∧ i.size = size ∧ i.bytes = bytes
  hz : z.cells.size = size
  hs : 0 < size
theorem goV_append {P : Program} {t : TypeId} {bs : Array Bool} {v x v' : Value} {w w' : World} {R : Ending → World → Prop}
    (hr : (Builtin.append_ #[t, t] t #[v, x]).run P w = .ok v' w') (h : R (.returned v') w') : doGo P (.builtin .append #[t, t] t bs) #[v, x] w R := by
  refine ⟨?_⟩
  unfold goV
  simp only [invoke, builtin, Sem.run_bind, hr, Result.andThen_ok, Sem.run_pure]
  exact h
/-- append to a row of one's own -/
theorem do_append {P : Program} {t e : TypeId} {z : Value} {size bytes : Nat} (E : ElT P t e z size bytes) {base : Nat} {v : Value} {n : Nat} {xs : List Value} {w : World}
    (hown : w.ownsRow base e size v n xs) {ad : Addr} {m c : Nat} {news : List Value} (hnews : Cs w (some ad) news) (hl : news.length = m * size) (h1 : ∀ u ∈ news, u.oneCell' = true)
    (h63 : n + m ≤ maxLen) (hbytes : (n + m) * bytes ≤ 140737488355328) (hbase : base ≤ w.heap.size) {bs : Array Bool} {R : Ending → World → Prop}
    (h : ∀ p c w', w'.ownsRow base e size (.slice p (n + m) c) (n + m) (xs ++ news) → w.grownBy w' v.ownBlock → R (.returned (.slice p (n + m) c)) w') :
    doGo P (.builtin .append #[t, t] t bs) #[v, .slice (some ad) m c] w R := by
  obtain ⟨i, hi, hz, hsz, hby⟩ := E.hi
  obtain ⟨v', w', hr, h2, h3, _⟩ := run_append_own (P := P) w base t t e i z size bytes E.ht hi hz hsz hby E.hz E.hs v n xs hown ad m c news hl
    (fun j u hu => by obtain ⟨a, ha, hc⟩ := hnews j u hu; cases ha; exact hc) h1 h63 hbytes hbase
  obtain ⟨p, c', rfl⟩ := row_slice h2
  exact goV_append hr (h p c' w' h2 h3)
/-- a new block of cells -/
theorem cs_alloc (w : World) (cs : Array Value) (t : TypeId) : Cs (w.alloc (.cells cs t)) (some (blk w.heap.size)) cs.toList := fun i v hv => by
  refine ⟨_, rfl, ?_⟩
  rw [add_blk, cell_of_row _ w.heap.size i cs t (0, 0) (heap_alloc_new w _)]
  simpa using hv
theorem cell_alloc0 (w : World) (v : Value) (t : TypeId) : (w.alloc (.cells #[v] t)).cell? (blk w.heap.size) = some v := by
  obtain ⟨a, ha, hc⟩ := cs_alloc w #[v] t 0 v rfl
  cases ha
  rw [add_zero'] at hc
  exact hc
theorem frozen_alloc (w : World) (cs : Array Value) (t : TypeId) (i : Nat) : (w.alloc (.cells cs t)).frozen? ⟨w.heap.size, i, none⟩ = false :=
  frozen_of_row _ w.heap.size i cs t (heap_alloc_new w _)

/-! ### Maps with plain keys -/
theorem do_mu_new {P : Program} {t kt et : TypeId} {d : TypeDesc} (hm : P.underlying t = some (.map kt et)) (hd : P.underlying kt = some d) {b clock : Nat} {es : Array MapEntry} {k x : Value} {w : World}
    (hb : w.heap[b]? = some (.map es clock)) (hk : MapKept.IsKey d k) (hf : Instr.findNow d k es.toList 0 = some none) {K : World → Prop}
    (h : ∀ w', w'.heap[b]? = some (.map (es.push { key := k, val := x, born := clock }) (clock + 1)) → w.grownBy w' (some b) → K w') :
    doMu P t (.map (some b)) k x w K := by
  refine ⟨_, ?_, h { w with heap := w.heap.setIfInBounds b (.map (es.push { key := k, val := x, born := clock }) (clock + 1)) } (MapKept.heap_set hb).1
    ⟨rfl, rfl, rfl, by simp, fun k _ hk => (MapKept.heap_set hb).2 k (fun e => hk (by simp [e]))⟩⟩
  simp [Instr.mapUpdate, run_underlying hm, MapKept.run_getObj_map hb, MapKept.run_checkKey hd hk, MapKept.run_findKey hd hf, MapKept.run_setObj_map _ hb, Result.andThen]
theorem do_lk_hit {P : Program} {t kt et : TypeId} {d : TypeDesc} (hm : P.underlying t = some (.map kt et)) (hd : P.underlying kt = some d) {b clock : Nat} {es : Array MapEntry} {k : Value} {w : World}
    (hb : w.heap[b]? = some (.map es clock)) (hk : MapKept.IsKey d k) {i : Nat} {v : Value} (hf : Instr.findNow d k es.toList 0 = some (some (i, v))) {S : Value → Prop}
    (h : S (.tuple #[v, .bool true])) : doLk P t (.map (some b)) k true w S := by
  refine ⟨_, ?_, h⟩
  simp [Instr.lookup, run_underlying hm, MapKept.run_getObj_map hb, MapKept.run_checkKey hd hk, MapKept.run_findKey hd hf, Result.andThen]
theorem do_lk_miss {P : Program} {t kt et : TypeId} {d : TypeDesc} (hm : P.underlying t = some (.map kt et)) (hd : P.underlying kt = some d) {b clock : Nat} {es : Array MapEntry} {k z : Value} {w : World}
    (hb : w.heap[b]? = some (.map es clock)) (hk : MapKept.IsKey d k) (hf : Instr.findNow d k es.toList 0 = some none) (hz : (P.info? et).bind (·.zero) = some z) {S : Value → Prop}
    (h : S (.tuple #[z, .bool false])) : doLk P t (.map (some b)) k true w S := by
  refine ⟨_, ?_, h⟩
  have : (zeroValue et).run P w = .ok z w := by
    cases hi : P.info? et with
    | none => simp [hi] at hz
    | some i => simp [hi] at hz; simp [zeroValue, typeInfo, hi, hz, Result.andThen]
  simp [Instr.lookup, run_underlying hm, MapKept.run_getObj_map hb, MapKept.run_checkKey hd hk, MapKept.run_findKey hd hf, Result.andThen, this]

theorem do_lk1_hit {P : Program} {t kt et : TypeId} {d : TypeDesc} (hm : P.underlying t = some (.map kt et)) (hd : P.underlying kt = some d) {b clock : Nat} {es : Array MapEntry} {k : Value} {w : World}
    (hb : w.heap[b]? = some (.map es clock)) (hk : MapKept.IsKey d k) {i : Nat} {v : Value} (hf : Instr.findNow d k es.toList 0 = some (some (i, v))) {S : Value → Prop}
    (h : S v) : doLk P t (.map (some b)) k false w S := by
  refine ⟨_, ?_, h⟩
  simp [Instr.lookup, run_underlying hm, MapKept.run_getObj_map hb, MapKept.run_checkKey hd hk, MapKept.run_findKey hd hf, Result.andThen]
theorem do_lk1_miss {P : Program} {t kt et : TypeId} {d : TypeDesc} (hm : P.underlying t = some (.map kt et)) (hd : P.underlying kt = some d) {b clock : Nat} {es : Array MapEntry} {k z : Value} {w : World}
    (hb : w.heap[b]? = some (.map es clock)) (hk : MapKept.IsKey d k) (hf : Instr.findNow d k es.toList 0 = some none) (hz : (P.info? et).bind (·.zero) = some z) {S : Value → Prop}
    (h : S z) : doLk P t (.map (some b)) k false w S := by
  refine ⟨_, ?_, h⟩
  have : (zeroValue et).run P w = .ok z w := by
    cases hi : P.info? et with
    | none => simp [hi] at hz
    | some i => simp [hi] at hz; simp [zeroValue, typeInfo, hi, hz, Result.andThen]
  simp [Instr.lookup, run_underlying hm, MapKept.run_getObj_map hb, MapKept.run_checkKey hd hk, MapKept.run_findKey hd hf, Result.andThen, this]

/-! ### Blocks of one's own -/
/-- Block b holds these cells, none frozen. -/
def Blk (w : World) (b : Nat) (cs : Array Value) (t : TypeId) : Prop := w.heap[b]? = some (.cells cs t (0, 0))
theorem blk_alloc (w : World) (cs : Array Value) (t : TypeId) : Blk (w.alloc (.cells cs t)) w.heap.size cs t := heap_alloc_new w _
theorem Blk.cell {w : World} {b : Nat} {cs : Array Value} {t : TypeId} (h : Blk w b cs t) {a : Addr} {i : Nat} {v : Value} (ha : a = ⟨b, i, none⟩) (hv : cs[i]? = some v) : w.cell? a = some v := by
  subst ha; rw [cell_of_row w b i cs t (0, 0) h]; exact hv
theorem Blk.frozen {w : World} {b : Nat} {cs : Array Value} {t : TypeId} (h : Blk w b cs t) {a : Addr} {i : Nat} (ha : a = ⟨b, i, none⟩) : w.frozen? a = false := by
  subst ha; exact frozen_of_row w b i cs t h
theorem Blk.lt {w : World} {b : Nat} {cs : Array Value} {t : TypeId} (h : Blk w b cs t) : b < w.heap.size := (Array.getElem?_eq_some_iff.1 h).1
theorem Blk.ext {w w' : World} {b : Nat} {cs : Array Value} {t : TypeId} (h : Blk w b cs t) (e : Ext w w') : Blk w' b cs t := e.heap h
theorem heap_grown {w w' : World} {row : Option Nat} (g : w.grownBy w' row) {b : Nat} {o : Obj} (h : w.heap[b]? = some o) (hne : some b ≠ row) : w'.heap[b]? = some o := by
  rw [g.block b (Array.getElem?_eq_some_iff.1 h).1 hne]; exact h
theorem Blk.grown {w w' : World} {row : Option Nat} {b : Nat} {cs : Array Value} {t : TypeId} (h : Blk w b cs t) (g : w.grownBy w' row) (hne : some b ≠ row) : Blk w' b cs t := heap_grown g h hne
theorem do_st {w : World} {b : Nat} {cs : Array Value} {t : TypeId} (h : Blk w b cs t) {a : Addr} {i : Nat} {v : Value} {K : World → Prop} (ha : a = ⟨b, i, none⟩) (hi : i < cs.size)
    (k : ∀ w', Blk w' b (cs.setIfInBounds i v) t → w.grownBy w' (some b) → K w') : doSt a v w K := by
  subst ha
  refine ⟨⟨_, by rw [cell_of_row w b i cs t (0, 0) h]; exact Array.getElem?_eq_getElem hi⟩, frozen_of_row w b i cs t h, k _ (heap_setCell_same w b i cs t v h) ?_⟩
  exact ⟨rfl, rfl, rfl, by simp, fun k _ hk => heap_setCell_other w ⟨b, i, none⟩ k v (fun e => hk (by simp [e]))⟩
theorem put_heap {w : World} {l : Nat} {o o' : Obj} (h : w.heap[l]? = some o) : (w.putObj l o').heap[l]? = some o' := World.putObj_heap_same (Array.getElem?_eq_some_iff.1 h).1
theorem put_grown (w : World) (l : Nat) (o : Obj) : w.grownBy (w.putObj l o) (some l) :=
  ⟨rfl, rfl, rfl, by simp [World.putObj], fun k _ hk => World.putObj_heap_other (fun e => hk (by simp [e]))⟩
theorem Ext.put {a b : World} (h : Ext a b) {l : Nat} (hl : a.heap.size ≤ l) (o : Obj) : Ext a (b.putObj l o) := h.grown (put_grown b l o) (by rintro _ ⟨⟩; exact hl)
theorem Ext.st {a w w' : World} {b : Nat} (h : Ext a w) (g : w.grownBy w' (some b)) (hb : a.heap.size ≤ b) : Ext a w' := h.grown g (by rintro _ ⟨⟩; exact hb)
theorem ne_some {a b : Nat} (h : a ≠ b) : some a ≠ some b := fun e => h (Option.some.inj e)

/-! ### Calls -/
theorem do_call {P : Program} {k : Nat} {as : Array Value} {w : World} {R : Ending → World → Prop} (he : ∀ as w, (callFunc k as).run P w = .ok (.enter k as) w) (h : Calls P k as w R) :
    doCall P (.func (.func k) #[] #[]) as w R := ⟨callV_func he (by simpa using h)⟩
theorem do_callc {P : Program} {k : Nat} {cap as bs : Array Value} {w : World} {R : Ending → World → Prop} (he : ∀ as w, (callFunc k as).run P w = .ok (.enter k as) w) (hb : as ++ cap = bs) (h : Calls P k bs w R) :
    doCall P (.func (.func k) #[] cap) as w R := ⟨callV_func he (by subst hb; simpa using h)⟩
theorem ifB_t {b : Bool} {X Y : Prop} (hb : b = true) (h : X) : ifB b X Y := by subst hb; exact h
theorem ifB_f {b : Bool} {X Y : Prop} (hb : b = false) (h : Y) : ifB b X Y := by subst hb; exact h
theorem callE_c {P : Program} {f : FuncId} {first cap args bs : Array Value} {w : World} {R : Ending → World → Prop} (he : ∀ as w, (callFunc f as).run P w = .ok (.enter f as) w) (hb : first ++ args ++ cap = bs)
    (h : Calls P f bs w R) : callE P (.func (.func f) first cap) args w R := callE_func he (by subst hb; exact h)
theorem rec_back {r : Loop} (h1 : r.state = .ready) (h2 : r.pending = none) : ({ ({ r with state := .busy } : Loop) with state := .ready, pending := none } : Loop) = r := by
  cases r; simp only at h1 h2; subst h1; subst h2; rfl
/-- What a range over a function finds, and leaves. -/
theorem rf_done {l : Nat} {N R : World → Prop} {Xs : List (Nat × (World → Prop))} {v : Value} {w : World} {r : Loop} (hr : w.heap[l]? = some (.loop r)) (hs : r.state ≠ .busy) (hp : r.pending = none)
    (h : ∀ o, N (w.putObj l o)) : rfPost l N R Xs (.returned v) w := ⟨r, hr, hs, by rw [hp]; exact h _⟩
theorem rf_ret {l : Nat} {N R : World → Prop} {Xs : List (Nat × (World → Prop))} {v : Value} {w : World} {r : Loop} (hr : w.heap[l]? = some (.loop r)) (hs : r.state ≠ .busy) (hp : r.pending = some .ret)
    (h : ∀ o, R (w.putObj l o)) : rfPost l N R Xs (.returned v) w := ⟨r, hr, hs, by rw [hp]; exact h _⟩
/-- A range over a function: its record, and the row of deferred calls. -/
theorem do_rf {P : Program} {gv : Value} {tm : Array Value} {ps : Array Tmp} {as body : Code} {N R : World → Prop} {Xs : List (Nat × (World → Prop))} {w : World}
    (h : ∀ (fn : FuncId) (L : Loop) (W : World) (d : Nat), d = w.heap.size → L = mkLoop tm ps as body fn d → L.state = .ready → L.pending = none → Ext w W → W.heap[d]? = some (.deferred (some [])) → W.heap[d + 1]? = some (.loop L) →
      callE P gv #[.func (.yield (d + 1)) #[] #[]] W (rfPost (d + 1) N R Xs)) : rfW P gv (mkLoop tm ps as body) N R Xs w := by
  refine ⟨fun fn => h fn _ _ _ rfl rfl rfl rfl ((ext_alloc w (.deferred (some []))).trans (ext_alloc _ _)) ((ext_alloc _ _).heap (heap_alloc_new w _)) ?_⟩
  have := heap_alloc_new (w.alloc (.deferred (some []))) (.loop (mkLoop tm ps as body fn w.heap.size))
  simpa using this
/-- What a function that is ranged over asks of yield: from the state before an element, to that behind it, or to a stop. -/
def YieldsTo (P : Program) (y : Value) (xs : List (Array Value)) (St : Nat → World → Prop) (Stop : World → Prop) : Prop :=
  ∀ (i : Nat) (x : Array Value), xs[i]? = some x → ∀ w, St i w → ∀ R : Ending → World → Prop, (∀ w', St (i + 1) w' → R (.returned (.bool true)) w') → (∀ w', Stop w' → R (.returned (.bool false)) w') → doCall P y x w R
theorem retS_ret {S : Value → World → Prop} {Kp : List PanicEntry → World → Prop} {v : Value} {w : World} (h : S v w) : retS S Kp (.returned v) w := h
end Go.Sh

namespace Go.Sh
open Go Go.RowKit

theorem grown_refl (w : World) (r : Option Nat) : w.grownBy w r := ⟨rfl, rfl, rfl, Nat.le_refl _, fun _ _ _ => rfl⟩
theorem grown_trans {a b c : World} {r : Option Nat} (g : a.grownBy b r) (k : b.grownBy c r) : a.grownBy c r :=
  ⟨k.os.trans g.os, k.tape.trans g.tape, k.output.trans g.output, Nat.le_trans g.size k.size, fun i hi hr => by rw [k.block i (Nat.lt_of_lt_of_le hi g.size) hr, g.block i hi hr]⟩
theorem grown_drew (w : World) (r : Option Nat) : w.grownBy w.drew r := ⟨rfl, rfl, rfl, Nat.le_refl _, fun _ _ _ => rfl⟩
/-- append of any slice to a row of one's own -/
theorem do_app {P : Program} {t e : TypeId} {z : Value} {size bytes : Nat} (E : ElT P t e z size bytes) {base : Nat} {v : Value} {n : Nat} {xs : List Value} {w : World}
    (hown : w.ownsRow base e size v n xs) {q : Option Addr} {m c : Nat} {news : List Value} (hnews : Cs w q news) (hl : news.length = m * size) (h1 : ∀ u ∈ news, u.oneCell' = true)
    (h63 : n + m ≤ maxLen) (hbytes : (n + m) * bytes ≤ 140737488355328) (hbase : base ≤ w.heap.size) {bs : Array Bool} {R : Ending → World → Prop}
    (h : ∀ p c w', w'.ownsRow base e size (.slice p (n + m) c) (n + m) (xs ++ news) → w.grownBy w' v.ownBlock → R (.returned (.slice p (n + m) c)) w') :
    doGo P (.builtin .append #[t, t] t bs) #[v, .slice q m c] w R := by
  cases q with
  | some a => exact do_append E hown hnews hl h1 h63 hbytes hbase h
  | none =>
    have hcs : news = [] := by
      cases news with
      | nil => rfl
      | cons x xs => obtain ⟨a, ha, _⟩ := hnews 0 x rfl; cases ha
    subst hcs
    have hm : m = 0 := by
      simp only [List.length_nil] at hl
      rcases Nat.eq_zero_or_pos m with h0 | h0
      · exact h0
      · have := Nat.mul_pos h0 E.hs; omega
    subst hm
    obtain ⟨i, hi, _, _, _⟩ := E.hi
    obtain ⟨p, c', rfl⟩ := row_slice hown
    have hr := h p c' w
    simp only [Nat.add_zero, List.append_nil] at hr
    refine goV_append (v' := .slice p n c') (w' := w) ?_ (hr hown (grown_refl w _))
    have hnc := row_cap hown
    cases p <;> simp [Builtin.append_, run_underlying E.ht, sizeOf, typeInfo, hi, Builtin.lenOf, Builtin.firstCells, hnc, storeCells]
/-! ### Slices of structs -/
theorem flat_get {α : Type} {ec : α → List Value} {s : Nat} (hs : ∀ x, (ec x).length = s) {l : List α} {k j : Nat} (hk : k < l.length) (hj : j < s) : (l.flatMap ec)[k * s + j]? = (ec l[k])[j]? := by
  induction l generalizing k with
  | nil => simp at hk
  | cons x xs ih =>
    rw [List.flatMap_cons]
    cases k with
    | zero => rw [Nat.zero_mul, Nat.zero_add, List.getElem?_append_left (by rw [hs]; exact hj)]; rfl
    | succ k =>
      rw [List.getElem?_append_right (by rw [hs, Nat.add_mul]; omega), hs, show (k + 1) * s + j - s = k * s + j by rw [Nat.add_mul]; omega]
      exact ih (by simpa using hk)
theorem flat_length {α : Type} {ec : α → List Value} {s : Nat} (hs : ∀ x, (ec x).length = s) (l : List α) : (l.flatMap ec).length = l.length * s := by
  induction l with
  | nil => simp
  | cons x xs ih => rw [List.flatMap_cons, List.length_append, hs, ih, List.length_cons, Nat.add_mul]; omega
/-- An element of a slice of structs. -/
theorem ix_flat {α : Type} {ec : α → List Value} {s : Nat} (hs : ∀ x, (ec x).length = s) (h0 : 0 < s) {w : World} {p : Option Addr} {n : Nat} {i : Int} {l : List α} {K : Addr → Prop} (h : Cs w p (l.flatMap ec)) (hn : l.length = n) {k : Nat} (hk : i = (k : Int)) (h1 : k < n)
    (c : ∀ a : Addr, (∀ j v, (ec (l[k]'(by omega)))[j]? = some v → w.cell? (a.add j) = some v) → (∃ b, p = some b ∧ a = b.add (k * s)) → K a) : doIx p n s i K := by
  subst hk
  have hg : ∀ j v, (ec (l[k]'(by omega)))[j]? = some v → ∃ a, p = some a ∧ w.cell? (a.add (k * s + j)) = some v := fun j v hv => by
    have hj : j < s := by have := (List.getElem?_eq_some_iff.1 hv).1; rw [hs] at this; exact this
    exact h _ _ (by rw [flat_get hs (by omega) hj]; exact hv)
  obtain ⟨a, ha, _⟩ := hg 0 _ (List.getElem?_eq_getElem (by rw [hs]; exact h0))
  refine ⟨a, ha, by omega, by omega, ?_⟩
  rw [Int.toNat_natCast]
  refine c _ (fun j v hv => ?_) ⟨a, ha, rfl⟩
  obtain ⟨a', ha', hc⟩ := hg j v hv
  rw [ha] at ha'; cases ha'
  rw [add_add]; exact hc
/-- An element of a slice of structs, the same in all worlds of a class. -/
theorem ix_flatC {α : Type} {ec : α → List Value} {s : Nat} (hs : ∀ x, (ec x).length = s) (h0 : 0 < s) {C : World → Prop} {p : Option Addr} {n : Nat} {i : Int} {l : List α} {K : Addr → Prop} (h : ∀ w, C w → Cs w p (l.flatMap ec)) {w0 : World} (hw : C w0) (hn : l.length = n) {k : Nat} (hk : i = (k : Int)) (h1 : k < n)
    (c : ∀ a : Addr, (∀ w, C w → ∀ j v, (ec (l[k]'(by omega)))[j]? = some v → w.cell? (a.add j) = some v) → K a) : doIx p n s i K := by
  refine ix_flat hs h0 (h w0 hw) hn hk h1 fun a _ ⟨b, hb, hab⟩ => c a fun w hC j v hv => ?_
  have hj : j < s := by have := (List.getElem?_eq_some_iff.1 hv).1; rw [hs] at this; exact this
  obtain ⟨a', ha', hc⟩ := h w hC (k * s + j) v (by rw [flat_get hs (by omega) hj]; exact hv)
  rw [hb] at ha'; cases ha'
  rw [hab, add_add]; exact hc
end Go.Sh

namespace Go.Sh
open Go

/-- A word as a number. -/
def U (x : BitVec 64) : Int := (x.toNat : Int)
theorem U_inj {x y : BitVec 64} (h : U x = U y) : x = y := BitVec.eq_of_toNat_eq (by unfold U at h; omega)
theorem wrap64u (n : Int) : IntKind.wrap .u64 n = n % 18446744073709551616 := by simp [IntKind.wrap, IntKind.bits, IntKind.signed]
theorem wrap_U (x : Int) : IntKind.wrap .u64 x = U (BitVec.ofInt 64 x) := by
  rw [wrap64u]; unfold U; simp
  omega
theorem ofInt_U (x : BitVec 64) : BitVec.ofInt 64 (U x) = x := by
  apply BitVec.eq_of_toNat_eq
  have := x.isLt
  simp [U]
theorem bits_u64 : IntKind.bits .u64 = 64 := rfl
theorem bXor_U (x y : BitVec 64) : bXor .u64 (U x) (U y) = U (x ^^^ y) := by
  unfold bXor
  rw [bits_u64, ofInt_U, ofInt_U]
  rw [wrap_U]
  exact congrArg U (ofInt_U (x ^^^ y))
theorem bAnd_U (x y : BitVec 64) : bAnd .u64 (U x) (U y) = U (x &&& y) := by
  unfold bAnd
  rw [bits_u64, ofInt_U, ofInt_U]
  rw [wrap_U]
  exact congrArg U (ofInt_U (x &&& y))
theorem bOr_U (x y : BitVec 64) : bOr .u64 (U x) (U y) = U (x ||| y) := by
  unfold bOr
  rw [bits_u64, ofInt_U, ofInt_U]
  rw [wrap_U]
  exact congrArg U (ofInt_U (x ||| y))
theorem shr_U (x : BitVec 64) (s : Nat) (hs : s ≤ 64) : Int.fdiv (U x) (2 ^ (min ((s : Int)).toNat (IntKind.bits .u64))) = U (x >>> s) := by
  rw [bits_u64, Int.toNat_natCast, Nat.min_eq_left hs]
  unfold U
  rw [BitVec.toNat_ushiftRight, Nat.shiftRight_eq_div_pow, Int.fdiv_eq_ediv_of_nonneg _ (Int.pow_nonneg (by omega))]
  simp
theorem shl_U (x : BitVec 64) (s : Nat) (hs : s ≤ 64) : IntKind.wrap .u64 (U x * 2 ^ (min ((s : Int)).toNat (IntKind.bits .u64))) = U (x <<< s) := by
  rw [bits_u64, Int.toNat_natCast, Nat.min_eq_left hs, wrap64u]
  unfold U
  rw [BitVec.toNat_shiftLeft, Nat.shiftLeft_eq]
  simp
theorem mul_U (x y : BitVec 64) : IntKind.wrap .u64 (U x * U y) = U (x * y) := by
  rw [wrap64u]; unfold U; rw [BitVec.toNat_mul]; simp
theorem add_U (x y : BitVec 64) : IntKind.wrap .u64 (U x + U y) = U (x + y) := by
  rw [wrap64u]; unfold U; rw [BitVec.toNat_add]; simp
/-! ### Mixing -/
def xs (s : Nat) (x : BitVec 64) : BitVec 64 := x ^^^ (x >>> s)
def mixB (x : BitVec 64) : BitVec 64 := xs 31 (xs 27 (xs 30 x * 13787848793156543929#64) * 10723151780598845931#64)
theorem xs_inj {s : Nat} (hs : 22 ≤ s) {x y : BitVec 64} (h : xs s x = xs s y) : x = y := by
  have inv : ∀ x : BitVec 64, xs s x ^^^ (xs s x >>> s) ^^^ (xs s x >>> (2 * s)) = x := fun x => by
    apply BitVec.eq_of_getLsbD_eq
    intro i hi
    simp only [xs, BitVec.getLsbD_xor, BitVec.getLsbD_ushiftRight]
    have h1 : x.getLsbD (s + (2 * s + i)) = false := BitVec.getLsbD_of_ge _ _ (by omega)
    have e1 : s + (s + i) = 2 * s + i := by omega
    rw [h1, e1]
    cases x.getLsbD i <;> cases x.getLsbD (s + i) <;> cases x.getLsbD (2 * s + i) <;> rfl
  rw [← inv x, ← inv y, h]
theorem mul_inj {c d : BitVec 64} (hc : c * d = 1#64) {x y : BitVec 64} (h : x * c = y * c) : x = y := by
  have : x * c * d = y * c * d := by rw [h]
  rwa [BitVec.mul_assoc, BitVec.mul_assoc, hc, BitVec.mul_one, BitVec.mul_one] at this
theorem mixB_inj {x y : BitVec 64} (h : mixB x = mixB y) : x = y := by
  unfold mixB at h
  have h := xs_inj (by omega) h
  have h := mul_inj (d := 3573116690164977347#64) (by decide) h
  have h := xs_inj (by omega) h
  have h := mul_inj (d := 10871156337175269513#64) (by decide) h
  exact xs_inj (by omega) h

/-! ### The other way round -/
def Rev (x y : BitVec 64) : Prop := ∀ j, j < 64 → y.getLsbD j = x.getLsbD (63 - j)
theorem rev_inj {x y z : BitVec 64} (h : Rev x z) (k : Rev y z) : x = y := BitVec.eq_of_getLsbD_eq fun i hi => by
  have h1 := h (63 - i) (by omega)
  have h2 := k (63 - i) (by omega)
  rw [show 63 - (63 - i) = i by omega] at h1 h2
  rw [← h1, ← h2]
/-- Go's way: by halves, quarters, .. -/
def swapB (m : BitVec 64) (s : Nat) (x : BitVec 64) : BitVec 64 := ((x >>> s) &&& m) ||| ((x &&& m) <<< s)
def revBytes (x : BitVec 64) : BitVec 64 :=
  let a := swapB 71777214294589695#64 8 x
  let b := swapB 281470681808895#64 16 a
  (b >>> 32) ||| (b <<< 32)
def revB (x : BitVec 64) : BitVec 64 := revBytes (swapB 1085102592571150095#64 4 (swapB 3689348814741910323#64 2 (swapB 6148914691236517205#64 1 x)))
/-- one exchange of neighbours -/
theorem swap_get {m : BitVec 64} {s : Nat} {x : BitVec 64} {i : Nat} (hi : i < 64) (hs : 0 < s)
    (hm : ∀ i, i < 64 → m.getLsbD i = decide (i / s % 2 = 0)) : (swapB m s x).getLsbD i = x.getLsbD (if i / s % 2 = 0 then i + s else i - s) := by
  simp only [swapB, BitVec.getLsbD_or, BitVec.getLsbD_and, BitVec.getLsbD_ushiftRight, BitVec.getLsbD_shiftLeft, hm i hi, decide_eq_true hi, Bool.true_and]
  by_cases h : i / s % 2 = 0
  · rw [if_pos h, decide_eq_true h, Bool.and_true, Nat.add_comm s i]
    by_cases h1 : i < s
    · simp [h1]
    · have e : (i - s) / s % 2 = 1 := by
        have : i / s = (i - s) / s + 1 := by rw [← Nat.add_div_right _ hs, Nat.sub_add_cancel (by omega)]
        omega
      rw [hm (i - s) (by omega)]
      simp [e]
  · rw [if_neg h, decide_eq_false h, Bool.and_false, Bool.false_or]
    have h1 : ¬ i < s := fun h1 => h (by rw [Nat.div_eq_of_lt h1])
    have e : (i - s) / s % 2 = 0 := by
      have : i / s = (i - s) / s + 1 := by rw [← Nat.add_div_right _ hs, Nat.sub_add_cancel (by omega)]
      omega
    rw [hm (i - s) (by omega), decide_eq_true e, decide_eq_false h1]
    simp
theorem mask_of {m : BitVec 64} {s : Nat} (h : ∀ i : Fin 64, m.getLsbD i.val = decide (i.val / s % 2 = 0)) : ∀ i, i < 64 → m.getLsbD i = decide (i / s % 2 = 0) := fun i hi => h ⟨i, hi⟩
theorem revB_rev (x : BitVec 64) : Rev x (revB x) := by
  intro j hj
  simp only [revB, revBytes, BitVec.getLsbD_or, BitVec.getLsbD_ushiftRight, BitVec.getLsbD_shiftLeft, decide_eq_true hj, Bool.true_and]
  have s1 : ∀ (x : BitVec 64) i, i < 64 → (swapB 6148914691236517205#64 1 x).getLsbD i = x.getLsbD (if i / 1 % 2 = 0 then i + 1 else i - 1) := fun x i hi => swap_get hi (by omega) (mask_of (by decide))
  have s2 : ∀ (x : BitVec 64) i, i < 64 → (swapB 3689348814741910323#64 2 x).getLsbD i = x.getLsbD (if i / 2 % 2 = 0 then i + 2 else i - 2) := fun x i hi => swap_get hi (by omega) (mask_of (by decide))
  have s4 : ∀ (x : BitVec 64) i, i < 64 → (swapB 1085102592571150095#64 4 x).getLsbD i = x.getLsbD (if i / 4 % 2 = 0 then i + 4 else i - 4) := fun x i hi => swap_get hi (by omega) (mask_of (by decide))
  have s8 : ∀ (x : BitVec 64) i, i < 64 → (swapB 71777214294589695#64 8 x).getLsbD i = x.getLsbD (if i / 8 % 2 = 0 then i + 8 else i - 8) := fun x i hi => swap_get hi (by omega) (mask_of (by decide))
  have s16 : ∀ (x : BitVec 64) i, i < 64 → (swapB 281470681808895#64 16 x).getLsbD i = x.getLsbD (if i / 16 % 2 = 0 then i + 16 else i - 16) := fun x i hi => swap_get hi (by omega) (mask_of (by decide))
  have last : ∀ y : BitVec 64, (y.getLsbD (32 + j) || !decide (j < 32) && y.getLsbD (j - 32)) = y.getLsbD (if j < 32 then 32 + j else j - 32) := fun y => by
    by_cases h : j < 32
    · simp [h]
    · rw [BitVec.getLsbD_of_ge y (32 + j) (by omega)]; simp [h]
  rw [last]
  have hl : (if j < 32 then 32 + j else j - 32) < 64 := by split <;> omega
  generalize hk : (if j < 32 then 32 + j else j - 32) = k at hl
  rw [s16 _ k hl]
  have hl2 : (if k / 16 % 2 = 0 then k + 16 else k - 16) < 64 := by split <;> omega
  generalize hk2 : (if k / 16 % 2 = 0 then k + 16 else k - 16) = k2 at hl2
  rw [s8 _ k2 hl2]
  have hl3 : (if k2 / 8 % 2 = 0 then k2 + 8 else k2 - 8) < 64 := by split <;> omega
  generalize hk3 : (if k2 / 8 % 2 = 0 then k2 + 8 else k2 - 8) = k3 at hl3
  rw [s4 _ k3 hl3]
  have hl4 : (if k3 / 4 % 2 = 0 then k3 + 4 else k3 - 4) < 64 := by split <;> omega
  generalize hk4 : (if k3 / 4 % 2 = 0 then k3 + 4 else k3 - 4) = k4 at hl4
  rw [s2 _ k4 hl4]
  have hl5 : (if k4 / 2 % 2 = 0 then k4 + 2 else k4 - 2) < 64 := by split <;> omega
  generalize hk5 : (if k4 / 2 % 2 = 0 then k4 + 2 else k4 - 2) = k5 at hl5
  rw [s1 _ k5 hl5]
  congr 1
  have key : ∀ j : Fin 64, (let k := if j.val < 32 then 32 + j.val else j.val - 32
    let k2 := if k / 16 % 2 = 0 then k + 16 else k - 16
    let k3 := if k2 / 8 % 2 = 0 then k2 + 8 else k2 - 8
    let k4 := if k3 / 4 % 2 = 0 then k3 + 4 else k3 - 4
    let k5 := if k4 / 2 % 2 = 0 then k4 + 2 else k4 - 2
    if k5 / 1 % 2 = 0 then k5 + 1 else k5 - 1) = 63 - j.val := by decide
  have := key ⟨j, hj⟩
  simp only [hk, hk2, hk3, hk4, hk5] at this
  exact this
/-! The reference's way: bit by bit. -/
/-! ### The codes -/
/-- an int64 -/
def In (x : Int) : Prop := -9223372036854775808 ≤ x ∧ x < 9223372036854775808
def upI (k : Int) : Int := k + 9223372036854775808
def codeI (o k : Int) : Int :=
  if o = 1 then upI k
  else if o = 2 then 18446744073709551615 - upI k
  else if o = 3 then (if k < 0 then -2 * k - 1 else 2 * k)
  else if o = 4 then U (revB (BitVec.ofInt 64 k))
  else if o = 5 then upI k / 2 + (if k % 2 = 1 then 9223372036854775808 else 0)
  else if o = 6 then upI k % 4294967296 * 4294967296 + upI k / 4294967296
  else U (mixB (BitVec.ofInt 64 k))
theorem ofInt_inj {a b : Int} (ha : In a) (hb : In b) (h : BitVec.ofInt 64 a = BitVec.ofInt 64 b) : a = b := by
  have := congrArg BitVec.toInt h
  rw [BitVec.toInt_ofInt, BitVec.toInt_ofInt] at this
  unfold In at *
  simp [Int.bmod] at this
  omega
theorem codeI_inj {o a b : Int} (ha : In a) (hb : In b) (h : codeI o a = codeI o b) : a = b := by
  unfold codeI at h
  have ha' := ha; have hb' := hb
  unfold In at ha' hb'
  unfold upI at h
  split at h
  · omega
  split at h
  · omega
  split at h
  · split at h <;> split at h <;> omega
  split at h
  · exact ofInt_inj ha hb (rev_inj (revB_rev _) (by rw [U_inj h]; exact revB_rev _))
  split at h
  · split at h <;> split at h <;> omega
  split at h
  · omega
  · exact ofInt_inj ha hb (mixB_inj (U_inj h))
/-- how two keys stand -/
def cmpI (o a b : Int) : Int := if 1 ≤ o ∧ o ≤ 7 then (if codeI o a < codeI o b then -1 else if codeI o b < codeI o a then 1 else 0) else 0

theorem xor_top (x : BitVec 64) : x ^^^ 9223372036854775808#64 = x + 9223372036854775808#64 := by
  apply BitVec.eq_of_getLsbD_eq
  intro i hi
  rw [BitVec.getLsbD_xor]
  have e : (x + 9223372036854775808#64).getLsbD i = ((2 ^ 63 + x.toNat) % 2 ^ 64).testBit i := by
    rw [BitVec.getLsbD, BitVec.toNat_add, Nat.add_comm]; rfl
  rw [e, Nat.testBit_mod_two_pow, decide_eq_true hi, Bool.true_and]
  have ht : ∀ k : Fin 64, (9223372036854775808#64).getLsbD k.val = decide (k.val = 63) := by decide
  rw [ht ⟨i, hi⟩]
  by_cases h : i = 63
  · subst h
    rw [Nat.testBit_two_pow_add_eq]
    simp [BitVec.getLsbD]
  · rw [Nat.testBit_two_pow_add_gt (by omega)]
    simp [h, BitVec.getLsbD]
theorem U_ofInt (x : Int) : U (BitVec.ofInt 64 x) = x % 18446744073709551616 := by rw [← wrap_U, wrap64u]
theorem upB_U {k : Int} (hk : In k) : bXor .u64 (IntKind.wrap .u64 k) 9223372036854775808 = upI k := by
  rw [wrap_U, show (9223372036854775808 : Int) = U 9223372036854775808#64 from rfl, bXor_U, xor_top, ← add_U, U_ofInt, wrap64u]
  unfold upI In at *
  rw [show U 9223372036854775808#64 = 9223372036854775808 from rfl]
  omega
theorem not_U {x : Int} (h0 : 0 ≤ x) (h1 : x < 18446744073709551616) : bXor .u64 (IntKind.max .u64) x = 18446744073709551615 - x := by
  have hx : U (BitVec.ofInt 64 x) = x := by rw [U_ofInt]; omega
  have hm : IntKind.max .u64 = U (BitVec.allOnes 64) := by decide
  rw [hm, ← hx, bXor_U, BitVec.allOnes_xor]
  unfold U
  rw [BitVec.toNat_not]
  have := (BitVec.ofInt 64 x).isLt
  omega
theorem size_U {k : Int} (hk : In k) : IntKind.wrap .u64 (bXor .i64 (IntKind.wrap .i64 (k * 2 ^ (min (1 : Int).toNat (IntKind.bits .i64)))) (Int.fdiv k (2 ^ (min (63 : Int).toNat (IntKind.bits .i64))))) = if k < 0 then -2 * k - 1 else 2 * k := by
  have e1 : (2 : Int) ^ (min (1 : Int).toNat (IntKind.bits .i64)) = 2 := by decide
  have e2 : (2 : Int) ^ (min (63 : Int).toNat (IntKind.bits .i64)) = 9223372036854775808 := by decide
  rw [e1, e2]
  have key : ∀ x y : Int, IntKind.wrap .u64 (bXor .i64 x y) = U (BitVec.ofInt 64 x ^^^ BitVec.ofInt 64 y) := fun x y => by
    unfold bXor
    rw [show IntKind.bits .i64 = 64 from rfl]
    have := (BitVec.ofInt 64 x ^^^ BitVec.ofInt 64 y).isLt
    unfold U
    generalize (BitVec.ofInt 64 x ^^^ BitVec.ofInt 64 y).toNat = n at this ⊢
    rw [wrap64u]
    simp [IntKind.wrap, IntKind.bits, IntKind.signed]
    omega
  rw [key]
  have hw : BitVec.ofInt 64 (IntKind.wrap .i64 (k * 2)) = BitVec.ofInt 64 (k * 2) := by
    apply U_inj
    rw [U_ofInt, U_ofInt]
    simp [IntKind.wrap, IntKind.bits, IntKind.signed]
    omega
  rw [hw]
  unfold In at hk
  rw [Int.fdiv_eq_ediv_of_nonneg _ (by omega)]
  by_cases h : k < 0
  · rw [if_pos h, show k / 9223372036854775808 = -1 by omega, show BitVec.ofInt 64 (-1) = BitVec.allOnes 64 from rfl, BitVec.xor_allOnes]
    have : U (~~~ BitVec.ofInt 64 (k * 2)) = 18446744073709551615 - U (BitVec.ofInt 64 (k * 2)) := by
      unfold U; rw [BitVec.toNat_not]
      have := (BitVec.ofInt 64 (k * 2)).isLt
      omega
    rw [this, U_ofInt]; omega
  · rw [if_neg h, show k / 9223372036854775808 = 0 by omega, show BitVec.ofInt 64 0 = 0#64 from rfl, BitVec.xor_zero, U_ofInt]; omega
/-- turned to the left by s -/
theorem rot_U (x : BitVec 64) {s : Nat} (h0 : 0 < s) (hs : s < 64) : U ((x <<< s) ||| (x >>> (64 - s))) = ((x.toNat % 2 ^ (64 - s) * 2 ^ s + x.toNat / 2 ^ (64 - s) : Nat) : Int) := by
  unfold U
  rw [BitVec.toNat_or, BitVec.toNat_shiftLeft, BitVec.toNat_ushiftRight, Nat.shiftLeft_eq, Nat.shiftRight_eq_div_pow]
  have e : x.toNat * 2 ^ s % 2 ^ 64 = 2 ^ s * (x.toNat % 2 ^ (64 - s)) := by
    have : (2 : Nat) ^ 64 = 2 ^ (64 - s) * 2 ^ s := by rw [← Nat.pow_add]; congr 1; omega
    rw [this, Nat.mul_mod_mul_right, Nat.mul_comm]
  have hlt : x.toNat / 2 ^ (64 - s) < 2 ^ s := by
    apply Nat.div_lt_of_lt_mul
    rw [← Nat.pow_add, show 64 - s + s = 64 by omega]
    exact x.isLt
  rw [e, ← Nat.two_pow_add_eq_or_of_lt hlt, Nat.mul_comm]

/-! ### The printed words -/
theorem shr_1 (x : BitVec 64) : Int.fdiv (U x) (2 ^ (min (1 : Int).toNat (IntKind.bits .u64))) = U (x >>> 1) := shr_U x 1 (by omega)
theorem shl_1 (x : BitVec 64) : IntKind.wrap .u64 (U x * 2 ^ (min (1 : Int).toNat (IntKind.bits .u64))) = U (x <<< 1) := shl_U x 1 (by omega)
theorem shr_2 (x : BitVec 64) : Int.fdiv (U x) (2 ^ (min (2 : Int).toNat (IntKind.bits .u64))) = U (x >>> 2) := shr_U x 2 (by omega)
theorem shl_2 (x : BitVec 64) : IntKind.wrap .u64 (U x * 2 ^ (min (2 : Int).toNat (IntKind.bits .u64))) = U (x <<< 2) := shl_U x 2 (by omega)
theorem shr_4 (x : BitVec 64) : Int.fdiv (U x) (2 ^ (min (4 : Int).toNat (IntKind.bits .u64))) = U (x >>> 4) := shr_U x 4 (by omega)
theorem shl_4 (x : BitVec 64) : IntKind.wrap .u64 (U x * 2 ^ (min (4 : Int).toNat (IntKind.bits .u64))) = U (x <<< 4) := shl_U x 4 (by omega)
theorem shr_8 (x : BitVec 64) : Int.fdiv (U x) (2 ^ (min (8 : Int).toNat (IntKind.bits .u64))) = U (x >>> 8) := shr_U x 8 (by omega)
theorem shl_8 (x : BitVec 64) : IntKind.wrap .u64 (U x * 2 ^ (min (8 : Int).toNat (IntKind.bits .u64))) = U (x <<< 8) := shl_U x 8 (by omega)
theorem shr_16 (x : BitVec 64) : Int.fdiv (U x) (2 ^ (min (16 : Int).toNat (IntKind.bits .u64))) = U (x >>> 16) := shr_U x 16 (by omega)
theorem shl_16 (x : BitVec 64) : IntKind.wrap .u64 (U x * 2 ^ (min (16 : Int).toNat (IntKind.bits .u64))) = U (x <<< 16) := shl_U x 16 (by omega)
theorem shr_32 (x : BitVec 64) : Int.fdiv (U x) (2 ^ (min (32 : Int).toNat (IntKind.bits .u64))) = U (x >>> 32) := shr_U x 32 (by omega)
theorem shl_32 (x : BitVec 64) : IntKind.wrap .u64 (U x * 2 ^ (min (32 : Int).toNat (IntKind.bits .u64))) = U (x <<< 32) := shl_U x 32 (by omega)
theorem and_a (x : BitVec 64) : bAnd .u64 (U x) 6148914691236517205 = U (x &&& 6148914691236517205#64) := bAnd_U x 6148914691236517205#64
theorem and_b (x : BitVec 64) : bAnd .u64 (U x) 3689348814741910323 = U (x &&& 3689348814741910323#64) := bAnd_U x 3689348814741910323#64
theorem and_c (x : BitVec 64) : bAnd .u64 (U x) 1085102592571150095 = U (x &&& 1085102592571150095#64) := bAnd_U x 1085102592571150095#64
theorem and_d (x : BitVec 64) : bAnd .u64 (U x) 71777214294589695 = U (x &&& 71777214294589695#64) := bAnd_U x 71777214294589695#64
theorem and_e (x : BitVec 64) : bAnd .u64 (U x) 281470681808895 = U (x &&& 281470681808895#64) := bAnd_U x 281470681808895#64

/-- names -/
def isO (o : Int) : Bool := decide (1 ≤ o) && decide (o ≤ 7)
def nameB (o : Int) : ByteArray :=
  if o = 1 then ⟨#[117, 112]⟩ else if o = 2 then ⟨#[100, 111, 119, 110]⟩ else if o = 3 then ⟨#[115, 105, 122, 101]⟩ else if o = 4 then ⟨#[98, 105, 116, 115]⟩
  else if o = 5 then ⟨#[101, 118, 101, 110]⟩ else if o = 6 then ⟨#[108, 111, 119]⟩ else if o = 7 then ⟨#[109, 105, 120]⟩ else ⟨#[]⟩
theorem isO_cases {o : Int} (h : isO o = true) : o = 1 ∨ o = 2 ∨ o = 3 ∨ o = 4 ∨ o = 5 ∨ o = 6 ∨ o = 7 := by
  simp [isO] at h; omega
theorem name_empty (o : Int) : ((nameB o).toList == (⟨#[]⟩ : ByteArray).toList) = !isO o := by
  rw [ByteArray.toList_eq, ByteArray.toList_eq]
  cases h : isO o
  · have h' : ¬ (1 ≤ o ∧ o ≤ 7) := fun hh => by simp [isO, hh.1, hh.2] at h
    unfold nameB
    rw [if_neg (by omega), if_neg (by omega), if_neg (by omega), if_neg (by omega), if_neg (by omega), if_neg (by omega), if_neg (by omega)]
    rfl
  · rcases isO_cases h with rfl | rfl | rfl | rfl | rfl | rfl | rfl <;> decide
end Go.Sh

namespace Go.Sh
open Go Go.RowKit

structure Bd where
  key : Int
  val : Int
  sum : Int
  size : Int
  tag : Int
  left : Bool
  right : Bool
deriving DecidableEq
theorem flat_drop {α : Type} {ec : α → List Value} {s : Nat} (hs : ∀ x, (ec x).length = s) (l : List α) (k : Nat) : (l.flatMap ec).drop (k * s) = (l.drop k).flatMap ec := by
  induction l generalizing k with
  | nil => simp
  | cons x xs ih =>
    cases k with
    | zero => simp
    | succ k =>
      rw [List.flatMap_cons, List.drop_succ_cons, ← ih k, show (k + 1) * s = (ec x).length + k * s by rw [hs, Nat.add_mul]; omega, List.drop_append]
      simp [List.drop_of_length_le]
theorem flat_take {α : Type} {ec : α → List Value} {s : Nat} (hs : ∀ x, (ec x).length = s) (l : List α) (k : Nat) : (l.flatMap ec).take (k * s) = (l.take k).flatMap ec := by
  induction l generalizing k with
  | nil => simp
  | cons x xs ih =>
    cases k with
    | zero => simp
    | succ k =>
      rw [List.flatMap_cons, List.take_succ_cons, List.flatMap_cons, ← ih k, show (k + 1) * s = (ec x).length + k * s by rw [hs, Nat.add_mul]; omega, List.take_append]
      simp [List.take_of_length_le]
/-- A part of a slice of structs. -/
theorem sl_flat {α : Type} {ec : α → List Value} {s : Nat} (hs : ∀ x, (ec x).length = s) (h0 : 0 < s) {w : World} {q : Option Addr} {n c : Nat} {lo hi : Int} {l : List α} {K : Option Addr → Nat → Nat → Prop} (hl : Cs w q (l.flatMap ec)) (hn : l.length = n) (hnc : n ≤ c) {a b : Nat} (ha : lo = (a : Int)) (hb : hi = (b : Int)) (h1 : a ≤ b) (h2 : b ≤ n)
    (k : ∀ p, (∀ w', Cs w' q (l.flatMap ec) → Cs w' p (((l.take b).drop a).flatMap ec)) → K p (b - a) (c - a)) : doSl q c s lo hi K := by
  subst ha; subst hb
  refine ⟨by omega, by omega, by omega, ?_⟩
  rw [Int.toNat_natCast, Int.toNat_natCast]
  refine k _ fun w' hl' => ?_
  rw [← flat_drop hs, ← flat_take hs]
  split
  · rw [List.drop_of_length_le (by rw [List.length_take, flat_length hs]; rename_i h; subst h; exact Nat.le_trans (Nat.min_le_left _ _) (Nat.mul_le_mul_right _ (by omega)))]; exact cs_nil _ _
  · cases q with
    | none =>
      have : l = [] := by
        cases l with
        | nil => rfl
        | cons x xs =>
          obtain ⟨a, ha, _⟩ := hl 0 ((ec x)[0]'(by rw [hs]; exact h0)) (by rw [List.flatMap_cons, List.getElem?_append_left (by rw [hs]; exact h0)]; exact List.getElem?_eq_getElem _)
          cases ha
      subst this; simp; exact cs_nil _ _
    | some ad => exact (hl'.take _).drop _

/-! ### Trees of beads -/
inductive BT where
  | nil
  | node (x : Bd) (l r : BT)
def BT.beads : BT → List Bd
  | .nil => []
  | .node x l r => x :: (l.beads ++ r.beads)
def BT.nn : BT → Bool
  | .nil => false
  | .node .. => true
def BT.wf : BT → Bool
  | .nil => true
  | .node x l r => (x.left == l.nn) && (x.right == r.nn) && l.wf && r.wf
def BT.depth : BT → Nat
  | .nil => 0
  | .node _ l r => 1 + max l.depth r.depth
abbrev BT.size (t : BT) : Nat := t.beads.length
/-! ### Trees as they are kept -/
inductive Tr where
  | nil
  | node (l : Tr) (k v g : Int) (r : Tr)
def Tr.size : Tr → Nat
  | .nil => 0
  | .node l _ _ _ r => l.size + 1 + r.size
def Tr.sum : Tr → Int
  | .nil => 0
  | .node l _ v _ r => IntKind.wrap .i64 (IntKind.wrap .i64 (l.sum + v) + r.sum)
def Tr.left : Tr → Tr
  | .nil => .nil
  | .node l _ _ _ _ => l
def Tr.right : Tr → Tr
  | .nil => .nil
  | .node _ _ _ _ r => r
def Tr.key : Tr → Int
  | .nil => 0
  | .node _ k _ _ _ => k
def Tr.val : Tr → Int
  | .nil => 0
  | .node _ _ v _ _ => v
def Tr.tag : Tr → Int
  | .nil => 0
  | .node _ _ _ g _ => g
def Tr.nn : Tr → Bool
  | .nil => false
  | .node .. => true
/-- the pairs, from left to right -/
def Tr.pairs : Tr → List (Int × Int)
  | .nil => []
  | .node l k v _ r => l.pairs ++ (k, v) :: r.pairs
theorem Tr.pairs_length (t : Tr) : t.pairs.length = t.size := by
  induction t with
  | nil => rfl
  | node l k v g r ihl ihr => simp only [Tr.pairs, Tr.size, List.length_append, List.length_cons, ihl, ihr]; omega
def Tr.All (t : Tr) (p : Int × Int → Prop) : Prop := ∀ x ∈ t.pairs, p x
theorem Tr.All.node {l r : Tr} {k v g : Int} {p : Int × Int → Prop} (h : (Tr.node l k v g r).All p) : l.All p ∧ p (k, v) ∧ r.All p :=
  ⟨fun x hx => h x (by simp [Tr.pairs, hx]), h _ (by simp [Tr.pairs]), fun x hx => h x (by simp [Tr.pairs, hx])⟩
def BT.tr : BT → Tr
  | .nil => .nil
  | .node x l r => .node l.tr x.key x.val x.tag r.tr
theorem BT.tr_mem {t : BT} {x : Int × Int} (h : x ∈ t.tr.pairs) : ∃ b ∈ t.beads, x = (b.key, b.val) := by
  induction t with
  | nil => simp [BT.tr, Tr.pairs] at h
  | node y l r ihl ihr =>
    simp only [BT.tr, Tr.pairs, List.mem_append, List.mem_cons] at h
    simp only [BT.beads, List.mem_cons, List.mem_append]
    rcases h with h | h | h
    · obtain ⟨b, hb, e⟩ := ihl h; exact ⟨b, .inr (.inl hb), e⟩
    · exact ⟨y, .inl rfl, h⟩
    · obtain ⟨b, hb, e⟩ := ihr h; exact ⟨b, .inr (.inr hb), e⟩
/-- a tree that lies in memory; 'ty' is the type of a node -/
def IsT (ty : TypeId) (w : World) : Option Addr → Tr → Prop
  | p, .nil => p = none
  | p, .node l k v g r => ∃ b pl pr, p = some (blk b) ∧
      Blk w b #[.int .i64 k, .int .i64 v, .int .i64 (Tr.node l k v g r).sum, .int .u64 g, .int .i64 ((Tr.node l k v g r).size : Nat), .pointer pl, .pointer pr] ty ∧ IsT ty w pl l ∧ IsT ty w pr r
theorem IsT.ext {ty : TypeId} {w w' : World} {p : Option Addr} {t : Tr} (h : IsT ty w p t) (e : Ext w w') : IsT ty w' p t := by
  induction t generalizing p with
  | nil => exact h
  | node l k v g r ihl ihr =>
    obtain ⟨b, pl, pr, hp, hb, hl, hr⟩ := h
    exact ⟨b, pl, pr, hp, hb.ext e, ihl hl, ihr hr⟩
theorem IsT.none {ty : TypeId} {w : World} {t : Tr} (h : IsT ty w none t) : t = .nil := by
  cases t with
  | nil => rfl
  | node l k v g r => obtain ⟨b, pl, pr, hp, _⟩ := h; cases hp
theorem IsT.isNone {ty : TypeId} {w : World} {p : Option Addr} {t : Tr} (h : IsT ty w p t) : p.isNone = !t.nn := by
  cases t with
  | nil => rw [show p = Option.none from h]; rfl
  | node l k v g r => obtain ⟨b, pl, pr, rfl, _⟩ := h; rfl
/-- the side on which the way goes on -/
def Tr.next (o key : Int) (t : Tr) : Tr := if cmpI o key t.key < 0 then t.left else t.right
theorem Tr.All.left {t : Tr} {p : Int × Int → Prop} (h : t.All p) : t.left.All p := by
  cases t with
  | nil => exact h
  | node l k v g r => exact h.node.1
theorem Tr.All.right {t : Tr} {p : Int × Int → Prop} (h : t.All p) : t.right.All p := by
  cases t with
  | nil => exact h
  | node l k v g r => exact h.node.2.2
theorem Tr.nn_size {t : Tr} : t.nn = decide (0 < t.size) := by
  cases t with
  | nil => rfl
  | node l k v g r => simp only [Tr.nn, Tr.size]; exact (decide_eq_true (by omega)).symm
/-! ### Beads with their sizes and sums -/
def sumV (l : List Bd) : Int := l.foldl (fun s b => IntKind.wrap .i64 (s + b.val)) 0
def BT.of : BT → BT
  | .nil => .nil
  | .node x l r => .node { x with size := ((BT.node x l r).size : Nat), sum := sumV (BT.node x l r).beads } l.of r.of
end Go.Sh

