/-
  Small lemmas for reading the printed formulas: what a call leaves alone, slices, maps, appends. No claim of its own.
-/
import Derived.Test.YtmkpkmdnapccgaaGreatDoorZ02
import Derived.MapKept
import Derived.Laws.OwnMore

set_option maxRecDepth 100000
set_option maxHeartbeats 6400000
namespace Go.Sh
open Go Go.RowKit

abbrev Ext (w w' : World) : Prop := Below w.heap.size w w'
theorem Ext.trans {a b c : World} (h : Ext a b) (k : Ext b c) : Ext a c := Below.trans h (Below.mono k h.size)
theorem ext_alloc (w : World) (o : Obj) : Ext w (w.alloc o) := Below.alloc (.refl _ _) (Nat.le_refl _) o
theorem ext_drew (w : World) : Ext w w.drew := Below.drew (.refl _ _)
theorem ext_refl (w : World) : Ext w w := .refl _ _
theorem Ext.alloc {a b : World} (h : Ext a b) (o : Obj) : Ext a (b.alloc o) := Below.alloc h h.size o
theorem Ext.drew {a b : World} (h : Ext a b) : Ext a b.drew := Below.drew h
theorem Ext.set {a b : World} (h : Ext a b) {p : Addr} (hp : a.heap.size ≤ p.block) (u : Value) : Ext a (b.setCell p u) := Below.setCell h hp u
theorem Ext.cell {a b : World} (h : Ext a b) {p : Addr} {v : Value} (hc : a.cell? p = some v) : b.cell? p = some v := by
  rw [Below.cell h (World.block_lt_of_cell? a p hc)]; exact hc
theorem Ext.heap {a b : World} (h : Ext a b) {k : Nat} {o : Obj} (hc : a.heap[k]? = some o) : b.heap[k]? = some o := by
  rw [h.block k (Array.getElem?_eq_some_iff.1 hc).1]; exact hc
theorem Ext.grownBy {a b : World} (h : Ext a b) : a.grownBy b none := ⟨h.os, h.tape, h.output, h.size, fun k hk _ => h.block k hk⟩
theorem Ext.grown {a w w' : World} {row : Option Nat} (h : Ext a w) (hg : w.grownBy w' row) (hr : ∀ k, row = some k → a.heap.size ≤ k) : Ext a w' := Below.grown h hg h.size hr
theorem Ext.row {a b : World} (h : Ext a b) {base e size n : Nat} {v : Value} {xs : List Value} (ho : a.ownsRow base e size v n xs) : b.ownsRow base e size v n xs :=
  ho.kept h.grownBy (by cases v.ownBlock <;> simp)

def Cs (w : World) (p : OA) (vs : List Value) : Prop := ∀ i v, vs[i]? = some v → ∃ a, p = some a ∧ w.cell? (a.add i) = some v
theorem Cs.ext {w w' : World} {p : OA} {vs : List Value} (h : Cs w p vs) (e : Ext w w') : Cs w' p vs := fun i v hv => by
  obtain ⟨a, ha, hc⟩ := h i v hv
  exact ⟨a, ha, e.cell hc⟩
theorem cs_nil (w : World) (p : OA) : Cs w p [] := fun i v h => by simp at h
theorem add_add (a : Addr) (i j : Nat) : (a.add i).add j = a.add (i + j) := by
  simp only [Addr.add]
  by_cases hi : i = 0 <;> by_cases hj : j = 0 <;> simp_all [Nat.add_assoc]
theorem add_blk (b i : Nat) : (blk b).add i = ⟨b, i, none⟩ := by unfold Addr.add; split <;> simp_all
theorem add_zero' (a : Addr) : a.add 0 = a := by simp [Addr.add]
theorem add_block (a : Addr) (i : Nat) : (a.add i).block = a.block := by simp only [Addr.add]; split <;> rfl
theorem Cs.drop {w : World} {a : Addr} {vs : List Value} (h : Cs w (some a) vs) (k : Nat) : Cs w (some (a.add k)) (vs.drop k) := fun i v hv => by
  obtain ⟨b, hb, hc⟩ := h (k + i) v (by simpa using hv)
  cases hb
  exact ⟨_, rfl, by rw [add_add]; exact hc⟩
theorem Cs.take {w : World} {p : OA} {vs : List Value} (h : Cs w p vs) (k : Nat) : Cs w p (vs.take k) := fun i v hv => by
  rw [List.getElem?_take] at hv
  split at hv
  · exact h i v hv
  · cases hv
theorem Cs.of_row {w : World} {base e size n c : Nat} {p : OA} {xs : List Value} (h : w.ownsRow base e size (.slice p n c) n xs) : Cs w p xs := fun i v hv => by
  rcases h.2 with ⟨hv', hn⟩ | ⟨g, cap, cur, hv', _⟩
  · subst hn; cases List.eq_nil_of_length_eq_zero (by simpa using h.1); simp at hv
  · cases hv'
    exact ⟨_, rfl, h.cells rfl i v hv⟩
theorem row_slice {w : World} {base e size n : Nat} {v : Value} {xs : List Value} (h : w.ownsRow base e size v n xs) : ∃ p c, v = .slice p n c := by
  rcases h.2 with ⟨hv', hn⟩ | ⟨g, cap, cur, hv', _⟩
  · exact ⟨_, _, by rw [hv', hn]⟩
  · exact ⟨_, _, hv'⟩
theorem row_lt {w : World} {base e size n c : Nat} {p : OA} {xs : List Value} (h : w.ownsRow base e size (.slice p n c) n xs) {a : Addr} (ha : p = some a) : base ≤ a.block ∧ a.block < w.heap.size :=
  h.lt a.block (by subst ha; rfl)
def ints (l : List Int) : List Value := l.map (.int .i64)
@[simp] theorem ints_length (l : List Int) : (ints l).length = l.length := by simp [ints]
@[simp] theorem ints_append (l r : List Int) : ints (l ++ r) = ints l ++ ints r := by simp [ints]
@[simp] theorem ints_drop (l : List Int) (k : Nat) : (ints l).drop k = ints (l.drop k) := by simp [ints]
@[simp] theorem ints_take (l : List Int) (k : Nat) : (ints l).take k = ints (l.take k) := by simp [ints]
@[simp] theorem ints_set (l : List Int) (k : Nat) (v : Int) : (ints l).set k (.int .i64 v) = ints (l.set k v) := by simp [ints, List.map_set]
theorem Cs.int {w : World} {p : OA} {l : List Int} (h : Cs w p (ints l)) {i : Nat} (hi : i < l.length) : ∃ a, p = some a ∧ w.cell? (a.add i) = some (.int .i64 l[i]) :=
  h i _ (by simp [ints, hi])
theorem ix_int {w : World} {p : OA} {n : Nat} {i : Int} {l : List Int} {K : Addr → Prop} (h : Cs w p (ints l)) (hn : l.length = n) (h0 : 0 ≤ i) (h1 : i < n)
    (k : ∀ a, p = some a → w.cell? (a.add (i.toNat * 1)) = some (.int .i64 (l.getD i.toNat 0)) → K (a.add (i.toNat * 1))) : doIx p n 1 i K := by
  have hi : i.toNat < l.length := by omega
  obtain ⟨a, ha, hc⟩ := h.int hi
  refine ⟨a, ha, h0, h1, k a ha ?_⟩
  rw [Nat.mul_one, hc, List.getD_eq_getElem?_getD, List.getElem?_eq_getElem hi]; rfl

theorem row_cap {w : World} {base e size n c : Nat} {p : OA} {xs : List Value} (h : w.ownsRow base e size (.slice p n c) n xs) : n ≤ c := by
  rcases h.2 with ⟨hv', hn⟩ | ⟨g, cap, cur, hv', _, _, hc, _⟩
  · omega
  · cases hv'; exact hc
theorem row_some {w : World} {base e size n c : Nat} {p : OA} {xs : List Value} (h : w.ownsRow base e size (.slice p n c) n xs) (hn : 0 < n) : ∃ b, p = some (blk b) ∧ base ≤ b ∧ b < w.heap.size := by
  rcases h.2 with ⟨hv', hn⟩ | ⟨g, cap, cur, hv', hb, hg, _⟩
  · omega
  · cases hv'; exact ⟨g, rfl, hb, (Array.getElem?_eq_some_iff.1 hg).1⟩
theorem row_mono {w : World} {base base' e size n : Nat} {v : Value} {xs : List Value} (h : w.ownsRow base e size v n xs) (hb : base' ≤ base) : w.ownsRow base' e size v n xs :=
  ⟨h.1, h.2.imp id fun ⟨g, cap, cur, h1, h2, h3⟩ => ⟨g, cap, cur, h1, Nat.le_trans hb h2, h3⟩⟩
def prs (l : List (Int × Int)) : List Value := l.flatMap fun x => [.int .i64 x.1, .int .i64 x.2]
@[simp] theorem prs_nil : prs [] = [] := rfl
@[simp] theorem prs_cons (x : Int × Int) (l : List (Int × Int)) : prs (x :: l) = .int .i64 x.1 :: .int .i64 x.2 :: prs l := rfl
@[simp] theorem prs_length (l : List (Int × Int)) : (prs l).length = l.length * 2 := by
  induction l with
  | nil => rfl
  | cons x xs ih => simp [ih]; omega
@[simp] theorem prs_append (l r : List (Int × Int)) : prs (l ++ r) = prs l ++ prs r := by simp [prs]
theorem prs_get {l : List (Int × Int)} {i : Nat} (hi : i < l.length) : (prs l)[i * 2]? = some (.int .i64 l[i].1) ∧ (prs l)[i * 2 + 1]? = some (.int .i64 l[i].2) := by
  induction l generalizing i with
  | nil => simp at hi
  | cons x xs ih =>
    cases i with
    | zero => exact ⟨rfl, rfl⟩
    | succ i =>
      have := ih (i := i) (by simpa using hi)
      rw [show (i + 1) * 2 = i * 2 + 1 + 1 by omega]
      simpa using this
theorem prs_one {l : List (Int × Int)} : ∀ u ∈ prs l, u.oneCell' = true := fun u hu => by
  simp only [prs, List.mem_flatMap] at hu
  obtain ⟨x, _, hx⟩ := hu
  simp at hx
  rcases hx with rfl | rfl <;> rfl
theorem ix_pr {w : World} {p : OA} {n : Nat} {i : Int} {l : List (Int × Int)} {K : Addr → Prop} (h : Cs w p (prs l)) (hn : l.length = n) {k : Nat} (hk : i = (k : Int)) (h1 : k < n)
    (c : ∀ a : Addr, w.cell? (a.add 0) = some (.int .i64 (l[k]'(by omega)).1) → w.cell? (a.add 1) = some (.int .i64 (l[k]'(by omega)).2) → (∃ b, p = some b ∧ a = b.add (k * 2)) → K a) : doIx p n 2 i K := by
  subst hk
  have hg := prs_get (l := l) (i := k) (by omega)
  obtain ⟨a, ha, hc0⟩ := h _ _ hg.1
  obtain ⟨a', ha', hc1⟩ := h _ _ hg.2
  rw [ha] at ha'
  cases ha'
  refine ⟨a, ha, by omega, by omega, ?_⟩
  rw [Int.toNat_natCast]
  exact c _ (by rw [add_zero']; exact hc0) (by rw [add_add]; exact hc1) ⟨a, ha, rfl⟩
theorem ix_prC {C : World → Prop} {p : OA} {n : Nat} {i : Int} {l : List (Int × Int)} {K : Addr → Prop} (h : ∀ w, C w → Cs w p (prs l)) {w0 : World} (hw : C w0) (hn : l.length = n) {k : Nat} (hk : i = (k : Int)) (h1 : k < n)
    (c : ∀ a : Addr, (∀ w, C w → w.cell? (a.add 0) = some (.int .i64 (l[k]'(by omega)).1)) → (∀ w, C w → w.cell? (a.add 1) = some (.int .i64 (l[k]'(by omega)).2)) → K a) : doIx p n 2 i K := by
  subst hk
  have hg := prs_get (l := l) (i := k) (by omega)
  obtain ⟨a, ha, _⟩ := h w0 hw _ _ hg.1
  refine ⟨a, ha, by omega, by omega, ?_⟩
  rw [Int.toNat_natCast]
  refine c _ (fun w hC => ?_) (fun w hC => ?_)
  · obtain ⟨a', ha', hc⟩ := h w hC _ _ hg.1
    rw [ha] at ha'; cases ha'
    rw [add_zero']; exact hc
  · obtain ⟨a', ha', hc⟩ := h w hC _ _ hg.2
    rw [ha] at ha'; cases ha'
    rw [add_add]; exact hc
theorem wrap_of {x : Int} (h1 : -9223372036854775808 ≤ x) (h2 : x < 9223372036854775808) : IntKind.wrap .i64 x = x := by
  simp only [IntKind.wrap, IntKind.signed, IntKind.bits]
  simp
  omega
theorem wrap_succ {k n : Nat} (h : k < n) (hn : n ≤ 9223372036854775807) : IntKind.wrap .i64 ((k : Int) + 1) = ((k + 1 : Nat) : Int) := by
  rw [wrap_of (by omega) (by omega)]; simp

structure ElT (P : Program) (t e : TypeId) (z : Value) (size bytes : Nat) : Prop where
  ht : P.underlying t = some (.slice e)
  hi : ∃ i, P.info? e = some i ∧ i.zero = some z ∧ i.size = size ∧ i.bytes = bytes
  hz : z.cells.size = size
  hs : 0 < size
theorem goV_append {P : Program} {t : TypeId} {bs : Array Bool} {v x v' : Value} {w w' : World} {R : EW}
    (hr : (Builtin.append_ #[t, t] t #[v, x]).run P w = .ok v' w') (h : R (.returned v') w') : doGo P (.builtin .append #[t, t] t bs) #[v, x] w R := by
  refine ⟨?_⟩
  unfold goV
  simp only [invoke, builtin, Sem.run_bind, hr, Result.andThen_ok, Sem.run_pure]
  exact h
theorem ints_one {l : List Int} : ∀ u ∈ ints l, u.oneCell' = true := fun u hu => by
  simp only [ints, List.mem_map] at hu
  obtain ⟨x, _, rfl⟩ := hu
  rfl
theorem cs_alloc (w : World) (cs : Array Value) (t : TypeId) : Cs (w.alloc (.cells cs t)) (some (blk w.heap.size)) cs.toList := fun i v hv => by
  refine ⟨_, rfl, ?_⟩
  rw [add_blk, cell_of_row _ w.heap.size i cs t (0, 0) (heap_alloc_new w _)]
  simpa using hv
theorem cell_alloc0 (w : World) (v : Value) (t : TypeId) : (w.alloc (.cells #[v] t)).cell? (blk w.heap.size) = some v := by
  obtain ⟨a, ha, hc⟩ := cs_alloc w #[v] t 0 v rfl
  cases ha
  rw [add_zero'] at hc
  exact hc
theorem frozen_alloc (w : World) (cs : Array Value) (t : TypeId) (i : Nat) : (w.alloc (.cells cs t)).frozen? ⟨w.heap.size, i, none⟩ = false :=
  frozen_of_row _ w.heap.size i cs t (heap_alloc_new w _)

theorem do_mu_new {P : Program} {t kt et : TypeId} {d : TypeDesc} (hm : P.underlying t = some (.map kt et)) (hd : P.underlying kt = some d) {b clock : Nat} {es : Array MapEntry} {k x : Value} {w : World}
    (hb : w.heap[b]? = some (.map es clock)) (hk : MapKept.IsKey d k) (hf : Instr.findNow d k es.toList 0 = some none) {K : World → Prop}
    (h : ∀ w', w'.heap[b]? = some (.map (es.push { key := k, val := x, born := clock }) (clock + 1)) → w.grownBy w' (some b) → K w') :
    doMu P t (.map (some b)) k x w K := by
  refine ⟨_, ?_, h { w with heap := w.heap.setIfInBounds b (.map (es.push { key := k, val := x, born := clock }) (clock + 1)) } (MapKept.heap_set hb).1
    ⟨rfl, rfl, rfl, by simp, fun k _ hk => (MapKept.heap_set hb).2 k (fun e => hk (by simp [e]))⟩⟩
  simp [Instr.mapUpdate, run_underlying hm, MapKept.run_getObj_map hb, MapKept.run_checkKey hd hk, MapKept.run_findKey hd hf, MapKept.run_setObj_map _ hb, Result.andThen]
theorem do_lk_hit {P : Program} {t kt et : TypeId} {d : TypeDesc} (hm : P.underlying t = some (.map kt et)) (hd : P.underlying kt = some d) {b clock : Nat} {es : Array MapEntry} {k : Value} {w : World}
    (hb : w.heap[b]? = some (.map es clock)) (hk : MapKept.IsKey d k) {i : Nat} {v : Value} (hf : Instr.findNow d k es.toList 0 = some (some (i, v))) {S : Value → Prop}
    (h : S (.tuple #[v, .bool true])) : doLk P t (.map (some b)) k true w S := by
  refine ⟨_, ?_, h⟩
  simp [Instr.lookup, run_underlying hm, MapKept.run_getObj_map hb, MapKept.run_checkKey hd hk, MapKept.run_findKey hd hf, Result.andThen]
theorem do_lk_miss {P : Program} {t kt et : TypeId} {d : TypeDesc} (hm : P.underlying t = some (.map kt et)) (hd : P.underlying kt = some d) {b clock : Nat} {es : Array MapEntry} {k z : Value} {w : World}
    (hb : w.heap[b]? = some (.map es clock)) (hk : MapKept.IsKey d k) (hf : Instr.findNow d k es.toList 0 = some none) (hz : (P.info? et).bind (·.zero) = some z) {S : Value → Prop}
    (h : S (.tuple #[z, .bool false])) : doLk P t (.map (some b)) k true w S := by
  refine ⟨_, ?_, h⟩
  have : (zeroValue et).run P w = .ok z w := by
    cases hi : P.info? et with
    | none => simp [hi] at hz
    | some i => simp [hi] at hz; simp [zeroValue, typeInfo, hi, hz, Result.andThen]
  simp [Instr.lookup, run_underlying hm, MapKept.run_getObj_map hb, MapKept.run_checkKey hd hk, MapKept.run_findKey hd hf, Result.andThen, this]

def Blk (w : World) (b : Nat) (cs : Array Value) (t : TypeId) : Prop := w.heap[b]? = some (.cells cs t (0, 0))
theorem blk_alloc (w : World) (cs : Array Value) (t : TypeId) : Blk (w.alloc (.cells cs t)) w.heap.size cs t := heap_alloc_new w _
theorem Blk.cell {w : World} {b : Nat} {cs : Array Value} {t : TypeId} (h : Blk w b cs t) {a : Addr} {i : Nat} {v : Value} (ha : a = ⟨b, i, none⟩) (hv : cs[i]? = some v) : w.cell? a = some v := by
  subst ha; rw [cell_of_row w b i cs t (0, 0) h]; exact hv
theorem Blk.frozen {w : World} {b : Nat} {cs : Array Value} {t : TypeId} (h : Blk w b cs t) {a : Addr} {i : Nat} (ha : a = ⟨b, i, none⟩) : w.frozen? a = false := by
  subst ha; exact frozen_of_row w b i cs t h
theorem Blk.lt {w : World} {b : Nat} {cs : Array Value} {t : TypeId} (h : Blk w b cs t) : b < w.heap.size := (Array.getElem?_eq_some_iff.1 h).1
theorem Blk.ext {w w' : World} {b : Nat} {cs : Array Value} {t : TypeId} (h : Blk w b cs t) (e : Ext w w') : Blk w' b cs t := e.heap h
theorem heap_grown {w w' : World} {row : Option Nat} (g : w.grownBy w' row) {b : Nat} {o : Obj} (h : w.heap[b]? = some o) (hne : some b ≠ row) : w'.heap[b]? = some o := by
  rw [g.block b (Array.getElem?_eq_some_iff.1 h).1 hne]; exact h
theorem Blk.grown {w w' : World} {row : Option Nat} {b : Nat} {cs : Array Value} {t : TypeId} (h : Blk w b cs t) (g : w.grownBy w' row) (hne : some b ≠ row) : Blk w' b cs t := heap_grown g h hne
theorem do_st {w : World} {b : Nat} {cs : Array Value} {t : TypeId} (h : Blk w b cs t) {a : Addr} {i : Nat} {v : Value} {K : World → Prop} (ha : a = ⟨b, i, none⟩) (hi : i < cs.size)
    (k : ∀ w', Blk w' b (cs.setIfInBounds i v) t → w.grownBy w' (some b) → K w') : doSt a v w K := by
  subst ha
  refine ⟨⟨_, by rw [cell_of_row w b i cs t (0, 0) h]; exact Array.getElem?_eq_getElem hi⟩, frozen_of_row w b i cs t h, k _ (heap_setCell_same w b i cs t v h) ?_⟩
  exact ⟨rfl, rfl, rfl, by simp, fun k _ hk => heap_setCell_other w ⟨b, i, none⟩ k v (fun e => hk (by simp [e]))⟩
theorem put_heap {w : World} {l : Nat} {o o' : Obj} (h : w.heap[l]? = some o) : (w.putObj l o').heap[l]? = some o' := World.putObj_heap_same (Array.getElem?_eq_some_iff.1 h).1
theorem put_grown (w : World) (l : Nat) (o : Obj) : w.grownBy (w.putObj l o) (some l) :=
  ⟨rfl, rfl, rfl, by simp [World.putObj], fun k _ hk => World.putObj_heap_other (fun e => hk (by simp [e]))⟩
theorem Ext.put {a b : World} (h : Ext a b) {l : Nat} (hl : a.heap.size ≤ l) (o : Obj) : Ext a (b.putObj l o) := h.grown (put_grown b l o) (by rintro _ ⟨⟩; exact hl)
theorem Ext.st {a w w' : World} {b : Nat} (h : Ext a w) (g : w.grownBy w' (some b)) (hb : a.heap.size ≤ b) : Ext a w' := h.grown g (by rintro _ ⟨⟩; exact hb)
theorem ne_some {a b : Nat} (h : a ≠ b) : some a ≠ some b := fun e => h (Option.some.inj e)

theorem do_call {P : Program} {k : Nat} {ars : Array Value} {w : World} {R : EW} (he : ∀ ars w, (callFunc k ars).run P w = .ok (.enter k ars) w) (h : Calls P k ars w R) :
    doCall P (.func (.func k) #[] #[]) ars w R := ⟨callV_func he (by simpa using h)⟩
theorem do_callc {P : Program} {k : Nat} {cap ars bs : Array Value} {w : World} {R : EW} (he : ∀ ars w, (callFunc k ars).run P w = .ok (.enter k ars) w) (hb : ars ++ cap = bs) (h : Calls P k bs w R) :
    doCall P (.func (.func k) #[] cap) ars w R := ⟨callV_func he (by subst hb; simpa using h)⟩
theorem ifB_t {b : Bool} {X Y : Prop} (hb : b = true) (h : X) : ifB b X Y := by subst hb; exact h
theorem ifB_f {b : Bool} {X Y : Prop} (hb : b = false) (h : Y) : ifB b X Y := by subst hb; exact h
theorem callE_c {P : Program} {f : FuncId} {first cap args bs : Array Value} {w : World} {R : EW} (he : ∀ ars w, (callFunc f ars).run P w = .ok (.enter f ars) w) (hb : first ++ args ++ cap = bs)
    (h : Calls P f bs w R) : callE P (.func (.func f) first cap) args w R := callE_func he (by subst hb; exact h)
theorem rec_back {r : Loop} (h1 : r.state = .ready) (h2 : r.pending = none) : ({ ({ r with state := .busy } : Loop) with state := .ready, pending := none } : Loop) = r := by
  cases r; simp only at h1 h2; subst h1; subst h2; rfl
theorem rf_done {l : Nat} {N R : World → Prop} {Xs : List (Nat × (World → Prop))} {v : Value} {w : World} {r : Loop} (hr : w.heap[l]? = some (.loop r)) (hs : r.state ≠ .busy) (hp : r.pending = none)
    (h : ∀ o, N (w.putObj l o)) : rfPost l N R Xs (.returned v) w := ⟨r, hr, hs, by rw [hp]; exact h _⟩
theorem retS_ret {S : Value → World → Prop} {Kp : List PanicEntry → World → Prop} {v : Value} {w : World} (h : S v w) : retS S Kp (.returned v) w := h
end Go.Sh

