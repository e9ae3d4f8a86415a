/-
  copy, clear, append on rows of one's own, cell by cell. No claim of its own.
-/
import Derived.Test.YtinkkhcffoikmaaLb
import Derived.Lib.AppendZerosOnto
import Derived.Lib.Overlaps
import Derived.Laws.CopyRow
namespace Go.Sh
open Go Go.RowKit

/-- cells laid over others, from a place on -/
def lay (L : List Value) (off : Nat) (cs : List Value) : List Value := L.take off ++ (cs ++ L.drop (off + cs.length))
theorem lay_nil (L : List Value) (off : Nat) : lay L off [] = L := by simp [lay]
theorem lay_length {L : List Value} {off : Nat} {cs : List Value} (h : off + cs.length ≤ L.length) : (lay L off cs).length = L.length := by simp [lay]; omega
theorem lay_mid {A Y Z X : List Value} {off : Nat} (ho : off = A.length) (hy : Y.length = X.length) : lay (A ++ (Y ++ Z)) off X = A ++ (X ++ Z) := by
  subst ho
  unfold lay
  rw [List.take_left, ← hy, List.drop_append, List.drop_of_length_le (Nat.le_add_right _ _), Nat.add_sub_cancel_left, List.drop_left, List.nil_append]
theorem setRow_grown (w : World) (g : Nat) (cs : Array Value) : w.grownBy (w.setRow g cs) (some g) :=
  ⟨rfl, rfl, rfl, by simp, fun k _ hk => setRow_other w g k cs (fun e => hk (by simp [e]))⟩
theorem grown_refl (w : World) (r : Option Nat) : w.grownBy w r := ⟨rfl, rfl, rfl, Nat.le_refl _, fun _ _ _ => rfl⟩
theorem grown_trans {a b c : World} {r : Option Nat} (g : a.grownBy b r) (k : b.grownBy c r) : a.grownBy c r :=
  ⟨k.os.trans g.os, k.tape.trans g.tape, k.output.trans g.output, Nat.le_trans g.size k.size, fun i hi hr => by rw [k.block i (Nat.lt_of_lt_of_le hi g.size) hr, g.block i hi hr]⟩
theorem grown_drew (w : World) (r : Option Nat) : w.grownBy w.drew r := ⟨rfl, rfl, rfl, Nat.le_refl _, fun _ _ _ => rfl⟩
theorem goV_copy {P : Program} {t s ty : TypeId} {bs : Array Bool} {v x v' : Value} {w w' : World} {R : Ending → World → Prop}
    (hr : (Builtin.copy_ #[t, s] ty #[v, x]).run P w = .ok v' w') (h : R (.returned v') w') : doGo P (.builtin .copy #[t, s] ty bs) #[v, x] w R := by
  refine ⟨?_⟩
  unfold goV
  simp only [invoke, builtin, Sem.run_bind, hr, Result.andThen_ok, Sem.run_pure]
  exact h
theorem goV_append2 {P : Program} {t s ty : TypeId} {bs : Array Bool} {v x v' : Value} {w w' : World} {R : Ending → World → Prop}
    (hr : (Builtin.append_ #[t, s] ty #[v, x]).run P w = .ok v' w') (h : R (.returned v') w') : doGo P (.builtin .append #[t, s] ty bs) #[v, x] w R := by
  refine ⟨?_⟩
  unfold goV
  simp only [invoke, builtin, Sem.run_bind, hr, Result.andThen_ok, Sem.run_pure]
  exact h
/-- copy, of which the target is a row of one's own -/
theorem do_copy {P : Program} {t e : TypeId} {z : Value} {size bytes : Nat} (E : ElT P t e z size bytes) {g off dl dc sl sc : Nat} {p : Option Addr} {cur : List Value} {w : World} (hg : Blk w g cur.toArray e)
    (hp : 0 < min sl dl → p = some ⟨g, off, none⟩) {q : Option Addr} {cs : List Value} (hn : cs.length = min sl dl * size) (hs : Cs w q cs) (hfit : off + cs.length ≤ cur.length) (h1 : ∀ u ∈ cs, u.oneCell' = true)
    {ty : TypeId} {bs : Array Bool} {R : Ending → World → Prop} (h : ∀ w', Blk w' g (lay cur off cs).toArray e → w.grownBy w' (some g) → R (.returned (.int .i64 (min sl dl : Nat))) w') :
    doGo P (.builtin .copy #[t, t] ty bs) #[.slice p dl dc, .slice q sl sc] w R := by
  obtain ⟨i, hi, hz, hsz, hby⟩ := E.hi
  by_cases h0 : 0 < min sl dl
  · have hlt : 0 < cs.length := by rw [hn]; exact Nat.mul_pos h0 E.hs
    obtain ⟨a, ha, _⟩ := hs 0 _ (List.getElem?_eq_getElem hlt)
    have hp' := hp h0
    subst ha hp'
    have hf := run_firstCells_some (P := P) w size (min sl dl) a sl sc cs hn (fun j u hu => by obtain ⟨b, hb, hc⟩ := hs j u hu; cases hb; exact hc)
    have hst := run_storeCells_at P g off e cs 0 cur.toArray w hg (by simpa using hfit) h1
    simp only [Nat.add_zero, List.append_assoc] at hst
    refine goV_copy (w' := w.setRow g (lay cur off cs).toArray) (v' := .int .i64 (min sl dl : Nat)) ?_ (h _ (setRow_heap w g _ _ e _ hg) (setRow_grown w g _))
    have hmin : Nat.min sl dl = min sl dl := rfl
    simp [Builtin.copy_, run_underlying E.ht, Builtin.lenOf, sizeOf, typeInfo, hi, hsz, hmin, hf, hst, lay, goInt]
  · have h0 : min sl dl = 0 := by omega
    have hcs : cs = [] := List.eq_nil_of_length_eq_zero (by rw [hn, h0]; simp)
    subst hcs
    have hl : ∀ (x : Addr), (loadCells x 0).run P w = .ok #[] w := fun x => by simpa using run_loadCells_list (P := P) w x [] (by simp)
    have hmin : Nat.min sl dl = 0 := h0
    refine goV_copy (w' := w) (v' := .int .i64 (min sl dl : Nat)) ?_ (h _ (by rw [lay_nil]; exact hg) (grown_refl w _))
    cases p <;> cases q <;> simp [Builtin.copy_, run_underlying E.ht, Builtin.lenOf, Builtin.firstCells, sizeOf, typeInfo, hi, hmin, storeCells, hl, goInt]
/-- append to the first n elements of a row of one's own, where there is room -/
theorem do_append_room {P : Program} {t e : TypeId} {z : Value} {size bytes : Nat} (E : ElT P t e z size bytes) {g n m c c' : Nat} {cur : List Value} {w : World} (hg : Blk w g cur.toArray e)
    {q : Option Addr} {cs : List Value} (hn : cs.length = m * size) (hs : Cs w q cs) (hroom : n + m ≤ c) (hfit : n * size + cs.length ≤ cur.length) (h1 : ∀ u ∈ cs, u.oneCell' = true) (hnil : q = none → m = 0)
    {bs : Array Bool} {R : Ending → World → Prop} (h : ∀ w', Blk w' g (lay cur (n * size) cs).toArray e → w.grownBy w' (some g) → R (.returned (.slice (some ⟨g, 0, none⟩) (n + m) c)) w') :
    doGo P (.builtin .append #[t, t] t bs) #[.slice (some ⟨g, 0, none⟩) n c, .slice q m c'] w R := by
  obtain ⟨i, hi, hz, hsz, hby⟩ := E.hi
  cases q with
  | none =>
    have hm := hnil rfl
    subst hm
    have hcs : cs = [] := List.eq_nil_of_length_eq_zero (by rw [hn]; simp)
    subst hcs
    refine goV_append (v' := .slice (some ⟨g, 0, none⟩) n c) (w' := w) ?_ (h w (by rw [lay_nil]; exact hg) (grown_refl w _))
    simp [Builtin.append_, run_underlying E.ht, sizeOf, typeInfo, hi, Builtin.lenOf, Builtin.firstCells, show n ≤ c by omega, storeCells]
  | some a =>
    have hr := run_append_room (P := P) w t t e i E.ht hi g n c cur.toArray hg a m c' cs (by rw [hsz]; exact hn) (fun j u hu => by obtain ⟨b, hb, hc⟩ := hs j u hu; cases hb; exact hc) h1 hroom (by rw [hsz]; simpa using hfit)
    rw [hsz] at hr
    simp only [List.append_assoc] at hr
    exact goV_append hr (h _ (setRow_heap w g _ _ e _ hg) (setRow_grown w g _))
/-- append of so many zeros, where there is no room -/
theorem do_append_zeros {P : Program} {t ti e : TypeId} {z : Value} {size bytes : Nat} (E : ElT P t e z size bytes) {ki : IntKind} (hti : P.underlying ti = some (.int ki)) {n m c : Nat} {w : World}
    {q : Option Addr} {cs : List Value} (hn : cs.length = n * size) (hs : Cs w q cs) (hgrow : c < n + m) (hm : 0 < m) (hb : (n + m) * bytes ≤ 140737488355328) (h63 : n + m ≤ maxLen)
    {bs : Array Bool} {R : Ending → World → Prop} (h : ∀ (b c' : Nat) (Q : List Value) w', b = w.heap.size → n + m ≤ c' → c' ≤ maxLen → Q.length = (c' - n) * size → Blk w' b (cs ++ Q).toArray e → Ext w w' → R (.returned (.slice (some ⟨b, 0, none⟩) (n + m) c')) w') :
    doGo P (.builtin .append #[t, ti] t bs) #[.slice q n c, .int .i64 (m : Int)] w R := by
  obtain ⟨i, hi, hz, hsz, hby⟩ := E.hi
  have hsm : n + m ≤ 9223372036854775807 := by simp only [maxLen] at h63; omega
  have hold : (Builtin.firstCells i.size n (.slice q n c)).run P w.drew = .ok cs.toArray w.drew := by
    cases q with
    | none =>
      have hcs : cs = [] := by
        cases cs with
        | nil => rfl
        | cons x xs => obtain ⟨a, ha, _⟩ := hs 0 x rfl; cases ha
      subst hcs
      exact run_firstCells_none (P := P) w.drew _ _ _ _
    | some a => exact run_firstCells_some (P := P) w.drew i.size n a n c cs (by rw [hsz]; exact hn) (fun j u hu => by obtain ⟨b, hb', hc⟩ := hs j u hu; cases hb'; exact hc)
  have hbm : m * bytes ≤ (n + m) * bytes := Nat.mul_le_mul_right _ (by omega)
  have hr := Lib.run_append_grow_zeros (P := P) w t ti t e i z .i64 ki E.ht hti hi hz q n c cs hold m hm (by rw [hsz]; exact E.hs) hgrow (by omega) (by rw [hby]; omega) (growslice_fits (by omega) (by rw [hby]; exact hb))
  have hge := grownCap_ge w (n + m) c e
  have hcm := grownCap_le_maxLen w (n + m) c e h63
  refine goV_append2 hr (h w.heap.size (grownCap w (n + m) c e) ((Builtin.zeroCells z.cells m).toList ++ (Builtin.zeroCells z.cells (grownCap w (n + m) c e - (n + m))).toList) _ rfl hge hcm ?_ ?_ ?_)
  · simp only [List.length_append, Array.length_toList, size_zeroCells, E.hz]
    rw [← Nat.add_mul]; congr 1; omega
  · unfold Blk
    rw [show (cs ++ ((Builtin.zeroCells z.cells m).toList ++ (Builtin.zeroCells z.cells (grownCap w (n + m) c e - (n + m))).toList)).toArray = cs.toArray ++ Builtin.zeroCells z.cells m ++ Builtin.zeroCells z.cells (grownCap w (n + m) c e - (n + m)) by simp]
    exact heap_alloc_new w.drew _
  · exact (ext_drew w).alloc _
/-- clear of a part of a row of one's own -/
theorem do_clear {P : Program} {t e : TypeId} {z : Value} {size bytes : Nat} (E : ElT P t e z size bytes) (h1 : ∀ u ∈ z.cells.toList, u.oneCell' = true) {g off n c : Nat} {p : Option Addr} {cur : List Value} {w : World} (hg : Blk w g cur.toArray e)
    (hp : p = some ⟨g, off, none⟩) (hfit : off + n * size ≤ cur.length) {bs : Array Bool} {ty : TypeId} {R : Ending → World → Prop}
    (h : ∀ Q w', Q.length = n * size → Blk w' g (lay cur off Q).toArray e → w.grownBy w' (some g) → R (.returned (.tuple #[])) w') :
    doGo P (.builtin .clear #[t] ty bs) #[.slice p n c] w R := by
  obtain ⟨i, hi, hz, hsz, hby⟩ := E.hi
  subst hp
  have hq : (Builtin.zeroCells z.cells n).toList.length = n * size := by rw [Array.length_toList, size_zeroCells, E.hz]
  refine ⟨?_⟩
  unfold goV
  have hR := fun w' => h (Builtin.zeroCells z.cells n).toList w' hq
  cases n with
  | zero =>
    have hr : (Builtin.clear_ #[t] ty #[.slice (some ⟨g, off, none⟩) 0 c]).run P w = .ok (.tuple #[]) w := by
      simp [Builtin.clear_, run_underlying E.ht]
    simp only [invoke, builtin, Sem.run_bind, hr, Result.andThen_ok, Sem.run_pure]
    refine hR w ?_ (grown_refl w _)
    rw [show (Builtin.zeroCells z.cells 0).toList = [] from List.eq_nil_of_length_eq_zero (by rw [hq]; simp), lay_nil]
    exact hg
  | succ n =>
    have hst := run_storeCells_at P g off e (Builtin.zeroCells z.cells (n + 1)).toList 0 cur.toArray w hg (by rw [hq]; simpa using hfit) (fun u hu => by
      simp only [Builtin.zeroCells, Array.toList_map, List.mem_map] at hu
      obtain ⟨j, _, rfl⟩ := hu
      have hlt : j % z.cells.size < z.cells.size := Nat.mod_lt _ (by rw [E.hz]; exact E.hs)
      rw [getElem!_pos z.cells _ hlt]
      exact h1 _ (by simp))
    simp only [Nat.add_zero, List.append_assoc] at hst
    have hzv : ∀ w, (zeroValue e).run P w = .ok z w := fun w => by simp [zeroValue, typeInfo, hi, hz, Result.andThen]
    have hr : (Builtin.clear_ #[t] ty #[.slice (some ⟨g, off, none⟩) (n + 1) c]).run P w = .ok (.tuple #[]) (w.setRow g (lay cur off (Builtin.zeroCells z.cells (n + 1)).toList).toArray) := by
      simp [Builtin.clear_, run_underlying E.ht, hzv, hst, lay]
    simp only [invoke, builtin, Sem.run_bind, hr, Result.andThen_ok, Sem.run_pure]
    exact hR _ (setRow_heap w g _ _ e _ hg) (setRow_grown w g _)
theorem do_cap {P : Program} {t e ty : TypeId} (ht : P.underlying t = some (.slice e)) {p : Option Addr} {n c : Nat} {w : World} {bs : Array Bool} {R : Ending → World → Prop} (h : R (.returned (.int .i64 (c : Int))) w) :
    doGo P (.builtin .cap #[t] ty bs) #[.slice p n c] w R := by
  refine ⟨?_⟩
  unfold goV
  have hr : (Builtin.cap_ #[t] ty #[.slice p n c]).run P w = .ok (.int .i64 (c : Int)) w := by simp [Builtin.cap_, run_underlying ht, goInt]
  simp only [invoke, builtin, Sem.run_bind, hr, Result.andThen_ok, Sem.run_pure]
  exact h
/-- slices.overlaps of two blocks -/
theorem do_overlaps {P : Program} {k : Nat} {fn : Func} (hf : P.funcs[k]? = some fn) (hname : (fn.name == "runtime.NumGoroutine") = false) (hb : fn.body.isNone = true) (hn : Extern.findNext fn = none) {t tr e : TypeId}
    (he : Extern.find fn = some (Extern.SlicesOverlaps.overlaps #[t, t] #[tr])) {z : Value} {size bytes : Nat} (E : ElT P t e z size bytes) {b g off la ca lb cb : Nat} {w : World} {cs cur : Array Value} {tA tB : TypeId} (hA : Blk w b cs tA) (hB : Blk w g cur tB) (hne : b ≠ g) (hsz : cur.size ≠ 0)
    {R : Ending → World → Prop} (h : R (.returned (.bool false)) w) : doCall P (.func (.func k) #[] #[]) #[.slice (some (blk b)) la ca, .slice (some ⟨g, off, none⟩) lb cb] w R := by
  obtain ⟨i, hi, hz, hsize, _⟩ := E.hi
  refine ⟨?_⟩
  have hr : (invoke (.fn (.func k) #[]) (#[] ++ #[.slice (some (blk b)) la ca, .slice (some ⟨g, off, none⟩) lb cb])).run P w = .ok (.value (.bool false)) w := by
    simp only [invoke]
    rw [run_callFunc_extern hf hname hb hn he]
    have := Lib.run_overlaps_apart (P := P) w t tr e E.ht size (fun w => by simp [sizeOf, typeInfo, hi, hsize, Result.andThen]) (blk b) ⟨g, off, none⟩ la ca lb cb hne tA tB cs.size cur.size
      (by unfold World.shape?; rw [show w.heap[(blk b).block]? = _ from hA]) (by unfold World.shape?; rw [show w.heap[(⟨g, off, none⟩ : Addr).block]? = _ from hB]) hsz (hA.frozen (i := 0) rfl) (hA.frozen rfl)
    simp only [Array.empty_append, Array.append_empty] at *
    rw [this]; rfl
  show goV P _ _ w R
  unfold goV
  rw [hr]
  exact h
/-- append of any slice to a row of one's own -/
theorem do_app {P : Program} {t e : TypeId} {z : Value} {size bytes : Nat} (E : ElT P t e z size bytes) {base : Nat} {v : Value} {n : Nat} {xs : List Value} {w : World}
    (hown : w.ownsRow base e size v n xs) {q : Option Addr} {m c : Nat} {news : List Value} (hnews : Cs w q news) (hl : news.length = m * size) (h1 : ∀ u ∈ news, u.oneCell' = true)
    (h63 : n + m ≤ maxLen) (hbytes : (n + m) * bytes ≤ 140737488355328) (hbase : base ≤ w.heap.size) {bs : Array Bool} {R : Ending → World → Prop}
    (h : ∀ p c w', w'.ownsRow base e size (.slice p (n + m) c) (n + m) (xs ++ news) → w.grownBy w' v.ownBlock → R (.returned (.slice p (n + m) c)) w') :
    doGo P (.builtin .append #[t, t] t bs) #[v, .slice q m c] w R := by
  cases q with
  | some a => exact do_append E hown hnews hl h1 h63 hbytes hbase h
  | none =>
    have hcs : news = [] := by
      cases news with
      | nil => rfl
      | cons x xs => obtain ⟨a, ha, _⟩ := hnews 0 x rfl; cases ha
    subst hcs
    have hm : m = 0 := by
      simp only [List.length_nil] at hl
      rcases Nat.eq_zero_or_pos m with h0 | h0
      · exact h0
      · have := Nat.mul_pos h0 E.hs; omega
    subst hm
    obtain ⟨i, hi, _, _, _⟩ := E.hi
    obtain ⟨p, c', rfl⟩ := row_slice hown
    have hr := h p c' w
    simp only [Nat.add_zero, List.append_nil] at hr
    refine goV_append (v' := .slice p n c') (w' := w) ?_ (hr hown (grown_refl w _))
    have hnc := row_cap hown
    cases p <;> simp [Builtin.append_, run_underlying E.ht, sizeOf, typeInfo, hi, Builtin.lenOf, Builtin.firstCells, hnc, storeCells]
/-! ### Slices of structs -/
theorem flat_get {α : Type} {ec : α → List Value} {s : Nat} (hs : ∀ x, (ec x).length = s) {l : List α} {k j : Nat} (hk : k < l.length) (hj : j < s) : (l.flatMap ec)[k * s + j]? = (ec l[k])[j]? := by
  induction l generalizing k with
  | nil => simp at hk
  | cons x xs ih =>
    rw [List.flatMap_cons]
    cases k with
    | zero => rw [Nat.zero_mul, Nat.zero_add, List.getElem?_append_left (by rw [hs]; exact hj)]; rfl
    | succ k =>
      rw [List.getElem?_append_right (by rw [hs, Nat.add_mul]; omega), hs, show (k + 1) * s + j - s = k * s + j by rw [Nat.add_mul]; omega]
      exact ih (by simpa using hk)
theorem flat_length {α : Type} {ec : α → List Value} {s : Nat} (hs : ∀ x, (ec x).length = s) (l : List α) : (l.flatMap ec).length = l.length * s := by
  induction l with
  | nil => simp
  | cons x xs ih => rw [List.flatMap_cons, List.length_append, hs, ih, List.length_cons, Nat.add_mul]; omega
/-- An element of a slice of structs. -/
theorem ix_flat {α : Type} {ec : α → List Value} {s : Nat} (hs : ∀ x, (ec x).length = s) (h0 : 0 < s) {w : World} {p : Option Addr} {n : Nat} {i : Int} {l : List α} {K : Addr → Prop} (h : Cs w p (l.flatMap ec)) (hn : l.length = n) {k : Nat} (hk : i = (k : Int)) (h1 : k < n)
    (c : ∀ a : Addr, (∀ j v, (ec (l[k]'(by omega)))[j]? = some v → w.cell? (a.add j) = some v) → (∃ b, p = some b ∧ a = b.add (k * s)) → K a) : doIx p n s i K := by
  subst hk
  have hg : ∀ j v, (ec (l[k]'(by omega)))[j]? = some v → ∃ a, p = some a ∧ w.cell? (a.add (k * s + j)) = some v := fun j v hv => by
    have hj : j < s := by have := (List.getElem?_eq_some_iff.1 hv).1; rw [hs] at this; exact this
    exact h _ _ (by rw [flat_get hs (by omega) hj]; exact hv)
  obtain ⟨a, ha, _⟩ := hg 0 _ (List.getElem?_eq_getElem (by rw [hs]; exact h0))
  refine ⟨a, ha, by omega, by omega, ?_⟩
  rw [Int.toNat_natCast]
  refine c _ (fun j v hv => ?_) ⟨a, ha, rfl⟩
  obtain ⟨a', ha', hc⟩ := hg j v hv
  rw [ha] at ha'; cases ha'
  rw [add_add]; exact hc
/-- An element of a slice of structs, the same in all worlds of a class. -/
theorem ix_flatC {α : Type} {ec : α → List Value} {s : Nat} (hs : ∀ x, (ec x).length = s) (h0 : 0 < s) {C : World → Prop} {p : Option Addr} {n : Nat} {i : Int} {l : List α} {K : Addr → Prop} (h : ∀ w, C w → Cs w p (l.flatMap ec)) {w0 : World} (hw : C w0) (hn : l.length = n) {k : Nat} (hk : i = (k : Int)) (h1 : k < n)
    (c : ∀ a : Addr, (∀ w, C w → ∀ j v, (ec (l[k]'(by omega)))[j]? = some v → w.cell? (a.add j) = some v) → K a) : doIx p n s i K := by
  refine ix_flat hs h0 (h w0 hw) hn hk h1 fun a _ ⟨b, hb, hab⟩ => c a fun w hC j v hv => ?_
  have hj : j < s := by have := (List.getElem?_eq_some_iff.1 hv).1; rw [hs] at this; exact this
  obtain ⟨a', ha', hc⟩ := h w hC (k * s + j) v (by rw [flat_get hs (by omega) hj]; exact hv)
  rw [hb] at ha'; cases ha'
  rw [hab, add_add]; exact hc
end Go.Sh
