/-
  edit: an item put in, or taken out; the document's answers of layer 26.
-/
import Derived.Test.YthgckfeocalbdaaGreatLaw24
namespace Go.Proofs.YthgckfeocalbdaaGreat
open Go Go.Sh Go.RowKit

/-- append of any row to a row of one's own -/
theorem do_appL {q : Option Addr} {n c base : Nat} {r : List It} {w : World} (hrow : OwnI w base q n c r) {q2 : Option Addr} {m c2 : Nat} {s : List It} (hs : Cs w q2 (its s)) (hm : s.length = m) (hb : n + m ≤ 1000000000000) (hbase : base ≤ w.heap.size)
    {bs : Array Bool} {R : Ending → World → Prop}
    (h : ∀ p c' w', OwnI w' base p (n + m) c' (r ++ s) → (∀ w0, Ext w0 w → w0.heap.size ≤ base → Ext w0 w') → R (.returned (.slice p (n + m) c')) w') :
    doGo Tryz.prog (.builtin .append #[37, 37] 37 bs) #[.slice q n c, .slice q2 m c2] w R :=
  do_app elIt hrow hs (by rw [its_length]; omega) its_one (by simp only [maxLen]; omega) (by omega) hbase fun p c' w' h2 g2 => h p c' w' (by show w'.ownsRow _ _ _ _ _ (its _); rw [its_append]; exact h2) fun w0 e0 hb0 => extI_own hrow e0 g2 hb0
theorem ownI_at {w w' : World} {b base n c : Nat} {p : Option Addr} {l : List It} (h : OwnI w base p n c l) (g : Gs b w w') (hb : b < base) : OwnI w' base p n c l := by
  refine World.ownsRow.kept h g ?_
  cases hq : (Value.slice p n c).ownBlock with
  | none => exact .inl rfl
  | some k =>
    have := (World.ownsRow.lt h k hq).1
    exact .inr fun e => by injection e with e; omega
/-- what an edit makes of a tree -/
def editC (c o key : Int) (y : It × Bool) (t : Tr) : Tr := if y.2 = true then joinC c (splitC c o key t).1 y.1 (splitC c o key t).2.2 else join2C c (splitC c o key t).1 (splitC c o key t).2.2
def editL (o key : Int) (y : It × Bool) (l : List It) : List It := ltF o key l ++ (cond y.2 [y.1] []) ++ gtF o key l
theorem editC_ok {c o key : Int} {y : It × Bool} {t : Tr} (ok : OkP c t) (ha : asc o (itsC c t)) : OkM c (editC c o key y t) ∧ itsC c (editC c o key y t) = (editL o key y (itsC c t)).map (itC c) := by
  have S := splitC_ok (key := key) ok ha
  have j := joinC_ok S.okl.1 S.okr.1 y.1
  have k := join2C_ok S.okl.1 S.okr.1
  have f1 := filt_fix (c := c) (t := t) fun x => decide (cmpI o x.1 key < 0)
  have f2 := filt_fix (c := c) (t := t) fun x => decide (0 < cmpI o x.1 key)
  have f1 : (ltF o key (itsC c t)).map (itC c) = ltF o key (itsC c t) := f1
  have f2 : (gtF o key (itsC c t)).map (itC c) = gtF o key (itsC c t) := f2
  unfold editC editL
  rw [List.map_append, List.map_append, f1, f2]
  cases hy : y.2 with
  | true =>
    rw [if_pos rfl]
    refine ⟨j.1, ?_⟩
    rw [j.2, S.lt, S.gt]
    simp
  | false =>
    rw [if_neg (by decide)]
    refine ⟨k.1, ?_⟩
    rw [k.2, S.lt, S.gt]
    simp
abbrev addI (y : It × Bool) : Value := .tuple #[agI y.1, .bool y.2]
set_option maxRecDepth 20000 in
theorem c_edat {c o key : Int} {b : Nat} (ho : isO o = true) (hk : In key) {t : Tr} {p : Option Addr} {f : Fn} {xs cs : Array Value} (by_ : It → Bool → It × Bool) {w : World} {R : Ending → World → Prop} (hs : IsSch c b w) (ht : IsN w p t) (ok : OkP c t) (hkt : InK t) (hB : t.size + 8 ≤ BIG)
    (hby : ∀ x is w1 (K : Ending → World → Prop), Gs b w w1 → (∀ w2, Ext w1 w2 → K (.returned (addI (by_ x is))) w2) → doCall Tryz.prog (.func f xs cs) #[agI x, .bool is] w1 K)
    (h : ∀ q w', Gs b w w' → IsSch c b w' → IsN w' q (editC c o key (by_ (itO (splitC c o key t).2.1) (splitC c o key t).2.1.isSome) t) →
      R (.returned (.tuple #[.pointer q, .int .i64 (itO (splitC c o key t).2.1).2.1, .bool (splitC c o key t).2.1.isSome, .int .i64 0])) w') :
    Calls Tryz.prog 72 #[.pointer (some (blk b)), .int .u8 o, .pointer p, .int .i64 key, .func f xs cs] w R := by
  refine sh72_ok _ _ _ _ _ _ _ ?_
  unfold sh72
  have sp := splitC_p (o := o) (key := key) ok
  refine do_call Tryz.call16 (c_split ho hk hs ht ok hkt (by omega) fun ql qr w1 g1 hs1 hl1 hr1 => retS_ret ⟨_, _, _, _, _, _, _, rfl, ⟨?_⟩⟩)
  have hlt := hs1.lt
  refine do_st3 (blk_alloc w1 _ _) fun w3 hx3 g3 => ?_
  have e3 : Ext w1 w3 := (ext_alloc w1 _).st g3 (Nat.le_refl _)
  have G3 : Gs b w w3 := g1.trans (gs_of e3)
  refine ⟨_, hx3.cell (i := 0) (add_blk _ _) rfl, _, hx3.cell (i := 1) (add_blk _ _) rfl, _, hx3.cell (i := 2) (add_blk _ _) rfl, ?_⟩
  refine hby _ _ w3 _ G3 fun w4 e4 => retS_ret ⟨_, _, _, _, rfl, ⟨?_⟩⟩
  refine do_st3 (blk_alloc w4 _ _) fun w5 hy5 g5 => ?_
  have e5 : Ext w4 w5 := (ext_alloc w4 _).st g5 (Nat.le_refl _)
  have e35 := e4.trans e5
  have e15 := e3.trans e35
  have hx5 := hx3.ext e35
  have d := ext_drew w5
  have e15' := e15.trans d
  have G5 : Gs b w w5.drew := g1.trans (gs_of e15')
  have hs5 := hs1.ext e15'
  have n3 : w1.heap.size ≠ b := by omega
  have n4 : w4.heap.size ≠ b := by have := e3.size; have := e4.size; omega
  unfold editC at h
  refine ifB_f rfl ?_
  cases hq : (by_ (itO (splitC c o key t).2.1) (splitC c o key t).2.1.isSome).2 with
  | false =>
    rw [hq] at h
    refine ifB_t rfl ⟨⟨fun w' => Blk w' w1.heap.size _ _, hx5.ext d, _, fun w' e => e.cell (i := 1) (add_blk _ _) rfl, ?_⟩⟩
    exact do_call Tryz.call61 (c_join2 hs5 (hl1.ext e15') (hr1.ext e15') sp.1.1 sp.2.1.1 (by omega) fun q6 w6 g6 hs6 h6 => retS_ret ⟨_, rfl, (hx5.ext d).gs g6 n3, h _ _ (G5.trans g6) hs6 h6⟩)
  | true =>
    rw [hq] at h
    refine ifB_f rfl ⟨⟨fun w' => Blk w' w1.heap.size _ _ ∧ Blk w' w4.heap.size _ _, ⟨hx5.ext d, hy5.ext d⟩, _, fun w' e => e.2.cell (i := 0) (add_blk _ _) rfl, _, fun w' e => e.2.cell (i := 1) (add_blk _ _) rfl, _, fun w' e => e.2.cell (i := 2) (add_blk _ _) rfl, _, fun w' e => e.1.cell (i := 1) (add_blk _ _) rfl, ?_⟩⟩
    exact do_call Tryz.call51 (c_sjoin hs5 (hl1.ext e15') (hr1.ext e15') sp.1.1 sp.2.1.1 (by omega) fun q6 w6 g6 hs6 h6 => retS_ret ⟨_, rfl, ⟨(hx5.ext d).gs g6 n3, (hy5.ext d).gs g6 n4⟩, h _ _ (G5.trans g6) hs6 h6⟩)
set_option maxRecDepth 20000 in
theorem c_edat_no {o key : Int} (hk : In key) {sp p : Option Addr} {f : Fn} {xs cs : Array Value} (by_ : It → Bool → It × Bool) {w : World} {R : Ending → World → Prop} (hno : sp = none ∨ isO o = false)
    (hby : ∀ x is w1 (K : Ending → World → Prop), Ext w w1 → (∀ w2, Ext w1 w2 → K (.returned (addI (by_ x is))) w2) → doCall Tryz.prog (.func f xs cs) #[agI x, .bool is] w1 K)
    (h : ∀ w', Ext w w' → R (.returned (.tuple #[.pointer none, .int .i64 0, .bool false, .int .i64 2])) w') :
    Calls Tryz.prog 72 #[.pointer sp, .int .u8 o, .pointer p, .int .i64 key, .func f xs cs] w R := by
  refine sh72_ok _ _ _ _ _ _ _ ?_
  unfold sh72
  refine do_call Tryz.call16 (c_split_no hk hno fun w1 e1 => retS_ret ⟨_, _, _, _, _, _, _, rfl, ⟨?_⟩⟩)
  refine do_st3 (blk_alloc w1 _ _) fun w3 hx3 g3 => ?_
  have e3 : Ext w1 w3 := (ext_alloc w1 _).st g3 (Nat.le_refl _)
  refine ⟨_, hx3.cell (i := 0) (add_blk _ _) rfl, _, hx3.cell (i := 1) (add_blk _ _) rfl, _, hx3.cell (i := 2) (add_blk _ _) rfl, ?_⟩
  refine hby (0, 0, 0) false w3 _ (e1.trans e3) fun w4 e4 => retS_ret ⟨_, _, _, _, rfl, ⟨?_⟩⟩
  refine do_st3 (blk_alloc w4 _ _) fun w5 hy5 g5 => ?_
  have e5 : Ext w4 w5 := (ext_alloc w4 _).st g5 (Nat.le_refl _)
  exact ifB_t rfl (h _ (((e1.trans e3).trans e4).trans e5))
/-! ### what the three do with an item -/
def insI (p : Int) (x y : It) (is : Bool) : It × Bool := (cond is (y.1, comb p y.2.1 x.2.1, y.2.2) x, true)
def delI (x : It) (_ : Bool) : It × Bool := (x, false)
def setI (v : Int) (x : It) (is : Bool) : It × Bool := ((x.1, v, x.2.2), is)
theorem do_insI {p : Int} (hp : may p = true) {x y : It} {is : Bool} {bx bp : Nat} {w : World} {R : Ending → World → Prop} (hx : Blk w bx #[.int .i64 x.1, .int .i64 x.2.1, .int .u64 x.2.2] 33) (hbp : Blk w bp #[.int .u8 p] 5)
    (h : ∀ w', Ext w w' → R (.returned (addI (insI p x y is))) w') : doCall Tryz.prog (.func (.func 73) #[] #[.pointer (some (blk bx)), .pointer (some (blk bp))]) #[agI y, .bool is] w R := by
  refine do_callc Tryz.call73 (by rfl) (sh73_ok _ _ _ _ _ _ ?_)
  unfold sh73
  refine ⟨⟨?_⟩⟩
  have e0 := ext_alloc w (.cells #[.int .i64 y.1, .int .i64 y.2.1, .int .u64 y.2.2] 33)
  have hy := blk_alloc w #[.int .i64 y.1, .int .i64 y.2.1, .int .u64 y.2.2] 33
  generalize hb7 : w.heap.size = b7 at *
  generalize w.alloc (.cells #[.int .i64 y.1, .int .i64 y.2.1, .int .u64 y.2.2] 33) = w1 at *
  have e1 := ext_alloc w1 (.cells #[.int .i64 0, .int .i64 0, .int .u64 0] 33)
  have hz := blk_alloc w1 #[.int .i64 0, .int .i64 0, .int .u64 0] 33
  have h78 : b7 < w1.heap.size := hy.lt
  generalize hb9 : w1.heap.size = b9 at *
  generalize w1.alloc (.cells #[.int .i64 0, .int .i64 0, .int .u64 0] 33) = w2 at *
  have E2 := e0.trans e1
  have hx2 := hx.ext E2
  cases is with
  | false =>
    refine ifB_t rfl ⟨_, hx2.cell (i := 0) (add_blk _ _) rfl, _, hx2.cell (i := 1) (add_blk _ _) rfl, _, hx2.cell (i := 2) (add_blk _ _) rfl, ?_⟩
    refine do_st3 hz fun w3 h3 g3 => ?_
    exact ⟨_, h3.cell (i := 0) (add_blk _ _) rfl, _, h3.cell (i := 1) (add_blk _ _) rfl, _, h3.cell (i := 2) (add_blk _ _) rfl, h _ (E2.st g3 (by omega))⟩
  | true =>
    refine ifB_f rfl ⟨_, (hbp.ext E2).cell (i := 0) rfl rfl, _, (hy.ext e1).cell (i := 1) (add_blk _ _) rfl, _, hx2.cell (i := 1) (add_blk _ _) rfl, ?_⟩
    refine do_call Tryz.call74 (c_comb fun w3 e3 => retS_ret ⟨_, _, rfl, ?_⟩)
    rw [hp]
    refine do_st ((hy.ext e1).ext e3) (i := 1) (by rw [add_zero']; exact add_blk _ _) (by simp) fun w4 h4 g4 => ?_
    have h4 : Blk w4 b7 #[.int .i64 y.1, .int .i64 (comb p y.2.1 x.2.1), .int .u64 y.2.2] 33 := h4
    refine ⟨_, h4.cell (i := 0) (add_blk _ _) rfl, _, h4.cell (i := 1) (add_blk _ _) rfl, _, h4.cell (i := 2) (add_blk _ _) rfl, ?_⟩
    refine do_st3 ((hz.ext e3).grown g4 (ne_some (by omega))) fun w5 h5 g5 => ?_
    exact ⟨_, h5.cell (i := 0) (add_blk _ _) rfl, _, h5.cell (i := 1) (add_blk _ _) rfl, _, h5.cell (i := 2) (add_blk _ _) rfl, h _ (((E2.trans e3).st g4 (by omega)).st g5 (by omega))⟩
theorem do_delI {y : It} {is : Bool} {w : World} {R : Ending → World → Prop} (h : ∀ w', Ext w w' → R (.returned (addI (delI y is))) w') : doCall Tryz.prog (.func (.func 76) #[] #[]) #[agI y, .bool is] w R := by
  refine do_call Tryz.call76 (sh76_ok _ _ _ _ ?_)
  unfold sh76
  refine ⟨⟨?_⟩⟩
  have e0 := ext_alloc w (.cells #[.int .i64 y.1, .int .i64 y.2.1, .int .u64 y.2.2] 33)
  have hy := blk_alloc w #[.int .i64 y.1, .int .i64 y.2.1, .int .u64 y.2.2] 33
  generalize hb7 : w.heap.size = b7 at *
  generalize w.alloc (.cells #[.int .i64 y.1, .int .i64 y.2.1, .int .u64 y.2.2] 33) = w1 at *
  have e1 := ext_alloc w1 (.cells #[.int .i64 0, .int .i64 0, .int .u64 0] 33)
  have hz := blk_alloc w1 #[.int .i64 0, .int .i64 0, .int .u64 0] 33
  have h78 : b7 < w1.heap.size := hy.lt
  generalize hb9 : w1.heap.size = b9 at *
  generalize w1.alloc (.cells #[.int .i64 0, .int .i64 0, .int .u64 0] 33) = w2 at *
  have hy2 := hy.ext e1
  refine ⟨_, hy2.cell (i := 0) (add_blk _ _) rfl, _, hy2.cell (i := 1) (add_blk _ _) rfl, _, hy2.cell (i := 2) (add_blk _ _) rfl, ?_⟩
  refine do_st3 hz fun w3 h3 g3 => ?_
  exact ⟨_, h3.cell (i := 0) (add_blk _ _) rfl, _, h3.cell (i := 1) (add_blk _ _) rfl, _, h3.cell (i := 2) (add_blk _ _) rfl, h _ ((e0.trans e1).st g3 (by omega))⟩
theorem do_setI {v : Int} {y : It} {is : Bool} {bv : Nat} {w : World} {R : Ending → World → Prop} (hv : Blk w bv #[.int .i64 v] 2) (h : ∀ w', Ext w w' → R (.returned (addI (setI v y is))) w') :
    doCall Tryz.prog (.func (.func 77) #[] #[.pointer (some (blk bv))]) #[agI y, .bool is] w R := by
  refine do_callc Tryz.call77 (by rfl) (sh77_ok _ _ _ _ _ ?_)
  unfold sh77
  refine ⟨⟨?_⟩⟩
  have e0 := ext_alloc w (.cells #[.int .i64 y.1, .int .i64 y.2.1, .int .u64 y.2.2] 33)
  have hy := blk_alloc w #[.int .i64 y.1, .int .i64 y.2.1, .int .u64 y.2.2] 33
  generalize hb7 : w.heap.size = b7 at *
  generalize w.alloc (.cells #[.int .i64 y.1, .int .i64 y.2.1, .int .u64 y.2.2] 33) = w1 at *
  have e1 := ext_alloc w1 (.cells #[.int .i64 0, .int .i64 0, .int .u64 0] 33)
  have hz := blk_alloc w1 #[.int .i64 0, .int .i64 0, .int .u64 0] 33
  have h78 : b7 < w1.heap.size := hy.lt
  generalize hb9 : w1.heap.size = b9 at *
  generalize w1.alloc (.cells #[.int .i64 0, .int .i64 0, .int .u64 0] 33) = w2 at *
  have E2 := e0.trans e1
  refine ⟨_, (hv.ext E2).cell (i := 0) rfl rfl, ?_⟩
  refine do_st (hy.ext e1) (i := 1) (by rw [add_zero']; exact add_blk _ _) (by simp) fun w4 h4 g4 => ?_
  have h4 : Blk w4 b7 #[.int .i64 y.1, .int .i64 v, .int .u64 y.2.2] 33 := h4
  refine ⟨_, h4.cell (i := 0) (add_blk _ _) rfl, _, h4.cell (i := 1) (add_blk _ _) rfl, _, h4.cell (i := 2) (add_blk _ _) rfl, ?_⟩
  refine do_st3 (hz.grown g4 (ne_some (by omega))) fun w5 h5 g5 => ?_
  exact ⟨_, h5.cell (i := 0) (add_blk _ _) rfl, _, h5.cell (i := 1) (add_blk _ _) rfl, _, h5.cell (i := 2) (add_blk _ _) rfl, h _ ((E2.st g4 (by omega)).st g5 (by omega))⟩
/-! ### Insert, Delete, Set -/
set_option maxRecDepth 20000 in
theorem c_insert {c o p : Int} {b : Nat} (ho : isO o = true) (hp : may p = true) {x : It} (hk : In x.1) {t : Tr} {pt : Option Addr} {w : World} {R : Ending → World → Prop} (hs : IsSch c b w) (ht : IsN w pt t) (ok : OkP c t) (hkt : InK t) (hB : t.size + 8 ≤ BIG)
    (h : ∀ q w', Gs b w w' → IsSch c b w' → IsN w' q (editC c o x.1 (insI p x (itO (splitC c o x.1 t).2.1) (splitC c o x.1 t).2.1.isSome) t) →
      R (.returned (.tuple #[.pointer q, .int .i64 (itO (splitC c o x.1 t).2.1).2.1, .bool (splitC c o x.1 t).2.1.isSome, .int .i64 0])) w') :
    Calls Tryz.prog 34 #[.pointer (some (blk b)), .int .u8 o, .int .u8 p, .pointer pt, agI x] w R := by
  refine sh34_ok _ _ _ _ _ _ _ ?_
  unfold sh34
  refine ⟨⟨?_⟩⟩
  have e0 := ext_alloc w (.cells #[.int .u8 p] 5)
  have hbp := blk_alloc w #[.int .u8 p] 5
  have n0 : w.heap.size ≠ b := by have := hs.lt; omega
  generalize w.heap.size = b8 at *
  generalize w.alloc (.cells #[.int .u8 p] 5) = w1 at *
  have e1 := ext_alloc w1 (.cells #[.int .i64 x.1, .int .i64 x.2.1, .int .u64 x.2.2] 33)
  have hx := blk_alloc w1 #[.int .i64 x.1, .int .i64 x.2.1, .int .u64 x.2.2] 33
  have n1 : w1.heap.size ≠ b := by have := (hs.ext e0).lt; omega
  generalize w1.heap.size = b10 at *
  generalize w1.alloc (.cells #[.int .i64 x.1, .int .i64 x.2.1, .int .u64 x.2.2] 33) = w2 at *
  have hbp2 := hbp.ext e1
  refine ⟨_, hbp2.cell (i := 0) rfl rfl, ?_⟩
  refine do_call Tryz.call71 (c_fmay fun w3 e3 => retS_ret ⟨_, rfl, ?_⟩)
  rw [hp]
  have E3 := (e0.trans e1).trans e3
  refine ifB_f rfl ⟨_, (hx.ext e3).cell (i := 0) (add_blk _ _) rfl, ?_⟩
  refine do_call Tryz.call72 (c_edat ho hk (insI p x) (hs.ext E3) (ht.ext E3) ok hkt hB (fun y is w4 K g4 hK => do_insI hp ((hx.ext e3).gs g4 n1) ((hbp2.ext e3).gs g4 n0) hK) fun q w4 g4 hs4 h4 => retS_ret ⟨_, _, _, _, rfl, h _ _ ((gs_of E3).trans g4) hs4 h4⟩)
set_option maxRecDepth 20000 in
theorem c_insert_no {o p : Int} {x : It} (hk : In x.1) {sp pt : Option Addr} {w : World} {R : Ending → World → Prop} (hno : may p = false ∨ sp = none ∨ isO o = false)
    (h : ∀ w', Ext w w' → R (.returned (.tuple #[.pointer none, .int .i64 0, .bool false, .int .i64 2])) w') : Calls Tryz.prog 34 #[.pointer sp, .int .u8 o, .int .u8 p, .pointer pt, agI x] w R := by
  refine sh34_ok _ _ _ _ _ _ _ ?_
  unfold sh34
  refine ⟨⟨?_⟩⟩
  have e0 := ext_alloc w (.cells #[.int .u8 p] 5)
  have hbp := blk_alloc w #[.int .u8 p] 5
  generalize w.heap.size = b8 at *
  generalize w.alloc (.cells #[.int .u8 p] 5) = w1 at *
  have e1 := ext_alloc w1 (.cells #[.int .i64 x.1, .int .i64 x.2.1, .int .u64 x.2.2] 33)
  have hx := blk_alloc w1 #[.int .i64 x.1, .int .i64 x.2.1, .int .u64 x.2.2] 33
  generalize w1.heap.size = b10 at *
  generalize w1.alloc (.cells #[.int .i64 x.1, .int .i64 x.2.1, .int .u64 x.2.2] 33) = w2 at *
  have hbp2 := hbp.ext e1
  refine ⟨_, hbp2.cell (i := 0) rfl rfl, ?_⟩
  refine do_call Tryz.call71 (c_fmay fun w3 e3 => retS_ret ⟨_, rfl, ?_⟩)
  have E3 := (e0.trans e1).trans e3
  cases hm : may p with
  | false => exact ifB_t rfl (h _ E3)
  | true =>
    have hno : sp = none ∨ isO o = false := by rcases hno with hno | hno; (rw [hm] at hno; cases hno); exact hno
    refine ifB_f rfl ⟨_, (hx.ext e3).cell (i := 0) (add_blk _ _) rfl, ?_⟩
    exact do_call Tryz.call72 (c_edat_no hk (insI p x) hno (fun y is w4 K e4 hK => do_insI hm ((hx.ext e3).ext e4) ((hbp2.ext e3).ext e4) hK) fun w4 e4 => retS_ret ⟨_, _, _, _, rfl, h _ (E3.trans e4)⟩)
theorem c_delete {c o key : Int} {b : Nat} (ho : isO o = true) (hk : In key) {t : Tr} {pt : Option Addr} {w : World} {R : Ending → World → Prop} (hs : IsSch c b w) (ht : IsN w pt t) (ok : OkP c t) (hkt : InK t) (hB : t.size + 8 ≤ BIG)
    (h : ∀ q w', Gs b w w' → IsSch c b w' → IsN w' q (editC c o key (delI (itO (splitC c o key t).2.1) (splitC c o key t).2.1.isSome) t) →
      R (.returned (.tuple #[.pointer q, .int .i64 (itO (splitC c o key t).2.1).2.1, .bool (splitC c o key t).2.1.isSome, .int .i64 0])) w') :
    Calls Tryz.prog 36 #[.pointer (some (blk b)), .int .u8 o, .pointer pt, .int .i64 key] w R := by
  refine sh36_ok _ _ _ _ ?_
  unfold sh36
  exact do_call Tryz.call72 (c_edat ho hk delI hs ht ok hkt hB (fun y is w4 K g4 hK => do_delI hK) fun q w4 g4 hs4 h4 => retS_ret ⟨_, _, _, _, rfl, h _ _ g4 hs4 h4⟩)
theorem c_delete_no {o key : Int} (hk : In key) {sp pt : Option Addr} {w : World} {R : Ending → World → Prop} (hno : sp = none ∨ isO o = false)
    (h : ∀ w', Ext w w' → R (.returned (.tuple #[.pointer none, .int .i64 0, .bool false, .int .i64 2])) w') : Calls Tryz.prog 36 #[.pointer sp, .int .u8 o, .pointer pt, .int .i64 key] w R := by
  refine sh36_ok _ _ _ _ ?_
  unfold sh36
  exact do_call Tryz.call72 (c_edat_no hk delI hno (fun y is w4 K e4 hK => do_delI hK) fun w4 e4 => retS_ret ⟨_, _, _, _, rfl, h _ e4⟩)
theorem c_set {c o key v : Int} {b : Nat} (ho : isO o = true) (hk : In key) {t : Tr} {pt : Option Addr} {w : World} {R : Ending → World → Prop} (hs : IsSch c b w) (ht : IsN w pt t) (ok : OkP c t) (hkt : InK t) (hB : t.size + 8 ≤ BIG)
    (h : ∀ q w', Gs b w w' → IsSch c b w' → IsN w' q (editC c o key (setI v (itO (splitC c o key t).2.1) (splitC c o key t).2.1.isSome) t) →
      R (.returned (.tuple #[.pointer q, .bool (splitC c o key t).2.1.isSome, .int .i64 0])) w') :
    Calls Tryz.prog 38 #[.pointer (some (blk b)), .int .u8 o, .pointer pt, .int .i64 key, .int .i64 v] w R := by
  refine sh38_ok _ _ _ _ _ ?_
  unfold sh38
  refine ⟨?_⟩
  have e0 := ext_alloc w (.cells #[.int .i64 v] 2)
  have hv := blk_alloc w #[.int .i64 v] 2
  have n0 : w.heap.size ≠ b := by have := hs.lt; omega
  exact do_call Tryz.call72 (c_edat ho hk (setI v) (hs.ext e0) (ht.ext e0) ok hkt hB (fun y is w4 K g4 hK => do_setI (hv.gs g4 n0) hK) fun q w4 g4 hs4 h4 => retS_ret ⟨_, _, _, _, rfl, h _ _ ((gs_of e0).trans g4) hs4 h4⟩)
theorem c_set_no {o key v : Int} (hk : In key) {sp pt : Option Addr} {w : World} {R : Ending → World → Prop} (hno : sp = none ∨ isO o = false)
    (h : ∀ w', Ext w w' → R (.returned (.tuple #[.pointer none, .bool false, .int .i64 2])) w') : Calls Tryz.prog 38 #[.pointer sp, .int .u8 o, .pointer pt, .int .i64 key, .int .i64 v] w R := by
  refine sh38_ok _ _ _ _ _ ?_
  unfold sh38
  refine ⟨?_⟩
  have e0 := ext_alloc w (.cells #[.int .i64 v] 2)
  have hv := blk_alloc w #[.int .i64 v] 2
  exact do_call Tryz.call72 (c_edat_no hk (setI v) hno (fun y is w4 K e4 hK => do_setI (hv.ext e4) hK) fun w4 e4 => retS_ret ⟨_, _, _, _, rfl, h _ (e0.trans e4)⟩)
end Go.Proofs.YthgckfeocalbdaaGreat
