/-
  edit: an item put in, or taken out; the document's answers of layer 26.
-/
import Derived.Test.YtbaoihmffobneaaGreatLaw24
namespace Go.Proofs.YtbaoihmffobneaaGreat
open Go Go.Sh Go.RowKit

/-- append of any row to a row of one's own -/
theorem do_appL {q : Option Addr} {n c base : Nat} {r : List It} {w : World} (hrow : OwnI w base q n c r) {q2 : Option Addr} {m c2 : Nat} {s : List It} (hs : Cs w q2 (its s)) (hm : s.length = m) (hb : n + m ≤ 1000000000000) (hbase : base ≤ w.heap.size)
    {bs : Array Bool} {R : Ending → World → Prop}
    (h : ∀ p c' w', OwnI w' base p (n + m) c' (r ++ s) → (∀ w0, Ext w0 w → w0.heap.size ≤ base → Ext w0 w') → R (.returned (.slice p (n + m) c')) w') :
    doGo Tryz.prog (.builtin .append #[32, 32] 32 bs) #[.slice q n c, .slice q2 m c2] w R :=
  do_app elIt hrow hs (by rw [its_length]; omega) its_one (by simp only [maxLen]; omega) (by omega) hbase fun p c' w' h2 g2 => h p c' w' (by show w'.ownsRow _ _ _ _ _ (its _); rw [its_append]; exact h2) fun w0 e0 hb0 => extI_own hrow e0 g2 hb0
theorem ownI_at {w w' : World} {b base n c : Nat} {p : Option Addr} {l : List It} (h : OwnI w base p n c l) (g : Gs b w w') (hb : b < base) : OwnI w' base p n c l := by
  refine World.ownsRow.kept h g ?_
  cases hq : (Value.slice p n c).ownBlock with
  | none => exact .inl rfl
  | some k =>
    have := (World.ownsRow.lt h k hq).1
    exact .inr fun e => by injection e with e; omega
/-- what an edit makes of a tree -/
def editC (c o key : Int) (y : It × Bool) (t : Tr) : Tr := if y.2 = true then joinC c (splitC c o key t).1 y.1 (splitC c o key t).2.2 else join2C c (splitC c o key t).1 (splitC c o key t).2.2
def editL (o key : Int) (y : It × Bool) (l : List It) : List It := ltF o key l ++ (cond y.2 [y.1] []) ++ gtF o key l
theorem editC_ok {c o key : Int} {y : It × Bool} {t : Tr} (ok : OkP c t) (ha : asc o (itsC c t)) : OkM c (editC c o key y t) ∧ itsC c (editC c o key y t) = (editL o key y (itsC c t)).map (itC c) := by
  have S := splitC_ok (key := key) ok ha
  have j := joinC_ok S.okl.1 S.okr.1 y.1
  have k := join2C_ok S.okl.1 S.okr.1
  have f1 := filt_fix (c := c) (t := t) fun x => decide (cmpI o x.1 key < 0)
  have f2 := filt_fix (c := c) (t := t) fun x => decide (0 < cmpI o x.1 key)
  have f1 : (ltF o key (itsC c t)).map (itC c) = ltF o key (itsC c t) := f1
  have f2 : (gtF o key (itsC c t)).map (itC c) = gtF o key (itsC c t) := f2
  unfold editC editL
  rw [List.map_append, List.map_append, f1, f2]
  cases hy : y.2 with
  | true =>
    rw [if_pos rfl]
    refine ⟨j.1, ?_⟩
    rw [j.2, S.lt, S.gt]
    simp
  | false =>
    rw [if_neg (by decide)]
    refine ⟨k.1, ?_⟩
    rw [k.2, S.lt, S.gt]
    simp
abbrev addI (y : It × Bool) : Value := .tuple #[agI y.1, .bool y.2]
/-! ### what the three do with an item -/
def insI (p : Int) (x y : It) (is : Bool) : It × Bool := (cond is (y.1, comb p y.2.1 x.2.1, y.2.2) x, true)
def delI (x : It) (_ : Bool) : It × Bool := (x, false)
def setI (v : Int) (x : It) (is : Bool) : It × Bool := ((x.1, v, x.2.2), is)
/-! ### Insert, Delete, Set -/
end Go.Proofs.YtbaoihmffobneaaGreat
