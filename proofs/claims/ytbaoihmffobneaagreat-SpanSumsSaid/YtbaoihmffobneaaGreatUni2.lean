/-
  union: Union, Many; the document's answers of layer 28; the chapter's examples.
-/
import Derived.Test.YtbaoihmffobneaaGreatUni
namespace Go.Proofs.YtbaoihmffobneaaGreat
open Go Go.Sh Go.RowKit

/-! ### Many -/
def manyC (c o p : Int) (l : List Tr) : Tr := l.foldl (unionC c o p) .nil
structure OkU (c o : Int) (t : Tr) : Prop where
  ok : OkM c t
  asc : asc o (itsC c t)
  k : InK t
theorem OkU.union {c o p : Int} {a u : Tr} (h : OkU c o a) (g : OkU c o u) : OkU c o (unionC c o p a u) ∧ (unionC c o p a u).size ≤ a.size + u.size := by
  have q := unionC_p (o := o) (p := p) h.ok.1 g.ok
  have e := unionC_ok (p := p) h.ok.1 g.ok h.asc g.asc
  refine ⟨⟨q.1, by rw [e]; exact asc_foldI h.asc, (inK_its (c := c)).2 ?_⟩, q.2⟩
  rw [e]
  exact foldI_all (P := fun a _ => In a) ((inK_its (c := c)).1 h.k) ((inK_its (c := c)).1 g.k)
abbrev ptrsV (L : List (Option Addr × Tr)) : List Value := L.flatMap fun x => [.pointer x.1]
/-! ### the document's -/
end Go.Proofs.YtbaoihmffobneaaGreat
