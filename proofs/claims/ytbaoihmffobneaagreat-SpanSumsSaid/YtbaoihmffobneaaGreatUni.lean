/-
  union: two trees made one; the document's answers of layer 28.
-/
import Derived.Test.YtbaoihmffobneaaGreatMgLaw
namespace Go.Proofs.YtbaoihmffobneaaGreat
open Go Go.Sh Go.RowKit

theorem do_callf {P : Program} {k : Nat} {first cap args bs : Array Value} {w : World} {R : Ending → World → Prop} (he : ∀ xs w, (callFunc k xs).run P w = .ok (.enter k xs) w) (hb : first ++ args ++ cap = bs) (h : Calls P k bs w R) :
    doCall P (.func (.func k) first cap) args w R := ⟨callV_func he (by subst hb; exact h)⟩
theorem inK_lt {c o key : Int} {t s : Tr} {q : It → Bool} (h : InK t) (e : itsC c s = (itsC c t).filter q) (_ : asc o (itsC c t)) (_ : key = key) : InK s := (inK_its (c := c)).2 fun x hx => by
  rw [e] at hx
  exact (inK_its (c := c)).1 h x (List.mem_filter.1 hx).1
end Go.Proofs.YtbaoihmffobneaaGreat
