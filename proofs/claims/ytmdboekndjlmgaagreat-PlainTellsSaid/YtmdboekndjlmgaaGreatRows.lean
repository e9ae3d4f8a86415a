/-
  No cell of these rows narrows 'for every input' (looked for: loops, veiled, ifaces, maps, wideKeys, modest, calm, conditions, laid).
  DERIVED. THE GIVEN ROWS OF THIS SEAT. 3 by the template 'for every input the law returns true; each argument reads behind the call as it read before'; 0 by the template 'total and deterministic' (their statements: YtmdboekndjlmgaaGreatTotals.lean).
  GIVEN WITH THE SEED: the statements are not yours to turn. If you find one false, say at which input.
  Laid BY PROGRAM, IN A SANDBOX (cutbox-rows.mjs): the forced cells as the released guide's own fill.sh prints them over the translation f4e432d1988db580… (all of the seat's roots in one cut). By AI agents, Wed Nov 11 2026. No macro, syntax, notation, axiom, sorry.
-/
import Derived.Test.YtmdboekndjlmgaaGreatChecked
import GoSem.Claim
import GoSem.ClaimJoined
import GoSem.ClaimMapViews
import Derived.JoinedTies
import Derived.KernelRfl
namespace Go.Proofs.YtmdboekndjlmgaaGreat
/- THE CELL 'sum', in the pinned program and in every row, IS THE sha256 OF THE DUMP (.gsa) THAT YtmdboekndjlmgaaGreatProg.lean LOADS. Nothing in Lean hashes anything: it is a label: what it is worth is what the hold of that sum in a sandbox is worth. -/
noncomputable def Tryz.pinned : Pinned := { name := "ytmdboekndjlmgaagreat", sum := "f4e432d1988db580894630d5067be42468afe4019c098e6d4dfaec4d27acfb8b", checked := Tryz.checked }
namespace Rows
def none {H : Type} : Left H := { results := [], args := [] }

/-- 'joinerylaw38.PlainAsks': WHATEVER THE INPUT: true; the input reads as it did. -/
def plainAsksSpec : ChangeSpec := { name := "plainAsks", fn := fun _ => fun
  | [d1, d2, d3, d4, d5, d6] => { results := [.lit (.bool true)], args := [d1, d2, d3, d4, d5, d6] }
  | _ => none }
def plainAsksRow : OpenClaim := { program := "ytmdboekndjlmgaagreat", sum := "f4e432d1988db580894630d5067be42468afe4019c098e6d4dfaec4d27acfb8b", func := "joinery/joinerylaw38.PlainAsks", spec := "plainAsks", inPlace := ["slices.overlaps[joinery/api.Pair]"], unfollowed := true, recurses := true, apart := false }
def PlainAsksSaid : Prop := plainAsksRow.holds Tryz.pinned (OpenSpec.ofChange plainAsksSpec)

/-- ITS FALSE NEIGHBOUR: 'it returns false'. Refute it at one input. -/
def plainAsksWrong : ChangeSpec := { name := "plainAsks", fn := fun _ => fun
  | [d1, d2, d3, d4, d5, d6] => { results := [.lit (.bool false)], args := [d1, d2, d3, d4, d5, d6] }
  | _ => none }
def PlainAsksWrongFalsely : Prop := plainAsksRow.holds Tryz.pinned (OpenSpec.ofChange plainAsksWrong)

/-- 'joinerylaw38.PlainTells': WHATEVER THE INPUT: true; the input reads as it did. -/
def plainTellsSpec : ChangeSpec := { name := "plainTells", fn := fun _ => fun
  | [d1, d2, d3] => { results := [.lit (.bool true)], args := [d1, d2, d3] }
  | _ => none }
def plainTellsRow : OpenClaim := { program := "ytmdboekndjlmgaagreat", sum := "f4e432d1988db580894630d5067be42468afe4019c098e6d4dfaec4d27acfb8b", func := "joinery/joinerylaw38.PlainTells", spec := "plainTells", inPlace := ["slices.overlaps[joinery/api.Pair]"], unfollowed := true, recurses := true, apart := false }
def PlainTellsSaid : Prop := plainTellsRow.holds Tryz.pinned (OpenSpec.ofChange plainTellsSpec)

/-- ITS FALSE NEIGHBOUR: 'it returns false'. Refute it at one input. -/
def plainTellsWrong : ChangeSpec := { name := "plainTells", fn := fun _ => fun
  | [d1, d2, d3] => { results := [.lit (.bool false)], args := [d1, d2, d3] }
  | _ => none }
def PlainTellsWrongFalsely : Prop := plainTellsRow.holds Tryz.pinned (OpenSpec.ofChange plainTellsWrong)

/-- 'joinerylaw38.PlainStays': WHATEVER THE INPUT: true; the input reads as it did. -/
def plainStaysSpec : ChangeSpec := { name := "plainStays", fn := fun _ => fun
  | [d1, d2] => { results := [.lit (.bool true)], args := [d1, d2] }
  | _ => none }
def plainStaysRow : OpenClaim := { program := "ytmdboekndjlmgaagreat", sum := "f4e432d1988db580894630d5067be42468afe4019c098e6d4dfaec4d27acfb8b", func := "joinery/joinerylaw38.PlainStays", spec := "plainStays", inPlace := ["slices.overlaps[joinery/api.Pair]"], unfollowed := true, recurses := true, apart := false }
def PlainStaysSaid : Prop := plainStaysRow.holds Tryz.pinned (OpenSpec.ofChange plainStaysSpec)

/-- ITS FALSE NEIGHBOUR: 'it returns false'. Refute it at one input. -/
def plainStaysWrong : ChangeSpec := { name := "plainStays", fn := fun _ => fun
  | [d1, d2] => { results := [.lit (.bool false)], args := [d1, d2] }
  | _ => none }
def PlainStaysWrongFalsely : Prop := plainStaysRow.holds Tryz.pinned (OpenSpec.ofChange plainStaysWrong)

/- THE SECOND FORM. 'bulk': how many values and letters a reading holds, each counted each time it is reached (what is shared counts as often as it is met; a slice's spare places count too). A statement '..UptoSaid' is the law's where the arguments, and the package variables that the reading takes, are together of bulk at most 1048576: NARROWER than '..Said'. Prove '..Said' where nothing that the law and all that it calls make is longer than what came in: it says more and counts as full. Else prove '..UptoSaid'. A law counts once. -/
mutual
def uptoBulk {H : Type} : DataW H → Nat
  | .lit (.string bytes) => bytes.length + 1
  | .lit _ => 1
  | .nil => 1
  | .ptr d => uptoBulk d + 1
  | .slice elems spare => uptoBulkAll elems + uptoBulkAll spare + 1
  | .agg parts => uptoBulkAll parts + 1
  | .iface _ d => uptoBulk d + 1
  | .map entries => uptoBulkEntries entries + 1
  | .held _ => 1
def uptoBulkAll {H : Type} : List (DataW H) → Nat
  | [] => 0
  | d :: r => uptoBulk d + uptoBulkAll r
def uptoBulkEntries {H : Type} : List (Lit × DataW H) → Nat
  | [] => 0
  | x :: r => uptoBulkEntry x + uptoBulkEntries r
def uptoBulkEntry {H : Type} : Lit × DataW H → Nat
  | (.string bytes, d) => bytes.length + uptoBulk d + 1
  | (_, d) => uptoBulk d + 1
 end
def uptoSmall : (H : Type) → List (DataW H) → Bool := fun _ ds => decide (uptoBulkAll ds ≤ 1048576)
def OpenSpec.upto (s : _root_.Go.ChangeSpec) : _root_.Go.OpenSpec := { _root_.Go.OpenSpec.ofChange s with cond := some uptoSmall }

/-- 'joinerylaw38.PlainAsks', WHERE WHAT IT READS IS OF BULK AT MOST 1048576: true; the input reads as it did. -/
def plainAsksUptoRow : OpenClaim := { program := "ytmdboekndjlmgaagreat", sum := "f4e432d1988db580894630d5067be42468afe4019c098e6d4dfaec4d27acfb8b", func := "joinery/joinerylaw38.PlainAsks", spec := "plainAsks", inPlace := ["slices.overlaps[joinery/api.Pair]"], unfollowed := true, recurses := true, apart := false, narrowed := true }
def PlainAsksUptoSaid : Prop := plainAsksUptoRow.holds Tryz.pinned (OpenSpec.upto plainAsksSpec)

/-- 'joinerylaw38.PlainTells', WHERE WHAT IT READS IS OF BULK AT MOST 1048576: true; the input reads as it did. -/
def plainTellsUptoRow : OpenClaim := { program := "ytmdboekndjlmgaagreat", sum := "f4e432d1988db580894630d5067be42468afe4019c098e6d4dfaec4d27acfb8b", func := "joinery/joinerylaw38.PlainTells", spec := "plainTells", inPlace := ["slices.overlaps[joinery/api.Pair]"], unfollowed := true, recurses := true, apart := false, narrowed := true }
def PlainTellsUptoSaid : Prop := plainTellsUptoRow.holds Tryz.pinned (OpenSpec.upto plainTellsSpec)

/-- 'joinerylaw38.PlainStays', WHERE WHAT IT READS IS OF BULK AT MOST 1048576: true; the input reads as it did. -/
def plainStaysUptoRow : OpenClaim := { program := "ytmdboekndjlmgaagreat", sum := "f4e432d1988db580894630d5067be42468afe4019c098e6d4dfaec4d27acfb8b", func := "joinery/joinerylaw38.PlainStays", spec := "plainStays", inPlace := ["slices.overlaps[joinery/api.Pair]"], unfollowed := true, recurses := true, apart := false, narrowed := true }
def PlainStaysUptoSaid : Prop := plainStaysUptoRow.holds Tryz.pinned (OpenSpec.upto plainStaysSpec)

end Rows
end Go.Proofs.YtmdboekndjlmgaaGreat
