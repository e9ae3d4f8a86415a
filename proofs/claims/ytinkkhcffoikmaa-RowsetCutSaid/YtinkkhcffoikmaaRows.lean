/-
  No cell of these rows narrows 'for every input' (looked for: loops, veiled, ifaces, maps, wideKeys, modest, calm, conditions, laid).
  DERIVED. THE GIVEN ROWS OF THIS SEAT. 10 by the template 'for every input the law returns true; each argument reads behind the call as it read before'; 0 by the template 'total and deterministic' (their statements: YtinkkhcffoikmaaTotals.lean).
  GIVEN WITH THE SEED: the statements are not yours to turn. If you find one false, say at which input.
  Laid BY PROGRAM, IN A SANDBOX (cutbox-rows.mjs): the forced cells as the released guide's own fill.sh prints them over the translation 203e99fc4d91cc81… (all of the seat's roots in one cut). By AI agents, Wed Nov 11 2026. No macro, syntax, notation, axiom, sorry.
-/
import Derived.Test.YtinkkhcffoikmaaChecked
import GoSem.Claim
import GoSem.ClaimJoined
import GoSem.ClaimMapViews
import Derived.JoinedTies
import Derived.KernelRfl
namespace Go.Proofs.Ytinkkhcffoikmaa
/- THE CELL 'sum', in the pinned program and in every row, IS THE sha256 OF THE DUMP (.gsa) THAT YtinkkhcffoikmaaProg.lean LOADS. Nothing in Lean hashes anything: it is a label: what it is worth is what the hold of that sum in a sandbox is worth. -/
noncomputable def Try.pinned : Pinned := { name := "ytinkkhcffoikmaa", sum := "203e99fc4d91cc819277e915c923d7de1dac01a1e94dcc7ee6a2e511b31a4c69", checked := Try.checked }
namespace Rows
def none {H : Type} : Left H := { results := [], args := [] }

/-- 'joinerylaw32.RankTells': WHATEVER THE INPUT: true; the input reads as it did. -/
def rankTellsSpec : ChangeSpec := { name := "rankTells", fn := fun _ => fun
  | [d1, d2, d3, d4] => { results := [.lit (.bool true)], args := [d1, d2, d3, d4] }
  | _ => none }
def rankTellsRow : OpenClaim := { program := "ytinkkhcffoikmaa", sum := "203e99fc4d91cc819277e915c923d7de1dac01a1e94dcc7ee6a2e511b31a4c69", func := "joinery/joinerylaw32.RankTells", spec := "rankTells", unfollowed := true, recurses := true, apart := false }
def RankTellsSaid : Prop := rankTellsRow.holds Try.pinned (OpenSpec.ofChange rankTellsSpec)

/-- ITS FALSE NEIGHBOUR: 'it returns false'. Refute it at one input. -/
def rankTellsWrong : ChangeSpec := { name := "rankTells", fn := fun _ => fun
  | [d1, d2, d3, d4] => { results := [.lit (.bool false)], args := [d1, d2, d3, d4] }
  | _ => none }
def RankTellsWrongFalsely : Prop := rankTellsRow.holds Try.pinned (OpenSpec.ofChange rankTellsWrong)

/-- 'joinerylaw32.RankRows': WHATEVER THE INPUT: true; the input reads as it did. -/
def rankRowsSpec : ChangeSpec := { name := "rankRows", fn := fun _ => fun
  | [d1, d2, d3, d4] => { results := [.lit (.bool true)], args := [d1, d2, d3, d4] }
  | _ => none }
def rankRowsRow : OpenClaim := { program := "ytinkkhcffoikmaa", sum := "203e99fc4d91cc819277e915c923d7de1dac01a1e94dcc7ee6a2e511b31a4c69", func := "joinery/joinerylaw32.RankRows", spec := "rankRows", unfollowed := true, recurses := true, apart := false }
def RankRowsSaid : Prop := rankRowsRow.holds Try.pinned (OpenSpec.ofChange rankRowsSpec)

/-- ITS FALSE NEIGHBOUR: 'it returns false'. Refute it at one input. -/
def rankRowsWrong : ChangeSpec := { name := "rankRows", fn := fun _ => fun
  | [d1, d2, d3, d4] => { results := [.lit (.bool false)], args := [d1, d2, d3, d4] }
  | _ => none }
def RankRowsWrongFalsely : Prop := rankRowsRow.holds Try.pinned (OpenSpec.ofChange rankRowsWrong)

/-- 'joinerylaw25.FindRows': WHATEVER THE INPUT: true; the input reads as it did. -/
def findRowsSpec : ChangeSpec := { name := "findRows", fn := fun _ => fun
  | [d1, d2, d3, d4] => { results := [.lit (.bool true)], args := [d1, d2, d3, d4] }
  | _ => none }
def findRowsRow : OpenClaim := { program := "ytinkkhcffoikmaa", sum := "203e99fc4d91cc819277e915c923d7de1dac01a1e94dcc7ee6a2e511b31a4c69", func := "joinery/joinerylaw25.FindRows", spec := "findRows", unfollowed := true, recurses := true, apart := false }
def FindRowsSaid : Prop := findRowsRow.holds Try.pinned (OpenSpec.ofChange findRowsSpec)

/-- ITS FALSE NEIGHBOUR: 'it returns false'. Refute it at one input. -/
def findRowsWrong : ChangeSpec := { name := "findRows", fn := fun _ => fun
  | [d1, d2, d3, d4] => { results := [.lit (.bool false)], args := [d1, d2, d3, d4] }
  | _ => none }
def FindRowsWrongFalsely : Prop := findRowsRow.holds Try.pinned (OpenSpec.ofChange findRowsWrong)

/-- 'joinerylaw04.RowKeeps': WHATEVER THE INPUT: true; the input reads as it did. -/
def rowKeepsSpec : ChangeSpec := { name := "rowKeeps", fn := fun _ => fun
  | [d1, d2, d3] => { results := [.lit (.bool true)], args := [d1, d2, d3] }
  | _ => none }
def rowKeepsRow : OpenClaim := { program := "ytinkkhcffoikmaa", sum := "203e99fc4d91cc819277e915c923d7de1dac01a1e94dcc7ee6a2e511b31a4c69", func := "joinery/joinerylaw04.RowKeeps", spec := "rowKeeps", inPlace := ["slices.overlaps[joinery/api.Pair]"], unfollowed := true, recurses := true, apart := false }
def RowKeepsSaid : Prop := rowKeepsRow.holds Try.pinned (OpenSpec.ofChange rowKeepsSpec)

/-- ITS FALSE NEIGHBOUR: 'it returns false'. Refute it at one input. -/
def rowKeepsWrong : ChangeSpec := { name := "rowKeeps", fn := fun _ => fun
  | [d1, d2, d3] => { results := [.lit (.bool false)], args := [d1, d2, d3] }
  | _ => none }
def RowKeepsWrongFalsely : Prop := rowKeepsRow.holds Try.pinned (OpenSpec.ofChange rowKeepsWrong)

/-- 'joinerylaw04.RowEnds': WHATEVER THE INPUT: true; the input reads as it did. -/
def rowEndsSpec : ChangeSpec := { name := "rowEnds", fn := fun _ => fun
  | [d1, d2, d3] => { results := [.lit (.bool true)], args := [d1, d2, d3] }
  | _ => none }
def rowEndsRow : OpenClaim := { program := "ytinkkhcffoikmaa", sum := "203e99fc4d91cc819277e915c923d7de1dac01a1e94dcc7ee6a2e511b31a4c69", func := "joinery/joinerylaw04.RowEnds", spec := "rowEnds", inPlace := ["slices.overlaps[joinery/api.Pair]"], unfollowed := true, recurses := true, apart := false }
def RowEndsSaid : Prop := rowEndsRow.holds Try.pinned (OpenSpec.ofChange rowEndsSpec)

/-- ITS FALSE NEIGHBOUR: 'it returns false'. Refute it at one input. -/
def rowEndsWrong : ChangeSpec := { name := "rowEnds", fn := fun _ => fun
  | [d1, d2, d3] => { results := [.lit (.bool false)], args := [d1, d2, d3] }
  | _ => none }
def RowEndsWrongFalsely : Prop := rowEndsRow.holds Try.pinned (OpenSpec.ofChange rowEndsWrong)

/-- 'joinerylaw04.RowTells': WHATEVER THE INPUT: true; the input reads as it did. -/
def rowTellsSpec : ChangeSpec := { name := "rowTells", fn := fun _ => fun
  | [d1, d2, d3, d4] => { results := [.lit (.bool true)], args := [d1, d2, d3, d4] }
  | _ => none }
def rowTellsRow : OpenClaim := { program := "ytinkkhcffoikmaa", sum := "203e99fc4d91cc819277e915c923d7de1dac01a1e94dcc7ee6a2e511b31a4c69", func := "joinery/joinerylaw04.RowTells", spec := "rowTells", inPlace := ["slices.overlaps[joinery/api.Pair]"], unfollowed := true, recurses := true, apart := false }
def RowTellsSaid : Prop := rowTellsRow.holds Try.pinned (OpenSpec.ofChange rowTellsSpec)

/-- ITS FALSE NEIGHBOUR: 'it returns false'. Refute it at one input. -/
def rowTellsWrong : ChangeSpec := { name := "rowTells", fn := fun _ => fun
  | [d1, d2, d3, d4] => { results := [.lit (.bool false)], args := [d1, d2, d3, d4] }
  | _ => none }
def RowTellsWrongFalsely : Prop := rowTellsRow.holds Try.pinned (OpenSpec.ofChange rowTellsWrong)

/-- 'joinerylaw05.RowsetAlgebra': WHATEVER THE INPUT: true; the input reads as it did. -/
def rowsetAlgebraSpec : ChangeSpec := { name := "rowsetAlgebra", fn := fun _ => fun
  | [d1, d2, d3, d4] => { results := [.lit (.bool true)], args := [d1, d2, d3, d4] }
  | _ => none }
def rowsetAlgebraRow : OpenClaim := { program := "ytinkkhcffoikmaa", sum := "203e99fc4d91cc819277e915c923d7de1dac01a1e94dcc7ee6a2e511b31a4c69", func := "joinery/joinerylaw05.RowsetAlgebra", spec := "rowsetAlgebra", unfollowed := true, recurses := true, apart := false }
def RowsetAlgebraSaid : Prop := rowsetAlgebraRow.holds Try.pinned (OpenSpec.ofChange rowsetAlgebraSpec)

/-- ITS FALSE NEIGHBOUR: 'it returns false'. Refute it at one input. -/
def rowsetAlgebraWrong : ChangeSpec := { name := "rowsetAlgebra", fn := fun _ => fun
  | [d1, d2, d3, d4] => { results := [.lit (.bool false)], args := [d1, d2, d3, d4] }
  | _ => none }
def RowsetAlgebraWrongFalsely : Prop := rowsetAlgebraRow.holds Try.pinned (OpenSpec.ofChange rowsetAlgebraWrong)

/-- 'joinerylaw05.RowsetThree': WHATEVER THE INPUT: true; the input reads as it did. -/
def rowsetThreeSpec : ChangeSpec := { name := "rowsetThree", fn := fun _ => fun
  | [d1, d2, d3, d4, d5] => { results := [.lit (.bool true)], args := [d1, d2, d3, d4, d5] }
  | _ => none }
def rowsetThreeRow : OpenClaim := { program := "ytinkkhcffoikmaa", sum := "203e99fc4d91cc819277e915c923d7de1dac01a1e94dcc7ee6a2e511b31a4c69", func := "joinery/joinerylaw05.RowsetThree", spec := "rowsetThree", unfollowed := true, recurses := true, apart := false }
def RowsetThreeSaid : Prop := rowsetThreeRow.holds Try.pinned (OpenSpec.ofChange rowsetThreeSpec)

/-- ITS FALSE NEIGHBOUR: 'it returns false'. Refute it at one input. -/
def rowsetThreeWrong : ChangeSpec := { name := "rowsetThree", fn := fun _ => fun
  | [d1, d2, d3, d4, d5] => { results := [.lit (.bool false)], args := [d1, d2, d3, d4, d5] }
  | _ => none }
def RowsetThreeWrongFalsely : Prop := rowsetThreeRow.holds Try.pinned (OpenSpec.ofChange rowsetThreeWrong)

/-- 'joinerylaw05.RowsetTells': WHATEVER THE INPUT: true; the input reads as it did. -/
def rowsetTellsSpec : ChangeSpec := { name := "rowsetTells", fn := fun _ => fun
  | [d1, d2, d3, d4, d5, d6] => { results := [.lit (.bool true)], args := [d1, d2, d3, d4, d5, d6] }
  | _ => none }
def rowsetTellsRow : OpenClaim := { program := "ytinkkhcffoikmaa", sum := "203e99fc4d91cc819277e915c923d7de1dac01a1e94dcc7ee6a2e511b31a4c69", func := "joinery/joinerylaw05.RowsetTells", spec := "rowsetTells", unfollowed := true, recurses := true, apart := false }
def RowsetTellsSaid : Prop := rowsetTellsRow.holds Try.pinned (OpenSpec.ofChange rowsetTellsSpec)

/-- ITS FALSE NEIGHBOUR: 'it returns false'. Refute it at one input. -/
def rowsetTellsWrong : ChangeSpec := { name := "rowsetTells", fn := fun _ => fun
  | [d1, d2, d3, d4, d5, d6] => { results := [.lit (.bool false)], args := [d1, d2, d3, d4, d5, d6] }
  | _ => none }
def RowsetTellsWrongFalsely : Prop := rowsetTellsRow.holds Try.pinned (OpenSpec.ofChange rowsetTellsWrong)

/-- 'joinerylaw05.RowsetCut': WHATEVER THE INPUT: true; the input reads as it did. -/
def rowsetCutSpec : ChangeSpec := { name := "rowsetCut", fn := fun _ => fun
  | [d1, d2, d3, d4] => { results := [.lit (.bool true)], args := [d1, d2, d3, d4] }
  | _ => none }
def rowsetCutRow : OpenClaim := { program := "ytinkkhcffoikmaa", sum := "203e99fc4d91cc819277e915c923d7de1dac01a1e94dcc7ee6a2e511b31a4c69", func := "joinery/joinerylaw05.RowsetCut", spec := "rowsetCut", unfollowed := true, recurses := true, apart := false }
def RowsetCutSaid : Prop := rowsetCutRow.holds Try.pinned (OpenSpec.ofChange rowsetCutSpec)

/-- ITS FALSE NEIGHBOUR: 'it returns false'. Refute it at one input. -/
def rowsetCutWrong : ChangeSpec := { name := "rowsetCut", fn := fun _ => fun
  | [d1, d2, d3, d4] => { results := [.lit (.bool false)], args := [d1, d2, d3, d4] }
  | _ => none }
def RowsetCutWrongFalsely : Prop := rowsetCutRow.holds Try.pinned (OpenSpec.ofChange rowsetCutWrong)

/- THE SECOND FORM. 'bulk': how many values and letters a reading holds, each counted each time it is reached (what is shared counts as often as it is met; a slice's spare places count too). A statement '..UptoSaid' is the law's where the arguments, and the package variables that the reading takes, are together of bulk at most 1048576: NARROWER than '..Said'. Prove '..Said' where nothing that the law and all that it calls make is longer than what came in: it says more and counts as full. Else prove '..UptoSaid'. A law counts once. -/
mutual
def uptoBulk {H : Type} : DataW H → Nat
  | .lit (.string bytes) => bytes.length + 1
  | .lit _ => 1
  | .nil => 1
  | .ptr d => uptoBulk d + 1
  | .slice elems spare => uptoBulkAll elems + uptoBulkAll spare + 1
  | .agg parts => uptoBulkAll parts + 1
  | .iface _ d => uptoBulk d + 1
  | .map entries => uptoBulkEntries entries + 1
  | .held _ => 1
def uptoBulkAll {H : Type} : List (DataW H) → Nat
  | [] => 0
  | d :: r => uptoBulk d + uptoBulkAll r
def uptoBulkEntries {H : Type} : List (Lit × DataW H) → Nat
  | [] => 0
  | x :: r => uptoBulkEntry x + uptoBulkEntries r
def uptoBulkEntry {H : Type} : Lit × DataW H → Nat
  | (.string bytes, d) => bytes.length + uptoBulk d + 1
  | (_, d) => uptoBulk d + 1
 end
def uptoSmall : (H : Type) → List (DataW H) → Bool := fun _ ds => decide (uptoBulkAll ds ≤ 1048576)
def OpenSpec.upto (s : _root_.Go.ChangeSpec) : _root_.Go.OpenSpec := { _root_.Go.OpenSpec.ofChange s with cond := some uptoSmall }

/-- 'joinerylaw32.RankTells', WHERE WHAT IT READS IS OF BULK AT MOST 1048576: true; the input reads as it did. -/
def rankTellsUptoRow : OpenClaim := { program := "ytinkkhcffoikmaa", sum := "203e99fc4d91cc819277e915c923d7de1dac01a1e94dcc7ee6a2e511b31a4c69", func := "joinery/joinerylaw32.RankTells", spec := "rankTells", unfollowed := true, recurses := true, apart := false, narrowed := true }
def RankTellsUptoSaid : Prop := rankTellsUptoRow.holds Try.pinned (OpenSpec.upto rankTellsSpec)

/-- 'joinerylaw32.RankRows', WHERE WHAT IT READS IS OF BULK AT MOST 1048576: true; the input reads as it did. -/
def rankRowsUptoRow : OpenClaim := { program := "ytinkkhcffoikmaa", sum := "203e99fc4d91cc819277e915c923d7de1dac01a1e94dcc7ee6a2e511b31a4c69", func := "joinery/joinerylaw32.RankRows", spec := "rankRows", unfollowed := true, recurses := true, apart := false, narrowed := true }
def RankRowsUptoSaid : Prop := rankRowsUptoRow.holds Try.pinned (OpenSpec.upto rankRowsSpec)

/-- 'joinerylaw25.FindRows', WHERE WHAT IT READS IS OF BULK AT MOST 1048576: true; the input reads as it did. -/
def findRowsUptoRow : OpenClaim := { program := "ytinkkhcffoikmaa", sum := "203e99fc4d91cc819277e915c923d7de1dac01a1e94dcc7ee6a2e511b31a4c69", func := "joinery/joinerylaw25.FindRows", spec := "findRows", unfollowed := true, recurses := true, apart := false, narrowed := true }
def FindRowsUptoSaid : Prop := findRowsUptoRow.holds Try.pinned (OpenSpec.upto findRowsSpec)

/-- 'joinerylaw04.RowKeeps', WHERE WHAT IT READS IS OF BULK AT MOST 1048576: true; the input reads as it did. -/
def rowKeepsUptoRow : OpenClaim := { program := "ytinkkhcffoikmaa", sum := "203e99fc4d91cc819277e915c923d7de1dac01a1e94dcc7ee6a2e511b31a4c69", func := "joinery/joinerylaw04.RowKeeps", spec := "rowKeeps", inPlace := ["slices.overlaps[joinery/api.Pair]"], unfollowed := true, recurses := true, apart := false, narrowed := true }
def RowKeepsUptoSaid : Prop := rowKeepsUptoRow.holds Try.pinned (OpenSpec.upto rowKeepsSpec)

/-- 'joinerylaw04.RowEnds', WHERE WHAT IT READS IS OF BULK AT MOST 1048576: true; the input reads as it did. -/
def rowEndsUptoRow : OpenClaim := { program := "ytinkkhcffoikmaa", sum := "203e99fc4d91cc819277e915c923d7de1dac01a1e94dcc7ee6a2e511b31a4c69", func := "joinery/joinerylaw04.RowEnds", spec := "rowEnds", inPlace := ["slices.overlaps[joinery/api.Pair]"], unfollowed := true, recurses := true, apart := false, narrowed := true }
def RowEndsUptoSaid : Prop := rowEndsUptoRow.holds Try.pinned (OpenSpec.upto rowEndsSpec)

/-- 'joinerylaw04.RowTells', WHERE WHAT IT READS IS OF BULK AT MOST 1048576: true; the input reads as it did. -/
def rowTellsUptoRow : OpenClaim := { program := "ytinkkhcffoikmaa", sum := "203e99fc4d91cc819277e915c923d7de1dac01a1e94dcc7ee6a2e511b31a4c69", func := "joinery/joinerylaw04.RowTells", spec := "rowTells", inPlace := ["slices.overlaps[joinery/api.Pair]"], unfollowed := true, recurses := true, apart := false, narrowed := true }
def RowTellsUptoSaid : Prop := rowTellsUptoRow.holds Try.pinned (OpenSpec.upto rowTellsSpec)

/-- 'joinerylaw05.RowsetAlgebra', WHERE WHAT IT READS IS OF BULK AT MOST 1048576: true; the input reads as it did. -/
def rowsetAlgebraUptoRow : OpenClaim := { program := "ytinkkhcffoikmaa", sum := "203e99fc4d91cc819277e915c923d7de1dac01a1e94dcc7ee6a2e511b31a4c69", func := "joinery/joinerylaw05.RowsetAlgebra", spec := "rowsetAlgebra", unfollowed := true, recurses := true, apart := false, narrowed := true }
def RowsetAlgebraUptoSaid : Prop := rowsetAlgebraUptoRow.holds Try.pinned (OpenSpec.upto rowsetAlgebraSpec)

/-- 'joinerylaw05.RowsetThree', WHERE WHAT IT READS IS OF BULK AT MOST 1048576: true; the input reads as it did. -/
def rowsetThreeUptoRow : OpenClaim := { program := "ytinkkhcffoikmaa", sum := "203e99fc4d91cc819277e915c923d7de1dac01a1e94dcc7ee6a2e511b31a4c69", func := "joinery/joinerylaw05.RowsetThree", spec := "rowsetThree", unfollowed := true, recurses := true, apart := false, narrowed := true }
def RowsetThreeUptoSaid : Prop := rowsetThreeUptoRow.holds Try.pinned (OpenSpec.upto rowsetThreeSpec)

/-- 'joinerylaw05.RowsetTells', WHERE WHAT IT READS IS OF BULK AT MOST 1048576: true; the input reads as it did. -/
def rowsetTellsUptoRow : OpenClaim := { program := "ytinkkhcffoikmaa", sum := "203e99fc4d91cc819277e915c923d7de1dac01a1e94dcc7ee6a2e511b31a4c69", func := "joinery/joinerylaw05.RowsetTells", spec := "rowsetTells", unfollowed := true, recurses := true, apart := false, narrowed := true }
def RowsetTellsUptoSaid : Prop := rowsetTellsUptoRow.holds Try.pinned (OpenSpec.upto rowsetTellsSpec)

/-- 'joinerylaw05.RowsetCut', WHERE WHAT IT READS IS OF BULK AT MOST 1048576: true; the input reads as it did. -/
def rowsetCutUptoRow : OpenClaim := { program := "ytinkkhcffoikmaa", sum := "203e99fc4d91cc819277e915c923d7de1dac01a1e94dcc7ee6a2e511b31a4c69", func := "joinery/joinerylaw05.RowsetCut", spec := "rowsetCut", unfollowed := true, recurses := true, apart := false, narrowed := true }
def RowsetCutUptoSaid : Prop := rowsetCutUptoRow.holds Try.pinned (OpenSpec.upto rowsetCutSpec)

end Rows
end Go.Proofs.Ytinkkhcffoikmaa
