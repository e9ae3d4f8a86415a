/-
  Facts of the program that each proof of a statement asks, each by itself.
-/
import Derived.Test.YtmkpkmdnapccgaaGreatDoorRows
import Derived.Test.YtmkpkmdnapccgaaGreatDoorZ03
import Derived.WalkKit
import Derived.ProofKit
import Derived.OpenShut
import Derived.ChangeOld
import Derived.Below

namespace Go.Proofs.YtmkpkmdnapccgaaGreatDoor
open Go

theorem and_cons {a b : Bool} (h : a = true) (k : b = true) : (a && b) = true := by rw [h, k]; rfl
theorem p_laid : laidOutB Tryz.prog = true := by kernel_rfl
theorem p_maps : mapsRowed Tryz.prog = true := by kernel_rfl
theorem p_heard : Tryz.prog.stopsHeard = true := by kernel_rfl
theorem p_enter : Tryz.prog.mayEnter = true := by kernel_rfl
theorem p_plain : (Rows.opTellsRow.plainKeys == Tryz.prog.plainKeys) = true := by kernel_rfl
theorem p_lifts : (Rows.opTellsRow.lifted == Tryz.prog.liftsFinal) = true := by kernel_rfl
theorem p_make : (Tryz.prog.make == some Rows.opTellsRow.make) = true := by kernel_rfl
end Go.Proofs.YtmkpkmdnapccgaaGreatDoor

