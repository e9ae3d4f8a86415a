/-
  Facts of the program that the proof of OpTells asks, each by itself. (No condition.)
-/
import Derived.Test.YtmkpkmdnapccgaaGreatDoorFct

namespace Go.Proofs.YtmkpkmdnapccgaaGreatDoor.opTells
open Go Go.Proofs.YtmkpkmdnapccgaaGreatDoor
theorem t0 : (Rows.opTellsRow.wf (OpenSpec.ofChange Rows.opTellsSpec)) = true := by kernel_rfl
theorem t1 : (laidOutB Tryz.prog) = true := p_laid
theorem t2 : (mapsRowed Tryz.prog) = true := p_maps
theorem t3 : (Tryz.f3.params.all (Tryz.prog.readableRec ·)) = true := by kernel_rfl
theorem t4 : (namedTie Tryz.prog Rows.opTellsRow.named Rows.opTellsSpec.vars) = true := by kernel_rfl
theorem t5 : ((Rows.opTellsRow.stops == [])) = true := by kernel_rfl
theorem t6 : ((Tryz.prog.stops == [])) = true := by kernel_rfl
theorem t7 : ((Rows.opTellsRow.knobs == [])) = true := by kernel_rfl
theorem t8 : ((Tryz.prog.stopKnobs == [])) = true := by kernel_rfl
theorem t9 : ((Rows.opTellsRow.inPlace == Tryz.prog.inPlace 3)) = true := by kernel_rfl
theorem t10 : ((Rows.opTellsRow.unfollowed == Tryz.prog.unfollowed 3)) = true := by kernel_rfl
theorem t11 : ((Rows.opTellsRow.recurses == Tryz.prog.recurses 3)) = true := by kernel_rfl
theorem t12 : ((Rows.opTellsRow.named == Tryz.prog.varsNamed 3)) = true := by kernel_rfl
theorem t13 : ((Rows.opTellsRow.maps == (Tryz.f3.params.toList ++ Rows.opTellsSpec.plain.varTypes Tryz.prog).any (Tryz.prog.mapsRec ·))) = true := by kernel_rfl
theorem t14 : ((Rows.opTellsRow.ifaces == (Tryz.f3.params.toList ++ Rows.opTellsSpec.plain.varTypes Tryz.prog).any (Tryz.prog.ifacesRec ·))) = true := by kernel_rfl
theorem t15 : ((Rows.opTellsRow.mapsOut == Tryz.prog.mapsAmong Tryz.f3.resultTypes.toList)) = true := by kernel_rfl
theorem t16 : ((Rows.opTellsRow.loops == (Tryz.f3.params.toList ++ Rows.opTellsSpec.plain.varTypes Tryz.prog).any (Tryz.prog.loopsFrom ·))) = true := by kernel_rfl
theorem t17 : ((Rows.opTellsRow.wideKeys == (Tryz.f3.params.toList ++ Rows.opTellsSpec.plain.varTypes Tryz.prog ++ Tryz.f3.resultTypes.toList).any (Tryz.prog.wideKeysFrom ·))) = true := by kernel_rfl
theorem t18 : (Rows.opTellsSpec.vars.all (Tryz.prog.varReadable ·)) = true := by kernel_rfl
theorem t19 : (Tryz.f3.resultTypes.all (fun t => Tryz.prog.readableRec t && decide (t < Tryz.prog.types.size))) = true := by kernel_rfl
theorem t20 : ((Rows.opTellsRow.ifacesOut == Tryz.f3.resultTypes.toList.any (Tryz.prog.ifacesRec ·))) = true := by kernel_rfl
theorem t21 : ((Rows.opTellsRow.loopsOut == Tryz.f3.resultTypes.toList.any (Tryz.prog.loopsFrom ·))) = true := by kernel_rfl
theorem t22 : ((Rows.opTellsRow.plainKeys == Tryz.prog.plainKeys)) = true := p_plain
theorem t23 : (Rows.opTellsRow.shortTexts.isNone) = true := by kernel_rfl
theorem t24 : (Tryz.prog.stopsHeard) = true := p_heard
theorem t25 : (Tryz.prog.mayEnter) = true := p_enter
theorem t26 : ((Rows.opTellsRow.lifted == Tryz.prog.liftsFinal)) = true := p_lifts
theorem t27 : ((Tryz.prog.make == some Rows.opTellsRow.make)) = true := p_make
theorem t28 : ((Rows.opTellsRow.kinds == (if Rows.opTellsRow.domain.isEmpty then [] else Tryz.f3.params.toList.map fun t => match Tryz.prog.underlying t with | some (.int k) => some k | _ => none))) = true := by kernel_rfl
theorem t29 : ((Rows.opTellsRow.pinned == Rows.opTellsRow.pinnedBy)) = true := by kernel_rfl
theorem t30 : ((Rows.opTellsRow.veiled == (Tryz.f3.params.toList ++ Rows.opTellsSpec.plain.varTypes Tryz.prog ++ Tryz.f3.resultTypes.toList).any (Tryz.prog.veiledRec ·))) = true := by kernel_rfl
theorem t31 : (Rows.opTellsRow.veiledFits Tryz.prog Tryz.f3.params.toList (Tryz.f3.params.toList ++ Rows.opTellsSpec.plain.varTypes Tryz.prog ++ Tryz.f3.resultTypes.toList)) = true := by kernel_rfl
theorem named_ : Tryz.prog.funcNamed Rows.opTellsRow.func = some 3 := by kernel_rfl
theorem closed0 : ((Rows.opTellsRow.wf (OpenSpec.ofChange Rows.opTellsSpec)) && (laidOutB Tryz.prog) && (mapsRowed Tryz.prog) && (Tryz.f3.params.all (Tryz.prog.readableRec ·)) && (namedTie Tryz.prog Rows.opTellsRow.named Rows.opTellsSpec.vars) && ((Rows.opTellsRow.stops == [])) && ((Tryz.prog.stops == [])) && ((Rows.opTellsRow.knobs == [])) && ((Tryz.prog.stopKnobs == [])) && ((Rows.opTellsRow.inPlace == Tryz.prog.inPlace 3)) && ((Rows.opTellsRow.unfollowed == Tryz.prog.unfollowed 3)) && ((Rows.opTellsRow.recurses == Tryz.prog.recurses 3)) && ((Rows.opTellsRow.named == Tryz.prog.varsNamed 3)) && ((Rows.opTellsRow.maps == (Tryz.f3.params.toList ++ Rows.opTellsSpec.plain.varTypes Tryz.prog).any (Tryz.prog.mapsRec ·))) && ((Rows.opTellsRow.ifaces == (Tryz.f3.params.toList ++ Rows.opTellsSpec.plain.varTypes Tryz.prog).any (Tryz.prog.ifacesRec ·))) && ((Rows.opTellsRow.mapsOut == Tryz.prog.mapsAmong Tryz.f3.resultTypes.toList)) && ((Rows.opTellsRow.loops == (Tryz.f3.params.toList ++ Rows.opTellsSpec.plain.varTypes Tryz.prog).any (Tryz.prog.loopsFrom ·))) && ((Rows.opTellsRow.wideKeys == (Tryz.f3.params.toList ++ Rows.opTellsSpec.plain.varTypes Tryz.prog ++ Tryz.f3.resultTypes.toList).any (Tryz.prog.wideKeysFrom ·))) && (Rows.opTellsSpec.vars.all (Tryz.prog.varReadable ·)) && (Tryz.f3.resultTypes.all (fun t => Tryz.prog.readableRec t && decide (t < Tryz.prog.types.size))) && ((Rows.opTellsRow.ifacesOut == Tryz.f3.resultTypes.toList.any (Tryz.prog.ifacesRec ·))) && ((Rows.opTellsRow.loopsOut == Tryz.f3.resultTypes.toList.any (Tryz.prog.loopsFrom ·))) && ((Rows.opTellsRow.plainKeys == Tryz.prog.plainKeys)) && (Rows.opTellsRow.shortTexts.isNone) && (Tryz.prog.stopsHeard) && (Tryz.prog.mayEnter) && ((Rows.opTellsRow.lifted == Tryz.prog.liftsFinal)) && ((Tryz.prog.make == some Rows.opTellsRow.make)) && ((Rows.opTellsRow.kinds == (if Rows.opTellsRow.domain.isEmpty then [] else Tryz.f3.params.toList.map fun t => match Tryz.prog.underlying t with | some (.int k) => some k | _ => none))) && ((Rows.opTellsRow.pinned == Rows.opTellsRow.pinnedBy)) && ((Rows.opTellsRow.veiled == (Tryz.f3.params.toList ++ Rows.opTellsSpec.plain.varTypes Tryz.prog ++ Tryz.f3.resultTypes.toList).any (Tryz.prog.veiledRec ·))) && (Rows.opTellsRow.veiledFits Tryz.prog Tryz.f3.params.toList (Tryz.f3.params.toList ++ Rows.opTellsSpec.plain.varTypes Tryz.prog ++ Tryz.f3.resultTypes.toList))) = true := (and_cons (and_cons (and_cons (and_cons (and_cons (and_cons (and_cons (and_cons (and_cons (and_cons (and_cons (and_cons (and_cons (and_cons (and_cons (and_cons (and_cons (and_cons (and_cons (and_cons (and_cons (and_cons (and_cons (and_cons (and_cons (and_cons (and_cons (and_cons (and_cons (and_cons (and_cons t0 t1) t2) t3) t4) t5) t6) t7) t8) t9) t10) t11) t12) t13) t14) t15) t16) t17) t18) t19) t20) t21) t22) t23) t24) t25) t26) t27) t28) t29) t30) t31)
set_option maxRecDepth 100000 in
theorem closed : joinedFacts Tryz.prog 3 Tryz.f3 Rows.opTellsSpec Rows.opTellsRow = true := by
  unfold joinedFacts
  exact closed0
end Go.Proofs.YtmkpkmdnapccgaaGreatDoor.opTells

