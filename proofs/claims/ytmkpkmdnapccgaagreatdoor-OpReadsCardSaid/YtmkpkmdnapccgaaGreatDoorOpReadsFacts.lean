/-
  Facts of the program that the proof of OpReads asks, each by itself. (No condition.)
-/
import Derived.Test.YtmkpkmdnapccgaaGreatDoorFct

namespace Go.Proofs.YtmkpkmdnapccgaaGreatDoor.opReads
open Go Go.Proofs.YtmkpkmdnapccgaaGreatDoor
theorem t0 : (Rows.opReadsRow.wf (OpenSpec.ofChange Rows.opReadsSpec)) = true := by kernel_rfl
theorem t1 : (laidOutB Tryz.prog) = true := p_laid
theorem t2 : (mapsRowed Tryz.prog) = true := p_maps
theorem t3 : (Tryz.f5.params.all (Tryz.prog.readableRec ·)) = true := by kernel_rfl
theorem t4 : (namedTie Tryz.prog Rows.opReadsRow.named Rows.opReadsSpec.vars) = true := by kernel_rfl
theorem t5 : ((Rows.opReadsRow.stops == [])) = true := by kernel_rfl
theorem t6 : ((Tryz.prog.stops == [])) = true := by kernel_rfl
theorem t7 : ((Rows.opReadsRow.knobs == [])) = true := by kernel_rfl
theorem t8 : ((Tryz.prog.stopKnobs == [])) = true := by kernel_rfl
theorem t9 : ((Rows.opReadsRow.inPlace == Tryz.prog.inPlace 5)) = true := by kernel_rfl
theorem t10 : ((Rows.opReadsRow.unfollowed == Tryz.prog.unfollowed 5)) = true := by kernel_rfl
theorem t11 : ((Rows.opReadsRow.recurses == Tryz.prog.recurses 5)) = true := by kernel_rfl
theorem t12 : ((Rows.opReadsRow.named == Tryz.prog.varsNamed 5)) = true := by kernel_rfl
theorem t13 : ((Rows.opReadsRow.maps == (Tryz.f5.params.toList ++ Rows.opReadsSpec.plain.varTypes Tryz.prog).any (Tryz.prog.mapsRec ·))) = true := by kernel_rfl
theorem t14 : ((Rows.opReadsRow.ifaces == (Tryz.f5.params.toList ++ Rows.opReadsSpec.plain.varTypes Tryz.prog).any (Tryz.prog.ifacesRec ·))) = true := by kernel_rfl
theorem t15 : ((Rows.opReadsRow.mapsOut == Tryz.prog.mapsAmong Tryz.f5.resultTypes.toList)) = true := by kernel_rfl
theorem t16 : ((Rows.opReadsRow.loops == (Tryz.f5.params.toList ++ Rows.opReadsSpec.plain.varTypes Tryz.prog).any (Tryz.prog.loopsFrom ·))) = true := by kernel_rfl
theorem t17 : ((Rows.opReadsRow.wideKeys == (Tryz.f5.params.toList ++ Rows.opReadsSpec.plain.varTypes Tryz.prog ++ Tryz.f5.resultTypes.toList).any (Tryz.prog.wideKeysFrom ·))) = true := by kernel_rfl
theorem t18 : (Rows.opReadsSpec.vars.all (Tryz.prog.varReadable ·)) = true := by kernel_rfl
theorem t19 : (Tryz.f5.resultTypes.all (fun t => Tryz.prog.readableRec t && decide (t < Tryz.prog.types.size))) = true := by kernel_rfl
theorem t20 : ((Rows.opReadsRow.ifacesOut == Tryz.f5.resultTypes.toList.any (Tryz.prog.ifacesRec ·))) = true := by kernel_rfl
theorem t21 : ((Rows.opReadsRow.loopsOut == Tryz.f5.resultTypes.toList.any (Tryz.prog.loopsFrom ·))) = true := by kernel_rfl
theorem t22 : ((Rows.opReadsRow.plainKeys == Tryz.prog.plainKeys)) = true := p_plain
theorem t23 : (Rows.opReadsRow.shortTexts.isNone) = true := by kernel_rfl
theorem t24 : (Tryz.prog.stopsHeard) = true := p_heard
theorem t25 : (Tryz.prog.mayEnter) = true := p_enter
theorem t26 : ((Rows.opReadsRow.lifted == Tryz.prog.liftsFinal)) = true := p_lifts
theorem t27 : ((Tryz.prog.make == some Rows.opReadsRow.make)) = true := p_make
theorem t28 : ((Rows.opReadsRow.kinds == (if Rows.opReadsRow.domain.isEmpty then [] else Tryz.f5.params.toList.map fun t => match Tryz.prog.underlying t with | some (.int k) => some k | _ => none))) = true := by kernel_rfl
theorem t29 : ((Rows.opReadsRow.pinned == Rows.opReadsRow.pinnedBy)) = true := by kernel_rfl
theorem t30 : ((Rows.opReadsRow.veiled == (Tryz.f5.params.toList ++ Rows.opReadsSpec.plain.varTypes Tryz.prog ++ Tryz.f5.resultTypes.toList).any (Tryz.prog.veiledRec ·))) = true := by kernel_rfl
theorem t31 : (Rows.opReadsRow.veiledFits Tryz.prog Tryz.f5.params.toList (Tryz.f5.params.toList ++ Rows.opReadsSpec.plain.varTypes Tryz.prog ++ Tryz.f5.resultTypes.toList)) = true := by kernel_rfl
theorem named_ : Tryz.prog.funcNamed Rows.opReadsRow.func = some 5 := by kernel_rfl
theorem closed0 : ((Rows.opReadsRow.wf (OpenSpec.ofChange Rows.opReadsSpec)) && (laidOutB Tryz.prog) && (mapsRowed Tryz.prog) && (Tryz.f5.params.all (Tryz.prog.readableRec ·)) && (namedTie Tryz.prog Rows.opReadsRow.named Rows.opReadsSpec.vars) && ((Rows.opReadsRow.stops == [])) && ((Tryz.prog.stops == [])) && ((Rows.opReadsRow.knobs == [])) && ((Tryz.prog.stopKnobs == [])) && ((Rows.opReadsRow.inPlace == Tryz.prog.inPlace 5)) && ((Rows.opReadsRow.unfollowed == Tryz.prog.unfollowed 5)) && ((Rows.opReadsRow.recurses == Tryz.prog.recurses 5)) && ((Rows.opReadsRow.named == Tryz.prog.varsNamed 5)) && ((Rows.opReadsRow.maps == (Tryz.f5.params.toList ++ Rows.opReadsSpec.plain.varTypes Tryz.prog).any (Tryz.prog.mapsRec ·))) && ((Rows.opReadsRow.ifaces == (Tryz.f5.params.toList ++ Rows.opReadsSpec.plain.varTypes Tryz.prog).any (Tryz.prog.ifacesRec ·))) && ((Rows.opReadsRow.mapsOut == Tryz.prog.mapsAmong Tryz.f5.resultTypes.toList)) && ((Rows.opReadsRow.loops == (Tryz.f5.params.toList ++ Rows.opReadsSpec.plain.varTypes Tryz.prog).any (Tryz.prog.loopsFrom ·))) && ((Rows.opReadsRow.wideKeys == (Tryz.f5.params.toList ++ Rows.opReadsSpec.plain.varTypes Tryz.prog ++ Tryz.f5.resultTypes.toList).any (Tryz.prog.wideKeysFrom ·))) && (Rows.opReadsSpec.vars.all (Tryz.prog.varReadable ·)) && (Tryz.f5.resultTypes.all (fun t => Tryz.prog.readableRec t && decide (t < Tryz.prog.types.size))) && ((Rows.opReadsRow.ifacesOut == Tryz.f5.resultTypes.toList.any (Tryz.prog.ifacesRec ·))) && ((Rows.opReadsRow.loopsOut == Tryz.f5.resultTypes.toList.any (Tryz.prog.loopsFrom ·))) && ((Rows.opReadsRow.plainKeys == Tryz.prog.plainKeys)) && (Rows.opReadsRow.shortTexts.isNone) && (Tryz.prog.stopsHeard) && (Tryz.prog.mayEnter) && ((Rows.opReadsRow.lifted == Tryz.prog.liftsFinal)) && ((Tryz.prog.make == some Rows.opReadsRow.make)) && ((Rows.opReadsRow.kinds == (if Rows.opReadsRow.domain.isEmpty then [] else Tryz.f5.params.toList.map fun t => match Tryz.prog.underlying t with | some (.int k) => some k | _ => none))) && ((Rows.opReadsRow.pinned == Rows.opReadsRow.pinnedBy)) && ((Rows.opReadsRow.veiled == (Tryz.f5.params.toList ++ Rows.opReadsSpec.plain.varTypes Tryz.prog ++ Tryz.f5.resultTypes.toList).any (Tryz.prog.veiledRec ·))) && (Rows.opReadsRow.veiledFits Tryz.prog Tryz.f5.params.toList (Tryz.f5.params.toList ++ Rows.opReadsSpec.plain.varTypes Tryz.prog ++ Tryz.f5.resultTypes.toList))) = true := (and_cons (and_cons (and_cons (and_cons (and_cons (and_cons (and_cons (and_cons (and_cons (and_cons (and_cons (and_cons (and_cons (and_cons (and_cons (and_cons (and_cons (and_cons (and_cons (and_cons (and_cons (and_cons (and_cons (and_cons (and_cons (and_cons (and_cons (and_cons (and_cons (and_cons (and_cons t0 t1) t2) t3) t4) t5) t6) t7) t8) t9) t10) t11) t12) t13) t14) t15) t16) t17) t18) t19) t20) t21) t22) t23) t24) t25) t26) t27) t28) t29) t30) t31)
set_option maxRecDepth 100000 in
theorem closed : joinedFacts Tryz.prog 5 Tryz.f5 Rows.opReadsSpec Rows.opReadsRow = true := by
  unfold joinedFacts
  exact closed0
end Go.Proofs.YtmkpkmdnapccgaaGreatDoor.opReads

