/-
  Facts of the program that the proof of CanonMeets asks, each by itself. (No condition.)
-/
import Derived.Test.YtlfjaogbehpleaaGreatFct

namespace Go.Proofs.YtlfjaogbehpleaaGreat.canonMeets
open Go Go.Proofs.YtlfjaogbehpleaaGreat
theorem t0 : (Rows.canonMeetsRow.wf (OpenSpec.ofChange Rows.canonMeetsSpec)) = true := by kernel_rfl
theorem t1 : (laidOutB Tryz.prog) = true := p_laid
theorem t2 : (mapsRowed Tryz.prog) = true := p_maps
theorem t3 : (Tryz.f6.params.all (Tryz.prog.readableRec ·)) = true := by kernel_rfl
theorem t4 : (namedTie Tryz.prog Rows.canonMeetsRow.named Rows.canonMeetsSpec.vars) = true := by kernel_rfl
theorem t5 : ((Rows.canonMeetsRow.stops == [])) = true := by kernel_rfl
theorem t6 : ((Tryz.prog.stops == [])) = true := by kernel_rfl
theorem t7 : ((Rows.canonMeetsRow.knobs == [])) = true := by kernel_rfl
theorem t8 : ((Tryz.prog.stopKnobs == [])) = true := by kernel_rfl
theorem t9 : ((Rows.canonMeetsRow.inPlace == Tryz.prog.inPlace 6)) = true := by kernel_rfl
theorem t10 : ((Rows.canonMeetsRow.unfollowed == Tryz.prog.unfollowed 6)) = true := by kernel_rfl
theorem t11 : ((Rows.canonMeetsRow.recurses == Tryz.prog.recurses 6)) = true := by kernel_rfl
theorem t12 : ((Rows.canonMeetsRow.named == Tryz.prog.varsNamed 6)) = true := by kernel_rfl
theorem t13 : ((Rows.canonMeetsRow.maps == (Tryz.f6.params.toList ++ Rows.canonMeetsSpec.plain.varTypes Tryz.prog).any (Tryz.prog.mapsRec ·))) = true := by kernel_rfl
theorem t14 : ((Rows.canonMeetsRow.ifaces == (Tryz.f6.params.toList ++ Rows.canonMeetsSpec.plain.varTypes Tryz.prog).any (Tryz.prog.ifacesRec ·))) = true := by kernel_rfl
theorem t15 : ((Rows.canonMeetsRow.mapsOut == Tryz.prog.mapsAmong Tryz.f6.resultTypes.toList)) = true := by kernel_rfl
theorem t16 : ((Rows.canonMeetsRow.loops == (Tryz.f6.params.toList ++ Rows.canonMeetsSpec.plain.varTypes Tryz.prog).any (Tryz.prog.loopsFrom ·))) = true := by kernel_rfl
theorem t17 : ((Rows.canonMeetsRow.wideKeys == (Tryz.f6.params.toList ++ Rows.canonMeetsSpec.plain.varTypes Tryz.prog ++ Tryz.f6.resultTypes.toList).any (Tryz.prog.wideKeysFrom ·))) = true := by kernel_rfl
theorem t18 : (Rows.canonMeetsSpec.vars.all (Tryz.prog.varReadable ·)) = true := by kernel_rfl
theorem t19 : (Tryz.f6.resultTypes.all (fun t => Tryz.prog.readableRec t && decide (t < Tryz.prog.types.size))) = true := by kernel_rfl
theorem t20 : ((Rows.canonMeetsRow.ifacesOut == Tryz.f6.resultTypes.toList.any (Tryz.prog.ifacesRec ·))) = true := by kernel_rfl
theorem t21 : ((Rows.canonMeetsRow.loopsOut == Tryz.f6.resultTypes.toList.any (Tryz.prog.loopsFrom ·))) = true := by kernel_rfl
theorem t22 : ((Rows.canonMeetsRow.plainKeys == Tryz.prog.plainKeys)) = true := p_plain
theorem t23 : (Rows.canonMeetsRow.shortTexts.isNone) = true := by kernel_rfl
theorem t24 : (Tryz.prog.stopsHeard) = true := p_heard
theorem t25 : (Tryz.prog.mayEnter) = true := p_enter
theorem t26 : ((Rows.canonMeetsRow.lifted == Tryz.prog.liftsFinal)) = true := p_lifts
theorem t27 : ((Tryz.prog.make == some Rows.canonMeetsRow.make)) = true := p_make
theorem t28 : ((Rows.canonMeetsRow.kinds == (if Rows.canonMeetsRow.domain.isEmpty then [] else Tryz.f6.params.toList.map fun t => match Tryz.prog.underlying t with | some (.int k) => some k | _ => none))) = true := by kernel_rfl
theorem t29 : ((Rows.canonMeetsRow.pinned == Rows.canonMeetsRow.pinnedBy)) = true := by kernel_rfl
theorem t30 : ((Rows.canonMeetsRow.veiled == (Tryz.f6.params.toList ++ Rows.canonMeetsSpec.plain.varTypes Tryz.prog ++ Tryz.f6.resultTypes.toList).any (Tryz.prog.veiledRec ·))) = true := by kernel_rfl
theorem t31 : (Rows.canonMeetsRow.veiledFits Tryz.prog Tryz.f6.params.toList (Tryz.f6.params.toList ++ Rows.canonMeetsSpec.plain.varTypes Tryz.prog ++ Tryz.f6.resultTypes.toList)) = true := by kernel_rfl
theorem named_ : Tryz.prog.funcNamed Rows.canonMeetsRow.func = some 6 := by kernel_rfl
theorem closed0 : ((Rows.canonMeetsRow.wf (OpenSpec.ofChange Rows.canonMeetsSpec)) && (laidOutB Tryz.prog) && (mapsRowed Tryz.prog) && (Tryz.f6.params.all (Tryz.prog.readableRec ·)) && (namedTie Tryz.prog Rows.canonMeetsRow.named Rows.canonMeetsSpec.vars) && ((Rows.canonMeetsRow.stops == [])) && ((Tryz.prog.stops == [])) && ((Rows.canonMeetsRow.knobs == [])) && ((Tryz.prog.stopKnobs == [])) && ((Rows.canonMeetsRow.inPlace == Tryz.prog.inPlace 6)) && ((Rows.canonMeetsRow.unfollowed == Tryz.prog.unfollowed 6)) && ((Rows.canonMeetsRow.recurses == Tryz.prog.recurses 6)) && ((Rows.canonMeetsRow.named == Tryz.prog.varsNamed 6)) && ((Rows.canonMeetsRow.maps == (Tryz.f6.params.toList ++ Rows.canonMeetsSpec.plain.varTypes Tryz.prog).any (Tryz.prog.mapsRec ·))) && ((Rows.canonMeetsRow.ifaces == (Tryz.f6.params.toList ++ Rows.canonMeetsSpec.plain.varTypes Tryz.prog).any (Tryz.prog.ifacesRec ·))) && ((Rows.canonMeetsRow.mapsOut == Tryz.prog.mapsAmong Tryz.f6.resultTypes.toList)) && ((Rows.canonMeetsRow.loops == (Tryz.f6.params.toList ++ Rows.canonMeetsSpec.plain.varTypes Tryz.prog).any (Tryz.prog.loopsFrom ·))) && ((Rows.canonMeetsRow.wideKeys == (Tryz.f6.params.toList ++ Rows.canonMeetsSpec.plain.varTypes Tryz.prog ++ Tryz.f6.resultTypes.toList).any (Tryz.prog.wideKeysFrom ·))) && (Rows.canonMeetsSpec.vars.all (Tryz.prog.varReadable ·)) && (Tryz.f6.resultTypes.all (fun t => Tryz.prog.readableRec t && decide (t < Tryz.prog.types.size))) && ((Rows.canonMeetsRow.ifacesOut == Tryz.f6.resultTypes.toList.any (Tryz.prog.ifacesRec ·))) && ((Rows.canonMeetsRow.loopsOut == Tryz.f6.resultTypes.toList.any (Tryz.prog.loopsFrom ·))) && ((Rows.canonMeetsRow.plainKeys == Tryz.prog.plainKeys)) && (Rows.canonMeetsRow.shortTexts.isNone) && (Tryz.prog.stopsHeard) && (Tryz.prog.mayEnter) && ((Rows.canonMeetsRow.lifted == Tryz.prog.liftsFinal)) && ((Tryz.prog.make == some Rows.canonMeetsRow.make)) && ((Rows.canonMeetsRow.kinds == (if Rows.canonMeetsRow.domain.isEmpty then [] else Tryz.f6.params.toList.map fun t => match Tryz.prog.underlying t with | some (.int k) => some k | _ => none))) && ((Rows.canonMeetsRow.pinned == Rows.canonMeetsRow.pinnedBy)) && ((Rows.canonMeetsRow.veiled == (Tryz.f6.params.toList ++ Rows.canonMeetsSpec.plain.varTypes Tryz.prog ++ Tryz.f6.resultTypes.toList).any (Tryz.prog.veiledRec ·))) && (Rows.canonMeetsRow.veiledFits Tryz.prog Tryz.f6.params.toList (Tryz.f6.params.toList ++ Rows.canonMeetsSpec.plain.varTypes Tryz.prog ++ Tryz.f6.resultTypes.toList))) = true := (and_cons (and_cons (and_cons (and_cons (and_cons (and_cons (and_cons (and_cons (and_cons (and_cons (and_cons (and_cons (and_cons (and_cons (and_cons (and_cons (and_cons (and_cons (and_cons (and_cons (and_cons (and_cons (and_cons (and_cons (and_cons (and_cons (and_cons (and_cons (and_cons (and_cons (and_cons t0 t1) t2) t3) t4) t5) t6) t7) t8) t9) t10) t11) t12) t13) t14) t15) t16) t17) t18) t19) t20) t21) t22) t23) t24) t25) t26) t27) t28) t29) t30) t31)
set_option maxRecDepth 100000 in
theorem closed : joinedFacts Tryz.prog 6 Tryz.f6 Rows.canonMeetsSpec Rows.canonMeetsRow = true := by
  unfold joinedFacts
  exact closed0
end Go.Proofs.YtlfjaogbehpleaaGreat.canonMeets

