/-
  Facts of the program that the proof of SetLaws asks, each by itself. (No condition.)
-/
import Derived.Test.YtlddfgfmkapoiaaGreatFct

namespace Go.Proofs.YtlddfgfmkapoiaaGreat.setLaws
open Go Go.Proofs.YtlddfgfmkapoiaaGreat
theorem t0 : (Rows.setLawsRow.wf (OpenSpec.ofChange Rows.setLawsSpec)) = true := by kernel_rfl
theorem t1 : (laidOutB Tryz.prog) = true := p_laid
theorem t2 : (mapsRowed Tryz.prog) = true := p_maps
theorem t3 : (Tryz.f11.params.all (Tryz.prog.readableRec ·)) = true := by kernel_rfl
theorem t4 : (namedTie Tryz.prog Rows.setLawsRow.named Rows.setLawsSpec.vars) = true := by kernel_rfl
theorem t5 : ((Rows.setLawsRow.stops == [])) = true := by kernel_rfl
theorem t6 : ((Tryz.prog.stops == [])) = true := by kernel_rfl
theorem t7 : ((Rows.setLawsRow.knobs == [])) = true := by kernel_rfl
theorem t8 : ((Tryz.prog.stopKnobs == [])) = true := by kernel_rfl
theorem t9 : ((Rows.setLawsRow.inPlace == Tryz.prog.inPlace 11)) = true := by kernel_rfl
theorem t10 : ((Rows.setLawsRow.unfollowed == Tryz.prog.unfollowed 11)) = true := by kernel_rfl
theorem t11 : ((Rows.setLawsRow.recurses == Tryz.prog.recurses 11)) = true := by kernel_rfl
theorem t12 : ((Rows.setLawsRow.named == Tryz.prog.varsNamed 11)) = true := by kernel_rfl
theorem t13 : ((Rows.setLawsRow.maps == (Tryz.f11.params.toList ++ Rows.setLawsSpec.plain.varTypes Tryz.prog).any (Tryz.prog.mapsRec ·))) = true := by kernel_rfl
theorem t14 : ((Rows.setLawsRow.ifaces == (Tryz.f11.params.toList ++ Rows.setLawsSpec.plain.varTypes Tryz.prog).any (Tryz.prog.ifacesRec ·))) = true := by kernel_rfl
theorem t15 : ((Rows.setLawsRow.mapsOut == Tryz.prog.mapsAmong Tryz.f11.resultTypes.toList)) = true := by kernel_rfl
theorem t16 : ((Rows.setLawsRow.loops == (Tryz.f11.params.toList ++ Rows.setLawsSpec.plain.varTypes Tryz.prog).any (Tryz.prog.loopsFrom ·))) = true := by kernel_rfl
theorem t17 : ((Rows.setLawsRow.wideKeys == (Tryz.f11.params.toList ++ Rows.setLawsSpec.plain.varTypes Tryz.prog ++ Tryz.f11.resultTypes.toList).any (Tryz.prog.wideKeysFrom ·))) = true := by kernel_rfl
theorem t18 : (Rows.setLawsSpec.vars.all (Tryz.prog.varReadable ·)) = true := by kernel_rfl
theorem t19 : (Tryz.f11.resultTypes.all (fun t => Tryz.prog.readableRec t && decide (t < Tryz.prog.types.size))) = true := by kernel_rfl
theorem t20 : ((Rows.setLawsRow.ifacesOut == Tryz.f11.resultTypes.toList.any (Tryz.prog.ifacesRec ·))) = true := by kernel_rfl
theorem t21 : ((Rows.setLawsRow.loopsOut == Tryz.f11.resultTypes.toList.any (Tryz.prog.loopsFrom ·))) = true := by kernel_rfl
theorem t22 : ((Rows.setLawsRow.plainKeys == Tryz.prog.plainKeys)) = true := p_plain
theorem t23 : (Rows.setLawsRow.shortTexts.isNone) = true := by kernel_rfl
theorem t24 : (Tryz.prog.stopsHeard) = true := p_heard
theorem t25 : (Tryz.prog.mayEnter) = true := p_enter
theorem t26 : ((Rows.setLawsRow.lifted == Tryz.prog.liftsFinal)) = true := p_lifts
theorem t27 : ((Tryz.prog.make == some Rows.setLawsRow.make)) = true := p_make
theorem t28 : ((Rows.setLawsRow.kinds == (if Rows.setLawsRow.domain.isEmpty then [] else Tryz.f11.params.toList.map fun t => match Tryz.prog.underlying t with | some (.int k) => some k | _ => none))) = true := by kernel_rfl
theorem t29 : ((Rows.setLawsRow.pinned == Rows.setLawsRow.pinnedBy)) = true := by kernel_rfl
theorem t30 : ((Rows.setLawsRow.veiled == (Tryz.f11.params.toList ++ Rows.setLawsSpec.plain.varTypes Tryz.prog ++ Tryz.f11.resultTypes.toList).any (Tryz.prog.veiledRec ·))) = true := by kernel_rfl
theorem t31 : (Rows.setLawsRow.veiledFits Tryz.prog Tryz.f11.params.toList (Tryz.f11.params.toList ++ Rows.setLawsSpec.plain.varTypes Tryz.prog ++ Tryz.f11.resultTypes.toList)) = true := by kernel_rfl
theorem named_ : Tryz.prog.funcNamed Rows.setLawsRow.func = some 11 := by kernel_rfl
theorem closed0 : ((Rows.setLawsRow.wf (OpenSpec.ofChange Rows.setLawsSpec)) && (laidOutB Tryz.prog) && (mapsRowed Tryz.prog) && (Tryz.f11.params.all (Tryz.prog.readableRec ·)) && (namedTie Tryz.prog Rows.setLawsRow.named Rows.setLawsSpec.vars) && ((Rows.setLawsRow.stops == [])) && ((Tryz.prog.stops == [])) && ((Rows.setLawsRow.knobs == [])) && ((Tryz.prog.stopKnobs == [])) && ((Rows.setLawsRow.inPlace == Tryz.prog.inPlace 11)) && ((Rows.setLawsRow.unfollowed == Tryz.prog.unfollowed 11)) && ((Rows.setLawsRow.recurses == Tryz.prog.recurses 11)) && ((Rows.setLawsRow.named == Tryz.prog.varsNamed 11)) && ((Rows.setLawsRow.maps == (Tryz.f11.params.toList ++ Rows.setLawsSpec.plain.varTypes Tryz.prog).any (Tryz.prog.mapsRec ·))) && ((Rows.setLawsRow.ifaces == (Tryz.f11.params.toList ++ Rows.setLawsSpec.plain.varTypes Tryz.prog).any (Tryz.prog.ifacesRec ·))) && ((Rows.setLawsRow.mapsOut == Tryz.prog.mapsAmong Tryz.f11.resultTypes.toList)) && ((Rows.setLawsRow.loops == (Tryz.f11.params.toList ++ Rows.setLawsSpec.plain.varTypes Tryz.prog).any (Tryz.prog.loopsFrom ·))) && ((Rows.setLawsRow.wideKeys == (Tryz.f11.params.toList ++ Rows.setLawsSpec.plain.varTypes Tryz.prog ++ Tryz.f11.resultTypes.toList).any (Tryz.prog.wideKeysFrom ·))) && (Rows.setLawsSpec.vars.all (Tryz.prog.varReadable ·)) && (Tryz.f11.resultTypes.all (fun t => Tryz.prog.readableRec t && decide (t < Tryz.prog.types.size))) && ((Rows.setLawsRow.ifacesOut == Tryz.f11.resultTypes.toList.any (Tryz.prog.ifacesRec ·))) && ((Rows.setLawsRow.loopsOut == Tryz.f11.resultTypes.toList.any (Tryz.prog.loopsFrom ·))) && ((Rows.setLawsRow.plainKeys == Tryz.prog.plainKeys)) && (Rows.setLawsRow.shortTexts.isNone) && (Tryz.prog.stopsHeard) && (Tryz.prog.mayEnter) && ((Rows.setLawsRow.lifted == Tryz.prog.liftsFinal)) && ((Tryz.prog.make == some Rows.setLawsRow.make)) && ((Rows.setLawsRow.kinds == (if Rows.setLawsRow.domain.isEmpty then [] else Tryz.f11.params.toList.map fun t => match Tryz.prog.underlying t with | some (.int k) => some k | _ => none))) && ((Rows.setLawsRow.pinned == Rows.setLawsRow.pinnedBy)) && ((Rows.setLawsRow.veiled == (Tryz.f11.params.toList ++ Rows.setLawsSpec.plain.varTypes Tryz.prog ++ Tryz.f11.resultTypes.toList).any (Tryz.prog.veiledRec ·))) && (Rows.setLawsRow.veiledFits Tryz.prog Tryz.f11.params.toList (Tryz.f11.params.toList ++ Rows.setLawsSpec.plain.varTypes Tryz.prog ++ Tryz.f11.resultTypes.toList))) = true := (and_cons (and_cons (and_cons (and_cons (and_cons (and_cons (and_cons (and_cons (and_cons (and_cons (and_cons (and_cons (and_cons (and_cons (and_cons (and_cons (and_cons (and_cons (and_cons (and_cons (and_cons (and_cons (and_cons (and_cons (and_cons (and_cons (and_cons (and_cons (and_cons (and_cons (and_cons t0 t1) t2) t3) t4) t5) t6) t7) t8) t9) t10) t11) t12) t13) t14) t15) t16) t17) t18) t19) t20) t21) t22) t23) t24) t25) t26) t27) t28) t29) t30) t31)
set_option maxRecDepth 100000 in
theorem closed : joinedFacts Tryz.prog 11 Tryz.f11 Rows.setLawsSpec Rows.setLawsRow = true := by
  unfold joinedFacts
  exact closed0
end Go.Proofs.YtlddfgfmkapoiaaGreat.setLaws

