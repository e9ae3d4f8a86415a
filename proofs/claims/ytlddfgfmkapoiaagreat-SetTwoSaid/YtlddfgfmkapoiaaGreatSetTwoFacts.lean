/-
  Facts of the program that the proof of SetTwo asks, each by itself. (No condition.)
-/
import Derived.Test.YtlddfgfmkapoiaaGreatFct

namespace Go.Proofs.YtlddfgfmkapoiaaGreat.setTwo
open Go Go.Proofs.YtlddfgfmkapoiaaGreat
theorem t0 : (Rows.setTwoRow.wf (OpenSpec.ofChange Rows.setTwoSpec)) = true := by kernel_rfl
theorem t1 : (laidOutB Tryz.prog) = true := p_laid
theorem t2 : (mapsRowed Tryz.prog) = true := p_maps
theorem t3 : (Tryz.f10.params.all (Tryz.prog.readableRec ·)) = true := by kernel_rfl
theorem t4 : (namedTie Tryz.prog Rows.setTwoRow.named Rows.setTwoSpec.vars) = true := by kernel_rfl
theorem t5 : ((Rows.setTwoRow.stops == [])) = true := by kernel_rfl
theorem t6 : ((Tryz.prog.stops == [])) = true := by kernel_rfl
theorem t7 : ((Rows.setTwoRow.knobs == [])) = true := by kernel_rfl
theorem t8 : ((Tryz.prog.stopKnobs == [])) = true := by kernel_rfl
theorem t9 : ((Rows.setTwoRow.inPlace == Tryz.prog.inPlace 10)) = true := by kernel_rfl
theorem t10 : ((Rows.setTwoRow.unfollowed == Tryz.prog.unfollowed 10)) = true := by kernel_rfl
theorem t11 : ((Rows.setTwoRow.recurses == Tryz.prog.recurses 10)) = true := by kernel_rfl
theorem t12 : ((Rows.setTwoRow.named == Tryz.prog.varsNamed 10)) = true := by kernel_rfl
theorem t13 : ((Rows.setTwoRow.maps == (Tryz.f10.params.toList ++ Rows.setTwoSpec.plain.varTypes Tryz.prog).any (Tryz.prog.mapsRec ·))) = true := by kernel_rfl
theorem t14 : ((Rows.setTwoRow.ifaces == (Tryz.f10.params.toList ++ Rows.setTwoSpec.plain.varTypes Tryz.prog).any (Tryz.prog.ifacesRec ·))) = true := by kernel_rfl
theorem t15 : ((Rows.setTwoRow.mapsOut == Tryz.prog.mapsAmong Tryz.f10.resultTypes.toList)) = true := by kernel_rfl
theorem t16 : ((Rows.setTwoRow.loops == (Tryz.f10.params.toList ++ Rows.setTwoSpec.plain.varTypes Tryz.prog).any (Tryz.prog.loopsFrom ·))) = true := by kernel_rfl
theorem t17 : ((Rows.setTwoRow.wideKeys == (Tryz.f10.params.toList ++ Rows.setTwoSpec.plain.varTypes Tryz.prog ++ Tryz.f10.resultTypes.toList).any (Tryz.prog.wideKeysFrom ·))) = true := by kernel_rfl
theorem t18 : (Rows.setTwoSpec.vars.all (Tryz.prog.varReadable ·)) = true := by kernel_rfl
theorem t19 : (Tryz.f10.resultTypes.all (fun t => Tryz.prog.readableRec t && decide (t < Tryz.prog.types.size))) = true := by kernel_rfl
theorem t20 : ((Rows.setTwoRow.ifacesOut == Tryz.f10.resultTypes.toList.any (Tryz.prog.ifacesRec ·))) = true := by kernel_rfl
theorem t21 : ((Rows.setTwoRow.loopsOut == Tryz.f10.resultTypes.toList.any (Tryz.prog.loopsFrom ·))) = true := by kernel_rfl
theorem t22 : ((Rows.setTwoRow.plainKeys == Tryz.prog.plainKeys)) = true := p_plain
theorem t23 : (Rows.setTwoRow.shortTexts.isNone) = true := by kernel_rfl
theorem t24 : (Tryz.prog.stopsHeard) = true := p_heard
theorem t25 : (Tryz.prog.mayEnter) = true := p_enter
theorem t26 : ((Rows.setTwoRow.lifted == Tryz.prog.liftsFinal)) = true := p_lifts
theorem t27 : ((Tryz.prog.make == some Rows.setTwoRow.make)) = true := p_make
theorem t28 : ((Rows.setTwoRow.kinds == (if Rows.setTwoRow.domain.isEmpty then [] else Tryz.f10.params.toList.map fun t => match Tryz.prog.underlying t with | some (.int k) => some k | _ => none))) = true := by kernel_rfl
theorem t29 : ((Rows.setTwoRow.pinned == Rows.setTwoRow.pinnedBy)) = true := by kernel_rfl
theorem t30 : ((Rows.setTwoRow.veiled == (Tryz.f10.params.toList ++ Rows.setTwoSpec.plain.varTypes Tryz.prog ++ Tryz.f10.resultTypes.toList).any (Tryz.prog.veiledRec ·))) = true := by kernel_rfl
theorem t31 : (Rows.setTwoRow.veiledFits Tryz.prog Tryz.f10.params.toList (Tryz.f10.params.toList ++ Rows.setTwoSpec.plain.varTypes Tryz.prog ++ Tryz.f10.resultTypes.toList)) = true := by kernel_rfl
theorem named_ : Tryz.prog.funcNamed Rows.setTwoRow.func = some 10 := by kernel_rfl
theorem closed0 : ((Rows.setTwoRow.wf (OpenSpec.ofChange Rows.setTwoSpec)) && (laidOutB Tryz.prog) && (mapsRowed Tryz.prog) && (Tryz.f10.params.all (Tryz.prog.readableRec ·)) && (namedTie Tryz.prog Rows.setTwoRow.named Rows.setTwoSpec.vars) && ((Rows.setTwoRow.stops == [])) && ((Tryz.prog.stops == [])) && ((Rows.setTwoRow.knobs == [])) && ((Tryz.prog.stopKnobs == [])) && ((Rows.setTwoRow.inPlace == Tryz.prog.inPlace 10)) && ((Rows.setTwoRow.unfollowed == Tryz.prog.unfollowed 10)) && ((Rows.setTwoRow.recurses == Tryz.prog.recurses 10)) && ((Rows.setTwoRow.named == Tryz.prog.varsNamed 10)) && ((Rows.setTwoRow.maps == (Tryz.f10.params.toList ++ Rows.setTwoSpec.plain.varTypes Tryz.prog).any (Tryz.prog.mapsRec ·))) && ((Rows.setTwoRow.ifaces == (Tryz.f10.params.toList ++ Rows.setTwoSpec.plain.varTypes Tryz.prog).any (Tryz.prog.ifacesRec ·))) && ((Rows.setTwoRow.mapsOut == Tryz.prog.mapsAmong Tryz.f10.resultTypes.toList)) && ((Rows.setTwoRow.loops == (Tryz.f10.params.toList ++ Rows.setTwoSpec.plain.varTypes Tryz.prog).any (Tryz.prog.loopsFrom ·))) && ((Rows.setTwoRow.wideKeys == (Tryz.f10.params.toList ++ Rows.setTwoSpec.plain.varTypes Tryz.prog ++ Tryz.f10.resultTypes.toList).any (Tryz.prog.wideKeysFrom ·))) && (Rows.setTwoSpec.vars.all (Tryz.prog.varReadable ·)) && (Tryz.f10.resultTypes.all (fun t => Tryz.prog.readableRec t && decide (t < Tryz.prog.types.size))) && ((Rows.setTwoRow.ifacesOut == Tryz.f10.resultTypes.toList.any (Tryz.prog.ifacesRec ·))) && ((Rows.setTwoRow.loopsOut == Tryz.f10.resultTypes.toList.any (Tryz.prog.loopsFrom ·))) && ((Rows.setTwoRow.plainKeys == Tryz.prog.plainKeys)) && (Rows.setTwoRow.shortTexts.isNone) && (Tryz.prog.stopsHeard) && (Tryz.prog.mayEnter) && ((Rows.setTwoRow.lifted == Tryz.prog.liftsFinal)) && ((Tryz.prog.make == some Rows.setTwoRow.make)) && ((Rows.setTwoRow.kinds == (if Rows.setTwoRow.domain.isEmpty then [] else Tryz.f10.params.toList.map fun t => match Tryz.prog.underlying t with | some (.int k) => some k | _ => none))) && ((Rows.setTwoRow.pinned == Rows.setTwoRow.pinnedBy)) && ((Rows.setTwoRow.veiled == (Tryz.f10.params.toList ++ Rows.setTwoSpec.plain.varTypes Tryz.prog ++ Tryz.f10.resultTypes.toList).any (Tryz.prog.veiledRec ·))) && (Rows.setTwoRow.veiledFits Tryz.prog Tryz.f10.params.toList (Tryz.f10.params.toList ++ Rows.setTwoSpec.plain.varTypes Tryz.prog ++ Tryz.f10.resultTypes.toList))) = true := (and_cons (and_cons (and_cons (and_cons (and_cons (and_cons (and_cons (and_cons (and_cons (and_cons (and_cons (and_cons (and_cons (and_cons (and_cons (and_cons (and_cons (and_cons (and_cons (and_cons (and_cons (and_cons (and_cons (and_cons (and_cons (and_cons (and_cons (and_cons (and_cons (and_cons (and_cons t0 t1) t2) t3) t4) t5) t6) t7) t8) t9) t10) t11) t12) t13) t14) t15) t16) t17) t18) t19) t20) t21) t22) t23) t24) t25) t26) t27) t28) t29) t30) t31)
set_option maxRecDepth 100000 in
theorem closed : joinedFacts Tryz.prog 10 Tryz.f10 Rows.setTwoSpec Rows.setTwoRow = true := by
  unfold joinedFacts
  exact closed0
end Go.Proofs.YtlddfgfmkapoiaaGreat.setTwo

