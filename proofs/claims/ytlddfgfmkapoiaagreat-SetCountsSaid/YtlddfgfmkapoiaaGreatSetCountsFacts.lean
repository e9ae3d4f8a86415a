/-
  Facts of the program that the proof of SetCounts asks, each by itself. (No condition.)
-/
import Derived.Test.YtlddfgfmkapoiaaGreatFct

namespace Go.Proofs.YtlddfgfmkapoiaaGreat.setCounts
open Go Go.Proofs.YtlddfgfmkapoiaaGreat
theorem t0 : (Rows.setCountsRow.wf (OpenSpec.ofChange Rows.setCountsSpec)) = true := by kernel_rfl
theorem t1 : (laidOutB Tryz.prog) = true := p_laid
theorem t2 : (mapsRowed Tryz.prog) = true := p_maps
theorem t3 : (Tryz.f12.params.all (Tryz.prog.readableRec ·)) = true := by kernel_rfl
theorem t4 : (namedTie Tryz.prog Rows.setCountsRow.named Rows.setCountsSpec.vars) = true := by kernel_rfl
theorem t5 : ((Rows.setCountsRow.stops == [])) = true := by kernel_rfl
theorem t6 : ((Tryz.prog.stops == [])) = true := by kernel_rfl
theorem t7 : ((Rows.setCountsRow.knobs == [])) = true := by kernel_rfl
theorem t8 : ((Tryz.prog.stopKnobs == [])) = true := by kernel_rfl
theorem t9 : ((Rows.setCountsRow.inPlace == Tryz.prog.inPlace 12)) = true := by kernel_rfl
theorem t10 : ((Rows.setCountsRow.unfollowed == Tryz.prog.unfollowed 12)) = true := by kernel_rfl
theorem t11 : ((Rows.setCountsRow.recurses == Tryz.prog.recurses 12)) = true := by kernel_rfl
theorem t12 : ((Rows.setCountsRow.named == Tryz.prog.varsNamed 12)) = true := by kernel_rfl
theorem t13 : ((Rows.setCountsRow.maps == (Tryz.f12.params.toList ++ Rows.setCountsSpec.plain.varTypes Tryz.prog).any (Tryz.prog.mapsRec ·))) = true := by kernel_rfl
theorem t14 : ((Rows.setCountsRow.ifaces == (Tryz.f12.params.toList ++ Rows.setCountsSpec.plain.varTypes Tryz.prog).any (Tryz.prog.ifacesRec ·))) = true := by kernel_rfl
theorem t15 : ((Rows.setCountsRow.mapsOut == Tryz.prog.mapsAmong Tryz.f12.resultTypes.toList)) = true := by kernel_rfl
theorem t16 : ((Rows.setCountsRow.loops == (Tryz.f12.params.toList ++ Rows.setCountsSpec.plain.varTypes Tryz.prog).any (Tryz.prog.loopsFrom ·))) = true := by kernel_rfl
theorem t17 : ((Rows.setCountsRow.wideKeys == (Tryz.f12.params.toList ++ Rows.setCountsSpec.plain.varTypes Tryz.prog ++ Tryz.f12.resultTypes.toList).any (Tryz.prog.wideKeysFrom ·))) = true := by kernel_rfl
theorem t18 : (Rows.setCountsSpec.vars.all (Tryz.prog.varReadable ·)) = true := by kernel_rfl
theorem t19 : (Tryz.f12.resultTypes.all (fun t => Tryz.prog.readableRec t && decide (t < Tryz.prog.types.size))) = true := by kernel_rfl
theorem t20 : ((Rows.setCountsRow.ifacesOut == Tryz.f12.resultTypes.toList.any (Tryz.prog.ifacesRec ·))) = true := by kernel_rfl
theorem t21 : ((Rows.setCountsRow.loopsOut == Tryz.f12.resultTypes.toList.any (Tryz.prog.loopsFrom ·))) = true := by kernel_rfl
theorem t22 : ((Rows.setCountsRow.plainKeys == Tryz.prog.plainKeys)) = true := p_plain
theorem t23 : (Rows.setCountsRow.shortTexts.isNone) = true := by kernel_rfl
theorem t24 : (Tryz.prog.stopsHeard) = true := p_heard
theorem t25 : (Tryz.prog.mayEnter) = true := p_enter
theorem t26 : ((Rows.setCountsRow.lifted == Tryz.prog.liftsFinal)) = true := p_lifts
theorem t27 : ((Tryz.prog.make == some Rows.setCountsRow.make)) = true := p_make
theorem t28 : ((Rows.setCountsRow.kinds == (if Rows.setCountsRow.domain.isEmpty then [] else Tryz.f12.params.toList.map fun t => match Tryz.prog.underlying t with | some (.int k) => some k | _ => none))) = true := by kernel_rfl
theorem t29 : ((Rows.setCountsRow.pinned == Rows.setCountsRow.pinnedBy)) = true := by kernel_rfl
theorem t30 : ((Rows.setCountsRow.veiled == (Tryz.f12.params.toList ++ Rows.setCountsSpec.plain.varTypes Tryz.prog ++ Tryz.f12.resultTypes.toList).any (Tryz.prog.veiledRec ·))) = true := by kernel_rfl
theorem t31 : (Rows.setCountsRow.veiledFits Tryz.prog Tryz.f12.params.toList (Tryz.f12.params.toList ++ Rows.setCountsSpec.plain.varTypes Tryz.prog ++ Tryz.f12.resultTypes.toList)) = true := by kernel_rfl
theorem named_ : Tryz.prog.funcNamed Rows.setCountsRow.func = some 12 := by kernel_rfl
theorem closed0 : ((Rows.setCountsRow.wf (OpenSpec.ofChange Rows.setCountsSpec)) && (laidOutB Tryz.prog) && (mapsRowed Tryz.prog) && (Tryz.f12.params.all (Tryz.prog.readableRec ·)) && (namedTie Tryz.prog Rows.setCountsRow.named Rows.setCountsSpec.vars) && ((Rows.setCountsRow.stops == [])) && ((Tryz.prog.stops == [])) && ((Rows.setCountsRow.knobs == [])) && ((Tryz.prog.stopKnobs == [])) && ((Rows.setCountsRow.inPlace == Tryz.prog.inPlace 12)) && ((Rows.setCountsRow.unfollowed == Tryz.prog.unfollowed 12)) && ((Rows.setCountsRow.recurses == Tryz.prog.recurses 12)) && ((Rows.setCountsRow.named == Tryz.prog.varsNamed 12)) && ((Rows.setCountsRow.maps == (Tryz.f12.params.toList ++ Rows.setCountsSpec.plain.varTypes Tryz.prog).any (Tryz.prog.mapsRec ·))) && ((Rows.setCountsRow.ifaces == (Tryz.f12.params.toList ++ Rows.setCountsSpec.plain.varTypes Tryz.prog).any (Tryz.prog.ifacesRec ·))) && ((Rows.setCountsRow.mapsOut == Tryz.prog.mapsAmong Tryz.f12.resultTypes.toList)) && ((Rows.setCountsRow.loops == (Tryz.f12.params.toList ++ Rows.setCountsSpec.plain.varTypes Tryz.prog).any (Tryz.prog.loopsFrom ·))) && ((Rows.setCountsRow.wideKeys == (Tryz.f12.params.toList ++ Rows.setCountsSpec.plain.varTypes Tryz.prog ++ Tryz.f12.resultTypes.toList).any (Tryz.prog.wideKeysFrom ·))) && (Rows.setCountsSpec.vars.all (Tryz.prog.varReadable ·)) && (Tryz.f12.resultTypes.all (fun t => Tryz.prog.readableRec t && decide (t < Tryz.prog.types.size))) && ((Rows.setCountsRow.ifacesOut == Tryz.f12.resultTypes.toList.any (Tryz.prog.ifacesRec ·))) && ((Rows.setCountsRow.loopsOut == Tryz.f12.resultTypes.toList.any (Tryz.prog.loopsFrom ·))) && ((Rows.setCountsRow.plainKeys == Tryz.prog.plainKeys)) && (Rows.setCountsRow.shortTexts.isNone) && (Tryz.prog.stopsHeard) && (Tryz.prog.mayEnter) && ((Rows.setCountsRow.lifted == Tryz.prog.liftsFinal)) && ((Tryz.prog.make == some Rows.setCountsRow.make)) && ((Rows.setCountsRow.kinds == (if Rows.setCountsRow.domain.isEmpty then [] else Tryz.f12.params.toList.map fun t => match Tryz.prog.underlying t with | some (.int k) => some k | _ => none))) && ((Rows.setCountsRow.pinned == Rows.setCountsRow.pinnedBy)) && ((Rows.setCountsRow.veiled == (Tryz.f12.params.toList ++ Rows.setCountsSpec.plain.varTypes Tryz.prog ++ Tryz.f12.resultTypes.toList).any (Tryz.prog.veiledRec ·))) && (Rows.setCountsRow.veiledFits Tryz.prog Tryz.f12.params.toList (Tryz.f12.params.toList ++ Rows.setCountsSpec.plain.varTypes Tryz.prog ++ Tryz.f12.resultTypes.toList))) = true := (and_cons (and_cons (and_cons (and_cons (and_cons (and_cons (and_cons (and_cons (and_cons (and_cons (and_cons (and_cons (and_cons (and_cons (and_cons (and_cons (and_cons (and_cons (and_cons (and_cons (and_cons (and_cons (and_cons (and_cons (and_cons (and_cons (and_cons (and_cons (and_cons (and_cons (and_cons t0 t1) t2) t3) t4) t5) t6) t7) t8) t9) t10) t11) t12) t13) t14) t15) t16) t17) t18) t19) t20) t21) t22) t23) t24) t25) t26) t27) t28) t29) t30) t31)
set_option maxRecDepth 100000 in
theorem closed : joinedFacts Tryz.prog 12 Tryz.f12 Rows.setCountsSpec Rows.setCountsRow = true := by
  unfold joinedFacts
  exact closed0
end Go.Proofs.YtlddfgfmkapoiaaGreat.setCounts

