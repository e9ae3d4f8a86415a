/-
  Facts of the program that the proof of CanonDiffs asks, each by itself. (No condition.)
-/
import Derived.Test.YtlddfgfmkapoiaaGreatFct

namespace Go.Proofs.YtlddfgfmkapoiaaGreat.canonDiffs
open Go Go.Proofs.YtlddfgfmkapoiaaGreat
theorem t0 : (Rows.canonDiffsRow.wf (OpenSpec.ofChange Rows.canonDiffsSpec)) = true := by kernel_rfl
theorem t1 : (laidOutB Tryz.prog) = true := p_laid
theorem t2 : (mapsRowed Tryz.prog) = true := p_maps
theorem t3 : (Tryz.f9.params.all (Tryz.prog.readableRec ·)) = true := by kernel_rfl
theorem t4 : (namedTie Tryz.prog Rows.canonDiffsRow.named Rows.canonDiffsSpec.vars) = true := by kernel_rfl
theorem t5 : ((Rows.canonDiffsRow.stops == [])) = true := by kernel_rfl
theorem t6 : ((Tryz.prog.stops == [])) = true := by kernel_rfl
theorem t7 : ((Rows.canonDiffsRow.knobs == [])) = true := by kernel_rfl
theorem t8 : ((Tryz.prog.stopKnobs == [])) = true := by kernel_rfl
theorem t9 : ((Rows.canonDiffsRow.inPlace == Tryz.prog.inPlace 9)) = true := by kernel_rfl
theorem t10 : ((Rows.canonDiffsRow.unfollowed == Tryz.prog.unfollowed 9)) = true := by kernel_rfl
theorem t11 : ((Rows.canonDiffsRow.recurses == Tryz.prog.recurses 9)) = true := by kernel_rfl
theorem t12 : ((Rows.canonDiffsRow.named == Tryz.prog.varsNamed 9)) = true := by kernel_rfl
theorem t13 : ((Rows.canonDiffsRow.maps == (Tryz.f9.params.toList ++ Rows.canonDiffsSpec.plain.varTypes Tryz.prog).any (Tryz.prog.mapsRec ·))) = true := by kernel_rfl
theorem t14 : ((Rows.canonDiffsRow.ifaces == (Tryz.f9.params.toList ++ Rows.canonDiffsSpec.plain.varTypes Tryz.prog).any (Tryz.prog.ifacesRec ·))) = true := by kernel_rfl
theorem t15 : ((Rows.canonDiffsRow.mapsOut == Tryz.prog.mapsAmong Tryz.f9.resultTypes.toList)) = true := by kernel_rfl
theorem t16 : ((Rows.canonDiffsRow.loops == (Tryz.f9.params.toList ++ Rows.canonDiffsSpec.plain.varTypes Tryz.prog).any (Tryz.prog.loopsFrom ·))) = true := by kernel_rfl
theorem t17 : ((Rows.canonDiffsRow.wideKeys == (Tryz.f9.params.toList ++ Rows.canonDiffsSpec.plain.varTypes Tryz.prog ++ Tryz.f9.resultTypes.toList).any (Tryz.prog.wideKeysFrom ·))) = true := by kernel_rfl
theorem t18 : (Rows.canonDiffsSpec.vars.all (Tryz.prog.varReadable ·)) = true := by kernel_rfl
theorem t19 : (Tryz.f9.resultTypes.all (fun t => Tryz.prog.readableRec t && decide (t < Tryz.prog.types.size))) = true := by kernel_rfl
theorem t20 : ((Rows.canonDiffsRow.ifacesOut == Tryz.f9.resultTypes.toList.any (Tryz.prog.ifacesRec ·))) = true := by kernel_rfl
theorem t21 : ((Rows.canonDiffsRow.loopsOut == Tryz.f9.resultTypes.toList.any (Tryz.prog.loopsFrom ·))) = true := by kernel_rfl
theorem t22 : ((Rows.canonDiffsRow.plainKeys == Tryz.prog.plainKeys)) = true := p_plain
theorem t23 : (Rows.canonDiffsRow.shortTexts.isNone) = true := by kernel_rfl
theorem t24 : (Tryz.prog.stopsHeard) = true := p_heard
theorem t25 : (Tryz.prog.mayEnter) = true := p_enter
theorem t26 : ((Rows.canonDiffsRow.lifted == Tryz.prog.liftsFinal)) = true := p_lifts
theorem t27 : ((Tryz.prog.make == some Rows.canonDiffsRow.make)) = true := p_make
theorem t28 : ((Rows.canonDiffsRow.kinds == (if Rows.canonDiffsRow.domain.isEmpty then [] else Tryz.f9.params.toList.map fun t => match Tryz.prog.underlying t with | some (.int k) => some k | _ => none))) = true := by kernel_rfl
theorem t29 : ((Rows.canonDiffsRow.pinned == Rows.canonDiffsRow.pinnedBy)) = true := by kernel_rfl
theorem t30 : ((Rows.canonDiffsRow.veiled == (Tryz.f9.params.toList ++ Rows.canonDiffsSpec.plain.varTypes Tryz.prog ++ Tryz.f9.resultTypes.toList).any (Tryz.prog.veiledRec ·))) = true := by kernel_rfl
theorem t31 : (Rows.canonDiffsRow.veiledFits Tryz.prog Tryz.f9.params.toList (Tryz.f9.params.toList ++ Rows.canonDiffsSpec.plain.varTypes Tryz.prog ++ Tryz.f9.resultTypes.toList)) = true := by kernel_rfl
theorem named_ : Tryz.prog.funcNamed Rows.canonDiffsRow.func = some 9 := by kernel_rfl
theorem closed0 : ((Rows.canonDiffsRow.wf (OpenSpec.ofChange Rows.canonDiffsSpec)) && (laidOutB Tryz.prog) && (mapsRowed Tryz.prog) && (Tryz.f9.params.all (Tryz.prog.readableRec ·)) && (namedTie Tryz.prog Rows.canonDiffsRow.named Rows.canonDiffsSpec.vars) && ((Rows.canonDiffsRow.stops == [])) && ((Tryz.prog.stops == [])) && ((Rows.canonDiffsRow.knobs == [])) && ((Tryz.prog.stopKnobs == [])) && ((Rows.canonDiffsRow.inPlace == Tryz.prog.inPlace 9)) && ((Rows.canonDiffsRow.unfollowed == Tryz.prog.unfollowed 9)) && ((Rows.canonDiffsRow.recurses == Tryz.prog.recurses 9)) && ((Rows.canonDiffsRow.named == Tryz.prog.varsNamed 9)) && ((Rows.canonDiffsRow.maps == (Tryz.f9.params.toList ++ Rows.canonDiffsSpec.plain.varTypes Tryz.prog).any (Tryz.prog.mapsRec ·))) && ((Rows.canonDiffsRow.ifaces == (Tryz.f9.params.toList ++ Rows.canonDiffsSpec.plain.varTypes Tryz.prog).any (Tryz.prog.ifacesRec ·))) && ((Rows.canonDiffsRow.mapsOut == Tryz.prog.mapsAmong Tryz.f9.resultTypes.toList)) && ((Rows.canonDiffsRow.loops == (Tryz.f9.params.toList ++ Rows.canonDiffsSpec.plain.varTypes Tryz.prog).any (Tryz.prog.loopsFrom ·))) && ((Rows.canonDiffsRow.wideKeys == (Tryz.f9.params.toList ++ Rows.canonDiffsSpec.plain.varTypes Tryz.prog ++ Tryz.f9.resultTypes.toList).any (Tryz.prog.wideKeysFrom ·))) && (Rows.canonDiffsSpec.vars.all (Tryz.prog.varReadable ·)) && (Tryz.f9.resultTypes.all (fun t => Tryz.prog.readableRec t && decide (t < Tryz.prog.types.size))) && ((Rows.canonDiffsRow.ifacesOut == Tryz.f9.resultTypes.toList.any (Tryz.prog.ifacesRec ·))) && ((Rows.canonDiffsRow.loopsOut == Tryz.f9.resultTypes.toList.any (Tryz.prog.loopsFrom ·))) && ((Rows.canonDiffsRow.plainKeys == Tryz.prog.plainKeys)) && (Rows.canonDiffsRow.shortTexts.isNone) && (Tryz.prog.stopsHeard) && (Tryz.prog.mayEnter) && ((Rows.canonDiffsRow.lifted == Tryz.prog.liftsFinal)) && ((Tryz.prog.make == some Rows.canonDiffsRow.make)) && ((Rows.canonDiffsRow.kinds == (if Rows.canonDiffsRow.domain.isEmpty then [] else Tryz.f9.params.toList.map fun t => match Tryz.prog.underlying t with | some (.int k) => some k | _ => none))) && ((Rows.canonDiffsRow.pinned == Rows.canonDiffsRow.pinnedBy)) && ((Rows.canonDiffsRow.veiled == (Tryz.f9.params.toList ++ Rows.canonDiffsSpec.plain.varTypes Tryz.prog ++ Tryz.f9.resultTypes.toList).any (Tryz.prog.veiledRec ·))) && (Rows.canonDiffsRow.veiledFits Tryz.prog Tryz.f9.params.toList (Tryz.f9.params.toList ++ Rows.canonDiffsSpec.plain.varTypes Tryz.prog ++ Tryz.f9.resultTypes.toList))) = true := (and_cons (and_cons (and_cons (and_cons (and_cons (and_cons (and_cons (and_cons (and_cons (and_cons (and_cons (and_cons (and_cons (and_cons (and_cons (and_cons (and_cons (and_cons (and_cons (and_cons (and_cons (and_cons (and_cons (and_cons (and_cons (and_cons (and_cons (and_cons (and_cons (and_cons (and_cons t0 t1) t2) t3) t4) t5) t6) t7) t8) t9) t10) t11) t12) t13) t14) t15) t16) t17) t18) t19) t20) t21) t22) t23) t24) t25) t26) t27) t28) t29) t30) t31)
set_option maxRecDepth 100000 in
theorem closed : joinedFacts Tryz.prog 9 Tryz.f9 Rows.canonDiffsSpec Rows.canonDiffsRow = true := by
  unfold joinedFacts
  exact closed0
end Go.Proofs.YtlddfgfmkapoiaaGreat.canonDiffs

