/-
  Facts of the program that the proof of ManyTells asks, each by itself. (No condition.)
-/
import Derived.Test.YtlddfgfmkapoiaaGreatFct

namespace Go.Proofs.YtlddfgfmkapoiaaGreat.manyTells
open Go Go.Proofs.YtlddfgfmkapoiaaGreat
theorem t0 : (Rows.manyTellsRow.wf (OpenSpec.ofChange Rows.manyTellsSpec)) = true := by kernel_rfl
theorem t1 : (laidOutB Tryz.prog) = true := p_laid
theorem t2 : (mapsRowed Tryz.prog) = true := p_maps
theorem t3 : (Tryz.f6.params.all (Tryz.prog.readableRec ·)) = true := by kernel_rfl
theorem t4 : (namedTie Tryz.prog Rows.manyTellsRow.named Rows.manyTellsSpec.vars) = true := by kernel_rfl
theorem t5 : ((Rows.manyTellsRow.stops == [])) = true := by kernel_rfl
theorem t6 : ((Tryz.prog.stops == [])) = true := by kernel_rfl
theorem t7 : ((Rows.manyTellsRow.knobs == [])) = true := by kernel_rfl
theorem t8 : ((Tryz.prog.stopKnobs == [])) = true := by kernel_rfl
theorem t9 : ((Rows.manyTellsRow.inPlace == Tryz.prog.inPlace 6)) = true := by kernel_rfl
theorem t10 : ((Rows.manyTellsRow.unfollowed == Tryz.prog.unfollowed 6)) = true := by kernel_rfl
theorem t11 : ((Rows.manyTellsRow.recurses == Tryz.prog.recurses 6)) = true := by kernel_rfl
theorem t12 : ((Rows.manyTellsRow.named == Tryz.prog.varsNamed 6)) = true := by kernel_rfl
theorem t13 : ((Rows.manyTellsRow.maps == (Tryz.f6.params.toList ++ Rows.manyTellsSpec.plain.varTypes Tryz.prog).any (Tryz.prog.mapsRec ·))) = true := by kernel_rfl
theorem t14 : ((Rows.manyTellsRow.ifaces == (Tryz.f6.params.toList ++ Rows.manyTellsSpec.plain.varTypes Tryz.prog).any (Tryz.prog.ifacesRec ·))) = true := by kernel_rfl
theorem t15 : ((Rows.manyTellsRow.mapsOut == Tryz.prog.mapsAmong Tryz.f6.resultTypes.toList)) = true := by kernel_rfl
theorem t16 : ((Rows.manyTellsRow.loops == (Tryz.f6.params.toList ++ Rows.manyTellsSpec.plain.varTypes Tryz.prog).any (Tryz.prog.loopsFrom ·))) = true := by kernel_rfl
theorem t17 : ((Rows.manyTellsRow.wideKeys == (Tryz.f6.params.toList ++ Rows.manyTellsSpec.plain.varTypes Tryz.prog ++ Tryz.f6.resultTypes.toList).any (Tryz.prog.wideKeysFrom ·))) = true := by kernel_rfl
theorem t18 : (Rows.manyTellsSpec.vars.all (Tryz.prog.varReadable ·)) = true := by kernel_rfl
theorem t19 : (Tryz.f6.resultTypes.all (fun t => Tryz.prog.readableRec t && decide (t < Tryz.prog.types.size))) = true := by kernel_rfl
theorem t20 : ((Rows.manyTellsRow.ifacesOut == Tryz.f6.resultTypes.toList.any (Tryz.prog.ifacesRec ·))) = true := by kernel_rfl
theorem t21 : ((Rows.manyTellsRow.loopsOut == Tryz.f6.resultTypes.toList.any (Tryz.prog.loopsFrom ·))) = true := by kernel_rfl
theorem t22 : ((Rows.manyTellsRow.plainKeys == Tryz.prog.plainKeys)) = true := p_plain
theorem t23 : (Rows.manyTellsRow.shortTexts.isNone) = true := by kernel_rfl
theorem t24 : (Tryz.prog.stopsHeard) = true := p_heard
theorem t25 : (Tryz.prog.mayEnter) = true := p_enter
theorem t26 : ((Rows.manyTellsRow.lifted == Tryz.prog.liftsFinal)) = true := p_lifts
theorem t27 : ((Tryz.prog.make == some Rows.manyTellsRow.make)) = true := p_make
theorem t28 : ((Rows.manyTellsRow.kinds == (if Rows.manyTellsRow.domain.isEmpty then [] else Tryz.f6.params.toList.map fun t => match Tryz.prog.underlying t with | some (.int k) => some k | _ => none))) = true := by kernel_rfl
theorem t29 : ((Rows.manyTellsRow.pinned == Rows.manyTellsRow.pinnedBy)) = true := by kernel_rfl
theorem t30 : ((Rows.manyTellsRow.veiled == (Tryz.f6.params.toList ++ Rows.manyTellsSpec.plain.varTypes Tryz.prog ++ Tryz.f6.resultTypes.toList).any (Tryz.prog.veiledRec ·))) = true := by kernel_rfl
theorem t31 : (Rows.manyTellsRow.veiledFits Tryz.prog Tryz.f6.params.toList (Tryz.f6.params.toList ++ Rows.manyTellsSpec.plain.varTypes Tryz.prog ++ Tryz.f6.resultTypes.toList)) = true := by kernel_rfl
theorem named_ : Tryz.prog.funcNamed Rows.manyTellsRow.func = some 6 := by kernel_rfl
theorem closed0 : ((Rows.manyTellsRow.wf (OpenSpec.ofChange Rows.manyTellsSpec)) && (laidOutB Tryz.prog) && (mapsRowed Tryz.prog) && (Tryz.f6.params.all (Tryz.prog.readableRec ·)) && (namedTie Tryz.prog Rows.manyTellsRow.named Rows.manyTellsSpec.vars) && ((Rows.manyTellsRow.stops == [])) && ((Tryz.prog.stops == [])) && ((Rows.manyTellsRow.knobs == [])) && ((Tryz.prog.stopKnobs == [])) && ((Rows.manyTellsRow.inPlace == Tryz.prog.inPlace 6)) && ((Rows.manyTellsRow.unfollowed == Tryz.prog.unfollowed 6)) && ((Rows.manyTellsRow.recurses == Tryz.prog.recurses 6)) && ((Rows.manyTellsRow.named == Tryz.prog.varsNamed 6)) && ((Rows.manyTellsRow.maps == (Tryz.f6.params.toList ++ Rows.manyTellsSpec.plain.varTypes Tryz.prog).any (Tryz.prog.mapsRec ·))) && ((Rows.manyTellsRow.ifaces == (Tryz.f6.params.toList ++ Rows.manyTellsSpec.plain.varTypes Tryz.prog).any (Tryz.prog.ifacesRec ·))) && ((Rows.manyTellsRow.mapsOut == Tryz.prog.mapsAmong Tryz.f6.resultTypes.toList)) && ((Rows.manyTellsRow.loops == (Tryz.f6.params.toList ++ Rows.manyTellsSpec.plain.varTypes Tryz.prog).any (Tryz.prog.loopsFrom ·))) && ((Rows.manyTellsRow.wideKeys == (Tryz.f6.params.toList ++ Rows.manyTellsSpec.plain.varTypes Tryz.prog ++ Tryz.f6.resultTypes.toList).any (Tryz.prog.wideKeysFrom ·))) && (Rows.manyTellsSpec.vars.all (Tryz.prog.varReadable ·)) && (Tryz.f6.resultTypes.all (fun t => Tryz.prog.readableRec t && decide (t < Tryz.prog.types.size))) && ((Rows.manyTellsRow.ifacesOut == Tryz.f6.resultTypes.toList.any (Tryz.prog.ifacesRec ·))) && ((Rows.manyTellsRow.loopsOut == Tryz.f6.resultTypes.toList.any (Tryz.prog.loopsFrom ·))) && ((Rows.manyTellsRow.plainKeys == Tryz.prog.plainKeys)) && (Rows.manyTellsRow.shortTexts.isNone) && (Tryz.prog.stopsHeard) && (Tryz.prog.mayEnter) && ((Rows.manyTellsRow.lifted == Tryz.prog.liftsFinal)) && ((Tryz.prog.make == some Rows.manyTellsRow.make)) && ((Rows.manyTellsRow.kinds == (if Rows.manyTellsRow.domain.isEmpty then [] else Tryz.f6.params.toList.map fun t => match Tryz.prog.underlying t with | some (.int k) => some k | _ => none))) && ((Rows.manyTellsRow.pinned == Rows.manyTellsRow.pinnedBy)) && ((Rows.manyTellsRow.veiled == (Tryz.f6.params.toList ++ Rows.manyTellsSpec.plain.varTypes Tryz.prog ++ Tryz.f6.resultTypes.toList).any (Tryz.prog.veiledRec ·))) && (Rows.manyTellsRow.veiledFits Tryz.prog Tryz.f6.params.toList (Tryz.f6.params.toList ++ Rows.manyTellsSpec.plain.varTypes Tryz.prog ++ Tryz.f6.resultTypes.toList))) = true := (and_cons (and_cons (and_cons (and_cons (and_cons (and_cons (and_cons (and_cons (and_cons (and_cons (and_cons (and_cons (and_cons (and_cons (and_cons (and_cons (and_cons (and_cons (and_cons (and_cons (and_cons (and_cons (and_cons (and_cons (and_cons (and_cons (and_cons (and_cons (and_cons (and_cons (and_cons t0 t1) t2) t3) t4) t5) t6) t7) t8) t9) t10) t11) t12) t13) t14) t15) t16) t17) t18) t19) t20) t21) t22) t23) t24) t25) t26) t27) t28) t29) t30) t31)
set_option maxRecDepth 100000 in
theorem closed : joinedFacts Tryz.prog 6 Tryz.f6 Rows.manyTellsSpec Rows.manyTellsRow = true := by
  unfold joinedFacts
  exact closed0
end Go.Proofs.YtlddfgfmkapoiaaGreat.manyTells

