/-
  Facts of the program that the proof of CanonTells asks, each by itself. (No condition.)
-/
import Derived.Test.YtlddfgfmkapoiaaGreatFct

namespace Go.Proofs.YtlddfgfmkapoiaaGreat.canonTells
open Go Go.Proofs.YtlddfgfmkapoiaaGreat
theorem t0 : (Rows.canonTellsRow.wf (OpenSpec.ofChange Rows.canonTellsSpec)) = true := by kernel_rfl
theorem t1 : (laidOutB Tryz.prog) = true := p_laid
theorem t2 : (mapsRowed Tryz.prog) = true := p_maps
theorem t3 : (Tryz.f8.params.all (Tryz.prog.readableRec ·)) = true := by kernel_rfl
theorem t4 : (namedTie Tryz.prog Rows.canonTellsRow.named Rows.canonTellsSpec.vars) = true := by kernel_rfl
theorem t5 : ((Rows.canonTellsRow.stops == [])) = true := by kernel_rfl
theorem t6 : ((Tryz.prog.stops == [])) = true := by kernel_rfl
theorem t7 : ((Rows.canonTellsRow.knobs == [])) = true := by kernel_rfl
theorem t8 : ((Tryz.prog.stopKnobs == [])) = true := by kernel_rfl
theorem t9 : ((Rows.canonTellsRow.inPlace == Tryz.prog.inPlace 8)) = true := by kernel_rfl
theorem t10 : ((Rows.canonTellsRow.unfollowed == Tryz.prog.unfollowed 8)) = true := by kernel_rfl
theorem t11 : ((Rows.canonTellsRow.recurses == Tryz.prog.recurses 8)) = true := by kernel_rfl
theorem t12 : ((Rows.canonTellsRow.named == Tryz.prog.varsNamed 8)) = true := by kernel_rfl
theorem t13 : ((Rows.canonTellsRow.maps == (Tryz.f8.params.toList ++ Rows.canonTellsSpec.plain.varTypes Tryz.prog).any (Tryz.prog.mapsRec ·))) = true := by kernel_rfl
theorem t14 : ((Rows.canonTellsRow.ifaces == (Tryz.f8.params.toList ++ Rows.canonTellsSpec.plain.varTypes Tryz.prog).any (Tryz.prog.ifacesRec ·))) = true := by kernel_rfl
theorem t15 : ((Rows.canonTellsRow.mapsOut == Tryz.prog.mapsAmong Tryz.f8.resultTypes.toList)) = true := by kernel_rfl
theorem t16 : ((Rows.canonTellsRow.loops == (Tryz.f8.params.toList ++ Rows.canonTellsSpec.plain.varTypes Tryz.prog).any (Tryz.prog.loopsFrom ·))) = true := by kernel_rfl
theorem t17 : ((Rows.canonTellsRow.wideKeys == (Tryz.f8.params.toList ++ Rows.canonTellsSpec.plain.varTypes Tryz.prog ++ Tryz.f8.resultTypes.toList).any (Tryz.prog.wideKeysFrom ·))) = true := by kernel_rfl
theorem t18 : (Rows.canonTellsSpec.vars.all (Tryz.prog.varReadable ·)) = true := by kernel_rfl
theorem t19 : (Tryz.f8.resultTypes.all (fun t => Tryz.prog.readableRec t && decide (t < Tryz.prog.types.size))) = true := by kernel_rfl
theorem t20 : ((Rows.canonTellsRow.ifacesOut == Tryz.f8.resultTypes.toList.any (Tryz.prog.ifacesRec ·))) = true := by kernel_rfl
theorem t21 : ((Rows.canonTellsRow.loopsOut == Tryz.f8.resultTypes.toList.any (Tryz.prog.loopsFrom ·))) = true := by kernel_rfl
theorem t22 : ((Rows.canonTellsRow.plainKeys == Tryz.prog.plainKeys)) = true := p_plain
theorem t23 : (Rows.canonTellsRow.shortTexts.isNone) = true := by kernel_rfl
theorem t24 : (Tryz.prog.stopsHeard) = true := p_heard
theorem t25 : (Tryz.prog.mayEnter) = true := p_enter
theorem t26 : ((Rows.canonTellsRow.lifted == Tryz.prog.liftsFinal)) = true := p_lifts
theorem t27 : ((Tryz.prog.make == some Rows.canonTellsRow.make)) = true := p_make
theorem t28 : ((Rows.canonTellsRow.kinds == (if Rows.canonTellsRow.domain.isEmpty then [] else Tryz.f8.params.toList.map fun t => match Tryz.prog.underlying t with | some (.int k) => some k | _ => none))) = true := by kernel_rfl
theorem t29 : ((Rows.canonTellsRow.pinned == Rows.canonTellsRow.pinnedBy)) = true := by kernel_rfl
theorem t30 : ((Rows.canonTellsRow.veiled == (Tryz.f8.params.toList ++ Rows.canonTellsSpec.plain.varTypes Tryz.prog ++ Tryz.f8.resultTypes.toList).any (Tryz.prog.veiledRec ·))) = true := by kernel_rfl
theorem t31 : (Rows.canonTellsRow.veiledFits Tryz.prog Tryz.f8.params.toList (Tryz.f8.params.toList ++ Rows.canonTellsSpec.plain.varTypes Tryz.prog ++ Tryz.f8.resultTypes.toList)) = true := by kernel_rfl
theorem named_ : Tryz.prog.funcNamed Rows.canonTellsRow.func = some 8 := by kernel_rfl
theorem closed0 : ((Rows.canonTellsRow.wf (OpenSpec.ofChange Rows.canonTellsSpec)) && (laidOutB Tryz.prog) && (mapsRowed Tryz.prog) && (Tryz.f8.params.all (Tryz.prog.readableRec ·)) && (namedTie Tryz.prog Rows.canonTellsRow.named Rows.canonTellsSpec.vars) && ((Rows.canonTellsRow.stops == [])) && ((Tryz.prog.stops == [])) && ((Rows.canonTellsRow.knobs == [])) && ((Tryz.prog.stopKnobs == [])) && ((Rows.canonTellsRow.inPlace == Tryz.prog.inPlace 8)) && ((Rows.canonTellsRow.unfollowed == Tryz.prog.unfollowed 8)) && ((Rows.canonTellsRow.recurses == Tryz.prog.recurses 8)) && ((Rows.canonTellsRow.named == Tryz.prog.varsNamed 8)) && ((Rows.canonTellsRow.maps == (Tryz.f8.params.toList ++ Rows.canonTellsSpec.plain.varTypes Tryz.prog).any (Tryz.prog.mapsRec ·))) && ((Rows.canonTellsRow.ifaces == (Tryz.f8.params.toList ++ Rows.canonTellsSpec.plain.varTypes Tryz.prog).any (Tryz.prog.ifacesRec ·))) && ((Rows.canonTellsRow.mapsOut == Tryz.prog.mapsAmong Tryz.f8.resultTypes.toList)) && ((Rows.canonTellsRow.loops == (Tryz.f8.params.toList ++ Rows.canonTellsSpec.plain.varTypes Tryz.prog).any (Tryz.prog.loopsFrom ·))) && ((Rows.canonTellsRow.wideKeys == (Tryz.f8.params.toList ++ Rows.canonTellsSpec.plain.varTypes Tryz.prog ++ Tryz.f8.resultTypes.toList).any (Tryz.prog.wideKeysFrom ·))) && (Rows.canonTellsSpec.vars.all (Tryz.prog.varReadable ·)) && (Tryz.f8.resultTypes.all (fun t => Tryz.prog.readableRec t && decide (t < Tryz.prog.types.size))) && ((Rows.canonTellsRow.ifacesOut == Tryz.f8.resultTypes.toList.any (Tryz.prog.ifacesRec ·))) && ((Rows.canonTellsRow.loopsOut == Tryz.f8.resultTypes.toList.any (Tryz.prog.loopsFrom ·))) && ((Rows.canonTellsRow.plainKeys == Tryz.prog.plainKeys)) && (Rows.canonTellsRow.shortTexts.isNone) && (Tryz.prog.stopsHeard) && (Tryz.prog.mayEnter) && ((Rows.canonTellsRow.lifted == Tryz.prog.liftsFinal)) && ((Tryz.prog.make == some Rows.canonTellsRow.make)) && ((Rows.canonTellsRow.kinds == (if Rows.canonTellsRow.domain.isEmpty then [] else Tryz.f8.params.toList.map fun t => match Tryz.prog.underlying t with | some (.int k) => some k | _ => none))) && ((Rows.canonTellsRow.pinned == Rows.canonTellsRow.pinnedBy)) && ((Rows.canonTellsRow.veiled == (Tryz.f8.params.toList ++ Rows.canonTellsSpec.plain.varTypes Tryz.prog ++ Tryz.f8.resultTypes.toList).any (Tryz.prog.veiledRec ·))) && (Rows.canonTellsRow.veiledFits Tryz.prog Tryz.f8.params.toList (Tryz.f8.params.toList ++ Rows.canonTellsSpec.plain.varTypes Tryz.prog ++ Tryz.f8.resultTypes.toList))) = true := (and_cons (and_cons (and_cons (and_cons (and_cons (and_cons (and_cons (and_cons (and_cons (and_cons (and_cons (and_cons (and_cons (and_cons (and_cons (and_cons (and_cons (and_cons (and_cons (and_cons (and_cons (and_cons (and_cons (and_cons (and_cons (and_cons (and_cons (and_cons (and_cons (and_cons (and_cons t0 t1) t2) t3) t4) t5) t6) t7) t8) t9) t10) t11) t12) t13) t14) t15) t16) t17) t18) t19) t20) t21) t22) t23) t24) t25) t26) t27) t28) t29) t30) t31)
set_option maxRecDepth 100000 in
theorem closed : joinedFacts Tryz.prog 8 Tryz.f8 Rows.canonTellsSpec Rows.canonTellsRow = true := by
  unfold joinedFacts
  exact closed0
end Go.Proofs.YtlddfgfmkapoiaaGreat.canonTells

