/-
  Facts of the program that the proof of PlainTells asks, each by itself. (No condition.)
-/
import Derived.Test.YtmdboekndjlmgaaGreatFct

namespace Go.Proofs.YtmdboekndjlmgaaGreat.plainTells
open Go Go.Proofs.YtmdboekndjlmgaaGreat
theorem t0 : (Rows.plainTellsRow.wf (OpenSpec.ofChange Rows.plainTellsSpec)) = true := by kernel_rfl
theorem t1 : (laidOutB Tryz.prog) = true := p_laid
theorem t2 : (mapsRowed Tryz.prog) = true := p_maps
theorem t3 : (Tryz.f4.params.all (Tryz.prog.readableRec ·)) = true := by kernel_rfl
theorem t4 : (namedTie Tryz.prog Rows.plainTellsRow.named Rows.plainTellsSpec.vars) = true := by kernel_rfl
theorem t5 : ((Rows.plainTellsRow.stops == [])) = true := by kernel_rfl
theorem t6 : ((Tryz.prog.stops == [])) = true := by kernel_rfl
theorem t7 : ((Rows.plainTellsRow.knobs == [])) = true := by kernel_rfl
theorem t8 : ((Tryz.prog.stopKnobs == [])) = true := by kernel_rfl
theorem t9 : ((Rows.plainTellsRow.inPlace == Tryz.prog.inPlace 4)) = true := by kernel_rfl
theorem t10 : ((Rows.plainTellsRow.unfollowed == Tryz.prog.unfollowed 4)) = true := by kernel_rfl
theorem t11 : ((Rows.plainTellsRow.recurses == Tryz.prog.recurses 4)) = true := by kernel_rfl
theorem t12 : ((Rows.plainTellsRow.named == Tryz.prog.varsNamed 4)) = true := by kernel_rfl
theorem t13 : ((Rows.plainTellsRow.maps == (Tryz.f4.params.toList ++ Rows.plainTellsSpec.plain.varTypes Tryz.prog).any (Tryz.prog.mapsRec ·))) = true := by kernel_rfl
theorem t14 : ((Rows.plainTellsRow.ifaces == (Tryz.f4.params.toList ++ Rows.plainTellsSpec.plain.varTypes Tryz.prog).any (Tryz.prog.ifacesRec ·))) = true := by kernel_rfl
theorem t15 : ((Rows.plainTellsRow.mapsOut == Tryz.prog.mapsAmong Tryz.f4.resultTypes.toList)) = true := by kernel_rfl
theorem t16 : ((Rows.plainTellsRow.loops == (Tryz.f4.params.toList ++ Rows.plainTellsSpec.plain.varTypes Tryz.prog).any (Tryz.prog.loopsFrom ·))) = true := by kernel_rfl
theorem t17 : ((Rows.plainTellsRow.wideKeys == (Tryz.f4.params.toList ++ Rows.plainTellsSpec.plain.varTypes Tryz.prog ++ Tryz.f4.resultTypes.toList).any (Tryz.prog.wideKeysFrom ·))) = true := by kernel_rfl
theorem t18 : (Rows.plainTellsSpec.vars.all (Tryz.prog.varReadable ·)) = true := by kernel_rfl
theorem t19 : (Tryz.f4.resultTypes.all (fun t => Tryz.prog.readableRec t && decide (t < Tryz.prog.types.size))) = true := by kernel_rfl
theorem t20 : ((Rows.plainTellsRow.ifacesOut == Tryz.f4.resultTypes.toList.any (Tryz.prog.ifacesRec ·))) = true := by kernel_rfl
theorem t21 : ((Rows.plainTellsRow.loopsOut == Tryz.f4.resultTypes.toList.any (Tryz.prog.loopsFrom ·))) = true := by kernel_rfl
theorem t22 : ((Rows.plainTellsRow.plainKeys == Tryz.prog.plainKeys)) = true := p_plain
theorem t23 : (Rows.plainTellsRow.shortTexts.isNone) = true := by kernel_rfl
theorem t24 : (Tryz.prog.stopsHeard) = true := p_heard
theorem t25 : (Tryz.prog.mayEnter) = true := p_enter
theorem t26 : ((Rows.plainTellsRow.lifted == Tryz.prog.liftsFinal)) = true := p_lifts
theorem t27 : ((Tryz.prog.make == some Rows.plainTellsRow.make)) = true := p_make
theorem t28 : ((Rows.plainTellsRow.kinds == (if Rows.plainTellsRow.domain.isEmpty then [] else Tryz.f4.params.toList.map fun t => match Tryz.prog.underlying t with | some (.int k) => some k | _ => none))) = true := by kernel_rfl
theorem t29 : ((Rows.plainTellsRow.pinned == Rows.plainTellsRow.pinnedBy)) = true := by kernel_rfl
theorem t30 : ((Rows.plainTellsRow.veiled == (Tryz.f4.params.toList ++ Rows.plainTellsSpec.plain.varTypes Tryz.prog ++ Tryz.f4.resultTypes.toList).any (Tryz.prog.veiledRec ·))) = true := by kernel_rfl
theorem t31 : (Rows.plainTellsRow.veiledFits Tryz.prog Tryz.f4.params.toList (Tryz.f4.params.toList ++ Rows.plainTellsSpec.plain.varTypes Tryz.prog ++ Tryz.f4.resultTypes.toList)) = true := by kernel_rfl
theorem named_ : Tryz.prog.funcNamed Rows.plainTellsRow.func = some 4 := by kernel_rfl
theorem closed0 : ((Rows.plainTellsRow.wf (OpenSpec.ofChange Rows.plainTellsSpec)) && (laidOutB Tryz.prog) && (mapsRowed Tryz.prog) && (Tryz.f4.params.all (Tryz.prog.readableRec ·)) && (namedTie Tryz.prog Rows.plainTellsRow.named Rows.plainTellsSpec.vars) && ((Rows.plainTellsRow.stops == [])) && ((Tryz.prog.stops == [])) && ((Rows.plainTellsRow.knobs == [])) && ((Tryz.prog.stopKnobs == [])) && ((Rows.plainTellsRow.inPlace == Tryz.prog.inPlace 4)) && ((Rows.plainTellsRow.unfollowed == Tryz.prog.unfollowed 4)) && ((Rows.plainTellsRow.recurses == Tryz.prog.recurses 4)) && ((Rows.plainTellsRow.named == Tryz.prog.varsNamed 4)) && ((Rows.plainTellsRow.maps == (Tryz.f4.params.toList ++ Rows.plainTellsSpec.plain.varTypes Tryz.prog).any (Tryz.prog.mapsRec ·))) && ((Rows.plainTellsRow.ifaces == (Tryz.f4.params.toList ++ Rows.plainTellsSpec.plain.varTypes Tryz.prog).any (Tryz.prog.ifacesRec ·))) && ((Rows.plainTellsRow.mapsOut == Tryz.prog.mapsAmong Tryz.f4.resultTypes.toList)) && ((Rows.plainTellsRow.loops == (Tryz.f4.params.toList ++ Rows.plainTellsSpec.plain.varTypes Tryz.prog).any (Tryz.prog.loopsFrom ·))) && ((Rows.plainTellsRow.wideKeys == (Tryz.f4.params.toList ++ Rows.plainTellsSpec.plain.varTypes Tryz.prog ++ Tryz.f4.resultTypes.toList).any (Tryz.prog.wideKeysFrom ·))) && (Rows.plainTellsSpec.vars.all (Tryz.prog.varReadable ·)) && (Tryz.f4.resultTypes.all (fun t => Tryz.prog.readableRec t && decide (t < Tryz.prog.types.size))) && ((Rows.plainTellsRow.ifacesOut == Tryz.f4.resultTypes.toList.any (Tryz.prog.ifacesRec ·))) && ((Rows.plainTellsRow.loopsOut == Tryz.f4.resultTypes.toList.any (Tryz.prog.loopsFrom ·))) && ((Rows.plainTellsRow.plainKeys == Tryz.prog.plainKeys)) && (Rows.plainTellsRow.shortTexts.isNone) && (Tryz.prog.stopsHeard) && (Tryz.prog.mayEnter) && ((Rows.plainTellsRow.lifted == Tryz.prog.liftsFinal)) && ((Tryz.prog.make == some Rows.plainTellsRow.make)) && ((Rows.plainTellsRow.kinds == (if Rows.plainTellsRow.domain.isEmpty then [] else Tryz.f4.params.toList.map fun t => match Tryz.prog.underlying t with | some (.int k) => some k | _ => none))) && ((Rows.plainTellsRow.pinned == Rows.plainTellsRow.pinnedBy)) && ((Rows.plainTellsRow.veiled == (Tryz.f4.params.toList ++ Rows.plainTellsSpec.plain.varTypes Tryz.prog ++ Tryz.f4.resultTypes.toList).any (Tryz.prog.veiledRec ·))) && (Rows.plainTellsRow.veiledFits Tryz.prog Tryz.f4.params.toList (Tryz.f4.params.toList ++ Rows.plainTellsSpec.plain.varTypes Tryz.prog ++ Tryz.f4.resultTypes.toList))) = true := (and_cons (and_cons (and_cons (and_cons (and_cons (and_cons (and_cons (and_cons (and_cons (and_cons (and_cons (and_cons (and_cons (and_cons (and_cons (and_cons (and_cons (and_cons (and_cons (and_cons (and_cons (and_cons (and_cons (and_cons (and_cons (and_cons (and_cons (and_cons (and_cons (and_cons (and_cons t0 t1) t2) t3) t4) t5) t6) t7) t8) t9) t10) t11) t12) t13) t14) t15) t16) t17) t18) t19) t20) t21) t22) t23) t24) t25) t26) t27) t28) t29) t30) t31)
set_option maxRecDepth 100000 in
theorem closed : joinedFacts Tryz.prog 4 Tryz.f4 Rows.plainTellsSpec Rows.plainTellsRow = true := by
  unfold joinedFacts
  exact closed0
end Go.Proofs.YtmdboekndjlmgaaGreat.plainTells

