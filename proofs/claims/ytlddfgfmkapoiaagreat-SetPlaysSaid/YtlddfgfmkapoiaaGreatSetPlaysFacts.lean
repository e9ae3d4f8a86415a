/-
  Facts of the program that the proof of SetPlays asks, each by itself. (No condition.)
-/
import Derived.Test.YtlddfgfmkapoiaaGreatFct

namespace Go.Proofs.YtlddfgfmkapoiaaGreat.setPlays
open Go Go.Proofs.YtlddfgfmkapoiaaGreat
theorem t0 : (Rows.setPlaysRow.wf (OpenSpec.ofChange Rows.setPlaysSpec)) = true := by kernel_rfl
theorem t1 : (laidOutB Tryz.prog) = true := p_laid
theorem t2 : (mapsRowed Tryz.prog) = true := p_maps
theorem t3 : (Tryz.f13.params.all (Tryz.prog.readableRec ·)) = true := by kernel_rfl
theorem t4 : (namedTie Tryz.prog Rows.setPlaysRow.named Rows.setPlaysSpec.vars) = true := by kernel_rfl
theorem t5 : ((Rows.setPlaysRow.stops == [])) = true := by kernel_rfl
theorem t6 : ((Tryz.prog.stops == [])) = true := by kernel_rfl
theorem t7 : ((Rows.setPlaysRow.knobs == [])) = true := by kernel_rfl
theorem t8 : ((Tryz.prog.stopKnobs == [])) = true := by kernel_rfl
theorem t9 : ((Rows.setPlaysRow.inPlace == Tryz.prog.inPlace 13)) = true := by kernel_rfl
theorem t10 : ((Rows.setPlaysRow.unfollowed == Tryz.prog.unfollowed 13)) = true := by kernel_rfl
theorem t11 : ((Rows.setPlaysRow.recurses == Tryz.prog.recurses 13)) = true := by kernel_rfl
theorem t12 : ((Rows.setPlaysRow.named == Tryz.prog.varsNamed 13)) = true := by kernel_rfl
theorem t13 : ((Rows.setPlaysRow.maps == (Tryz.f13.params.toList ++ Rows.setPlaysSpec.plain.varTypes Tryz.prog).any (Tryz.prog.mapsRec ·))) = true := by kernel_rfl
theorem t14 : ((Rows.setPlaysRow.ifaces == (Tryz.f13.params.toList ++ Rows.setPlaysSpec.plain.varTypes Tryz.prog).any (Tryz.prog.ifacesRec ·))) = true := by kernel_rfl
theorem t15 : ((Rows.setPlaysRow.mapsOut == Tryz.prog.mapsAmong Tryz.f13.resultTypes.toList)) = true := by kernel_rfl
theorem t16 : ((Rows.setPlaysRow.loops == (Tryz.f13.params.toList ++ Rows.setPlaysSpec.plain.varTypes Tryz.prog).any (Tryz.prog.loopsFrom ·))) = true := by kernel_rfl
theorem t17 : ((Rows.setPlaysRow.wideKeys == (Tryz.f13.params.toList ++ Rows.setPlaysSpec.plain.varTypes Tryz.prog ++ Tryz.f13.resultTypes.toList).any (Tryz.prog.wideKeysFrom ·))) = true := by kernel_rfl
theorem t18 : (Rows.setPlaysSpec.vars.all (Tryz.prog.varReadable ·)) = true := by kernel_rfl
theorem t19 : (Tryz.f13.resultTypes.all (fun t => Tryz.prog.readableRec t && decide (t < Tryz.prog.types.size))) = true := by kernel_rfl
theorem t20 : ((Rows.setPlaysRow.ifacesOut == Tryz.f13.resultTypes.toList.any (Tryz.prog.ifacesRec ·))) = true := by kernel_rfl
theorem t21 : ((Rows.setPlaysRow.loopsOut == Tryz.f13.resultTypes.toList.any (Tryz.prog.loopsFrom ·))) = true := by kernel_rfl
theorem t22 : ((Rows.setPlaysRow.plainKeys == Tryz.prog.plainKeys)) = true := p_plain
theorem t23 : (Rows.setPlaysRow.shortTexts.isNone) = true := by kernel_rfl
theorem t24 : (Tryz.prog.stopsHeard) = true := p_heard
theorem t25 : (Tryz.prog.mayEnter) = true := p_enter
theorem t26 : ((Rows.setPlaysRow.lifted == Tryz.prog.liftsFinal)) = true := p_lifts
theorem t27 : ((Tryz.prog.make == some Rows.setPlaysRow.make)) = true := p_make
theorem t28 : ((Rows.setPlaysRow.kinds == (if Rows.setPlaysRow.domain.isEmpty then [] else Tryz.f13.params.toList.map fun t => match Tryz.prog.underlying t with | some (.int k) => some k | _ => none))) = true := by kernel_rfl
theorem t29 : ((Rows.setPlaysRow.pinned == Rows.setPlaysRow.pinnedBy)) = true := by kernel_rfl
theorem t30 : ((Rows.setPlaysRow.veiled == (Tryz.f13.params.toList ++ Rows.setPlaysSpec.plain.varTypes Tryz.prog ++ Tryz.f13.resultTypes.toList).any (Tryz.prog.veiledRec ·))) = true := by kernel_rfl
theorem t31 : (Rows.setPlaysRow.veiledFits Tryz.prog Tryz.f13.params.toList (Tryz.f13.params.toList ++ Rows.setPlaysSpec.plain.varTypes Tryz.prog ++ Tryz.f13.resultTypes.toList)) = true := by kernel_rfl
theorem named_ : Tryz.prog.funcNamed Rows.setPlaysRow.func = some 13 := by kernel_rfl
theorem closed0 : ((Rows.setPlaysRow.wf (OpenSpec.ofChange Rows.setPlaysSpec)) && (laidOutB Tryz.prog) && (mapsRowed Tryz.prog) && (Tryz.f13.params.all (Tryz.prog.readableRec ·)) && (namedTie Tryz.prog Rows.setPlaysRow.named Rows.setPlaysSpec.vars) && ((Rows.setPlaysRow.stops == [])) && ((Tryz.prog.stops == [])) && ((Rows.setPlaysRow.knobs == [])) && ((Tryz.prog.stopKnobs == [])) && ((Rows.setPlaysRow.inPlace == Tryz.prog.inPlace 13)) && ((Rows.setPlaysRow.unfollowed == Tryz.prog.unfollowed 13)) && ((Rows.setPlaysRow.recurses == Tryz.prog.recurses 13)) && ((Rows.setPlaysRow.named == Tryz.prog.varsNamed 13)) && ((Rows.setPlaysRow.maps == (Tryz.f13.params.toList ++ Rows.setPlaysSpec.plain.varTypes Tryz.prog).any (Tryz.prog.mapsRec ·))) && ((Rows.setPlaysRow.ifaces == (Tryz.f13.params.toList ++ Rows.setPlaysSpec.plain.varTypes Tryz.prog).any (Tryz.prog.ifacesRec ·))) && ((Rows.setPlaysRow.mapsOut == Tryz.prog.mapsAmong Tryz.f13.resultTypes.toList)) && ((Rows.setPlaysRow.loops == (Tryz.f13.params.toList ++ Rows.setPlaysSpec.plain.varTypes Tryz.prog).any (Tryz.prog.loopsFrom ·))) && ((Rows.setPlaysRow.wideKeys == (Tryz.f13.params.toList ++ Rows.setPlaysSpec.plain.varTypes Tryz.prog ++ Tryz.f13.resultTypes.toList).any (Tryz.prog.wideKeysFrom ·))) && (Rows.setPlaysSpec.vars.all (Tryz.prog.varReadable ·)) && (Tryz.f13.resultTypes.all (fun t => Tryz.prog.readableRec t && decide (t < Tryz.prog.types.size))) && ((Rows.setPlaysRow.ifacesOut == Tryz.f13.resultTypes.toList.any (Tryz.prog.ifacesRec ·))) && ((Rows.setPlaysRow.loopsOut == Tryz.f13.resultTypes.toList.any (Tryz.prog.loopsFrom ·))) && ((Rows.setPlaysRow.plainKeys == Tryz.prog.plainKeys)) && (Rows.setPlaysRow.shortTexts.isNone) && (Tryz.prog.stopsHeard) && (Tryz.prog.mayEnter) && ((Rows.setPlaysRow.lifted == Tryz.prog.liftsFinal)) && ((Tryz.prog.make == some Rows.setPlaysRow.make)) && ((Rows.setPlaysRow.kinds == (if Rows.setPlaysRow.domain.isEmpty then [] else Tryz.f13.params.toList.map fun t => match Tryz.prog.underlying t with | some (.int k) => some k | _ => none))) && ((Rows.setPlaysRow.pinned == Rows.setPlaysRow.pinnedBy)) && ((Rows.setPlaysRow.veiled == (Tryz.f13.params.toList ++ Rows.setPlaysSpec.plain.varTypes Tryz.prog ++ Tryz.f13.resultTypes.toList).any (Tryz.prog.veiledRec ·))) && (Rows.setPlaysRow.veiledFits Tryz.prog Tryz.f13.params.toList (Tryz.f13.params.toList ++ Rows.setPlaysSpec.plain.varTypes Tryz.prog ++ Tryz.f13.resultTypes.toList))) = true := (and_cons (and_cons (and_cons (and_cons (and_cons (and_cons (and_cons (and_cons (and_cons (and_cons (and_cons (and_cons (and_cons (and_cons (and_cons (and_cons (and_cons (and_cons (and_cons (and_cons (and_cons (and_cons (and_cons (and_cons (and_cons (and_cons (and_cons (and_cons (and_cons (and_cons (and_cons t0 t1) t2) t3) t4) t5) t6) t7) t8) t9) t10) t11) t12) t13) t14) t15) t16) t17) t18) t19) t20) t21) t22) t23) t24) t25) t26) t27) t28) t29) t30) t31)
set_option maxRecDepth 100000 in
theorem closed : joinedFacts Tryz.prog 13 Tryz.f13 Rows.setPlaysSpec Rows.setPlaysRow = true := by
  unfold joinedFacts
  exact closed0
end Go.Proofs.YtlddfgfmkapoiaaGreat.setPlays

