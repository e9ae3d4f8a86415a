/-
  Facts of the program that the proof of CanonMakes asks, each by itself. (No condition.)
-/
import Derived.Test.YtlddfgfmkapoiaaGreatFct

namespace Go.Proofs.YtlddfgfmkapoiaaGreat.canonMakes
open Go Go.Proofs.YtlddfgfmkapoiaaGreat
theorem t0 : (Rows.canonMakesRow.wf (OpenSpec.ofChange Rows.canonMakesSpec)) = true := by kernel_rfl
theorem t1 : (laidOutB Tryz.prog) = true := p_laid
theorem t2 : (mapsRowed Tryz.prog) = true := p_maps
theorem t3 : (Tryz.f7.params.all (Tryz.prog.readableRec ·)) = true := by kernel_rfl
theorem t4 : (namedTie Tryz.prog Rows.canonMakesRow.named Rows.canonMakesSpec.vars) = true := by kernel_rfl
theorem t5 : ((Rows.canonMakesRow.stops == [])) = true := by kernel_rfl
theorem t6 : ((Tryz.prog.stops == [])) = true := by kernel_rfl
theorem t7 : ((Rows.canonMakesRow.knobs == [])) = true := by kernel_rfl
theorem t8 : ((Tryz.prog.stopKnobs == [])) = true := by kernel_rfl
theorem t9 : ((Rows.canonMakesRow.inPlace == Tryz.prog.inPlace 7)) = true := by kernel_rfl
theorem t10 : ((Rows.canonMakesRow.unfollowed == Tryz.prog.unfollowed 7)) = true := by kernel_rfl
theorem t11 : ((Rows.canonMakesRow.recurses == Tryz.prog.recurses 7)) = true := by kernel_rfl
theorem t12 : ((Rows.canonMakesRow.named == Tryz.prog.varsNamed 7)) = true := by kernel_rfl
theorem t13 : ((Rows.canonMakesRow.maps == (Tryz.f7.params.toList ++ Rows.canonMakesSpec.plain.varTypes Tryz.prog).any (Tryz.prog.mapsRec ·))) = true := by kernel_rfl
theorem t14 : ((Rows.canonMakesRow.ifaces == (Tryz.f7.params.toList ++ Rows.canonMakesSpec.plain.varTypes Tryz.prog).any (Tryz.prog.ifacesRec ·))) = true := by kernel_rfl
theorem t15 : ((Rows.canonMakesRow.mapsOut == Tryz.prog.mapsAmong Tryz.f7.resultTypes.toList)) = true := by kernel_rfl
theorem t16 : ((Rows.canonMakesRow.loops == (Tryz.f7.params.toList ++ Rows.canonMakesSpec.plain.varTypes Tryz.prog).any (Tryz.prog.loopsFrom ·))) = true := by kernel_rfl
theorem t17 : ((Rows.canonMakesRow.wideKeys == (Tryz.f7.params.toList ++ Rows.canonMakesSpec.plain.varTypes Tryz.prog ++ Tryz.f7.resultTypes.toList).any (Tryz.prog.wideKeysFrom ·))) = true := by kernel_rfl
theorem t18 : (Rows.canonMakesSpec.vars.all (Tryz.prog.varReadable ·)) = true := by kernel_rfl
theorem t19 : (Tryz.f7.resultTypes.all (fun t => Tryz.prog.readableRec t && decide (t < Tryz.prog.types.size))) = true := by kernel_rfl
theorem t20 : ((Rows.canonMakesRow.ifacesOut == Tryz.f7.resultTypes.toList.any (Tryz.prog.ifacesRec ·))) = true := by kernel_rfl
theorem t21 : ((Rows.canonMakesRow.loopsOut == Tryz.f7.resultTypes.toList.any (Tryz.prog.loopsFrom ·))) = true := by kernel_rfl
theorem t22 : ((Rows.canonMakesRow.plainKeys == Tryz.prog.plainKeys)) = true := p_plain
theorem t23 : (Rows.canonMakesRow.shortTexts.isNone) = true := by kernel_rfl
theorem t24 : (Tryz.prog.stopsHeard) = true := p_heard
theorem t25 : (Tryz.prog.mayEnter) = true := p_enter
theorem t26 : ((Rows.canonMakesRow.lifted == Tryz.prog.liftsFinal)) = true := p_lifts
theorem t27 : ((Tryz.prog.make == some Rows.canonMakesRow.make)) = true := p_make
theorem t28 : ((Rows.canonMakesRow.kinds == (if Rows.canonMakesRow.domain.isEmpty then [] else Tryz.f7.params.toList.map fun t => match Tryz.prog.underlying t with | some (.int k) => some k | _ => none))) = true := by kernel_rfl
theorem t29 : ((Rows.canonMakesRow.pinned == Rows.canonMakesRow.pinnedBy)) = true := by kernel_rfl
theorem t30 : ((Rows.canonMakesRow.veiled == (Tryz.f7.params.toList ++ Rows.canonMakesSpec.plain.varTypes Tryz.prog ++ Tryz.f7.resultTypes.toList).any (Tryz.prog.veiledRec ·))) = true := by kernel_rfl
theorem t31 : (Rows.canonMakesRow.veiledFits Tryz.prog Tryz.f7.params.toList (Tryz.f7.params.toList ++ Rows.canonMakesSpec.plain.varTypes Tryz.prog ++ Tryz.f7.resultTypes.toList)) = true := by kernel_rfl
theorem named_ : Tryz.prog.funcNamed Rows.canonMakesRow.func = some 7 := by kernel_rfl
theorem closed0 : ((Rows.canonMakesRow.wf (OpenSpec.ofChange Rows.canonMakesSpec)) && (laidOutB Tryz.prog) && (mapsRowed Tryz.prog) && (Tryz.f7.params.all (Tryz.prog.readableRec ·)) && (namedTie Tryz.prog Rows.canonMakesRow.named Rows.canonMakesSpec.vars) && ((Rows.canonMakesRow.stops == [])) && ((Tryz.prog.stops == [])) && ((Rows.canonMakesRow.knobs == [])) && ((Tryz.prog.stopKnobs == [])) && ((Rows.canonMakesRow.inPlace == Tryz.prog.inPlace 7)) && ((Rows.canonMakesRow.unfollowed == Tryz.prog.unfollowed 7)) && ((Rows.canonMakesRow.recurses == Tryz.prog.recurses 7)) && ((Rows.canonMakesRow.named == Tryz.prog.varsNamed 7)) && ((Rows.canonMakesRow.maps == (Tryz.f7.params.toList ++ Rows.canonMakesSpec.plain.varTypes Tryz.prog).any (Tryz.prog.mapsRec ·))) && ((Rows.canonMakesRow.ifaces == (Tryz.f7.params.toList ++ Rows.canonMakesSpec.plain.varTypes Tryz.prog).any (Tryz.prog.ifacesRec ·))) && ((Rows.canonMakesRow.mapsOut == Tryz.prog.mapsAmong Tryz.f7.resultTypes.toList)) && ((Rows.canonMakesRow.loops == (Tryz.f7.params.toList ++ Rows.canonMakesSpec.plain.varTypes Tryz.prog).any (Tryz.prog.loopsFrom ·))) && ((Rows.canonMakesRow.wideKeys == (Tryz.f7.params.toList ++ Rows.canonMakesSpec.plain.varTypes Tryz.prog ++ Tryz.f7.resultTypes.toList).any (Tryz.prog.wideKeysFrom ·))) && (Rows.canonMakesSpec.vars.all (Tryz.prog.varReadable ·)) && (Tryz.f7.resultTypes.all (fun t => Tryz.prog.readableRec t && decide (t < Tryz.prog.types.size))) && ((Rows.canonMakesRow.ifacesOut == Tryz.f7.resultTypes.toList.any (Tryz.prog.ifacesRec ·))) && ((Rows.canonMakesRow.loopsOut == Tryz.f7.resultTypes.toList.any (Tryz.prog.loopsFrom ·))) && ((Rows.canonMakesRow.plainKeys == Tryz.prog.plainKeys)) && (Rows.canonMakesRow.shortTexts.isNone) && (Tryz.prog.stopsHeard) && (Tryz.prog.mayEnter) && ((Rows.canonMakesRow.lifted == Tryz.prog.liftsFinal)) && ((Tryz.prog.make == some Rows.canonMakesRow.make)) && ((Rows.canonMakesRow.kinds == (if Rows.canonMakesRow.domain.isEmpty then [] else Tryz.f7.params.toList.map fun t => match Tryz.prog.underlying t with | some (.int k) => some k | _ => none))) && ((Rows.canonMakesRow.pinned == Rows.canonMakesRow.pinnedBy)) && ((Rows.canonMakesRow.veiled == (Tryz.f7.params.toList ++ Rows.canonMakesSpec.plain.varTypes Tryz.prog ++ Tryz.f7.resultTypes.toList).any (Tryz.prog.veiledRec ·))) && (Rows.canonMakesRow.veiledFits Tryz.prog Tryz.f7.params.toList (Tryz.f7.params.toList ++ Rows.canonMakesSpec.plain.varTypes Tryz.prog ++ Tryz.f7.resultTypes.toList))) = true := (and_cons (and_cons (and_cons (and_cons (and_cons (and_cons (and_cons (and_cons (and_cons (and_cons (and_cons (and_cons (and_cons (and_cons (and_cons (and_cons (and_cons (and_cons (and_cons (and_cons (and_cons (and_cons (and_cons (and_cons (and_cons (and_cons (and_cons (and_cons (and_cons (and_cons (and_cons t0 t1) t2) t3) t4) t5) t6) t7) t8) t9) t10) t11) t12) t13) t14) t15) t16) t17) t18) t19) t20) t21) t22) t23) t24) t25) t26) t27) t28) t29) t30) t31)
set_option maxRecDepth 100000 in
theorem closed : joinedFacts Tryz.prog 7 Tryz.f7 Rows.canonMakesSpec Rows.canonMakesRow = true := by
  unfold joinedFacts
  exact closed0
end Go.Proofs.YtlddfgfmkapoiaaGreat.canonMakes

