/-
  Facts of the program that the proof of BuildTurns asks, each by itself. (No condition.)
-/
import Derived.Test.YtlddfgfmkapoiaaGreatFct

namespace Go.Proofs.YtlddfgfmkapoiaaGreat.buildTurns
open Go Go.Proofs.YtlddfgfmkapoiaaGreat
theorem t0 : (Rows.buildTurnsRow.wf (OpenSpec.ofChange Rows.buildTurnsSpec)) = true := by kernel_rfl
theorem t1 : (laidOutB Tryz.prog) = true := p_laid
theorem t2 : (mapsRowed Tryz.prog) = true := p_maps
theorem t3 : (Tryz.f4.params.all (Tryz.prog.readableRec ·)) = true := by kernel_rfl
theorem t4 : (namedTie Tryz.prog Rows.buildTurnsRow.named Rows.buildTurnsSpec.vars) = true := by kernel_rfl
theorem t5 : ((Rows.buildTurnsRow.stops == [])) = true := by kernel_rfl
theorem t6 : ((Tryz.prog.stops == [])) = true := by kernel_rfl
theorem t7 : ((Rows.buildTurnsRow.knobs == [])) = true := by kernel_rfl
theorem t8 : ((Tryz.prog.stopKnobs == [])) = true := by kernel_rfl
theorem t9 : ((Rows.buildTurnsRow.inPlace == Tryz.prog.inPlace 4)) = true := by kernel_rfl
theorem t10 : ((Rows.buildTurnsRow.unfollowed == Tryz.prog.unfollowed 4)) = true := by kernel_rfl
theorem t11 : ((Rows.buildTurnsRow.recurses == Tryz.prog.recurses 4)) = true := by kernel_rfl
theorem t12 : ((Rows.buildTurnsRow.named == Tryz.prog.varsNamed 4)) = true := by kernel_rfl
theorem t13 : ((Rows.buildTurnsRow.maps == (Tryz.f4.params.toList ++ Rows.buildTurnsSpec.plain.varTypes Tryz.prog).any (Tryz.prog.mapsRec ·))) = true := by kernel_rfl
theorem t14 : ((Rows.buildTurnsRow.ifaces == (Tryz.f4.params.toList ++ Rows.buildTurnsSpec.plain.varTypes Tryz.prog).any (Tryz.prog.ifacesRec ·))) = true := by kernel_rfl
theorem t15 : ((Rows.buildTurnsRow.mapsOut == Tryz.prog.mapsAmong Tryz.f4.resultTypes.toList)) = true := by kernel_rfl
theorem t16 : ((Rows.buildTurnsRow.loops == (Tryz.f4.params.toList ++ Rows.buildTurnsSpec.plain.varTypes Tryz.prog).any (Tryz.prog.loopsFrom ·))) = true := by kernel_rfl
theorem t17 : ((Rows.buildTurnsRow.wideKeys == (Tryz.f4.params.toList ++ Rows.buildTurnsSpec.plain.varTypes Tryz.prog ++ Tryz.f4.resultTypes.toList).any (Tryz.prog.wideKeysFrom ·))) = true := by kernel_rfl
theorem t18 : (Rows.buildTurnsSpec.vars.all (Tryz.prog.varReadable ·)) = true := by kernel_rfl
theorem t19 : (Tryz.f4.resultTypes.all (fun t => Tryz.prog.readableRec t && decide (t < Tryz.prog.types.size))) = true := by kernel_rfl
theorem t20 : ((Rows.buildTurnsRow.ifacesOut == Tryz.f4.resultTypes.toList.any (Tryz.prog.ifacesRec ·))) = true := by kernel_rfl
theorem t21 : ((Rows.buildTurnsRow.loopsOut == Tryz.f4.resultTypes.toList.any (Tryz.prog.loopsFrom ·))) = true := by kernel_rfl
theorem t22 : ((Rows.buildTurnsRow.plainKeys == Tryz.prog.plainKeys)) = true := p_plain
theorem t23 : (Rows.buildTurnsRow.shortTexts.isNone) = true := by kernel_rfl
theorem t24 : (Tryz.prog.stopsHeard) = true := p_heard
theorem t25 : (Tryz.prog.mayEnter) = true := p_enter
theorem t26 : ((Rows.buildTurnsRow.lifted == Tryz.prog.liftsFinal)) = true := p_lifts
theorem t27 : ((Tryz.prog.make == some Rows.buildTurnsRow.make)) = true := p_make
theorem t28 : ((Rows.buildTurnsRow.kinds == (if Rows.buildTurnsRow.domain.isEmpty then [] else Tryz.f4.params.toList.map fun t => match Tryz.prog.underlying t with | some (.int k) => some k | _ => none))) = true := by kernel_rfl
theorem t29 : ((Rows.buildTurnsRow.pinned == Rows.buildTurnsRow.pinnedBy)) = true := by kernel_rfl
theorem t30 : ((Rows.buildTurnsRow.veiled == (Tryz.f4.params.toList ++ Rows.buildTurnsSpec.plain.varTypes Tryz.prog ++ Tryz.f4.resultTypes.toList).any (Tryz.prog.veiledRec ·))) = true := by kernel_rfl
theorem t31 : (Rows.buildTurnsRow.veiledFits Tryz.prog Tryz.f4.params.toList (Tryz.f4.params.toList ++ Rows.buildTurnsSpec.plain.varTypes Tryz.prog ++ Tryz.f4.resultTypes.toList)) = true := by kernel_rfl
theorem named_ : Tryz.prog.funcNamed Rows.buildTurnsRow.func = some 4 := by kernel_rfl
theorem closed0 : ((Rows.buildTurnsRow.wf (OpenSpec.ofChange Rows.buildTurnsSpec)) && (laidOutB Tryz.prog) && (mapsRowed Tryz.prog) && (Tryz.f4.params.all (Tryz.prog.readableRec ·)) && (namedTie Tryz.prog Rows.buildTurnsRow.named Rows.buildTurnsSpec.vars) && ((Rows.buildTurnsRow.stops == [])) && ((Tryz.prog.stops == [])) && ((Rows.buildTurnsRow.knobs == [])) && ((Tryz.prog.stopKnobs == [])) && ((Rows.buildTurnsRow.inPlace == Tryz.prog.inPlace 4)) && ((Rows.buildTurnsRow.unfollowed == Tryz.prog.unfollowed 4)) && ((Rows.buildTurnsRow.recurses == Tryz.prog.recurses 4)) && ((Rows.buildTurnsRow.named == Tryz.prog.varsNamed 4)) && ((Rows.buildTurnsRow.maps == (Tryz.f4.params.toList ++ Rows.buildTurnsSpec.plain.varTypes Tryz.prog).any (Tryz.prog.mapsRec ·))) && ((Rows.buildTurnsRow.ifaces == (Tryz.f4.params.toList ++ Rows.buildTurnsSpec.plain.varTypes Tryz.prog).any (Tryz.prog.ifacesRec ·))) && ((Rows.buildTurnsRow.mapsOut == Tryz.prog.mapsAmong Tryz.f4.resultTypes.toList)) && ((Rows.buildTurnsRow.loops == (Tryz.f4.params.toList ++ Rows.buildTurnsSpec.plain.varTypes Tryz.prog).any (Tryz.prog.loopsFrom ·))) && ((Rows.buildTurnsRow.wideKeys == (Tryz.f4.params.toList ++ Rows.buildTurnsSpec.plain.varTypes Tryz.prog ++ Tryz.f4.resultTypes.toList).any (Tryz.prog.wideKeysFrom ·))) && (Rows.buildTurnsSpec.vars.all (Tryz.prog.varReadable ·)) && (Tryz.f4.resultTypes.all (fun t => Tryz.prog.readableRec t && decide (t < Tryz.prog.types.size))) && ((Rows.buildTurnsRow.ifacesOut == Tryz.f4.resultTypes.toList.any (Tryz.prog.ifacesRec ·))) && ((Rows.buildTurnsRow.loopsOut == Tryz.f4.resultTypes.toList.any (Tryz.prog.loopsFrom ·))) && ((Rows.buildTurnsRow.plainKeys == Tryz.prog.plainKeys)) && (Rows.buildTurnsRow.shortTexts.isNone) && (Tryz.prog.stopsHeard) && (Tryz.prog.mayEnter) && ((Rows.buildTurnsRow.lifted == Tryz.prog.liftsFinal)) && ((Tryz.prog.make == some Rows.buildTurnsRow.make)) && ((Rows.buildTurnsRow.kinds == (if Rows.buildTurnsRow.domain.isEmpty then [] else Tryz.f4.params.toList.map fun t => match Tryz.prog.underlying t with | some (.int k) => some k | _ => none))) && ((Rows.buildTurnsRow.pinned == Rows.buildTurnsRow.pinnedBy)) && ((Rows.buildTurnsRow.veiled == (Tryz.f4.params.toList ++ Rows.buildTurnsSpec.plain.varTypes Tryz.prog ++ Tryz.f4.resultTypes.toList).any (Tryz.prog.veiledRec ·))) && (Rows.buildTurnsRow.veiledFits Tryz.prog Tryz.f4.params.toList (Tryz.f4.params.toList ++ Rows.buildTurnsSpec.plain.varTypes Tryz.prog ++ Tryz.f4.resultTypes.toList))) = true := (and_cons (and_cons (and_cons (and_cons (and_cons (and_cons (and_cons (and_cons (and_cons (and_cons (and_cons (and_cons (and_cons (and_cons (and_cons (and_cons (and_cons (and_cons (and_cons (and_cons (and_cons (and_cons (and_cons (and_cons (and_cons (and_cons (and_cons (and_cons (and_cons (and_cons (and_cons t0 t1) t2) t3) t4) t5) t6) t7) t8) t9) t10) t11) t12) t13) t14) t15) t16) t17) t18) t19) t20) t21) t22) t23) t24) t25) t26) t27) t28) t29) t30) t31)
set_option maxRecDepth 100000 in
theorem closed : joinedFacts Tryz.prog 4 Tryz.f4 Rows.buildTurnsSpec Rows.buildTurnsRow = true := by
  unfold joinedFacts
  exact closed0
end Go.Proofs.YtlddfgfmkapoiaaGreat.buildTurns

