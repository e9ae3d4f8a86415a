/-
  Facts of the program that the proof of CanonOne asks, each by itself. (No condition.)
-/
import Derived.Test.YtlddfgfmkapoiaaGreatFct

namespace Go.Proofs.YtlddfgfmkapoiaaGreat.canonOne
open Go Go.Proofs.YtlddfgfmkapoiaaGreat
theorem t0 : (Rows.canonOneRow.wf (OpenSpec.ofChange Rows.canonOneSpec)) = true := by kernel_rfl
theorem t1 : (laidOutB Tryz.prog) = true := p_laid
theorem t2 : (mapsRowed Tryz.prog) = true := p_maps
theorem t3 : (Tryz.f14.params.all (Tryz.prog.readableRec ·)) = true := by kernel_rfl
theorem t4 : (namedTie Tryz.prog Rows.canonOneRow.named Rows.canonOneSpec.vars) = true := by kernel_rfl
theorem t5 : ((Rows.canonOneRow.stops == [])) = true := by kernel_rfl
theorem t6 : ((Tryz.prog.stops == [])) = true := by kernel_rfl
theorem t7 : ((Rows.canonOneRow.knobs == [])) = true := by kernel_rfl
theorem t8 : ((Tryz.prog.stopKnobs == [])) = true := by kernel_rfl
theorem t9 : ((Rows.canonOneRow.inPlace == Tryz.prog.inPlace 14)) = true := by kernel_rfl
theorem t10 : ((Rows.canonOneRow.unfollowed == Tryz.prog.unfollowed 14)) = true := by kernel_rfl
theorem t11 : ((Rows.canonOneRow.recurses == Tryz.prog.recurses 14)) = true := by kernel_rfl
theorem t12 : ((Rows.canonOneRow.named == Tryz.prog.varsNamed 14)) = true := by kernel_rfl
theorem t13 : ((Rows.canonOneRow.maps == (Tryz.f14.params.toList ++ Rows.canonOneSpec.plain.varTypes Tryz.prog).any (Tryz.prog.mapsRec ·))) = true := by kernel_rfl
theorem t14 : ((Rows.canonOneRow.ifaces == (Tryz.f14.params.toList ++ Rows.canonOneSpec.plain.varTypes Tryz.prog).any (Tryz.prog.ifacesRec ·))) = true := by kernel_rfl
theorem t15 : ((Rows.canonOneRow.mapsOut == Tryz.prog.mapsAmong Tryz.f14.resultTypes.toList)) = true := by kernel_rfl
theorem t16 : ((Rows.canonOneRow.loops == (Tryz.f14.params.toList ++ Rows.canonOneSpec.plain.varTypes Tryz.prog).any (Tryz.prog.loopsFrom ·))) = true := by kernel_rfl
theorem t17 : ((Rows.canonOneRow.wideKeys == (Tryz.f14.params.toList ++ Rows.canonOneSpec.plain.varTypes Tryz.prog ++ Tryz.f14.resultTypes.toList).any (Tryz.prog.wideKeysFrom ·))) = true := by kernel_rfl
theorem t18 : (Rows.canonOneSpec.vars.all (Tryz.prog.varReadable ·)) = true := by kernel_rfl
theorem t19 : (Tryz.f14.resultTypes.all (fun t => Tryz.prog.readableRec t && decide (t < Tryz.prog.types.size))) = true := by kernel_rfl
theorem t20 : ((Rows.canonOneRow.ifacesOut == Tryz.f14.resultTypes.toList.any (Tryz.prog.ifacesRec ·))) = true := by kernel_rfl
theorem t21 : ((Rows.canonOneRow.loopsOut == Tryz.f14.resultTypes.toList.any (Tryz.prog.loopsFrom ·))) = true := by kernel_rfl
theorem t22 : ((Rows.canonOneRow.plainKeys == Tryz.prog.plainKeys)) = true := p_plain
theorem t23 : (Rows.canonOneRow.shortTexts.isNone) = true := by kernel_rfl
theorem t24 : (Tryz.prog.stopsHeard) = true := p_heard
theorem t25 : (Tryz.prog.mayEnter) = true := p_enter
theorem t26 : ((Rows.canonOneRow.lifted == Tryz.prog.liftsFinal)) = true := p_lifts
theorem t27 : ((Tryz.prog.make == some Rows.canonOneRow.make)) = true := p_make
theorem t28 : ((Rows.canonOneRow.kinds == (if Rows.canonOneRow.domain.isEmpty then [] else Tryz.f14.params.toList.map fun t => match Tryz.prog.underlying t with | some (.int k) => some k | _ => none))) = true := by kernel_rfl
theorem t29 : ((Rows.canonOneRow.pinned == Rows.canonOneRow.pinnedBy)) = true := by kernel_rfl
theorem t30 : ((Rows.canonOneRow.veiled == (Tryz.f14.params.toList ++ Rows.canonOneSpec.plain.varTypes Tryz.prog ++ Tryz.f14.resultTypes.toList).any (Tryz.prog.veiledRec ·))) = true := by kernel_rfl
theorem t31 : (Rows.canonOneRow.veiledFits Tryz.prog Tryz.f14.params.toList (Tryz.f14.params.toList ++ Rows.canonOneSpec.plain.varTypes Tryz.prog ++ Tryz.f14.resultTypes.toList)) = true := by kernel_rfl
theorem named_ : Tryz.prog.funcNamed Rows.canonOneRow.func = some 14 := by kernel_rfl
theorem closed0 : ((Rows.canonOneRow.wf (OpenSpec.ofChange Rows.canonOneSpec)) && (laidOutB Tryz.prog) && (mapsRowed Tryz.prog) && (Tryz.f14.params.all (Tryz.prog.readableRec ·)) && (namedTie Tryz.prog Rows.canonOneRow.named Rows.canonOneSpec.vars) && ((Rows.canonOneRow.stops == [])) && ((Tryz.prog.stops == [])) && ((Rows.canonOneRow.knobs == [])) && ((Tryz.prog.stopKnobs == [])) && ((Rows.canonOneRow.inPlace == Tryz.prog.inPlace 14)) && ((Rows.canonOneRow.unfollowed == Tryz.prog.unfollowed 14)) && ((Rows.canonOneRow.recurses == Tryz.prog.recurses 14)) && ((Rows.canonOneRow.named == Tryz.prog.varsNamed 14)) && ((Rows.canonOneRow.maps == (Tryz.f14.params.toList ++ Rows.canonOneSpec.plain.varTypes Tryz.prog).any (Tryz.prog.mapsRec ·))) && ((Rows.canonOneRow.ifaces == (Tryz.f14.params.toList ++ Rows.canonOneSpec.plain.varTypes Tryz.prog).any (Tryz.prog.ifacesRec ·))) && ((Rows.canonOneRow.mapsOut == Tryz.prog.mapsAmong Tryz.f14.resultTypes.toList)) && ((Rows.canonOneRow.loops == (Tryz.f14.params.toList ++ Rows.canonOneSpec.plain.varTypes Tryz.prog).any (Tryz.prog.loopsFrom ·))) && ((Rows.canonOneRow.wideKeys == (Tryz.f14.params.toList ++ Rows.canonOneSpec.plain.varTypes Tryz.prog ++ Tryz.f14.resultTypes.toList).any (Tryz.prog.wideKeysFrom ·))) && (Rows.canonOneSpec.vars.all (Tryz.prog.varReadable ·)) && (Tryz.f14.resultTypes.all (fun t => Tryz.prog.readableRec t && decide (t < Tryz.prog.types.size))) && ((Rows.canonOneRow.ifacesOut == Tryz.f14.resultTypes.toList.any (Tryz.prog.ifacesRec ·))) && ((Rows.canonOneRow.loopsOut == Tryz.f14.resultTypes.toList.any (Tryz.prog.loopsFrom ·))) && ((Rows.canonOneRow.plainKeys == Tryz.prog.plainKeys)) && (Rows.canonOneRow.shortTexts.isNone) && (Tryz.prog.stopsHeard) && (Tryz.prog.mayEnter) && ((Rows.canonOneRow.lifted == Tryz.prog.liftsFinal)) && ((Tryz.prog.make == some Rows.canonOneRow.make)) && ((Rows.canonOneRow.kinds == (if Rows.canonOneRow.domain.isEmpty then [] else Tryz.f14.params.toList.map fun t => match Tryz.prog.underlying t with | some (.int k) => some k | _ => none))) && ((Rows.canonOneRow.pinned == Rows.canonOneRow.pinnedBy)) && ((Rows.canonOneRow.veiled == (Tryz.f14.params.toList ++ Rows.canonOneSpec.plain.varTypes Tryz.prog ++ Tryz.f14.resultTypes.toList).any (Tryz.prog.veiledRec ·))) && (Rows.canonOneRow.veiledFits Tryz.prog Tryz.f14.params.toList (Tryz.f14.params.toList ++ Rows.canonOneSpec.plain.varTypes Tryz.prog ++ Tryz.f14.resultTypes.toList))) = true := (and_cons (and_cons (and_cons (and_cons (and_cons (and_cons (and_cons (and_cons (and_cons (and_cons (and_cons (and_cons (and_cons (and_cons (and_cons (and_cons (and_cons (and_cons (and_cons (and_cons (and_cons (and_cons (and_cons (and_cons (and_cons (and_cons (and_cons (and_cons (and_cons (and_cons (and_cons t0 t1) t2) t3) t4) t5) t6) t7) t8) t9) t10) t11) t12) t13) t14) t15) t16) t17) t18) t19) t20) t21) t22) t23) t24) t25) t26) t27) t28) t29) t30) t31)
set_option maxRecDepth 100000 in
theorem closed : joinedFacts Tryz.prog 14 Tryz.f14 Rows.canonOneSpec Rows.canonOneRow = true := by
  unfold joinedFacts
  exact closed0
end Go.Proofs.YtlddfgfmkapoiaaGreat.canonOne

