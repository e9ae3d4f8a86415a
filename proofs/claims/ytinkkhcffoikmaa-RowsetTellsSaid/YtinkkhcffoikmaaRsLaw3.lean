/-
  The algebra of rows: counts, three rows, cuts.
-/
import Derived.Test.YtinkkhcffoikmaaRsLaw2
namespace Go.Proofs.Ytinkkhcffoikmaa
open Go Go.Sh Go.RowKit

theorem mg_lenA (o : Int) (a b : List Pr) : ((mg o a b).filter (·.inA)).length = a.length := by
  induction a, b using mg.induct o with
  | case1 => simp [mg]
  | case2 y b ih => rw [mg]; simpa using ih
  | case3 x a ih => rw [mg]; simpa using ih
  | case4 x a y b h ih => rw [mg, if_pos h]; simpa using ih
  | case5 x a y b h h2 h3 ih => rw [mg, if_neg h, if_pos h2, if_pos h3]; simpa using ih
  | case6 x a y b h h2 h3 ih => rw [mg, if_neg h, if_pos h2, if_neg h3]; simpa using ih
  | case7 x a y b h h2 ih => rw [mg, if_neg h, if_neg h2]; simpa using ih
theorem mg_lenB (o : Int) (a b : List Pr) : ((mg o a b).filter (·.inB)).length = b.length := by
  induction a, b using mg.induct o with
  | case1 => simp [mg]
  | case2 y b ih => rw [mg]; simpa using ih
  | case3 x a ih => rw [mg]; simpa using ih
  | case4 x a y b h ih => rw [mg, if_pos h]; simpa using ih
  | case5 x a y b h h2 h3 ih => rw [mg, if_neg h, if_pos h2, if_pos h3]; simpa using ih
  | case6 x a y b h h2 h3 ih => rw [mg, if_neg h, if_pos h2, if_neg h3]; simpa using ih
  | case7 x a y b h h2 ih => rw [mg, if_neg h, if_neg h2]; simpa using ih
theorem cnts : ∀ (m : List Ke), (∀ e ∈ m, (e.inA || e.inB) = true) → (m.filter wU).length + (m.filter wM).length = (m.filter (·.inA)).length + (m.filter (·.inB)).length ∧
    (m.filter wA).length + (m.filter wM).length = (m.filter wU).length ∧ (m.filter wL).length + (m.filter wM).length = (m.filter (·.inA)).length
  | [], _ => by simp
  | e :: m, h => by
    have he := h e (by simp)
    have ih := cnts m fun x hx => h x (by simp [hx])
    obtain ⟨k, a, b, iA, iB⟩ := e
    cases iA <;> cases iB <;> simp [List.filter_cons, wU, wM, wA, wL] at he ih ⊢ <;> omega
theorem outL_cnt (p : Int) (want : Ke → Bool) (m : List Ke) : (outL p want m).length = (m.filter want).length := by unfold outL; rw [List.length_map]
section
variable {o p : Int} {x y z : List Pr}
theorem alg_cnt (hx : mayR o x = true) (hy : mayR o y = true) (hIx : InP x) (hIy : InP y) :
    (someL o p wU x y).length + (someL o p wM x y).length = x.length + y.length ∧ (someL o 1 wA x y).length + (someL o p wM x y).length = (someL o p wU x y).length ∧
    (someL o 1 wL x y).length + (someL o p wM x y).length = x.length := by
  have h := cnts (mg o x y) fun e he => ((mg_row hx hy hIx hIy).of e he).one
  rw [mg_lenA, mg_lenB] at h
  unfold someL
  simp only [outL_cnt]
  exact h
theorem alg_row (hx : mayR o x = true) (hy : mayR o y = true) (hIx : InP x) (hIy : InP y) :
    someL o p wU (someL o 1 wL x y) (someL o 1 wL y x) = someL o 1 wA x y ∧ someL o p wU (someL o p wM x y) (someL o 1 wA x y) = someL o p wU x y ∧ someL o 1 wL (someL o p wU x y) (someL o p wM x y) = someL o 1 wA x y := by
  have m1 := someL_may (p := 1) (want := wL) hx hy hIx hIy
  have m2 := someL_may (p := 1) (want := wL) hy hx hIy hIx
  have m3 := someL_may (p := p) (want := wM) hx hy hIx hIy
  have m4 := someL_may (p := 1) (want := wA) hx hy hIx hIy
  have m5 := someL_may (p := p) (want := wU) hx hy hIx hIy
  have i1 := someL_in (o := o) (p := 1) (want := wL) hIx hIy
  have i2 := someL_in (o := o) (p := 1) (want := wL) hIy hIx
  have i3 := someL_in (o := o) (p := p) (want := wM) hIx hIy
  have i4 := someL_in (o := o) (p := 1) (want := wA) hIx hIy
  have i5 := someL_in (o := o) (p := p) (want := wU) hIx hIy
  refine ⟨row_ext (someL_may m1 m2 i1 i2) m4 fun k => ?_, row_ext (someL_may m3 m4 i3 i4) m5 fun k => ?_, row_ext (someL_may m5 m3 i5 i3) m4 fun k => ?_⟩
  · rw [someL_lk m1 m2 i1 i2, someL_lk hx hy hIx hIy, someL_lk hx hy hIx hIy, someL_lk hy hx hIy hIx]
    cases lk o x k <;> cases lk o y k <;> simp [wantK, wL, wA, wU]
  · rw [someL_lk m3 m4 i3 i4, someL_lk hx hy hIx hIy, someL_lk hx hy hIx hIy, someL_lk hx hy hIx hIy]
    cases lk o x k <;> cases lk o y k <;> simp [wantK, wM, wA, wU]
  · rw [someL_lk m5 m3 i5 i3, someL_lk hx hy hIx hIy, someL_lk hx hy hIx hIy, someL_lk hx hy hIx hIy]
    cases lk o x k <;> cases lk o y k <;> simp [wantK, wM, wA, wU, wL]
theorem wrap_add (a b : Int) : IntKind.wrap .i64 (IntKind.wrap .i64 a + b) = IntKind.wrap .i64 (a + b) := by
  simp only [IntKind.wrap, IntKind.signed, IntKind.bits]
  simp
  split <;> (split <;> (split <;> omega))
theorem comb_assoc (p a b c : Int) : comb p (comb p a b) c = comb p a (comb p b c) := by
  unfold comb
  split
  · rfl
  · split
    · rfl
    · rw [wrap_add, show a + IntKind.wrap .i64 (b + c) = IntKind.wrap .i64 (b + c) + a by omega, wrap_add]
      congr 1; omega
theorem comb3_comm (a b : Int) : comb 3 a b = comb 3 b a := by
  unfold comb
  rw [if_neg (by omega), if_neg (by omega), if_neg (by omega), if_neg (by omega), Int.add_comm]
theorem three (hp : may p = true) (hx : mayR o x = true) (hy : mayR o y = true) (hz : mayR o z = true) (hIx : InP x) (hIy : InP y) (hIz : InP z) :
    someL o p wU (someL o p wU x y) z = someL o p wU x (someL o p wU y z) ∧ someL o p wM (someL o p wM x y) z = someL o p wM x (someL o p wM y z) ∧ someL o 3 wU x y = someL o 3 wU y x ∧
      sortL o p ((x ++ y) ++ z) = someL o p wU (someL o p wU x y) z := by
  have m1 := someL_may (p := p) (want := wU) hx hy hIx hIy
  have m2 := someL_may (p := p) (want := wU) hy hz hIy hIz
  have m3 := someL_may (p := p) (want := wM) hx hy hIx hIy
  have m4 := someL_may (p := p) (want := wM) hy hz hIy hIz
  have i1 := someL_in (o := o) (p := p) (want := wU) hIx hIy
  have i2 := someL_in (o := o) (p := p) (want := wU) hIy hIz
  have i3 := someL_in (o := o) (p := p) (want := wM) hIx hIy
  have i4 := someL_in (o := o) (p := p) (want := wM) hIy hIz
  have hI : InP ((x ++ y) ++ z) := fun e he => by
    rcases List.mem_append.1 he with he | he
    · rcases List.mem_append.1 he with he | he
      · exact hIx e he
      · exact hIy e he
    · exact hIz e he
  have ho := mayR_o hx
  refine ⟨row_ext (someL_may m1 hz i1 hIz) (someL_may hx m2 hIx i2) fun k => ?_, row_ext (someL_may m3 hz i3 hIz) (someL_may hx m4 hIx i4) fun k => ?_, row_ext (someL_may hx hy hIx hIy) (someL_may hy hx hIy hIx) fun k => ?_, row_ext (sortL_may ho hp hI).1 (someL_may m1 hz i1 hIz) fun k => ?_⟩
  · rw [someL_lk m1 hz i1 hIz, someL_lk hx m2 hIx i2, someL_lk hx hy hIx hIy, someL_lk hy hz hIy hIz]
    cases lk o x k <;> cases lk o y k <;> cases lk o z k <;> simp [wantK, wU, comb_assoc]
  · rw [someL_lk m3 hz i3 hIz, someL_lk hx m4 hIx i4, someL_lk hx hy hIx hIy, someL_lk hy hz hIy hIz]
    cases lk o x k <;> cases lk o y k <;> cases lk o z k <;> simp [wantK, wM, comb_assoc]
  · rw [someL_lk hx hy hIx hIy, someL_lk hy hx hIy hIx]
    cases lk o x k <;> cases lk o y k <;> simp [wantK, wU]
    exact comb3_comm _ _
  · rw [sortL_lk0 ho hp hI, someL_lk m1 hz i1 hIz, someL_lk hx hy hIx hIy, List.filter_append, List.filter_append, List.map_append, List.map_append, lk_filter hx, lk_filter hy, lk_filter hz]
    cases lk o x k <;> cases lk o y k <;> cases lk o z k <;> simp [wantK, wU, addO]
/-- the pair of a key that is cut at -/
def midL (o : Int) (l : List Pr) (key : Int) : List Pr := if hasR o l key then [(key, getR o l key)] else []
theorem mid_drop {l : List Pr} {key : Int} (hm : mayR o l = true) : midL o l key ++ cutB o l key = l.drop (posR o l key) := by
  unfold midL cutB
  rw [hm, cond_true]
  cases hh : hasR o l key
  · simp
  · have hlt := hasR_lt hh
    have e : getR o l key = l[posR o l key].2 := by unfold getR; rw [hh, cond_true, getD_of hlt]
    have e2 := hasR_key hh
    rw [if_pos rfl, if_pos rfl, List.drop_eq_getElem_cons hlt, e]
    rw [show l[posR o l key] = ((l[posR o l key]).1, (l[posR o l key]).2) from rfl, e2]
    rfl
theorem cut_whole {l : List Pr} {key : Int} (hm : mayR o l = true) : cutA o l key ++ midL o l key ++ cutB o l key = l := by
  rw [List.append_assoc, mid_drop hm]
  unfold cutA; rw [hm, cond_true, List.take_append_drop]
theorem drop_row {l : List Pr} (hm : mayR o l = true) (k : Nat) : mayR o (l.drop k) = true := by
  rw [mayR_iff] at hm ⊢
  exact ⟨hm.1, hm.2.sublist ((List.drop_sublist k l).map _)⟩
theorem cut_range {l : List Pr} {lo hi : Int} (hm : mayR o l = true) (hI : InP l) (hhi : In hi) :
    cutA o (midL o l lo ++ cutB o l lo) hi ++ midL o (midL o l lo ++ cutB o l lo) hi = r5rg o l lo hi := by
  rw [mid_drop hm]
  have hd := drop_row hm (posR o l lo)
  have hId : InP (l.drop (posR o l lo)) := fun x hx => hI x (List.mem_of_mem_drop hx)
  have e1 : l.drop (posR o l lo) = l.filter fun x => !(decide (cmpI o x.1 lo < 0)) := (filter_cut' fun i hi => by
    have := pos_iff (key := lo) hm hi
    simp only [Bool.not_eq_true', decide_eq_false_iff_not]; omega).symm
  have e2 : ∀ r : List Pr, mayR o r = true → InP r → cutA o r hi ++ midL o r hi = r.filter fun x => !(decide (cmpI o hi x.1 < 0)) := fun r hr hIr => by
    have hf : (r.filter fun x => !(decide (cmpI o hi x.1 < 0))) = r.take (posR o r hi + (if hasR o r hi then 1 else 0)) := filter_cut fun i hi' => by
      have := floor_at hr hIr hhi hi'
      simp only [Bool.not_eq_true', decide_eq_false_iff_not]
      cases hh : hasR o r hi
      · rw [hh] at this
        simp only [Bool.false_eq_true, false_and, or_false] at this
        simp; omega
      · rw [hh] at this
        simp only [true_and] at this
        simp; omega
    rw [hf]
    unfold cutA midL
    rw [hr, cond_true]
    cases hh : hasR o r hi
    · simp
    · have hlt := hasR_lt hh
      have e : getR o r hi = r[posR o r hi].2 := by unfold getR; rw [hh, cond_true, getD_of hlt]
      have e2 := hasR_key hh
      rw [if_pos rfl, if_pos rfl, ← List.take_append_getElem hlt, e]
      rw [show r[posR o r hi] = ((r[posR o r hi]).1, (r[posR o r hi]).2) from rfl, e2]
  rw [e2 _ hd hId, e1, List.filter_filter]
  unfold r5rg
  rw [hm, cond_true]
  unfold rangeF
  rw [fm_filter (P := fun x => !(decide (cmpI o x.1 lo < 0)) && !(decide (cmpI o hi x.1 < 0)))]
  exact List.filter_congr fun x _ => Bool.and_comm _ _
end
end Go.Proofs.Ytinkkhcffoikmaa
