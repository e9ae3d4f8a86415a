/-
  What lies between two keys. Plain.
-/
import Derived.Test.YtbaoihmffobneaaGreatUni2
namespace Go.Proofs.YtbaoihmffobneaaGreat
open Go Go.Sh Go.RowKit

def inB (o lo hi : Int) (x : It) : Bool := decide (0 ≤ cmpI o x.1 lo) && decide (cmpI o x.1 hi ≤ 0)
def inL (o lo hi : Int) (l : List It) : List It := l.filter (inB o lo hi)
def outL (o lo hi : Int) (l : List It) : List It := l.filter fun x => !inB o lo hi x
theorem upto_parts {o key : Int} {l : List It} (h : asc o l) : ltF o key l ++ eqF o key l = l.filter fun x => decide (cmpI o x.1 key ≤ 0) := by
  rw [show (l.filter fun x => decide (cmpI o x.1 key ≤ 0)) = (ltF o key l ++ (eqF o key l ++ gtF o key l)).filter fun x => decide (cmpI o x.1 key ≤ 0) from congrArg _ (asc_parts (key := key) h)]
  rw [List.filter_append, List.filter_append, filt_all (l := ltF o key l) fun x hx => ?_, filt_all (l := eqF o key l) fun x hx => ?_, filt_no (l := gtF o key l) fun x hx => ?_, List.append_nil]
  · have := of_decide_eq_true (List.mem_filter.1 hx).2
    exact decide_eq_false (by omega)
  · have := of_decide_eq_true (List.mem_filter.1 hx).2
    exact decide_eq_true (by omega)
  · have := of_decide_eq_true (List.mem_filter.1 hx).2
    exact decide_eq_true (by omega)
theorem from_parts {o key : Int} {l : List It} (h : asc o l) : eqF o key l ++ gtF o key l = l.filter fun x => decide (0 ≤ cmpI o x.1 key) := by
  rw [show (l.filter fun x => decide (0 ≤ cmpI o x.1 key)) = (ltF o key l ++ (eqF o key l ++ gtF o key l)).filter fun x => decide (0 ≤ cmpI o x.1 key) from congrArg _ (asc_parts (key := key) h)]
  rw [List.filter_append, List.filter_append, filt_no (l := ltF o key l) fun x hx => ?_, filt_all (l := eqF o key l) fun x hx => ?_, filt_all (l := gtF o key l) fun x hx => ?_, List.nil_append]
  · have := of_decide_eq_true (List.mem_filter.1 hx).2
    exact decide_eq_true (by omega)
  · have := of_decide_eq_true (List.mem_filter.1 hx).2
    exact decide_eq_true (by omega)
  · have := of_decide_eq_true (List.mem_filter.1 hx).2
    exact decide_eq_false (by omega)
def midC (c o lo : Int) (t : Tr) : Tr := behindC c o lo true t
def rangeC (c o lo hi : Int) (t : Tr) : Tr := aheadC c o hi true (midC c o lo t)
def withoutC (c o lo hi : Int) (t : Tr) : Tr := join2C c (aheadC c o lo false t) (behindC c o hi false (midC c o lo t))
theorem midC_ok {c o lo : Int} {t : Tr} (h : OkU c o t) : OkU c o (midC c o lo t) ∧ itsC c (midC c o lo t) = (itsC c t).filter (fun x => decide (0 ≤ cmpI o x.1 lo)) ∧ (midC c o lo t).size ≤ t.size := by
  have B := behindC_ok (key := lo) (wth := true) h.ok.1 h.asc
  have e : itsC c (midC c o lo t) = (itsC c t).filter fun x => decide (0 ≤ cmpI o x.1 lo) := B.2.trans (from_parts h.asc)
  refine ⟨⟨B.1, by rw [e]; exact asc_filter h.asc, (inK_its (c := c)).2 fun x hx => ?_⟩, e, ?_⟩
  · rw [e] at hx
    exact (inK_its (c := c)).1 h.k x (List.mem_filter.1 hx).1
  · rw [← itsC_len c, e, ← itsC_len c t]
    exact List.length_filter_le _ _
theorem rangeC_ok {c o lo hi : Int} {t : Tr} (h : OkU c o t) : OkM c (rangeC c o lo hi t) ∧ itsC c (rangeC c o lo hi t) = inL o lo hi (itsC c t) := by
  have M := midC_ok (lo := lo) h
  have A := aheadC_ok (key := hi) (wth := true) M.1.ok.1 M.1.asc
  refine ⟨A.1, ?_⟩
  refine A.2.trans ((upto_parts M.1.asc).trans ?_)
  rw [M.2.1, List.filter_filter]
  unfold inL inB
  exact List.filter_congr fun x _ => Bool.and_comm _ _
theorem withoutC_ok {c o lo hi : Int} {t : Tr} (h : OkU c o t) : OkM c (withoutC c o lo hi t) ∧ itsC c (withoutC c o lo hi t) = outL o lo hi (itsC c t) := by
  have M := midC_ok (lo := lo) h
  have A := aheadC_ok (key := lo) (wth := false) h.ok.1 h.asc
  have B := behindC_ok (key := hi) (wth := false) M.1.ok.1 M.1.asc
  have J := join2C_ok A.1.1 B.1.1
  refine ⟨J.1, ?_⟩
  refine J.2.trans ?_
  rw [A.2, B.2, M.2.1]
  show (ltF o lo (itsC c t) ++ []) ++ ([] ++ gtF o hi _) = _
  rw [List.append_nil, List.nil_append]
  unfold outL
  rw [show ((itsC c t).filter fun x => !inB o lo hi x) = (ltF o lo (itsC c t) ++ (eqF o lo (itsC c t) ++ gtF o lo (itsC c t))).filter fun x => !inB o lo hi x from congrArg _ (asc_parts (key := lo) h.asc)]
  rw [from_parts h.asc, List.filter_append, filt_all (l := ltF o lo (itsC c t)) fun x hx => ?_]
  · congr 1
    unfold gtF
    rw [List.filter_filter, List.filter_filter]
    refine List.filter_congr fun x _ => ?_
    unfold inB
    by_cases h1 : 0 ≤ cmpI o x.1 lo
    · by_cases h2 : cmpI o x.1 hi ≤ 0
      · simp [h1, h2]
      · simp [h1, h2, Int.not_le.1 h2]
    · simp [h1]
  · have := of_decide_eq_true (List.mem_filter.1 hx).2
    unfold inB
    rw [decide_eq_false (show ¬ 0 ≤ cmpI o x.1 lo by omega)]; rfl
end Go.Proofs.YtbaoihmffobneaaGreat
