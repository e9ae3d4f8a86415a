/-
  The plain laws of layer 5: what the document says, and what the program does, are the same; and the algebra.
-/
import Derived.Test.YtinkkhcffoikmaaRowset5
namespace Go.Proofs.Ytinkkhcffoikmaa
open Go Go.Sh Go.RowKit

theorem pw_filter {o : Int} : ∀ {l : List Pr}, (l.map (·.1)).Pairwise (ltO o) → ∀ {k v : Int}, (k, v) ∈ l → l.filter (fun x => x.1 == k) = [(k, v)]
  | [], _, _, _, h => by cases h
  | x :: l, hp, k, v, h => by
    simp only [List.map_cons, List.pairwise_cons, List.mem_map, forall_exists_index, and_imp, forall_apply_eq_imp_iff₂] at hp
    rcases List.mem_cons.1 h with e | h
    · subst e
      rw [List.filter_cons_of_pos (by simp), filter_none' fun y hy => ?_]
      have := ltO_ne (hp.1 y hy)
      simp at this ⊢
      exact fun e => this e.symm
    · rw [List.filter_cons_of_neg ?_, pw_filter hp.2 h]
      have := ltO_ne (hp.1 _ h)
      simpa using this
theorem lk_filter {o : Int} {l : List Pr} (hm : mayR o l = true) (k : Int) : (l.filter (fun x => x.1 == k)).map (·.2) = (lk o l k).toList := by
  cases h : lk o l k with
  | none => rw [filter_none' fun y hy => by simpa using (lk_none hm).1 h y hy]; rfl
  | some v => rw [pw_filter (mayR_iff.1 hm).2 ((lk_iff hm).1 h)]; rfl
theorem fm_lk {o : Int} {f : Pr → Option Pr} (hf : ∀ x y, f x = some y → y.1 = x.1) {l : List Pr} (h : mayR o l = true) (k : Int) : lk o (l.filterMap f) k = (lk o l k).bind fun v => (f (k, v)).map (·.2) := by
  have hm := fm_may (o := o) hf h
  have key : ∀ v, lk o (l.filterMap f) k = some v → ((lk o l k).bind fun v => (f (k, v)).map (·.2)) = some v := fun v hv => by
    obtain ⟨x, hx, e⟩ := List.mem_filterMap.1 ((lk_iff hm).1 hv)
    have hk := hf _ _ e
    have : (k, x.2) ∈ l := by rw [show (k, x.2) = x from by rw [show k = x.1 from hk]]; exact hx
    rw [(lk_iff h).2 this, Option.bind_some, show (k, x.2) = x from by rw [show k = x.1 from hk], e]; rfl
  cases hv : lk o (l.filterMap f) k with
  | some v => exact (key v hv).symm
  | none =>
    cases hw : (lk o l k).bind fun v => (f (k, v)).map (·.2) with
    | none => rfl
    | some v =>
      exfalso
      cases hl : lk o l k with
      | none => rw [hl] at hw; cases hw
      | some x =>
        rw [hl, Option.bind_some] at hw
        cases hfx : f (k, x) with
        | none => rw [hfx] at hw; cases hw
        | some y =>
          have : y ∈ l.filterMap f := List.mem_filterMap.2 ⟨_, (lk_iff h).1 hl, hfx⟩
          have hy := hf _ _ hfx
          have := (lk_iff hm (k := k) (v := y.2)).2 (by rw [show (k, y.2) = y from by rw [show k = y.1 from hy.symm]]; exact this)
          rw [hv] at this; cases this
theorem meetF_key {o p : Int} {b : List Pr} (x y : Pr) (h : meetF o p b x = some y) : y.1 = x.1 := by
  unfold meetF at h
  split at h
  · cases h; rfl
  · cases h
theorem someL_in {o p : Int} {want : Ke → Bool} {a b : List Pr} (ha : InP a) (hb : InP b) : InP (someL o p want a b) :=
  inv_outL fun e he => mg_in o a b ha hb e he
theorem both3 {x y z : Bool} (h : (x && y && z) = true) : x = true ∧ y = true ∧ z = true := by
  cases x <;> cases y <;> cases z <;> simp at h ⊢
section
variable {o p : Int} {a b : List Pr}
theorem un_eq (hIa : InP a) (hIb : InP b) : setL o p wU a b = r5un o p a b := by
  unfold setL r5un
  cases hb : (mayR o a && mayR o b && may p)
  · rfl
  obtain ⟨h1, h2, h3⟩ := both3 hb
  rw [cond_true, cond_true]
  have hI : InP (a ++ b) := fun x hx => by
    rcases List.mem_append.1 hx with hx | hx
    · exact hIa x hx
    · exact hIb x hx
  refine row_ext (someL_may h1 h2 hIa hIb) (sortL_may (mayR_o h1) h3 hI).1 fun k => ?_
  rw [someL_lk h1 h2 hIa hIb, sortL_lk0 (mayR_o h1) h3 hI, List.filter_append, List.map_append, lk_filter h1, lk_filter h2]
  cases lk o a k <;> cases lk o b k <;> simp [wantK, wU, addO]
theorem get_of {l : List Pr} {k v : Int} (h : lk o l k = some v) : hasR o l k = true ∧ getR o l k = v := by
  unfold lk at h
  cases hh : hasR o l k
  · rw [hh] at h; cases h
  · rw [hh] at h; exact ⟨rfl, by simpa using h⟩
theorem has_of {l : List Pr} {k : Int} (h : lk o l k = none) : hasR o l k = false := by
  unfold lk at h
  cases hh : hasR o l k
  · rfl
  · rw [hh] at h; cases h
theorem me_eq (hIa : InP a) (hIb : InP b) : setL o p wM a b = r5me o p a b := by
  unfold setL r5me
  cases hb : (mayR o a && mayR o b && may p)
  · rfl
  obtain ⟨h1, h2, h3⟩ := both3 hb
  rw [cond_true, cond_true]
  refine row_ext (someL_may h1 h2 hIa hIb) (fm_may meetF_key h1) fun k => ?_
  rw [someL_lk h1 h2 hIa hIb, fm_lk meetF_key h1]
  cases hA : lk o a k <;> cases hB : lk o b k
  · simp [wantK]
  · simp [wantK, wM]
  · simp [wantK, wM, meetF, has_of hB]
  · simp [wantK, wM, meetF, get_of hB]
theorem le_eq (hIa : InP a) (hIb : InP b) : setL o 1 wL a b = r5le o a b := by
  unfold setL r5le
  rw [may1, Bool.and_true]
  cases hb : (mayR o a && mayR o b)
  · rfl
  obtain ⟨h1, h2⟩ : mayR o a = true ∧ mayR o b = true := by simpa using hb
  rw [cond_true, cond_true]
  refine row_ext (someL_may h1 h2 hIa hIb) (fm_may lessF_key h1) fun k => ?_
  rw [someL_lk h1 h2 hIa hIb, fm_lk lessF_key h1]
  cases hA : lk o a k <;> cases hB : lk o b k
  · simp [wantK]
  · simp [wantK, wL]
  · simp [wantK, wL, lessF, has_of hB]
  · simp [wantK, wL, lessF, get_of hB]
theorem ap_eq (hIa : InP a) (hIb : InP b) : setL o 1 wA a b = r5ap o a b := by
  unfold setL r5ap
  rw [may1, Bool.and_true]
  cases hb : (mayR o a && mayR o b)
  · rfl
  obtain ⟨h1, h2⟩ : mayR o a = true ∧ mayR o b = true := by simpa using hb
  rw [cond_true, cond_true, ← un_eq (r5le_in hIa) (r5le_in hIb), ← le_eq hIa hIb, ← le_eq hIb hIa]
  have e1 : setL o 1 wL a b = someL o 1 wL a b := by unfold setL; rw [h1, h2, may1]; rfl
  have e2 : setL o 1 wL b a = someL o 1 wL b a := by unfold setL; rw [h1, h2, may1]; rfl
  rw [e1, e2]
  have m1 := someL_may (p := 1) (want := wL) h1 h2 hIa hIb
  have m2 := someL_may (p := 1) (want := wL) h2 h1 hIb hIa
  have e3 : setL o 1 wU (someL o 1 wL a b) (someL o 1 wL b a) = someL o 1 wU (someL o 1 wL a b) (someL o 1 wL b a) := by unfold setL; rw [m1, m2, may1]; rfl
  rw [e3]
  have i1 := someL_in (o := o) (p := 1) (want := wL) hIa hIb
  have i2 := someL_in (o := o) (p := 1) (want := wL) hIb hIa
  refine row_ext (someL_may h1 h2 hIa hIb) (someL_may m1 m2 i1 i2) fun k => ?_
  rw [someL_lk h1 h2 hIa hIb, someL_lk m1 m2 i1 i2, someL_lk h1 h2 hIa hIb, someL_lk h2 h1 hIb hIa]
  cases hA : lk o a k <;> cases hB : lk o b k <;> simp [wantK, wL, wA, wU]
theorem rangeF_key {lo hi : Int} (x y : Pr) (h : rangeF o lo hi x = some y) : y.1 = x.1 := by
  unfold rangeF at h
  split at h
  · cases h; rfl
  · cases h
theorem range_b {k lo hi : Int} : (decide (cmpI o k lo ≥ 0) && decide (cmpI o k hi ≤ 0)) = (!(decide (cmpI o k lo < 0)) && !(decide (cmpI o hi k < 0))) := by
  have h1 : decide (cmpI o k lo ≥ 0) = !(decide (cmpI o k lo < 0)) := by
    by_cases h : cmpI o k lo < 0
    · simp [h]
    · simp [h]; omega
  have h2 : decide (cmpI o k hi ≤ 0) = !(decide (cmpI o hi k < 0)) := by
    by_cases h : cmpI o hi k < 0
    · have := cmpI_neg h
      simp [h]; omega
    · have : ¬ 0 < cmpI o k hi := fun g => h (cmpI_pos g)
      simp [h]; omega
  rw [h1, h2]
theorem rg_eq {lo hi : Int} (hIa : InP a) : setL o 1 (wR o lo hi) a [] = r5rg o a lo hi ∧ setE o 1 a [] = cond (mayR o a) 0 2 := by
  have hIb : InP [] := fun x hx => by cases hx
  cases h1 : mayR o a
  · exact ⟨by unfold setL r5rg; rw [h1]; rfl, by unfold setE; rw [h1]; rfl⟩
  have h2 : mayR o [] = true := mayR_nil (mayR_o h1)
  refine ⟨?_, by unfold setE; rw [h1, h2, may1]; rfl⟩
  unfold setL r5rg
  rw [h1, h2, may1]
  simp only [Bool.and_self, cond_true]
  refine row_ext (someL_may h1 h2 hIa hIb) (fm_may rangeF_key h1) fun k => ?_
  rw [someL_lk h1 h2 hIa hIb, fm_lk rangeF_key h1, lk_nil]
  cases hA : lk o a k with
  | none => rfl
  | some v =>
    rw [Option.bind_some]
    unfold wantK rangeF wR
    simp only
    rw [range_b]
    split <;> rfl
theorem pos_iff {key : Int} {l : List Pr} (hm : mayR o l = true) {i : Nat} (hi : i < l.length) : cmpI o l[i].1 key < 0 ↔ i < posR o l key := by
  unfold posR; rw [hm, cond_true]
  constructor
  · intro h
    rcases Nat.lt_or_ge i (idxR o l key) with g | g
    · exact g
    · exfalso
      have hlt : idxR o l key < l.length := by omega
      have h0 := idxR_ge hlt
      rcases Nat.eq_or_lt_of_le g with e | g
      · simp only [← e] at h; omega
      · have := cmpI_trans (chain_lt (mayR_chain hm) g hi) h; omega
  · intro h; exact (idxR_lt h).2
theorem filter_cut {α : Type} {P : α → Bool} {l : List α} {m : Nat} (h : ∀ i (hi : i < l.length), P l[i] = true ↔ i < m) : l.filter P = l.take m := by
  conv => lhs; rw [← List.take_append_drop m l]
  rw [List.filter_append, List.filter_eq_self.2 fun x hx => ?_, List.filter_eq_nil_iff.2 fun x hx => ?_, List.append_nil]
  · obtain ⟨i, hi, e⟩ := List.getElem_of_mem hx
    rw [List.length_drop] at hi
    rw [← e, List.getElem_drop, h _ (by omega)]; omega
  · obtain ⟨i, hi, e⟩ := List.getElem_of_mem hx
    rw [List.length_take] at hi
    rw [← e, List.getElem_take, h _ (by omega)]; omega
theorem filter_cut' {α : Type} {P : α → Bool} {l : List α} {m : Nat} (h : ∀ i (hi : i < l.length), P l[i] = true ↔ m ≤ i) : l.filter P = l.drop m := by
  conv => lhs; rw [← List.take_append_drop m l]
  rw [List.filter_append, List.filter_eq_nil_iff.2 fun x hx => ?_, List.filter_eq_self.2 fun x hx => ?_, List.nil_append]
  · obtain ⟨i, hi, e⟩ := List.getElem_of_mem hx
    rw [List.length_drop] at hi
    rw [← e, List.getElem_drop, h _ (by omega)]; omega
  · obtain ⟨i, hi, e⟩ := List.getElem_of_mem hx
    rw [List.length_take] at hi
    rw [← e, List.getElem_take, h _ (by omega)]; omega
theorem fm_filter {P : Pr → Bool} {l : List Pr} : l.filterMap (fun x => if P x = true then some x else none) = l.filter P := by
  induction l with
  | nil => rfl
  | cons x l ih =>
    cases h : P x
    · rw [List.filterMap_cons_none (by simp [h]), List.filter_cons_of_neg (by simp [h]), ih]
    · rw [List.filterMap_cons_some (b := x) (by simp [h]), List.filter_cons_of_pos h, ih]
theorem ca_eq {key : Int} : cutA o a key = r5ca o a key := by
  unfold cutA r5ca
  cases h : mayR o a
  · rfl
  · exact (fm_filter.trans (filter_cut fun i hi => by rw [decide_eq_true_eq]; exact pos_iff h hi)).symm
theorem cb_eq {key : Int} (hI : InP a) (hk : In key) : cutB o a key = r5cb o a key := by
  unfold cutB r5cb
  cases h : mayR o a
  · rfl
  · refine (fm_filter.trans (filter_cut' fun i hi => ?_)).symm
    rw [decide_eq_true_eq]
    have := floor_at h hI hk hi
    cases hh : hasR o a key
    · rw [hh] at this
      simp only [Bool.false_eq_true, false_and, or_false] at this
      simp; omega
    · rw [hh] at this
      simp only [true_and] at this
      simp; omega
end
end Go.Proofs.Ytinkkhcffoikmaa
