/-
  FindRows.
-/
import Derived.Test.YtinkkhcffoikmaaFind2
import Derived.Test.YtinkkhcffoikmaaL5
namespace Go.Proofs.Ytinkkhcffoikmaa
open Go Go.Sh Go.RowKit

theorem filter_take {α : Type} {p : α → Bool} : ∀ {l : List α} {m : Nat}, (∀ i (h : i < l.length), p l[i] = true ↔ i < m) → l.filter p = l.take m
  | [], m, _ => by simp
  | x :: xs, 0, h => by
    have h0 : p x = false := by
      cases hp : p x
      · rfl
      · have := (h 0 (by simp)).1 hp; omega
    rw [List.filter_cons_of_neg (by simp [h0]), filter_take (l := xs) (m := 0) fun i hi => ?_]
    · rfl
    · have := h (i + 1) (by simpa using hi)
      simp only [List.getElem_cons_succ] at this
      rw [this]; omega
  | x :: xs, m + 1, h => by
    have h0 : p x = true := (h 0 (by simp)).2 (by omega)
    rw [List.filter_cons_of_pos h0, List.take_succ_cons, filter_take (l := xs) (m := m) fun i hi => ?_]
    have := h (i + 1) (by simpa using hi)
    simp only [List.getElem_cons_succ] at this
    rw [this]; omega
theorem filter_drop {α : Type} {p : α → Bool} : ∀ {l : List α} {m : Nat}, (∀ i (h : i < l.length), p l[i] = true ↔ m ≤ i) → l.filter p = l.drop m
  | [], m, _ => by simp
  | x :: xs, 0, h => by
    rw [List.drop_zero, List.filter_eq_self]
    intro y hy
    obtain ⟨i, hi, rfl⟩ := List.getElem_of_mem hy
    exact (h i hi).2 (by omega)
  | x :: xs, m + 1, h => by
    have h0 : p x = false := by
      cases hp : p x
      · rfl
      · have := (h 0 (by simp)).1 hp; omega
    rw [List.filter_cons_of_neg (by simp [h0]), List.drop_succ_cons, filter_drop (l := xs) (m := m) fun i hi => ?_]
    have := h (i + 1) (by simpa using hi)
    simp only [List.getElem_cons_succ] at this
    rw [this]; omega
theorem cmpI_lt1 {o a b : Int} (h : cmpI o a b < 0) : cmpI o a b = -1 := by rcases cmpI_vals o a b with h1 | h1 | h1 <;> omega
theorem cmpI_gt1 {o a b : Int} (h : 0 < cmpI o a b) : cmpI o a b = 1 := by rcases cmpI_vals o a b with h1 | h1 | h1 <;> omega
/-- what stands on both sides of a node, against a key -/
theorem sides {o key : Int} (hk : In key) {l r : Tr} {k v g : Int} (hm : mayR o (Tr.node l k v g r).pairs = true) (hA : AllK (.node l k v g r)) :
    mayR o l.pairs = true ∧ mayR o r.pairs = true ∧ (0 ≤ cmpI o key k → ∀ x ∈ l.pairs, cmpI o key x.1 = 1) ∧ (cmpI o key k ≤ 0 → ∀ x ∈ r.pairs, cmpI o key x.1 = -1) := by
  obtain ⟨hAl, hAk, hAr⟩ := hA.node
  simp only [Tr.pairs] at hm
  obtain ⟨hml, hmr'⟩ := mayR_append hm
  have hmr : mayR o r.pairs = true := (mayR_append (l := [(k, v)]) hmr').2
  have ho := mayR_o hml
  have hpw := (mayR_iff.1 hm).2
  rw [List.map_append, List.map_cons, List.pairwise_append, List.pairwise_cons] at hpw
  refine ⟨hml, hmr, fun h x hx => ?_, fun h x hx => ?_⟩
  · have h1 : cmpI o x.1 k < 0 := hpw.2.2 _ (List.mem_map_of_mem hx) _ (List.mem_cons_self)
    refine cmpI_gt1 ?_
    rcases Int.lt_or_le 0 (cmpI o key k) with h2 | h2
    · exact cmpI_neg (cmpI_trans h1 (cmpI_pos h2))
    · have : key = k := cmpI_eq ho hk hAk (by omega)
      subst this; exact cmpI_neg h1
  · have h1 : cmpI o k x.1 < 0 := hpw.2.1.1 _ (List.mem_map_of_mem hx)
    refine cmpI_lt1 ?_
    rcases Int.lt_or_le (cmpI o key k) 0 with h2 | h2
    · exact cmpI_trans h2 h1
    · have : key = k := cmpI_eq ho hk hAk (by omega)
      subst this; exact h1
theorem filter_none {α : Type} {p : α → Bool} {l : List α} (h : ∀ x ∈ l, p x = false) : l.filter p = [] := by
  rw [List.filter_eq_nil_iff]; intro x hx; simp [h x hx]
theorem or_or {α : Type} (a b c : Option α) : (a.or b).or c = a.or (b.or c) := by cases a <;> rfl
theorem last_of {o key : Int} {sel : Int → Bool} (hk : In key) (h1 : sel (-1) = false) (h0 : sel 0 = true) : ∀ {t acc : Tr}, mayR o t.pairs = true → AllK t →
    resT (lastN o key sel t acc) = ((t.pairs.filter fun x => sel (cmpI o key x.1)).getLast?).or (resT acc)
  | .nil, acc, _, _ => rfl
  | .node l k v g r, acc, hm, hA => by
    obtain ⟨hml, hmr, hl, hr⟩ := sides hk hm hA
    obtain ⟨hAl, hAk, hAr⟩ := hA.node
    rw [lastN]
    simp only [Tr.pairs, List.filter_append]
    rcases cmpI_vals o key k with hc | hc | hc
    · simp only [hc, h1]
      rw [if_pos (by decide), List.filter_cons_of_neg (by simp [hc, h1]), filter_none (l := r.pairs) fun x hx => by rw [hr (by omega) x hx, h1], List.append_nil]
      exact last_of hk h1 h0 hml hAl
    · simp only [hc, h0]
      rw [if_neg (by decide), if_pos trivial, List.filter_cons_of_pos (by simp [hc, h0]), filter_none (l := r.pairs) fun x hx => by rw [hr (by omega) x hx, h1]]
      simp only [List.getLast?_append, if_true]
      rfl
    · simp only [hc]
      rw [if_neg (by decide), if_neg (by decide)]
      cases hs : sel 1
      · rw [List.filter_cons_of_neg (by simp [hc, hs]), filter_none (l := l.pairs) fun x hx => by rw [hl (by omega) x hx, hs], List.nil_append]
        exact last_of hk h1 h0 hmr hAr
      · rw [List.filter_cons_of_pos (by simp [hc, hs])]
        rw [last_of hk h1 h0 hmr hAr, List.getLast?_append, List.getLast?_cons]
        cases (r.pairs.filter fun x => sel (cmpI o key x.1)).getLast? <;> rfl
theorem first_of {o key : Int} (hk : In key) : ∀ {t acc : Tr}, mayR o t.pairs = true → AllK t →
    resT (lastN o key (fun c => decide ((c : Int) ≤ 0)) t acc) = ((t.pairs.filter fun x => decide (cmpI o key x.1 ≤ 0)).head?).or (resT acc)
  | .nil, acc, _, _ => rfl
  | .node l k v g r, acc, hm, hA => by
    obtain ⟨hml, hmr, hl, hr⟩ := sides hk hm hA
    obtain ⟨hAl, hAk, hAr⟩ := hA.node
    rw [lastN]
    simp only [Tr.pairs, List.filter_append]
    rcases cmpI_vals o key k with hc | hc | hc
    · simp only [hc]
      rw [if_pos (by decide), List.filter_cons_of_pos (by simp [hc]), first_of hk hml hAl, List.head?_append, or_or]
      rfl
    · simp only [hc]
      rw [if_neg (by decide), if_pos trivial, List.filter_cons_of_pos (by simp [hc]), filter_none (l := l.pairs) fun x hx => by rw [hl (by omega) x hx]; rfl]
      rfl
    · simp only [hc]
      rw [if_neg (by decide), if_neg (by decide), List.filter_cons_of_neg (by simp [hc]), filter_none (l := l.pairs) fun x hx => by rw [hl (by omega) x hx]; rfl]
      exact first_of hk hmr hAr
/-- Get, Floor, Ceil in a tree and in the row of its pairs -/
theorem find_get {o key : Int} (hk : In key) {t : Tr} (hm : mayR o t.pairs = true) (hA : AllK t) : (lastR o t key fun c => (c : Int) == 0).val = getR o t.pairs key ∧ (lastR o t key fun c => (c : Int) == 0).nn = hasR o t.pairs key := by
  have ho := mayR_o hm
  unfold lastR
  rw [ho, cond_true]
  have h := last_of (o := o) (sel := fun c => (c : Int) == 0) hk (by decide) (by decide) (acc := .nil) hm hA
  have hr := @resT_of (lastN o key (fun c => (c : Int) == 0) t .nil)
  rw [h] at hr
  have hv : (lastN o key (fun c => (c : Int) == 0) t .nil).val = (((t.pairs.filter fun x => cmpI o key x.1 == 0).getLast?.or (resT .nil)).getD (0, 0)).2 := by rw [← hr.2]
  rw [hv, hr.1]
  have hmem : ∀ x ∈ t.pairs.filter (fun x => cmpI o key x.1 == 0), x ∈ t.pairs ∧ x.1 = key := fun x hx => by
    rw [List.mem_filter] at hx
    exact ⟨hx.1, (cmpI_eq ho hk (hA x hx.1) (by simpa using hx.2)).symm⟩
  cases hh : hasR o t.pairs key
  · have he : t.pairs.filter (fun x => cmpI o key x.1 == 0) = [] := by
      rw [List.eq_nil_iff_forall_not_mem]
      intro x hx
      obtain ⟨h1, h2⟩ := hmem x hx
      have := mem_get hm (key := key) (v := x.2) (by rw [← h2]; exact h1)
      rw [hh] at this; cases this.1
    rw [he, get_none hh]; exact ⟨rfl, rfl⟩
  · have h1 := has_mem hh
    have h2 : (key, getR o t.pairs key) ∈ t.pairs.filter (fun x => cmpI o key x.1 == 0) := by rw [List.mem_filter]; exact ⟨h1, by simp [cmpI_self]⟩
    cases hg : (t.pairs.filter fun x => cmpI o key x.1 == 0).getLast? with
    | none => rw [List.getLast?_eq_none_iff] at hg; rw [hg] at h2; cases h2
    | some y =>
      obtain ⟨h3, h4⟩ := hmem y (List.mem_of_getLast? hg)
      have h5 := mem_get hm (key := key) (v := y.2) (by rw [← h4]; exact h3)
      exact ⟨h5.2.symm, rfl⟩
theorem find_floor {o key : Int} (hk : In key) {t : Tr} (hm : mayR o t.pairs = true) (hA : AllK t) (hI : InP t.pairs) :
    ((lastR o t key fun c => decide ((c : Int) ≥ 0)).key, (lastR o t key fun c => decide ((c : Int) ≥ 0)).val) = floorR o t.pairs key ∧ (lastR o t key fun c => decide ((c : Int) ≥ 0)).nn = isFloorR o t.pairs key := by
  have ho := mayR_o hm
  unfold lastR
  rw [ho, cond_true]
  have h := last_of (o := o) (sel := fun c => decide ((c : Int) ≥ 0)) hk (by decide) (by decide) (acc := .nil) hm hA
  have hr := @resT_of (lastN o key (fun c => decide ((c : Int) ≥ 0)) t .nil)
  rw [h] at hr
  rw [hr.1, hr.2]
  have hple := posR_le o t.pairs key
  unfold floorR isFloorR
  cases hh : hasR o t.pairs key
  · rw [filter_take (m := posR o t.pairs key) fun i hi => by
      rw [decide_eq_true_eq]
      show 0 ≤ cmpI o key t.pairs[i].1 ↔ _
      rw [floor_at hm hI hk hi]; simp [hh]]
    rw [List.getLast?_take]
    by_cases h0 : posR o t.pairs key = 0
    · simp [h0, resT, Tr.nn]
    · rw [if_neg h0, List.getElem?_eq_getElem (by omega)]
      simp only [cond_false, if_neg h0, getD_of (show posR o t.pairs key - 1 < t.pairs.length by omega), Bool.false_or, decide_eq_true (show 0 < posR o t.pairs key by omega)]
      exact ⟨rfl, rfl⟩
  · have hlt := hasR_lt hh
    rw [filter_take (m := posR o t.pairs key + 1) fun i hi => by
      rw [decide_eq_true_eq]
      show 0 ≤ cmpI o key t.pairs[i].1 ↔ _
      rw [floor_at hm hI hk hi]; simp [hh]; omega]
    rw [List.getLast?_take, if_neg (by omega), Nat.add_sub_cancel, List.getElem?_eq_getElem hlt]
    simp only [cond_true, getD_of hlt, Bool.true_or]
    exact ⟨rfl, rfl⟩
theorem find_ceil {o key : Int} (hk : In key) {t : Tr} (hm : mayR o t.pairs = true) (hA : AllK t) :
    ((lastR o t key fun c => decide ((c : Int) ≤ 0)).key, (lastR o t key fun c => decide ((c : Int) ≤ 0)).val) = ceilR o t.pairs key ∧ (lastR o t key fun c => decide ((c : Int) ≤ 0)).nn = isCeilR o t.pairs key := by
  have ho := mayR_o hm
  have hp : posR o t.pairs key = idxR o t.pairs key := by unfold posR; rw [hm]; rfl
  unfold lastR
  rw [ho, cond_true]
  have h := first_of (o := o) hk (acc := .nil) hm hA
  have hr := @resT_of (lastN o key (fun c => decide ((c : Int) ≤ 0)) t .nil)
  rw [h] at hr
  rw [hr.1, hr.2]
  rw [filter_drop (m := posR o t.pairs key) fun i hi => by
    rw [decide_eq_true_eq]
    constructor
    · intro h1
      rcases Nat.lt_or_ge i (posR o t.pairs key) with h2 | h2
      · have := cmpI_neg (idxR_lt (o := o) (l := t.pairs) (key := key) (i := i) (by omega)).2
        omega
      · exact h2
    · intro h1
      have hlt : idxR o t.pairs key < t.pairs.length := by omega
      have hge := idxR_ge hlt
      rcases Int.lt_or_le 0 (cmpI o key t.pairs[i].1) with h2 | h2
      · exfalso
        have h3 := cmpI_pos h2
        rcases Nat.lt_or_ge (idxR o t.pairs key) i with h4 | h4
        · have := cmpI_trans (chain_lt (mayR_chain hm) h4 hi) h3
          omega
        · have e : idxR o t.pairs key = i := by omega
          simp only [e] at hge; omega
      · exact h2]
  unfold ceilR isCeilR
  rw [hm, List.head?_drop, cond_true, Bool.true_and]
  rcases Nat.lt_or_ge (posR o t.pairs key) t.pairs.length with h1 | h1
  · rw [List.getElem?_eq_getElem h1, getD_of h1, decide_eq_true h1]; exact ⟨rfl, rfl⟩
  · rw [List.getElem?_eq_none h1, decide_eq_false (by omega)]
    refine ⟨?_, rfl⟩
    simp [List.getElem?_eq_none h1, resT, Tr.nn]
theorem path_height (o key : Int) (t : BT) : (pathN o key t.tr).length ≤ t.height := by
  induction t with
  | nil => exact Nat.le_refl _
  | node x l r ihl ihr =>
    simp only [BT.tr, pathN, BT.height, List.length_cons]
    split
    · omega
    · split
      · simp only [List.length_nil]; omega
      · omega
theorem path_last {o key : Int} (ho : isO o = true) (hk : In key) : ∀ {t : Tr}, AllK t → t.nn = true → ((pathN o key t).getLast? = some key ↔ hasN o key t = true)
  | .nil, _, h => by cases h
  | .node l k v g r, hA, _ => by
    obtain ⟨hAl, hAk, hAr⟩ := hA.node
    rw [pathN, hasN]
    have hne : cmpI o key k ≠ 0 → k ≠ key := fun h e => h (by rw [e, cmpI_self])
    rcases cmpI_vals o key k with hc | hc | hc
    · rw [hc, if_pos (by decide), if_pos (by decide)]
      cases l with
      | nil => simp [pathN, hasN, hne (by omega)]
      | node l' k' v' g' r' =>
        rw [← path_last ho hk hAl rfl]
        rw [pathN, List.getLast?_cons_cons]
    · rw [hc, if_neg (by decide), if_pos rfl, if_neg (by decide), if_pos rfl]
      simp [cmpI_eq ho hk hAk hc]
    · rw [hc, if_neg (by decide), if_neg (by decide), if_neg (by decide), if_neg (by decide)]
      cases r with
      | nil => simp [pathN, hasN, hne (by omega)]
      | node l' k' v' g' r' =>
        rw [← path_last ho hk hAr rfl]
        rw [pathN, List.getLast?_cons_cons]
theorem cs_i2 {w : World} {b : Nat} {u v : Int} {t : TypeId} (h : Blk w b #[.int .i64 u, .int .i64 v] t) : Cs w (some (blk b)) (ints [u, v]) := fun i x hx => by
  refine ⟨_, rfl, ?_⟩
  rw [add_blk]
  match i, hx with
  | 0, hx => cases hx; exact h.cell rfl rfl
  | 1, hx => cases hx; exact h.cell rfl rfl
  | i + 2, hx => simp [ints] at hx
set_option maxRecDepth 20000 in
theorem c_alive25 {w : World} {R : Ending → World → Prop} (h : ∀ w', Ext w w' → R (.returned (.bool true)) w') : Calls Try.prog 26 #[] w R := by
  refine sh26_ok ?_
  unfold sh26
  refine do_call Try.call69 (c_new (l := .nil) (r := .nil) rfl rfl (by decide) fun b1 w1 e1 h1 _ => retS_ret ⟨_, rfl, ?_⟩)
  refine do_call Try.call69 (c_new (r := .nil) h1 rfl (by decide) fun b2 w2 e2 h2 _ => retS_ret ⟨_, rfl, ?_⟩)
  have h2 : IsN w2 (some (blk b2)) alT := h2
  refine do_call Try.call27 (c_fget h2 ⟨by decide, by decide⟩ alT_all fun w3 e3 => retS_ret ⟨_, _, rfl, ?_⟩)
  refine do_call Try.call29 (c_ffloor (h2.ext e3) ⟨by decide, by decide⟩ alT_all fun w4 e4 => retS_ret ⟨_, _, _, rfl, ⟨?_⟩⟩)
  refine do_st2 (blk_alloc w4 _ _) fun w5 h5 g5 => ?_
  have e5 : Ext w4 w5 := (ext_alloc w4 _).st g5 (Nat.le_refl _)
  have E5 := e3.trans (e4.trans e5)
  refine do_call Try.call31 (c_fceil (h2.ext E5) ⟨by decide, by decide⟩ alT_all fun w6 e6 => retS_ret ⟨_, _, _, rfl, ⟨?_⟩⟩)
  refine do_st2 (blk_alloc w6 _ _) fun w7 h7 g7 => ?_
  have e7 : Ext w6 w7 := (ext_alloc w6 _).st g7 (Nat.le_refl _)
  have e57 := e6.trans e7
  have E7 := E5.trans e57
  refine do_call Try.call34 (c_fmax (h2.ext E7) fun w8 e8 => retS_ret ⟨_, _, _, rfl, ⟨?_⟩⟩)
  refine do_st2 (blk_alloc w8 _ _) fun w9 h9 g9 => ?_
  have e9 : Ext w8 w9 := (ext_alloc w8 _).st g9 (Nat.le_refl _)
  have e79 := e8.trans e9
  have E9 := E7.trans e79
  refine do_call Try.call33 (c_fmin (t := .nil) (w := w9) rfl fun w10 e10 => retS_ret ⟨_, _, _, rfl, ⟨?_⟩⟩)
  refine do_st2 (blk_alloc w10 _ _) fun w11 h11 g11 => ?_
  have e11 : Ext w10 w11 := (ext_alloc w10 _).st g11 (Nat.le_refl _)
  have e911 := e10.trans e11
  have E11 := E9.trans e911
  refine do_call Try.call35 (c_fpath (h2.ext E11) ⟨by decide, by decide⟩ alT_all (by decide) fun p12 n12 c12 w12 hp12 e12 => retS_ret ⟨_, _, _, rfl, ⟨?_⟩⟩)
  have q1 : pathR 1 alT 2 = [3, 1] := by decide
  rw [q1] at hp12
  have e13 := ext_alloc w12 (.cells #[.int .i64 3, .int .i64 1] 2)
  refine do_call Try.call83 (c_rsame (Cs.of_row (e13.row hp12)) (row_len hp12) (cs_i2 (blk_alloc w12 _ _)) rfl (by rw [← row_len hp12]; decide) fun w14 e14 => retS_ret ⟨_, rfl, ?_⟩)
  have e1114 := e12.trans (e13.trans e14)
  have h5' := h5.ext ((e57.trans e79).trans (e911.trans e1114))
  have h7' := h7.ext (e79.trans (e911.trans e1114))
  have h9' := h9.ext (e911.trans e1114)
  have q2 : (lastR 1 alT 1 fun c => (c : Int) == 0).val = 10 := by decide
  have q3 : (lastR 1 alT 1 fun c => (c : Int) == 0).nn = true := by decide
  have q4 : (lastR 1 alT 2 fun c => decide ((c : Int) ≥ 0)).key = 1 := by decide
  have q5 : (lastR 1 alT 2 fun c => decide ((c : Int) ≥ 0)).val = 10 := by decide
  have q6 : (lastR 1 alT 2 fun c => decide ((c : Int) ≥ 0)).nn = true := by decide
  have q7 : (lastR 1 alT 2 fun c => decide ((c : Int) ≤ 0)).key = 3 := by decide
  have q8 : (lastR 1 alT 2 fun c => decide ((c : Int) ≤ 0)).val = 30 := by decide
  have q9 : (lastR 1 alT 2 fun c => decide ((c : Int) ≤ 0)).nn = true := by decide
  have q10 : alT.pairs.getLast?.getD (0, 0) = (3, 30) := by decide
  rw [q4, q5] at h5'
  rw [q7, q8] at h7'
  rw [q10] at h9'
  rw [q2, q3, q6, q9]
  refine ifB_t (by decide) (ifB_t rfl (ifB_t rfl ?_))
  refine ⟨_, h5'.cell (i := 0) (add_blk _ _) rfl, _, h5'.cell (i := 1) (add_blk _ _) rfl, ifB_t rfl (ifB_t rfl ?_)⟩
  refine ⟨_, h7'.cell (i := 0) (add_blk _ _) rfl, _, h7'.cell (i := 1) (add_blk _ _) rfl, ifB_t rfl (ifB_t rfl ?_)⟩
  refine ⟨_, h9'.cell (i := 0) (add_blk _ _) rfl, _, h9'.cell (i := 1) (add_blk _ _) rfl, _, h7'.cell (i := 0) (add_blk _ _) rfl, _, h7'.cell (i := 1) (add_blk _ _) rfl, ifB_t rfl (ifB_t rfl (ifB_t rfl ?_))⟩
  refine do_call Try.call35 (c_fpath (h2.ext (E11.trans e1114)) ⟨by decide, by decide⟩ alT_all (by decide) fun p15 n15 c15 w15 hp15 e15 => retS_ret ⟨_, _, _, rfl, ?_⟩)
  have q11 : pathR 0 alT 2 = [] := by decide
  rw [q11] at hp15
  have : n15 = 0 := by have := row_len hp15; simpa using this.symm
  subst this
  exact h _ ((e1.trans e2).trans ((E11.trans e1114).trans e15))
set_option maxRecDepth 100000 in
theorem c_findRows {o : Int} {l : List Pr} {picks : List Int} {key : Int} {q q' : Option Addr} {n c n' c' : Nat} {w : World} {R : Ending → World → Prop} (ho : 0 ≤ o ∧ o < 256) (hl : Cs w q (prs l)) (hn : l.length = n) (hI : InP l)
    (hp : Cs w q' (u8s picks)) (hn' : picks.length = n') (hnc' : n' ≤ c') (hpI : ∀ x ∈ picks, 0 ≤ x ∧ x < 256) (hk : In key)
    (h : ∀ w', Ext w w' → R (.returned (.bool true)) w') : Calls Try.prog 5 #[.int .u8 o, .slice q n c, .slice q' n' c', .int .i64 key] w R := by
  refine sh5_ok _ _ _ _ _ _ _ _ ?_
  unfold sh5
  have hal : ∀ {w' : World}, Ext w w' → doCall Try.prog (.func (.func 26) #[] #[]) #[] w' (retS (fun v11 w12 => ∃ (x10 : Bool), v11 = (.bool x10 : Value) ∧ (R (.returned (.bool x10)) w12)) (fun ch w => Kfn R ch [] w)) :=
    fun E => do_call Try.call26 (c_alive25 fun w2 e2 => retS_ret ⟨_, rfl, h _ (E.trans e2)⟩)
  refine ifB_intro (fun _ => hal (ext_refl w)) fun h100 => ifB_intro (fun _ => hal (ext_refl w)) fun h200 => ?_
  have h100 : n ≤ 150 := by have := of_decide_eq_false h100; omega
  have h200 : n' ≤ 300 := by have := of_decide_eq_false h200; omega
  refine ⟨by decide, ?_⟩
  obtain ⟨o', ho', hisO⟩ := ord_of ho.1
  rw [ho']
  have hp2 : may 2 = true := by decide
  refine do_call Try.call23 (c_r5sort hl hn (by omega) hI fun p1 n1 c1 w1 h1 e1 => retS_ret ⟨_, _, _, _, rfl, ?_⟩)
  rw [hisO, hp2] at h1 ⊢
  simp only [Bool.and_self, cond_true] at h1 ⊢
  refine ifB_f rfl ?_
  obtain ⟨hm, hIr, hlen⟩ := sortL_may (o := o') (p := 2) hisO hp2 hI
  obtain ⟨r, hr⟩ : ∃ r, r = sortL o' 2 l := ⟨_, rfl⟩
  rw [← hr] at h1 hm hIr hlen
  have hn1 := ownP_len h1
  have hn1' : n1 ≤ 150 := by omega
  have hm63 : n1 ≤ 4611686018427387903 := by omega
  refine do_call Try.call24 (c_shape n1 r picks (Nat.le_refl _) (ownP_cs h1) hn1 (row_cap h1) (hp.ext e1) hn' hnc' hpI (by omega) (by omega) fun t p2 n2 c2 w2 hwf hpairs h2 e2 => retS_ret ⟨_, _, _, rfl, ?_⟩)
  have ht2 : t.size = n1 := by rw [← BT.tr_size, ← Tr.pairs_length, hpairs]; exact hn1
  have hn2 : t.size = n2 := ownB_len h2
  refine do_call Try.call15 (c_make t (ownB_cs h2) (ownB_len h2) (row_cap h2) hwf (by omega) fun pt w3 e3 hT => retS_ret ⟨_, rfl, ?_⟩)
  have E3 := (e1.trans e2).trans e3
  have hA : AllK t.tr := fun x hx => by rw [hpairs] at hx; exact (hIr x hx).1
  have hc3 := (ownP_cs h1).ext (e2.trans e3)
  have hb3 := (ownB_cs h2).ext e3
  have hmt : mayR o' t.tr.pairs = true := by rw [hpairs]; exact hm
  have hg := find_get hk hmt hA
  have hf := find_floor hk hmt hA (by rw [hpairs]; exact hIr)
  have hcc := find_ceil hk hmt hA
  rw [hpairs] at hg hf hcc
  have hnn : t.tr.nn = decide (((n1 : Nat) : Int) > 0) := by
    rw [Tr.nn_size, ← Tr.pairs_length, hpairs, hn1]; exact decide_eq_decide.2 (by omega)
  refine do_call Try.call27 (c_fget hT hk hA fun w4 e4 => retS_ret ⟨_, _, rfl, ?_⟩)
  refine do_call Try.call28 (c_rowget (hc3.ext e4) hn1 hm63 hIr hk fun w5 e5 => retS_ret ⟨_, _, rfl, ?_⟩)
  have E5 := e4.trans e5
  refine do_call Try.call29 (c_ffloor (hT.ext E5) hk hA fun w6 e6 => retS_ret ⟨_, _, _, rfl, ⟨?_⟩⟩)
  refine do_st2 (blk_alloc w6 _ _) fun w7 h7 g7 => ?_
  have e7 : Ext w5 w7 := e6.trans ((ext_alloc w6 _).st g7 (Nat.le_refl _))
  have E7 := E5.trans e7
  refine do_call Try.call30 (c_rowfloor (hc3.ext E7) hn1 hm63 hIr hk fun w8 e8 => retS_ret ⟨_, _, _, rfl, ⟨?_⟩⟩)
  refine do_st2 (blk_alloc w8 _ _) fun w9 h9 g9 => ?_
  have e9 : Ext w7 w9 := e8.trans ((ext_alloc w8 _).st g9 (Nat.le_refl _))
  have E9 := E7.trans e9
  refine do_call Try.call31 (c_fceil (hT.ext E9) hk hA fun w10 e10 => retS_ret ⟨_, _, _, rfl, ⟨?_⟩⟩)
  refine do_st2 (blk_alloc w10 _ _) fun w11 h11 g11 => ?_
  have e11 : Ext w9 w11 := e10.trans ((ext_alloc w10 _).st g11 (Nat.le_refl _))
  have E11 := E9.trans e11
  refine do_call Try.call32 (c_rowceil (hc3.ext E11) hn1 hm63 hIr hk fun w12 e12 => retS_ret ⟨_, _, _, rfl, ⟨?_⟩⟩)
  refine do_st2 (blk_alloc w12 _ _) fun w13 h13 g13 => ?_
  have e13 : Ext w11 w13 := e12.trans ((ext_alloc w12 _).st g13 (Nat.le_refl _))
  have E13 := E11.trans e13
  refine do_call Try.call33 (c_fmin (hT.ext E13) fun w14 e14 => retS_ret ⟨_, _, _, rfl, ⟨?_⟩⟩)
  refine do_st2 (blk_alloc w14 _ _) fun w15 h15 g15 => ?_
  have e15 : Ext w13 w15 := e14.trans ((ext_alloc w14 _).st g15 (Nat.le_refl _))
  have E15 := E13.trans e15
  refine do_call Try.call34 (c_fmax (hT.ext E15) fun w16 e16 => retS_ret ⟨_, _, _, rfl, ⟨?_⟩⟩)
  refine do_st2 (blk_alloc w16 _ _) fun w17 h17 g17 => ?_
  have e17 : Ext w15 w17 := e16.trans ((ext_alloc w16 _).st g17 (Nat.le_refl _))
  have E17 := E15.trans e17
  have hno : ∀ (z : Int), (z != z) = false := fun z => by simp
  have hbo : ∀ (z : Bool), (!(z == z)) = false := fun z => by simp
  have hpo : ∀ (y z : Int), (!((y == y) && ((z == z) && true))) = false := fun y z => by simp
  have h7' := h7.ext (((e9.trans e11).trans (e13.trans e15)).trans e17)
  have h9' := h9.ext ((e11.trans (e13.trans e15)).trans e17)
  have h11' := h11.ext ((e13.trans e15).trans e17)
  have h13' := h13.ext (e15.trans e17)
  have h15' := h15.ext e17
  have hf1 := congrArg Prod.fst hf.1
  have hf2 := congrArg Prod.snd hf.1
  have hc1 := congrArg Prod.fst hcc.1
  have hc2 := congrArg Prod.snd hcc.1
  simp only at hf1 hf2 hc1 hc2
  rw [hf1, hf2] at h7'
  rw [hc1, hc2] at h11'
  rw [hg.1, hg.2, hf.2, hcc.2, hnn]
  refine ifB_f (hno _) (ifB_f (hbo _) ?_)
  refine ⟨_, h7'.cell (i := 0) (add_blk _ _) rfl, _, h7'.cell (i := 1) (add_blk _ _) rfl, _, h9'.cell (i := 0) (add_blk _ _) rfl, _, h9'.cell (i := 1) (add_blk _ _) rfl, ifB_f (hpo _ _) (ifB_f (hbo _) ?_)⟩
  refine ⟨_, h11'.cell (i := 0) (add_blk _ _) rfl, _, h11'.cell (i := 1) (add_blk _ _) rfl, _, h13'.cell (i := 0) (add_blk _ _) rfl, _, h13'.cell (i := 1) (add_blk _ _) rfl, ifB_f (hpo _ _) (ifB_f (hbo _) (ifB_f (hbo _) (ifB_f (hbo _) ?_)))⟩
  -- the way
  have hway : ∀ {w' : World}, Ext w17 w' → doCall Try.prog (.func (.func 35) #[] #[]) #[.int .u8 o', .pointer pt, .int .i64 key] w' (retS (fun v99 w100 => ∃ (xp96 : Option Addr), ∃ (xn97 : Nat), ∃ (xc98 : Nat), v99 = (.slice xp96 xn97 xc98 : Value) ∧ (
      doCall Try.prog (.func (.func 36) #[] #[]) #[.slice p2 n2 c2] w100 (retS (fun v105 w106 => ∃ (x104 : Int), v105 = (.int .i64 x104 : Value) ∧ (
      ifB (decide ((((xn97 : Nat) : Int) : Int) ≤ x104)) (ifB (decide ((((xn97 : Nat) : Int) : Int) > 0)) (
      doIx xp96 xn97 1 (IntKind.wrap .i64 (((xn97 : Nat) : Int) - 1)) (fun a107 => ∃ (x108 : Int), World.cell? w106 a107 = some (.int .i64 x108) ∧ (
      ifB (hasR o' r key == ((x108 : Int) == key)) (doCall Try.prog (.func (.func 26) #[] #[]) #[] w106 (retS (fun v110 w111 => ∃ (x109 : Bool), v110 = (.bool x109 : Value) ∧ (R (.returned (.bool x109)) w111)) (fun ch w => Kfn R ch [] w))) (
      R (.returned (.bool false)) w106)))) (
      ifB (hasR o' r key == false) (doCall Try.prog (.func (.func 26) #[] #[]) #[] w106 (retS (fun v113 w114 => ∃ (x112 : Bool), v113 = (.bool x112 : Value) ∧ (R (.returned (.bool x112)) w114)) (fun ch w => Kfn R ch [] w))) (
      R (.returned (.bool false)) w106))) (
      R (.returned (.bool false)) w106))) (fun ch w => Kfn R ch [] w)))) (fun ch w => Kfn R ch [] w)) := by
    intro w' e'
    have E' := E17.trans e'
    refine do_call Try.call35 (c_fpath (hT.ext E') hk hA (by rw [BT.tr_size]; omega) fun p18 n18 c18 w18 hp18 e18 => retS_ret ⟨_, _, _, rfl, ?_⟩)
    refine do_call Try.call36 (c_height t ((hb3.ext E').ext e18) hn2 (row_cap h2) hwf (by omega) fun w19 e19 => retS_ret ⟨_, rfl, ?_⟩)
    have hpe : pathR o' t.tr key = pathN o' key t.tr := by unfold pathR; rw [hisO]; rfl
    rw [hpe] at hp18
    have hpn := row_len hp18
    have hph := path_height o' key t
    have hhs := BT.height_le t
    have hE := E3.trans (E'.trans (e18.trans e19))
    have hhas : hasN o' key t.tr = hasR o' r key := by rw [← hpairs]; exact (rank_eq hk hmt hA).2
    refine ifB_t (decide_eq_true (by omega)) ?_
    refine ifB_intro (fun hgt => ?_) fun hgt => ?_
    · have hgt : 0 < n18 := by have := of_decide_eq_true hgt; omega
      have hnn' : t.tr.nn = true := by
        cases hx : t.tr with
        | nil => rw [hx] at hpn; simp [pathN] at hpn; omega
        | node l k v g r => rfl
      have hl := path_last hisO hk hA hnn'
      have e : IntKind.wrap .i64 ((n18 : Int) - 1) = ((n18 - 1 : Nat) : Int) := by rw [wrap_of (by omega) (by omega)]; omega
      rw [e]
      refine ix_int ((Cs.of_row hp18).ext e19) hpn (by omega) (by omega) fun a ha hcell => ⟨_, hcell, ?_⟩
      rw [Int.toNat_natCast, List.getD_eq_getElem?_getD, List.getElem?_eq_getElem (by omega), Option.getD_some]
      rw [hhas, List.getLast?_eq_getElem?, hpn, List.getElem?_eq_getElem (by omega)] at hl
      refine ifB_t ?_ (hal hE)
      rw [beq_iff_eq, Bool.eq_iff_iff, ← hl]
      simp
    · have h0 : n18 = 0 := by have := of_decide_eq_false hgt; omega
      refine ifB_t ?_ (hal hE)
      rw [← hhas]
      cases hx : t.tr with
      | nil => rfl
      | node l k v g r => rw [hx, h0] at hpn; simp [pathN] at hpn
  refine ⟨⟨fun w' => Ext w17 w', ext_drew _, ?_⟩⟩
  refine ifB_intro (fun hgt => ?_) fun _ => hway (ext_drew _)
  have hgt : 0 < n1 := by have := of_decide_eq_true hgt; omega
  refine ⟨_, fun w' e => (h15'.ext e).cell (i := 0) (add_blk _ _) rfl, _, fun w' e => (h15'.ext e).cell (i := 1) (add_blk _ _) rfl, ?_⟩
  refine ix_prC (fun w' e => (hc3.ext E17).ext e) (ext_refl _) hn1 (k := 0) rfl hgt fun a r1 r2 => ⟨_, r1, _, r2, ifB_f ?_ ?_⟩
  · rw [hpairs, List.head?_eq_getElem?, List.getElem?_eq_getElem (by omega)]
    exact hpo _ _
  refine ⟨_, fun w' e => (h17.ext e).cell (i := 0) (add_blk _ _) rfl, _, fun w' e => (h17.ext e).cell (i := 1) (add_blk _ _) rfl, ?_⟩
  have e : IntKind.wrap .i64 ((n1 : Int) - 1) = ((n1 - 1 : Nat) : Int) := by rw [wrap_of (by omega) (by omega)]; omega
  refine ix_prC (fun w' e => (hc3.ext E17).ext e) (ext_refl _) hn1 (k := n1 - 1) e (by omega) fun a r1 r2 => ⟨_, r1, _, r2, ifB_f ?_ (hway (ext_drew _))⟩
  rw [hpairs, List.getLast?_eq_getElem?, List.getElem?_eq_getElem (show r.length - 1 < r.length by omega)]
  simp only [hn1]
  exact hpo _ _
end Go.Proofs.Ytinkkhcffoikmaa
