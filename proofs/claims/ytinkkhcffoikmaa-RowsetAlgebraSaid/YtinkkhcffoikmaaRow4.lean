/-
  What the document's answers of layer 4 (joineryref04) do.
-/
import Derived.Test.YtinkkhcffoikmaaRow3
namespace Go.Proofs.Ytinkkhcffoikmaa
open Go Go.Sh Go.RowKit

theorem cmpI_self (o a : Int) : cmpI o a a = 0 := by unfold cmpI; split <;> simp
theorem cmpI_neg {o a b : Int} (h : cmpI o a b < 0) : 0 < cmpI o b a := by
  unfold cmpI at *
  split at h
  · rename_i ho
    rw [if_pos ho]
    split at h
    · rw [if_neg (by omega), if_pos (by omega)]; omega
    · split at h <;> omega
  · omega
theorem cmpI_pos {o a b : Int} (h : 0 < cmpI o a b) : cmpI o b a < 0 := by
  unfold cmpI at *
  split at h
  · rename_i ho
    rw [if_pos ho]
    split at h
    · omega
    · split at h
      · rw [if_pos (by omega)]; omega
      · omega
  · omega
theorem cmpI_eq {o a b : Int} (ho : isO o = true) (ha : In a) (hb : In b) (h : cmpI o a b = 0) : a = b := by
  have ho' : 1 ≤ o ∧ o ≤ 7 := by simpa [isO] using ho
  unfold cmpI at h
  rw [if_pos ho'] at h
  split at h
  · omega
  · split at h
    · omega
    · exact codeI_inj (o := o) ha hb (by omega)
theorem mayR_o {o : Int} {l : List Pr} (h : mayR o l = true) : isO o = true := by simp [mayR] at h; exact h.1
/-- a key that stands in the row stands at its place -/
theorem idx_of_mem {o : Int} {l : List Pr} (hc : chain o l = true) {i : Nat} (hi : i < l.length) : idxR o l l[i].1 = i :=
  idxR_eq (by omega) (fun j hj hji => chain_lt hc hji hi) fun _ => by rw [cmpI_self]; omega
theorem hasR_iff {o : Int} {l : List Pr} {key : Int} (hm : mayR o l = true) : hasR o l key = true ↔ ∃ i, ∃ h : i < l.length, l[i].1 = key := by
  constructor
  · intro h; exact ⟨_, hasR_lt h, hasR_key h⟩
  · rintro ⟨i, hi, rfl⟩
    have := idx_of_mem (mayR_chain hm) hi
    unfold hasR
    rw [hm, this, List.getElem?_eq_getElem hi]
    simp
set_option maxRecDepth 20000 in
theorem c_r4may {o : Int} {l : List Pr} {q : Option Addr} {n c : Nat} {w : World} {R : Ending → World → Prop} (hl : Cs w q (prs l)) (hn : l.length = n) (hm : n ≤ 1000000000000) (hI : InP l)
    (h : ∀ w', Ext w w' → R (.returned (.bool (mayR o l))) w') : Calls Try.prog 49 #[.int .u8 o, .slice q n c] w R := by
  refine sh49_ok _ _ _ _ ?_
  unfold sh49
  refine ⟨fun vs w' => ∃ k : Nat, vs = [.int .i64 (k + 1 : Nat)] ∧ (k = 0 ∨ k < n) ∧ Ext w w' ∧ chain o (l.take (k + 1)) = true, fun vs _ => n + 1 - (intOf (vs.getD 0 undef)).toNat,
    ⟨0, rfl, .inl rfl, ext_refl w, ?_⟩, ?_⟩
  · cases l <;> rfl
  rintro i _ w1 ⟨k, hv, hk, E, hc⟩
  simp only [List.cons.injEq, Value.int.injEq, true_and, and_true] at hv
  subst hv
  refine ifB_intro (fun hlt => ?_) fun hge => ?_
  · have hlt : k + 1 < n := by have := of_decide_eq_true hlt; omega
    have e : IntKind.wrap .i64 (((k + 1 : Nat) : Int) - 1) = (k : Int) := by rw [wrap_of (by omega) (by omega)]; omega
    refine ⟨⟨fun w' => Ext w1 w', ext_drew _, ?_⟩⟩
    refine ix_prC (fun w' e => (hl.ext E).ext e) (ext_refl _) hn e (by omega) fun a r1 _ => ⟨_, r1, ?_⟩
    refine ix_prC (fun w' e => (hl.ext E).ext e) (ext_refl _) hn rfl hlt fun a' r2 _ => ⟨_, r2, ?_⟩
    refine do_call Try.call96 (c_rless (hI _ (List.getElem_mem _)).1 (hI _ (List.getElem_mem _)).1 (retS_ret ⟨_, rfl, ?_⟩))
    refine ifB_intro (fun h1 => ?_) fun h1 => ?_
    · have h1 : ¬ cmpI o l[k].1 l[k + 1].1 < 0 := by simpa using h1
      have hf : chain o l = false := by
        cases hch : chain o l
        · rfl
        · exact absurd (chain_get hch k (by omega)) h1
      have hr := h w1.drew E.drew
      simp only [mayR, hf, Bool.and_false] at hr
      exact hr
    · have h1 : cmpI o l[k].1 l[k + 1].1 < 0 := by simpa using h1
      refine ⟨⟨k + 1, ?_, by omega, E.drew, chain_of fun j hj => ?_⟩, ?_⟩
      · rw [wrap_succ hlt (by omega)]
      · simp only [List.length_take] at hj
        simp only [List.getElem_take]
        by_cases hjk : j = k
        · subst hjk; exact h1
        · have := chain_get hc j (by simp only [List.length_take]; omega)
          simpa only [List.getElem_take] using this
      · rw [wrap_succ hlt (by omega)]; simp [intOf]; omega
  · have hge : n ≤ k + 1 := by have := of_decide_eq_false hge; omega
    rw [List.take_of_length_le (by omega)] at hc
    refine do_call Try.call75 (c_ris (retS_ret ⟨_, rfl, ?_⟩))
    have hr := h w1 E
    simp only [mayR, hc, Bool.and_true] at hr
    exact hr
set_option maxRecDepth 20000 in
theorem c_r4find {o key : Int} {l : List Pr} {q : Option Addr} {n c : Nat} {w : World} {R : Ending → World → Prop} (hl : Cs w q (prs l)) (hn : l.length = n) (hm : n ≤ 1000000000000) (hI : InP l) (hk : In key)
    (h : ∀ w', Ext w w' → R (.returned (.tuple #[.int .i64 (posR o l key : Nat), .bool (hasR o l key)])) w') : Calls Try.prog 43 #[.int .u8 o, .slice q n c, .int .i64 key] w R := by
  refine sh43_ok _ _ _ _ _ ?_
  unfold sh43
  refine do_call Try.call49 (c_r4may hl hn hm hI fun w1 e1 => retS_ret ⟨_, rfl, ?_⟩)
  cases hmay : mayR o l
  · refine ifB_t rfl ?_
    have hr := h w1 e1
    simp only [posR, hasR, hmay, cond_false, Bool.false_and] at hr
    exact hr
  refine ifB_f rfl ?_
  have hp : posR o l key = idxR o l key := by unfold posR; rw [hmay]; rfl
  refine ⟨fun vs w' => ∃ k : Nat, vs = [.int .i64 k] ∧ k ≤ n ∧ Ext w w' ∧ ∀ i (h : i < l.length), i < k → cmpI o l[i].1 key < 0, fun vs _ => n - (intOf (vs.getD 0 undef)).toNat, ⟨0, rfl, by omega, e1, fun i _ hi => by omega⟩, ?_⟩
  rintro i _ w2 ⟨k, hv, hkn, E, hlo⟩
  simp only [List.cons.injEq, Value.int.injEq, true_and, and_true] at hv
  subst hv
  refine ifB_intro (fun hlt => ?_) fun hge => ?_
  · have hlt : k < n := by have := of_decide_eq_true hlt; omega
    refine ix_pr (hl.ext E) hn rfl hlt fun a r1 _ _ => ⟨_, r1, ?_⟩
    refine do_call Try.call96 (c_rless (hI _ (List.getElem_mem _)).1 hk (retS_ret ⟨_, rfl, ?_⟩))
    refine ifB_intro (fun h1 => ?_) fun h1 => ?_
    · have h1 : 0 ≤ cmpI o l[k].1 key := by have : ¬ cmpI o l[k].1 key < 0 := by simpa using h1
                                            omega
      have hi : idxR o l key = k := idxR_eq (by omega) hlo fun _ => h1
      refine ⟨⟨fun w' => Ext w2 w', ext_drew _, ?_⟩⟩
      refine ix_prC (fun w' e => (hl.ext E).ext e) (ext_refl _) hn rfl hlt fun a r2 _ => ⟨_, r2, ?_⟩
      have hr := h w2.drew E.drew
      simp only [hp, hasR, hmay, Bool.true_and, hi] at hr
      rw [List.getElem?_eq_getElem (by omega)] at hr
      exact hr
    · have h1 : cmpI o l[k].1 key < 0 := by simpa using h1
      refine ⟨⟨k + 1, ?_, by omega, E, fun i hi hik => ?_⟩, ?_⟩
      · rw [wrap_succ hlt (by omega)]
      · by_cases hik' : i = k
        · subst hik'; exact h1
        · exact hlo i hi (by omega)
      · rw [wrap_succ hlt (by omega)]; simp [intOf]; omega
  · have hge : k = n := by have := of_decide_eq_false hge; omega
    subst hge
    have hi : idxR o l key = k := idxR_eq (by omega) hlo fun hlt => by omega
    have hr := h w2 E
    simp only [hp, hasR, hmay, Bool.true_and, hi] at hr
    rw [List.getElem?_eq_none (by omega)] at hr
    exact hr
theorem c_r4get {o key : Int} {l : List Pr} {q : Option Addr} {n c : Nat} {w : World} {R : Ending → World → Prop} (hl : Cs w q (prs l)) (hn : l.length = n) (hm : n ≤ 1000000000000) (hI : InP l) (hk : In key)
    (h : ∀ w', Ext w w' → R (.returned (.tuple #[.int .i64 (getR o l key), .bool (hasR o l key)])) w') : Calls Try.prog 44 #[.int .u8 o, .slice q n c, .int .i64 key] w R := by
  refine sh44_ok _ _ _ _ _ ?_
  unfold sh44
  refine do_call Try.call43 (c_r4find hl hn hm hI hk fun w1 e1 => retS_ret ⟨_, _, rfl, ?_⟩)
  have hr := h w1 e1
  unfold getR at hr
  cases hm : hasR o l key
  · refine ifB_t rfl ?_
    rw [hm] at hr
    exact hr
  · refine ifB_f rfl ?_
    have hlt := hasR_lt hm
    rw [hm, getD_of hlt] at hr
    exact ix_pr (hl.ext e1) hn rfl (by omega) fun a _ r2 _ => ⟨_, r2, hr⟩
theorem c_r4ceil {o key : Int} {l : List Pr} {q : Option Addr} {n c : Nat} {w : World} {R : Ending → World → Prop} (hl : Cs w q (prs l)) (hn : l.length = n) (hm : n ≤ 1000000000000) (hI : InP l) (hk : In key)
    (h : ∀ w', Ext w w' → R (.returned (.tuple #[agP (ceilR o l key), .bool (isCeilR o l key)])) w') : Calls Try.prog 48 #[.int .u8 o, .slice q n c, .int .i64 key] w R := by
  refine sh48_ok _ _ _ _ _ ?_
  unfold sh48
  refine ⟨?_⟩
  have e0 := ext_alloc w (.cells #[.int .i64 0, .int .i64 0] 38)
  have hb := blk_alloc w #[.int .i64 0, .int .i64 0] 38
  generalize hb0 : w.heap.size = b at *
  generalize w.alloc (.cells #[.int .i64 0, .int .i64 0] 38) = w0 at *
  have hno : ∀ {w' : World}, Ext w w' → Blk w' b #[.int .i64 0, .int .i64 0] 38 → isCeilR o l key = false → ceilR o l key = (0, 0) →
      doSt ((blk b).add 0) (.int .i64 0) w' (fun w10 => doSt ((blk b).add 1) (.int .i64 0) w10 (fun w11 => ∃ (x12 : Int), World.cell? w11 ((blk b).add 0) = some (.int .i64 x12) ∧ (
        ∃ (x13 : Int), World.cell? w11 ((blk b).add 1) = some (.int .i64 x13) ∧ (R (.returned (.tuple #[.agg #[.int .i64 x12, .int .i64 x13], .bool false])) w11)))) := by
    intro w' e' hb' hi hc
    refine do_st2 hb' fun w2 h2 g2 => ⟨_, h2.cell (i := 0) rfl rfl, _, h2.cell (i := 1) rfl rfl, ?_⟩
    have hr := h w2 (e'.st g2 (by omega))
    rw [hi, hc] at hr
    exact hr
  refine do_call Try.call43 (c_r4find (hl.ext e0) hn hm hI hk fun w1 e1 => retS_ret ⟨_, _, rfl, ?_⟩)
  have E := e0.trans e1
  have hb := hb.ext e1
  refine do_call Try.call49 (c_r4may (hl.ext E) hn hm hI fun w2 e2 => retS_ret ⟨_, rfl, ?_⟩)
  have E := E.trans e2
  have hb := hb.ext e2
  refine ifB_intro (fun hm => ?_) fun hm => ?_
  · have hm : mayR o l = false := by simpa using hm
    exact hno E hb (by simp [isCeilR, hm]) (by simp [ceilR, hm])
  · have hm : mayR o l = true := by simpa using hm
    refine ifB_intro (fun hp => ?_) fun hp => ?_
    · have hp : ¬ posR o l key < l.length := by have := of_decide_eq_true hp; omega
      refine hno E hb (by simp [isCeilR, hp]) ?_
      unfold ceilR
      simp [hm, List.getElem?_eq_none (show l.length ≤ posR o l key by omega)]
    · have hp : posR o l key < n := by have := of_decide_eq_false hp; omega
      refine ix_pr (hl.ext E) hn rfl (by omega) fun a r1 r2 _ => ⟨_, r1, _, r2, ?_⟩
      refine do_st2 hb fun w2 h2 g2 => ⟨_, h2.cell (i := 0) rfl rfl, _, h2.cell (i := 1) rfl rfl, ?_⟩
      have hr := h w2 (E.st g2 (by omega))
      simp only [ceilR, isCeilR, hm, cond_true, getD_of (show posR o l key < l.length by omega), Bool.true_and, decide_eq_true (show posR o l key < l.length by omega)] at hr
      exact hr
theorem c_r4same {l r : List Pr} {q q' : Option Addr} {n c n' c' : Nat} {w : World} {R : Ending → World → Prop} (hl : Cs w q (prs l)) (hn : l.length = n) (hr : Cs w q' (prs r)) (hn' : r.length = n') (hm : n ≤ 1000000000000)
    (h : ∀ w', Ext w w' → R (.returned (.bool (decide (l = r)))) w') : Calls Try.prog 50 #[.slice q n c, .slice q' n' c'] w R := by
  refine sh50_ok _ _ _ _ _ _ ?_
  unfold sh50
  refine ifB_intro (fun hne => ?_) fun heq => ?_
  · have hne : l ≠ r := fun e => by subst e; simp [← hn, ← hn'] at hne
    have := h w (ext_refl w)
    rw [decide_eq_false hne] at this
    exact this
  have heq : n = n' := by simp at heq; omega
  subst heq
  refine ⟨fun vs w' => ∃ k : Nat, vs = [.int .i64 k] ∧ k ≤ n ∧ Ext w w' ∧ l.take k = r.take k, fun vs _ => n - (intOf (vs.getD 0 undef)).toNat, ⟨0, rfl, by omega, ext_refl w, by simp⟩, ?_⟩
  rintro i _ w2 ⟨k, hv, hkn, E, hlo⟩
  simp only [List.cons.injEq, Value.int.injEq, true_and, and_true] at hv
  subst hv
  refine ifB_intro (fun hlt => ?_) fun hge => ?_
  · have hlt : k < n := by have := of_decide_eq_true hlt; omega
    refine ⟨⟨fun w' => Ext w2 w', ext_drew _, ?_⟩⟩
    refine ix_prC (fun w' e => (hl.ext E).ext e) (ext_refl _) hn rfl hlt fun a r1 r2 => ⟨_, r1, _, r2, ?_⟩
    refine ix_prC (fun w' e => (hr.ext E).ext e) (ext_refl _) hn' rfl hlt fun a r3 r4 => ⟨_, r3, _, r4, ?_⟩
    refine ifB_intro (fun h1 => ?_) fun h1 => ?_
    · have hne : l ≠ r := fun e => by subst e; simp at h1
      have := h w2.drew E.drew
      rw [decide_eq_false hne] at this
      exact this
    · have h1 : l[k] = r[k] := by simp at h1; exact Prod.ext h1.1 h1.2
      refine ⟨⟨k + 1, ?_, by omega, E.drew, ?_⟩, ?_⟩
      · rw [wrap_succ hlt (by omega)]
      · rw [← List.take_append_getElem (by omega), ← List.take_append_getElem (by omega), hlo, h1]
      · rw [wrap_succ hlt (by omega)]; simp [intOf]; omega
  · have hge : k = n := by have := of_decide_eq_false hge; omega
    subst hge
    rw [List.take_of_length_le (by omega), List.take_of_length_le (by omega)] at hlo
    have := h w2 E
    rw [decide_eq_true hlo] at this
    exact this
theorem c_r4sum {l : List Pr} {q : Option Addr} {n c : Nat} {w : World} {R : Ending → World → Prop} (hl : Cs w q (prs l)) (hn : l.length = n) (hm : n ≤ 1000000000000)
    (h : R (.returned (.int .i64 (sumL (l.map (·.2))))) w) : Calls Try.prog 52 #[.slice q n c] w R := by
  refine sh52_ok _ _ _ ?_
  unfold sh52
  refine ⟨fun vs w' => ∃ k : Nat, vs = [.int .i64 (sumL ((l.take k).map (·.2))), .int .i64 k] ∧ k ≤ n ∧ w' = w, fun vs _ => n - (intOf (vs.getD 1 undef)).toNat, ⟨0, rfl, by omega, rfl⟩, ?_⟩
  rintro v i _ w2 ⟨k, hv, hkn, rfl⟩
  simp only [List.cons.injEq, Value.int.injEq, true_and, and_true] at hv
  obtain ⟨rfl, rfl⟩ := hv
  refine ifB_intro (fun hlt => ?_) fun hge => ?_
  · have hlt : k < n := by have := of_decide_eq_true hlt; omega
    refine ix_pr hl hn rfl hlt fun a _ r2 _ => ⟨_, r2, ⟨k + 1, ?_, by omega, rfl⟩, ?_⟩
    · rw [wrap_succ hlt (by omega), show l.take (k + 1) = l.take k ++ [l[k]'(by omega)] from (List.take_append_getElem (by omega)).symm]
      simp only [List.map_append, List.map_cons, List.map_nil, sumL, List.foldl_append, List.foldl_cons, List.foldl_nil]
    · rw [wrap_succ hlt (by omega)]; simp [intOf]; omega
  · have hge : k = n := by have := of_decide_eq_false hge; omega
    subst hge
    rw [List.take_of_length_le (by omega)]
    exact h
/-! ### Put, Drop, Floor -/
theorem key_ne {o : Int} {l : List Pr} (hc : chain o l = true) {i j : Nat} (hi : i < l.length) (hj : j < l.length) (h : l[i].1 = l[j].1) : i = j := by
  rcases Nat.lt_trichotomy i j with h1 | h1 | h1
  · have := chain_lt hc h1 hj; rw [h, cmpI_self] at this; omega
  · exact h1
  · have := chain_lt hc h1 hi; rw [h, cmpI_self] at this; omega
theorem filter_not {l : List Pr} {key : Int} (h : ∀ i (h : i < l.length), l[i].1 ≠ key) : l.filter (fun x => !(x.1 == key)) = l := by
  rw [List.filter_eq_self]
  intro x hx
  obtain ⟨i, hi, rfl⟩ := List.getElem_of_mem hx
  simpa using h i hi
theorem drop_filter {o : Int} {l : List Pr} {key : Int} (hm : mayR o l = true) : dropR o l key = l.filter (fun x => !(x.1 == key)) := by
  unfold dropR
  rw [hm]
  cases hh : hasR o l key
  · refine (filter_not fun i hi e => ?_).symm
    have := (hasR_iff hm).2 ⟨i, hi, e⟩
    rw [hh] at this; cases this
  · have hlt := hasR_lt hh
    have hk := hasR_key hh
    have hc := mayR_chain hm
    obtain ⟨i, hi⟩ : ∃ i, i = posR o l key := ⟨_, rfl⟩
    simp only [← hi] at hlt hk ⊢
    have e : l = l.take i ++ (l[i] :: l.drop (i + 1)) := by rw [← List.drop_eq_getElem_cons hlt, List.take_append_drop]
    have h1 : (l.take i).filter (fun x => !(x.1 == key)) = l.take i := filter_not fun j hj e => by
      simp only [List.length_take] at hj
      simp only [List.getElem_take] at e
      have := key_ne hc (i := j) (j := i) (by omega) hlt (by rw [e, hk])
      omega
    have h2 : (l.drop (i + 1)).filter (fun x => !(x.1 == key)) = l.drop (i + 1) := filter_not fun j hj e => by
      simp only [List.length_drop] at hj
      simp only [List.getElem_drop] at e
      have := key_ne hc (i := i + 1 + j) (j := i) (by omega) hlt (by rw [e, hk])
      omega
    simp only [cond_true]
    conv => rhs; rw [e]
    rw [List.filter_append, List.filter_cons_of_neg (by simp [hk]), h1, h2]
theorem has_any {o : Int} {l : List Pr} {key : Int} (hm : mayR o l = true) : hasR o l key = l.any (fun x => x.1 == key) := by
  rw [Bool.eq_iff_iff, hasR_iff hm, List.any_eq_true]
  constructor
  · rintro ⟨i, hi, e⟩; exact ⟨_, List.getElem_mem hi, by simpa using e⟩
  · rintro ⟨x, hx, e⟩
    obtain ⟨i, hi, rfl⟩ := List.getElem_of_mem hx
    exact ⟨i, hi, by simpa using e⟩
theorem c_r4drop {o key : Int} {l : List Pr} {q : Option Addr} {n c : Nat} {w : World} {R : Ending → World → Prop} (hl : Cs w q (prs l)) (hn : l.length = n) (hm : n ≤ 1000000000000) (hI : InP l)
    (h : ∀ p n' c' w', OwnP w' w.heap.size p n' c' (dropR o l key) → Ext w w' → R (.returned (.tuple #[.slice p n' c', .bool (hasR o l key)])) w') : Calls Try.prog 46 #[.int .u8 o, .slice q n c, .int .i64 key] w R := by
  refine sh46_ok _ _ _ _ _ ?_
  unfold sh46
  refine do_call Try.call49 (c_r4may hl hn hm hI fun w1 e1 => retS_ret ⟨_, rfl, ?_⟩)
  cases hmay : mayR o l
  · refine ifB_t rfl ?_
    have hr := h none 0 0 w1
    simp only [dropR, hasR, hmay, cond_false, Bool.false_and] at hr
    exact hr (ownP_nil _ _) e1
  refine ifB_f rfl ?_
  refine ⟨fun vs w' => ∃ (k n' c' : Nat) (p : Option Addr), vs = [.slice p n' c', .bool ((l.take k).any fun x => x.1 == key), .int .i64 k] ∧ k ≤ n ∧ n' ≤ k ∧ Ext w w' ∧ OwnP w' w.heap.size p n' c' ((l.take k).filter fun x => !(x.1 == key)),
    fun vs _ => n - (intOf (vs.getD 2 undef)).toNat, ⟨0, 0, 0, none, rfl, by omega, by omega, e1, ownP_nil _ _⟩, ?_⟩
  rintro p1 n1 c1 b1 i1 _ w2 ⟨k, n', c', p, hv, hkn, hnk, E, ho⟩
  simp only [List.cons.injEq, Value.slice.injEq, Value.int.injEq, Value.bool.injEq, true_and, and_true] at hv
  obtain ⟨⟨rfl, rfl, rfl⟩, rfl, rfl⟩ := hv
  refine ifB_intro (fun hlt => ?_) fun hge => ?_
  · have hlt : k < n := by have := of_decide_eq_true hlt; omega
    have htk : l.take (k + 1) = l.take k ++ [l[k]'(by omega)] := (List.take_append_getElem (by omega)).symm
    refine ix_pr (hl.ext E) hn rfl hlt fun a r1 _ _ => ⟨_, r1, ?_⟩
    refine ifB_intro (fun h1 => ?_) fun h1 => ?_
    · refine ⟨⟨k + 1, n1, c1, p1, ?_, by omega, by omega, E, ?_⟩, ?_⟩
      · rw [wrap_succ hlt (by omega), htk, List.any_append]; simp only [List.any_cons, h1, Bool.true_or, Bool.or_true]
      · rw [htk, List.filter_append, List.filter_cons_of_neg (by simp [h1]), List.filter_nil, List.append_nil]; exact ho
      · rw [wrap_succ hlt (by omega)]; simp [intOf]; omega
    · refine ix_pr (hl.ext E) hn rfl hlt fun a r1 r2 _ => ⟨_, r1, _, r2, ⟨?_⟩⟩
      have e3 := ext_alloc w2 (.cells #[.int .i64 (l[k]'(by omega)).1, .int .i64 (l[k]'(by omega)).2] 38)
      refine do_app elP (e3.row ho) (m := 1) (cs_alloc w2 _ _) (by simp) (by simp [Value.oneCell']) (by simp only [maxLen]; omega) (by omega) (Nat.le_trans E.size e3.size) fun p' c' w4 h4 g4 => retS_ret ⟨_, _, _, rfl, ?_⟩
      refine ⟨⟨k + 1, n1 + 1, c', p', ?_, by omega, by omega, ext_own (e3.row ho) (E.trans e3) g4 (Nat.le_refl _), ?_⟩, ?_⟩
      · rw [wrap_succ hlt (by omega), htk, List.any_append]; simp only [List.any_cons, List.any_nil, h1, Bool.or_false]
      · rw [htk, List.filter_append, List.filter_cons_of_pos (by simp [h1]), List.filter_nil]
        unfold OwnP
        rw [prs_append]; exact h4
      · rw [wrap_succ hlt (by omega)]; simp [intOf]; omega
  · have hge : k = n := by have := of_decide_eq_false hge; omega
    subst hge
    have hr := h p1 n1 c1 w2
    rw [drop_filter hmay, has_any hmay] at hr
    rw [List.take_of_length_le (by omega)] at ho ⊢
    exact hr ho E
theorem put_eq {o p : Int} {l : List Pr} {x : Pr} (hh : hasR o l x.1 = true) :
    l.set (posR o l x.1) (x.1, comb p (l.getD (posR o l x.1) (0, 0)).2 x.2) = l.take (posR o l x.1) ++ (x.1, comb p (l.getD (posR o l x.1) (0, 0)).2 x.2) :: l.drop (posR o l x.1 + 1) :=
  List.set_eq_take_append_cons_drop.trans (if_pos (hasR_lt hh))
set_option maxRecDepth 20000 in
theorem c_r4put {o p : Int} {l : List Pr} {x : Pr} {q : Option Addr} {n c : Nat} {w : World} {R : Ending → World → Prop} (hl : Cs w q (prs l)) (hn : l.length = n) (hnc : n ≤ c) (hm : n ≤ 1000000000000) (hI : InP l) (hx : In x.1)
    (h : ∀ p' n' c' w', OwnP w' w.heap.size p' n' c' (putR o p l x) → Ext w w' → R (.returned (.tuple #[.slice p' n' c', .int .i64 (putE o p l)])) w') : Calls Try.prog 45 #[.int .u8 o, .int .u8 p, .slice q n c, agP x] w R := by
  refine sh45_ok _ _ _ _ _ _ _ ?_
  unfold sh45
  refine ⟨?_⟩
  have e0 := ext_alloc w (.cells #[.int .i64 x.1, .int .i64 x.2] 38)
  have hb := blk_alloc w #[.int .i64 x.1, .int .i64 x.2] 38
  generalize hb0 : w.heap.size = b at *
  generalize w.alloc (.cells #[.int .i64 x.1, .int .i64 x.2] 38) = w0 at *
  refine do_call Try.call49 (c_r4may (hl.ext e0) hn hm hI fun w1 e1 => retS_ret ⟨_, rfl, ?_⟩)
  have E1 := e0.trans e1
  have hb1 := hb.ext e1
  cases hmay : mayR o l
  · refine ifB_t rfl ?_
    have hr := h none 0 0 w1
    simp only [putR, putE, hmay, cond_false, Bool.false_and] at hr
    exact hr (ownP_nil _ _) E1
  refine ifB_f rfl ?_
  refine do_call Try.call80 (c_rmay (retS_ret ⟨_, rfl, ?_⟩))
  cases hp : may p
  · refine ifB_t rfl ?_
    have hr := h none 0 0 w1
    simp only [putR, putE, hp, cond_false, Bool.and_false] at hr
    exact hr (ownP_nil _ _) E1
  refine ifB_f rfl ?_
  refine ⟨_, hb1.cell (by rw [add_blk]) rfl, ?_⟩
  refine do_call Try.call43 (c_r4find (hl.ext E1) hn hm hI hx fun w2 e2 => retS_ret ⟨_, _, rfl, ?_⟩)
  have E2 := E1.trans e2
  have hb2 := hb1.ext e2
  have hple := posR_le o l x.1
  refine sl_pr (a := 0) (b := posR o l x.1) (hl.ext E2) hn hnc rfl rfl (by omega) (by omega) fun q1 hq1 _ => ?_
  simp only [List.drop_zero, Nat.sub_zero] at hq1 ⊢
  refine do_app elP (ownP_nil w2 w2.heap.size) (m := posR o l x.1) hq1 (by simp; omega) prs_one (by simp only [maxLen]; omega) (by omega) (Nat.le_refl _) fun p3 c3 w3 h3 g3 => retS_ret ⟨_, _, _, rfl, ?_⟩
  simp only [Nat.zero_add, prs_nil, List.nil_append] at h3 ⊢
  have e3 : Ext w2 w3 := (ext_refl w2).grown g3 (by simp [Value.ownBlock])
  have E3 := E2.trans e3
  have hb3 := hb2.ext e3
  have hsz : b < w2.heap.size := hb2.lt
  have hK : ∀ (y : Pr) (i : Nat) (w4 : World), Ext w w4 → Blk w4 b #[.int .i64 y.1, .int .i64 y.2] 38 → OwnP w4 w2.heap.size p3 (posR o l x.1) c3 (l.take (posR o l x.1)) → w2.heap.size ≤ w4.heap.size → i ≤ n →
      putR o p l x = l.take (posR o l x.1) ++ y :: l.drop i → 
      doDr w4 (fun w30 => ∃ (C29 : World → Prop), C29 w30 ∧ (∃ (x31 : Int), (∀ w, C29 w → World.cell? w ((blk b).add 0) = some (.int .i64 x31)) ∧ (∃ (x32 : Int), (∀ w, C29 w → World.cell? w ((blk b).add 1) = some (.int .i64 x32)) ∧ (
        doSl q c 2 (i : Nat) (((n : Nat) : Int)) (fun p33 n34 c35 => doAl (.cells #[.int .i64 x31, .int .i64 x32] 38) w30 (fun b36 w37 =>
        doGo Try.prog (.builtin .append #[33, 33] 33 #[false, false]) #[.slice p3 (posR o l x.1) c3, .slice (some (blk b36)) 1 1] w37 (retS (fun v41 w42 => ∃ (xp38 : Option Addr), ∃ (xn39 : Nat), ∃ (xc40 : Nat), v41 = (.slice xp38 xn39 xc40 : Value) ∧ (C29 w42 ∧ (
        doGo Try.prog (.builtin .append #[33, 33] 33 #[false, false]) #[.slice xp38 xn39 xc40, .slice p33 n34 c35] w42 (retS (fun v46 w47 => ∃ (xp43 : Option Addr), ∃ (xn44 : Nat), ∃ (xc45 : Nat), v46 = (.slice xp43 xn44 xc45 : Value) ∧ (C29 w47 ∧ (
        R (.returned (.tuple #[.slice xp43 xn44 xc45, .int .i64 0])) w47))) (fun ch w => Kfn R ch [] w))))) (fun ch w => Kfn R ch [] w)))))))) := by
    intro y i w4 E4 hb4 ho4 hsz4 hi hput
    refine ⟨⟨fun w' => Ext w w' ∧ Blk w' b #[.int .i64 y.1, .int .i64 y.2] 38, ⟨E4.drew, hb4⟩, _, fun w' e => e.2.cell (by rw [add_blk]) rfl, _, fun w' e => e.2.cell (by rw [add_blk]) rfl, ?_⟩⟩
    refine sl_pr (w := w) (a := i) (b := n) hl hn hnc rfl rfl hi (Nat.le_refl n) fun q5 hq5 _ => ⟨?_⟩
    rw [← hn, List.take_length] at hq5
    have e5 := ext_alloc w4.drew (.cells #[.int .i64 y.1, .int .i64 y.2] 38)
    have ho5 := row_to ho4 ((ext_drew w4).trans e5) (Nat.le_refl _)
    refine do_app elP ho5 (m := 1) (cs_alloc w4.drew _ _) (by simp) (by simp [Value.oneCell']) (by simp only [maxLen]; omega) (by omega) (Nat.le_trans hsz4 e5.size) fun p6 c6 w6 h6 g6 => retS_ret ⟨_, _, _, rfl, ?_⟩
    have e6 : Ext w w6 := ext_own ho5 (E4.drew.trans e5) g6 (by omega)
    have hb6 : Blk w6 b #[.int .i64 y.1, .int .i64 y.2] 38 := Blk.grown (Blk.ext hb4 ((ext_drew w4).trans e5)) g6 (by
      intro hk; have := (World.ownsRow.lt ho5 _ hk.symm).1; omega)
    have h6' : OwnP w6 w2.heap.size p6 (posR o l x.1 + 1) c6 (l.take (posR o l x.1) ++ [y]) := by unfold OwnP; rw [prs_append]; exact h6
    refine ⟨⟨e6, hb6⟩, ?_⟩
    refine do_app elP h6' (m := n - i) (hq5.ext e6) (by simp; omega) prs_one (by simp only [maxLen]; omega) (by omega) (Nat.le_trans hsz4 (Nat.le_trans e5.size g6.size)) fun p7 c7 w7 h7 g7 => retS_ret ⟨_, _, _, rfl, ?_⟩
    have e7 : Ext w w7 := ext_own h6' e6 g7 (by omega)
    have hb7 : Blk w7 b #[.int .i64 y.1, .int .i64 y.2] 38 := Blk.grown hb6 g7 (by
      intro hk; have := (World.ownsRow.lt h6' _ hk.symm).1; omega)
    refine ⟨⟨e7, hb7⟩, ?_⟩
    have hr := h p7 (posR o l x.1 + 1 + (n - i)) c7 w7
    simp only [putE, hp, hmay, cond_true, Bool.and_true] at hr
    refine hr ?_ e7
    rw [hput, show l.take (posR o l x.1) ++ y :: l.drop i = (l.take (posR o l x.1) ++ [y]) ++ l.drop i by simp]
    unfold OwnP
    rw [prs_append]
    exact row_mono h7 (by omega)
  have hp3 : OwnP w3 w2.heap.size p3 (posR o l x.1) c3 (l.take (posR o l x.1)) := h3
  cases hh : hasR o l x.1
  · refine ifB_f rfl ?_
    refine hK x _ w3 E3 hb3 hp3 e3.size (by omega) ?_
    simp only [putR, hp, hmay, hh, cond_false, cond_true, Bool.and_true]
  · refine ifB_t rfl ?_
    have hlt := hasR_lt hh
    refine ⟨⟨fun w' => Ext w3 w', ext_drew _, ?_⟩⟩
    refine ix_prC (fun w' e => (hl.ext E3).ext e) (ext_refl _) hn rfl (by omega) fun a _ r2 => ⟨_, r2, _, fun w' e => (hb3.ext e).cell (i := 1) (by rw [add_blk]) rfl, ?_⟩
    refine do_call Try.call97 (c_rcomb (retS_ret ⟨_, rfl, ?_⟩))
    refine do_st (i := 1) (b := b) (w := w3.drew) hb3 (by rw [add_zero', add_blk]) (by simp) fun w5 hb5 g5 => ?_
    rw [show IntKind.wrap .i64 ((posR o l x.1 : Nat) + 1 : Int) = ((posR o l x.1 + 1 : Nat) : Int) from wrap_succ (n := n) (by omega) (by omega)]
    refine hK (x.1, comb p (l[posR o l x.1]'hlt).2 x.2) _ w5 (E3.drew.st g5 (by omega)) hb5 ?_ (Nat.le_trans e3.size g5.size) (by omega) ?_
    · refine World.ownsRow.kept (World.ownsRow.kept hp3 (grown_drew w3 none) ?_) g5 ?_
      · cases (Value.slice p3 (posR o l x.1) c3).ownBlock <;> simp
      · right
        intro hk; have := (World.ownsRow.lt hp3 _ hk).1; omega
    · simp only [putR, hp, hmay, hh, cond_true, Bool.and_true]
      rw [put_eq hh, getD_of hlt]
/-- what the last pair at or ahead of a key is, of the first k -/
theorem floor_at {o key : Int} {l : List Pr} (hmay : mayR o l = true) (hI : InP l) (hk : In key) {i : Nat} (hi : i < l.length) : (0 ≤ cmpI o key l[i].1) ↔ (i < posR o l key ∨ (hasR o l key = true ∧ i = posR o l key)) := by
  have hc := mayR_chain hmay
  have hp : posR o l key = idxR o l key := by unfold posR; rw [hmay]; rfl
  constructor
  · intro h
    rcases Nat.lt_trichotomy i (posR o l key) with h1 | h1 | h1
    · exact .inl h1
    · right
      refine ⟨?_, h1⟩
      have hge : 0 ≤ cmpI o l[i].1 key := by
        have := idxR_ge (o := o) (l := l) (key := key) (by rw [← hp]; omega)
        simp only [← hp, ← h1] at this; exact this
      have h0 : cmpI o l[i].1 key = 0 := by
        rcases Int.lt_or_le 0 (cmpI o l[i].1 key) with h2 | h2
        · have := cmpI_pos h2; omega
        · omega
      exact (hasR_iff hmay).2 ⟨i, hi, cmpI_eq (mayR_o hmay) (hI _ (List.getElem_mem hi)).1 hk h0⟩
    · exfalso
      have hlt : idxR o l key < l.length := by omega
      have hge := idxR_ge (o := o) (l := l) (key := key) hlt
      have h2 := chain_lt hc (i := idxR o l key) (j := i) (by omega) hi
      have h3 : cmpI o key l[i].1 < 0 := by
        rcases Int.lt_or_le 0 (cmpI o l[idxR o l key].1 key) with h4 | h4
        · exact cmpI_trans (cmpI_pos h4) h2
        · have h0 : cmpI o l[idxR o l key].1 key = 0 := by omega
          rw [← cmpI_eq (mayR_o hmay) (hI _ (List.getElem_mem hlt)).1 hk h0]
          exact h2
      omega
  · rintro (h | ⟨h, rfl⟩)
    · have := (idxR_lt (o := o) (l := l) (key := key) (i := i) (by omega)).2
      have := cmpI_neg this; omega
    · have := hasR_key h
      rw [this, cmpI_self]; omega
def lastF (o : Int) (l : List Pr) (key : Int) (k : Nat) : Bool × Pr := (List.range k).foldl (fun s i => if 0 ≤ cmpI o key (l.getD i (0, 0)).1 then (true, l.getD i (0, 0)) else s) (false, (0, 0))
theorem lastF_succ (o : Int) (l : List Pr) (key : Int) (k : Nat) : lastF o l key (k + 1) = if 0 ≤ cmpI o key (l.getD k (0, 0)).1 then (true, l.getD k (0, 0)) else lastF o l key k := by
  simp [lastF, List.range_succ, List.foldl_append]
theorem lastF_eq {o key : Int} {l : List Pr} (hmay : mayR o l = true) (hI : InP l) (hk : In key) {m : Nat} (hm : m ≤ l.length) (k : Nat) (hkm : k ≤ m) (h1 : ∀ i, i < k → i < posR o l key ∨ (hasR o l key = true ∧ i = posR o l key))
    (h2 : ∀ i, k ≤ i → ¬ (i < posR o l key ∨ (hasR o l key = true ∧ i = posR o l key))) : lastF o l key m = if k = 0 then (false, (0, 0)) else (true, l.getD (k - 1) (0, 0)) := by
  induction m with
  | zero => have : k = 0 := by omega
            subst this; rfl
  | succ m ih =>
    rw [lastF_succ, getD_of (by omega)]
    have hiff := floor_at (i := m) hmay hI hk (by omega)
    by_cases hmk : m + 1 = k
    · subst hmk
      rw [if_pos (hiff.2 (h1 m (by omega))), if_neg (by omega), Nat.add_sub_cancel, getD_of (by omega)]
    · rw [if_neg (fun h => h2 m (by omega) (hiff.1 h)), ih (by omega) (by omega)]
theorem lastF_all {o key : Int} {l : List Pr} (hmay : mayR o l = true) (hI : InP l) (hk : In key) : lastF o l key l.length = (isFloorR o l key, floorR o l key) := by
  have hple := posR_le o l key
  cases hh : hasR o l key
  · rw [lastF_eq hmay hI hk (Nat.le_refl _) (posR o l key) hple (fun i hi => .inl hi) (fun i hi h => by
      rcases h with h | ⟨h, _⟩
      · omega
      · rw [hh] at h; cases h)]
    unfold isFloorR floorR
    rw [hh]
    by_cases h0 : posR o l key = 0
    · simp [h0]
    · simp [h0]; omega
  · have hlt := hasR_lt hh
    rw [lastF_eq hmay hI hk (Nat.le_refl _) (posR o l key + 1) (by omega) (fun i hi => by
      rcases Nat.lt_or_ge i (posR o l key) with h | h
      · exact .inl h
      · exact .inr ⟨hh, by omega⟩) (fun i hi h => by
      rcases h with h | ⟨_, h⟩ <;> omega)]
    unfold isFloorR floorR
    rw [hh]
    simp
set_option maxRecDepth 20000 in
theorem c_r4floor {o key : Int} {l : List Pr} {q : Option Addr} {n c : Nat} {w : World} {R : Ending → World → Prop} (hl : Cs w q (prs l)) (hn : l.length = n) (hm : n ≤ 1000000000000) (hI : InP l) (hk : In key)
    (h : ∀ w', Ext w w' → R (.returned (.tuple #[agP (floorR o l key), .bool (isFloorR o l key)])) w') : Calls Try.prog 47 #[.int .u8 o, .slice q n c, .int .i64 key] w R := by
  refine sh47_ok _ _ _ _ _ ?_
  unfold sh47
  refine ⟨⟨?_⟩⟩
  have e0 := ext_alloc w (.cells #[.int .i64 0, .int .i64 0] 38)
  have hb := blk_alloc w #[.int .i64 0, .int .i64 0] 38
  generalize hb0 : w.heap.size = b at *
  generalize w.alloc (.cells #[.int .i64 0, .int .i64 0] 38) = w0 at *
  have hbx : b < w0.heap.size := hb.lt
  have e1 := e0.trans (ext_alloc w0 (.cells #[.int .i64 0, .int .i64 0] 38))
  have hx := blk_alloc w0 #[.int .i64 0, .int .i64 0] 38
  have hb := hb.ext (ext_alloc w0 (.cells #[.int .i64 0, .int .i64 0] 38))
  generalize hx0 : w0.heap.size = bx at *
  generalize w0.alloc (.cells #[.int .i64 0, .int .i64 0] 38) = w1 at *
  refine do_st2 hx fun w2 hx2 g2 => ?_
  have e2 := e1.st g2 (by omega)
  have hb2 := hb.grown g2 (ne_some (by omega))
  clear e0 e1 hx hb g2
  have hend : ∀ {y : Pr} {is : Bool} {w' : World}, Ext w w' → Blk w' b #[.int .i64 0, .int .i64 0] 38 → Blk w' bx #[.int .i64 y.1, .int .i64 y.2] 38 → is = isFloorR o l key → y = floorR o l key →
      (∃ (x15 : Int), World.cell? w' ((blk bx).add 0) = some (.int .i64 x15) ∧ (∃ (x16 : Int), World.cell? w' ((blk bx).add 1) = some (.int .i64 x16) ∧ (
        doSt ((blk b).add 0) (.int .i64 x15) w' (fun w17 => doSt ((blk b).add 1) (.int .i64 x16) w17 (fun w18 => ∃ (x19 : Int), World.cell? w18 ((blk b).add 0) = some (.int .i64 x19) ∧ (
        ∃ (x20 : Int), World.cell? w18 ((blk b).add 1) = some (.int .i64 x20) ∧ (R (.returned (.tuple #[.agg #[.int .i64 x19, .int .i64 x20], .bool is])) w18))))))) := by
    intro y is w' E hb hx his hy
    refine ⟨_, hx.cell (i := 0) (by rw [add_blk]) rfl, _, hx.cell (i := 1) (by rw [add_blk]) rfl, ?_⟩
    refine do_st2 hb fun w3 h3 g3 => ⟨_, h3.cell (i := 0) (by rw [add_blk]) rfl, _, h3.cell (i := 1) (by rw [add_blk]) rfl, ?_⟩
    subst his hy
    exact h _ (E.st g3 (by omega))
  refine ⟨fun vs w' => ∃ k : Nat, vs = [.bool (lastF o l key k).1, .int .i64 k] ∧ k ≤ n ∧ (k = 0 ∨ mayR o l = true) ∧ Ext w w' ∧ Blk w' b #[.int .i64 0, .int .i64 0] 38 ∧ Blk w' bx #[.int .i64 (lastF o l key k).2.1, .int .i64 (lastF o l key k).2.2] 38,
    fun vs _ => n - (intOf (vs.getD 1 undef)).toNat, ⟨0, rfl, by omega, .inl rfl, e2, hb2, hx2⟩, ?_⟩
  rintro is i _ w3 ⟨k, hv, hkn, hkm, E, hb3, hx3⟩
  simp only [List.cons.injEq, Value.int.injEq, Value.bool.injEq, true_and, and_true] at hv
  obtain ⟨rfl, rfl⟩ := hv
  refine do_call Try.call49 (c_r4may (hl.ext E) hn hm hI fun w4 e4 => retS_ret ⟨_, rfl, ?_⟩)
  have E4 := E.trans e4
  have hb4 := hb3.ext e4
  have hx4 := hx3.ext e4
  cases hmay : mayR o l
  · have hk0 : k = 0 := by rcases hkm with h | h
                           · exact h
                           · rw [hmay] at h; cases h
    subst hk0
    refine ifB_f rfl (hend E4 hb4 hx4 ?_ ?_)
    · simp [lastF, isFloorR, hasR, posR, hmay]
    · simp [lastF, floorR, hasR, posR, hmay]
  refine ifB_t rfl ?_
  refine ifB_intro (fun hlt => ?_) fun hge => ?_
  · have hlt : k < n := by have := of_decide_eq_true hlt; omega
    refine ix_pr (hl.ext E4) hn rfl hlt fun a r1 _ _ => ⟨_, r1, ?_⟩
    refine do_call Try.call96 (c_rless hk (hI _ (List.getElem_mem _)).1 (retS_ret ⟨_, rfl, ?_⟩))
    refine ifB_intro (fun h1 => ?_) fun h1 => ?_
    · have h1 : 0 ≤ cmpI o key l[k].1 := by have : ¬ cmpI o key l[k].1 < 0 := by simpa using h1
                                            omega
      have hs : lastF o l key (k + 1) = (true, l[k]) := by rw [lastF_succ, getD_of (by omega), if_pos h1]
      refine ix_pr (hl.ext E4) hn rfl hlt fun a r1 r2 _ => ⟨_, r1, _, r2, ?_⟩
      refine do_st2 hx4 fun w5 h5 g5 => ⟨⟨k + 1, ?_, by omega, .inr rfl, E4.st g5 (by omega), hb4.grown g5 (ne_some (by omega)), ?_⟩, ?_⟩
      · rw [wrap_succ hlt (by omega), hs]
      · rw [hs]; exact h5
      · rw [wrap_succ hlt (by omega)]; simp [intOf]; omega
    · have h1 : cmpI o key l[k].1 < 0 := by simpa using h1
      have hs : lastF o l key (k + 1) = lastF o l key k := by rw [lastF_succ, getD_of (by omega), if_neg (by omega)]
      refine ⟨⟨k + 1, ?_, by omega, .inr rfl, E4, hb4, ?_⟩, ?_⟩
      · rw [wrap_succ hlt (by omega), hs]
      · rw [hs]; exact hx4
      · rw [wrap_succ hlt (by omega)]; simp [intOf]; omega
  · have hge : k = n := by have := of_decide_eq_false hge; omega
    have hall := lastF_all hmay hI hk
    rw [hn, ← hge] at hall
    exact hend E4 hb4 hx4 (by rw [hall]) (by rw [hall])
end Go.Proofs.Ytinkkhcffoikmaa
