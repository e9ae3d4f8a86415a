/-
  What the functions of row do, part 3: rows of one's own: Clone, Insert, Delete, Put, Drop, Sum.
-/
/-
  What the document's answers of layer 4 (joineryref04) do.
-/
/-
  What the statements of layer 4 come to: RowEnds, RowTells.
-/
/-
  RowKeeps: the plain laws of rows, and the walk.
-/
import Derived.Test.YtbaoihmffobneaaGreatPj

namespace Go.Proofs.YtbaoihmffobneaaGreat
open Go Go.Sh Go.RowKit

/-- a row of pairs of one's own -/
abbrev OwnP (w : World) (base : Nat) (p : Option Addr) (n c : Nat) (l : List Pr) : Prop := w.ownsRow base 76 2 (.slice p n c) n (prs l)
theorem ownP_open {w : World} {base n c : Nat} {p : Option Addr} {l : List Pr} (h : OwnP w base p n c l) : (p = none ∧ n = 0 ∧ c = 0) ∨
    ∃ g cur, p = some ⟨g, 0, none⟩ ∧ base ≤ g ∧ Blk w g (List.toArray cur) 76 ∧ n ≤ c ∧ c ≤ maxLen ∧ cur.length = c * 2 ∧ cur.take (n * 2) = prs l := by
  rcases h.2 with ⟨hv, hn⟩ | ⟨g, cap, cur, hv, hb, hg, h1, h2, h3, h4⟩
  · cases hv; exact .inl ⟨rfl, rfl, rfl⟩
  · cases hv; exact .inr ⟨g, cur.toList, rfl, hb, hg, h1, h2, by simpa using h3, h4⟩
theorem ownP_close {w : World} {base g n c : Nat} {cur : List Value} {l : List Pr} (hb : base ≤ g) (hg : Blk w g cur.toArray 76) (h1 : n ≤ c) (h2 : c ≤ maxLen) (h3 : cur.length = c * 2) (h4 : cur.take (n * 2) = prs l) : OwnP w base (some ⟨g, 0, none⟩) n c l := by
  refine ⟨by rw [← h4]; simp; omega, .inr ⟨g, c, cur.toArray, rfl, hb, hg, h1, h2, by simpa using h3, h4⟩⟩
theorem ownP_len {w : World} {base n c : Nat} {p : Option Addr} {l : List Pr} (h : OwnP w base p n c l) : l.length = n := by have := h.1; simp at this; omega
theorem ownP_cs {w : World} {base n c : Nat} {p : Option Addr} {l : List Pr} (h : OwnP w base p n c l) : Cs w p (prs l) := Cs.of_row h
theorem ownP_nil (w : World) (base : Nat) : OwnP w base none 0 0 [] := World.ownsRow_nil _ _ _ _
theorem cs_prs_nil {w : World} {q : Option Addr} {l : List Pr} (h : Cs w q (prs l)) (hq : q = none) : l = [] := by
  subst hq
  cases l with
  | nil => rfl
  | cons x xs => obtain ⟨a, ha, _⟩ := h 0 (.int .i64 x.1) rfl; cases ha
theorem c_clone {l : List Pr} {q : Option Addr} {n c : Nat} {w : World} {R : Ending → World → Prop} (hl : Cs w q (prs l)) (hn : l.length = n) (hm : n ≤ 1000000000000)
    (h : ∀ p c' w', OwnP w' w.heap.size p n c' l → Ext w w' → R (.returned (.slice p n c')) w') : Calls Tryz.prog 126 #[.slice q n c] w R := by
  refine sh126_ok _ _ _ ?_
  unfold sh126
  cases q with
  | none =>
    have h0 := cs_prs_nil hl rfl
    subst h0
    have hn0 : n = 0 := by simpa using hn.symm
    subst hn0
    exact ifB_t rfl (h _ _ _ (ownP_nil w _) (ext_refl w))
  | some a =>
    refine ifB_f rfl ⟨?_⟩
    have e1 := ext_alloc w (.cells #[] 76)
    have hr := World.ownsRow_lit (base := w.heap.size) (size := 2) (e := 76) w #[] 0 (Nat.le_refl _) (by simp [maxLen]) (by simp)
    refine do_append elP hr (news := prs l) (hl.ext e1) (by simp [hn]) prs_one (by simp only [maxLen]; omega) (by omega) e1.size fun p c' w' h1 h2 => retS_ret ⟨_, _, _, rfl, ?_⟩
    simp only [Nat.zero_add, List.nil_append] at h1 ⊢
    exact h p c' w' h1 (e1.grown h2 (by rintro _ ⟨⟩; exact Nat.le_refl _))
theorem prs_split (l : List Pr) (i : Nat) : prs l = prs (l.take i) ++ prs (l.drop i) := by rw [← prs_append, List.take_append_drop]
theorem drop2 {Q : List Value} (h : 2 ≤ Q.length) : ∃ a b Z, Q = a :: b :: Z := by
  match Q, h with
  | a :: b :: Z, _ => exact ⟨a, b, Z, rfl⟩
def dropR (o : Int) (l : List Pr) (key : Int) : List Pr := cond (mayR o l) (cond (hasR o l key) (l.take (posR o l key) ++ l.drop (posR o l key + 1)) l) []
theorem row_to {w w' : World} {base base' n c : Nat} {p : Option Addr} {l : List Pr} (h : OwnP w base p n c l) (e : Ext w w') (hb : base' ≤ base) : OwnP w' base' p n c l := row_mono (e.row h) hb
theorem ext_own {a w w' : World} {base n c : Nat} {p : Option Addr} {l : List Pr} (h : OwnP w base p n c l) (e : Ext a w) (g : w.grownBy w' (Value.slice p n c).ownBlock) (hb : a.heap.size ≤ base) : Ext a w' :=
  e.grown g fun k hk => Nat.le_trans hb (World.ownsRow.lt h k hk).1
/-- what is put -/
def putR (o p : Int) (l : List Pr) (x : Pr) : List Pr :=
  cond (mayR o l && may p) (cond (hasR o l x.1) (l.set (posR o l x.1) (x.1, comb p (l.getD (posR o l x.1) (0, 0)).2 x.2)) (l.take (posR o l x.1) ++ x :: l.drop (posR o l x.1))) []
def putE (o p : Int) (l : List Pr) : Int := cond (mayR o l && may p) 0 2
theorem prs_set2 {l : List Pr} {k : Nat} (hk : k < l.length) (v : Int) : (prs l).set (k * 2 + 1) (.int .i64 v) = prs (l.set k (l[k].1, v)) := by
  induction l generalizing k with
  | nil => simp at hk
  | cons x xs ih =>
    cases k with
    | zero => rfl
    | succ k =>
      have := ih (k := k) (by simpa using hk)
      rw [show (k + 1) * 2 + 1 = k * 2 + 1 + 1 + 1 by omega]
      simp only [prs_cons, List.set_cons_succ, List.getElem_cons_succ, this]
theorem prs_set1 {l : List Pr} {k : Nat} (hk : k < l.length) (v : Int) : (prs l).set (k * 2) (.int .i64 v) = prs (l.set k (v, l[k].2)) := by
  induction l generalizing k with
  | nil => simp at hk
  | cons x xs ih =>
    cases k with
    | zero => rfl
    | succ k =>
      have := ih (k := k) (by simpa using hk)
      rw [show (k + 1) * 2 = k * 2 + 1 + 1 by omega]
      simp only [prs_cons, List.set_cons_succ, List.getElem_cons_succ, this]
theorem own_st2 {l : List Pr} {p : Option Addr} {n c base k : Nat} {w : World} (ho : OwnP w base p n c l) (hk : k < n) {a : Addr} (ha : ∃ b, p = some b ∧ a = b.add (k * 2)) {v : Int} {K : World → Prop}
    (h : ∀ w', OwnP w' base p n c (l.set k ((l[k]'(by rw [ownP_len ho]; exact hk)).1, v)) → w.grownBy w' (Value.slice p n c).ownBlock → K w') : doSt ((a.add 1).add 0) (.int .i64 v) w K := by
  obtain ⟨b, hb, rfl⟩ := ha
  have hl := ownP_len ho
  rcases ownP_open ho with ⟨hp, hn0, _⟩ | ⟨g, cur, hp, hbg, hg, _, hcm, hcl, hct⟩
  · omega
  subst hp; cases hb
  rw [add_zero', add_add]
  have ea : (⟨g, 0, none⟩ : Addr).add (k * 2 + 1) = ⟨g, k * 2 + 1, none⟩ := add_blk g _
  rw [ea]
  have hs := ho.stored (k * 2 + 1) (.int .i64 v)
  rw [prs_set2 (by omega)] at hs
  exact ⟨⟨_, by rw [ho.cellAt _ (by omega)]; exact List.getElem?_eq_getElem (by simp; omega)⟩, ho.frozenAt _, h _ hs.1 hs.2⟩
end Go.Proofs.YtbaoihmffobneaaGreat

namespace Go.Proofs.YtbaoihmffobneaaGreat
open Go Go.Sh Go.RowKit

theorem cmpI_self (o a : Int) : cmpI o a a = 0 := by unfold cmpI; split <;> simp
theorem cmpI_neg {o a b : Int} (h : cmpI o a b < 0) : 0 < cmpI o b a := by
  unfold cmpI at *
  split at h
  · rename_i ho
    rw [if_pos ho]
    split at h
    · rw [if_neg (by omega), if_pos (by omega)]; omega
    · split at h <;> omega
  · omega
theorem cmpI_pos {o a b : Int} (h : 0 < cmpI o a b) : cmpI o b a < 0 := by
  unfold cmpI at *
  split at h
  · rename_i ho
    rw [if_pos ho]
    split at h
    · omega
    · split at h
      · rw [if_pos (by omega)]; omega
      · omega
  · omega
theorem cmpI_eq {o a b : Int} (ho : isO o = true) (ha : In a) (hb : In b) (h : cmpI o a b = 0) : a = b := by
  have ho' : 1 ≤ o ∧ o ≤ 7 := by simpa [isO] using ho
  unfold cmpI at h
  rw [if_pos ho'] at h
  split at h
  · omega
  · split at h
    · omega
    · exact codeI_inj (o := o) ha hb (by omega)
theorem mayR_o {o : Int} {l : List Pr} (h : mayR o l = true) : isO o = true := by simp [mayR] at h; exact h.1
/-- a key that stands in the row stands at its place -/
theorem idx_of_mem {o : Int} {l : List Pr} (hc : chain o l = true) {i : Nat} (hi : i < l.length) : idxR o l l[i].1 = i :=
  idxR_eq (by omega) (fun j hj hji => chain_lt hc hji hi) fun _ => by rw [cmpI_self]; omega
theorem hasR_iff {o : Int} {l : List Pr} {key : Int} (hm : mayR o l = true) : hasR o l key = true ↔ ∃ i, ∃ h : i < l.length, l[i].1 = key := by
  constructor
  · intro h; exact ⟨_, hasR_lt h, hasR_key h⟩
  · rintro ⟨i, hi, rfl⟩
    have := idx_of_mem (mayR_chain hm) hi
    unfold hasR
    rw [hm, this, List.getElem?_eq_getElem hi]
    simp
set_option maxRecDepth 20000 in
theorem c_r4may {o : Int} {l : List Pr} {q : Option Addr} {n c : Nat} {w : World} {R : Ending → World → Prop} (hl : Cs w q (prs l)) (hn : l.length = n) (hm : n ≤ 1000000000000) (hI : InP l)
    (h : ∀ w', Ext w w' → R (.returned (.bool (mayR o l))) w') : Calls Tryz.prog 53 #[.int .u8 o, .slice q n c] w R := by
  refine sh53_ok _ _ _ _ ?_
  unfold sh53
  refine ⟨fun vs w' => ∃ k : Nat, vs = [.int .i64 (k + 1 : Nat)] ∧ (k = 0 ∨ k < n) ∧ Ext w w' ∧ chain o (l.take (k + 1)) = true, fun vs _ => n + 1 - (intOf (vs.getD 0 undef)).toNat,
    ⟨0, rfl, .inl rfl, ext_refl w, ?_⟩, ?_⟩
  · cases l <;> rfl
  rintro i _ w1 ⟨k, hv, hk, E, hc⟩
  simp only [List.cons.injEq, Value.int.injEq, true_and, and_true] at hv
  subst hv
  refine ifB_intro (fun hlt => ?_) fun hge => ?_
  · have hlt : k + 1 < n := by have := of_decide_eq_true hlt; omega
    have e : IntKind.wrap .i64 (((k + 1 : Nat) : Int) - 1) = (k : Int) := by rw [wrap_of (by omega) (by omega)]; omega
    refine ⟨⟨fun w' => Ext w1 w', ext_drew _, ?_⟩⟩
    refine ix_prC (fun w' e => (hl.ext E).ext e) (ext_refl _) hn e (by omega) fun a r1 _ => ⟨_, r1, ?_⟩
    refine ix_prC (fun w' e => (hl.ext E).ext e) (ext_refl _) hn rfl hlt fun a' r2 _ => ⟨_, r2, ?_⟩
    refine do_call Tryz.call95 (c_rless (hI _ (List.getElem_mem _)).1 (hI _ (List.getElem_mem _)).1 (retS_ret ⟨_, rfl, ?_⟩))
    refine ifB_intro (fun h1 => ?_) fun h1 => ?_
    · have h1 : ¬ cmpI o l[k].1 l[k + 1].1 < 0 := by simpa using h1
      have hf : chain o l = false := by
        cases hch : chain o l
        · rfl
        · exact absurd (chain_get hch k (by omega)) h1
      have hr := h w1.drew E.drew
      simp only [mayR, hf, Bool.and_false] at hr
      exact hr
    · have h1 : cmpI o l[k].1 l[k + 1].1 < 0 := by simpa using h1
      refine ⟨⟨k + 1, ?_, by omega, E.drew, chain_of fun j hj => ?_⟩, ?_⟩
      · rw [wrap_succ hlt (by omega)]
      · simp only [List.length_take] at hj
        simp only [List.getElem_take]
        by_cases hjk : j = k
        · subst hjk; exact h1
        · have := chain_get hc j (by simp only [List.length_take]; omega)
          simpa only [List.getElem_take] using this
      · rw [wrap_succ hlt (by omega)]; simp [intOf]; omega
  · have hge : n ≤ k + 1 := by have := of_decide_eq_false hge; omega
    rw [List.take_of_length_le (by omega)] at hc
    refine do_call Tryz.call42 (c_ris (retS_ret ⟨_, rfl, ?_⟩))
    have hr := h w1 E
    simp only [mayR, hc, Bool.and_true] at hr
    exact hr
set_option maxRecDepth 20000 in
theorem c_r4find {o key : Int} {l : List Pr} {q : Option Addr} {n c : Nat} {w : World} {R : Ending → World → Prop} (hl : Cs w q (prs l)) (hn : l.length = n) (hm : n ≤ 1000000000000) (hI : InP l) (hk : In key)
    (h : ∀ w', Ext w w' → R (.returned (.tuple #[.int .i64 (posR o l key : Nat), .bool (hasR o l key)])) w') : Calls Tryz.prog 176 #[.int .u8 o, .slice q n c, .int .i64 key] w R := by
  refine sh176_ok _ _ _ _ _ ?_
  unfold sh176
  refine do_call Tryz.call53 (c_r4may hl hn hm hI fun w1 e1 => retS_ret ⟨_, rfl, ?_⟩)
  cases hmay : mayR o l
  · refine ifB_t rfl ?_
    have hr := h w1 e1
    simp only [posR, hasR, hmay, cond_false, Bool.false_and] at hr
    exact hr
  refine ifB_f rfl ?_
  have hp : posR o l key = idxR o l key := by unfold posR; rw [hmay]; rfl
  refine ⟨fun vs w' => ∃ k : Nat, vs = [.int .i64 k] ∧ k ≤ n ∧ Ext w w' ∧ ∀ i (h : i < l.length), i < k → cmpI o l[i].1 key < 0, fun vs _ => n - (intOf (vs.getD 0 undef)).toNat, ⟨0, rfl, by omega, e1, fun i _ hi => by omega⟩, ?_⟩
  rintro i _ w2 ⟨k, hv, hkn, E, hlo⟩
  simp only [List.cons.injEq, Value.int.injEq, true_and, and_true] at hv
  subst hv
  refine ifB_intro (fun hlt => ?_) fun hge => ?_
  · have hlt : k < n := by have := of_decide_eq_true hlt; omega
    refine ix_pr (hl.ext E) hn rfl hlt fun a r1 _ _ => ⟨_, r1, ?_⟩
    refine do_call Tryz.call95 (c_rless (hI _ (List.getElem_mem _)).1 hk (retS_ret ⟨_, rfl, ?_⟩))
    refine ifB_intro (fun h1 => ?_) fun h1 => ?_
    · have h1 : 0 ≤ cmpI o l[k].1 key := by have : ¬ cmpI o l[k].1 key < 0 := by simpa using h1
                                            omega
      have hi : idxR o l key = k := idxR_eq (by omega) hlo fun _ => h1
      refine ⟨⟨fun w' => Ext w2 w', ext_drew _, ?_⟩⟩
      refine ix_prC (fun w' e => (hl.ext E).ext e) (ext_refl _) hn rfl hlt fun a r2 _ => ⟨_, r2, ?_⟩
      have hr := h w2.drew E.drew
      simp only [hp, hasR, hmay, Bool.true_and, hi] at hr
      rw [List.getElem?_eq_getElem (by omega)] at hr
      exact hr
    · have h1 : cmpI o l[k].1 key < 0 := by simpa using h1
      refine ⟨⟨k + 1, ?_, by omega, E, fun i hi hik => ?_⟩, ?_⟩
      · rw [wrap_succ hlt (by omega)]
      · by_cases hik' : i = k
        · subst hik'; exact h1
        · exact hlo i hi (by omega)
      · rw [wrap_succ hlt (by omega)]; simp [intOf]; omega
  · have hge : k = n := by have := of_decide_eq_false hge; omega
    subst hge
    have hi : idxR o l key = k := idxR_eq (by omega) hlo fun hlt => by omega
    have hr := h w2 E
    simp only [hp, hasR, hmay, Bool.true_and, hi] at hr
    rw [List.getElem?_eq_none (by omega)] at hr
    exact hr
/-! ### Put, Drop, Floor -/
theorem key_ne {o : Int} {l : List Pr} (hc : chain o l = true) {i j : Nat} (hi : i < l.length) (hj : j < l.length) (h : l[i].1 = l[j].1) : i = j := by
  rcases Nat.lt_trichotomy i j with h1 | h1 | h1
  · have := chain_lt hc h1 hj; rw [h, cmpI_self] at this; omega
  · exact h1
  · have := chain_lt hc h1 hi; rw [h, cmpI_self] at this; omega
theorem filter_not {l : List Pr} {key : Int} (h : ∀ i (h : i < l.length), l[i].1 ≠ key) : l.filter (fun x => !(x.1 == key)) = l := by
  rw [List.filter_eq_self]
  intro x hx
  obtain ⟨i, hi, rfl⟩ := List.getElem_of_mem hx
  simpa using h i hi
theorem drop_filter {o : Int} {l : List Pr} {key : Int} (hm : mayR o l = true) : dropR o l key = l.filter (fun x => !(x.1 == key)) := by
  unfold dropR
  rw [hm]
  cases hh : hasR o l key
  · refine (filter_not fun i hi e => ?_).symm
    have := (hasR_iff hm).2 ⟨i, hi, e⟩
    rw [hh] at this; cases this
  · have hlt := hasR_lt hh
    have hk := hasR_key hh
    have hc := mayR_chain hm
    obtain ⟨i, hi⟩ : ∃ i, i = posR o l key := ⟨_, rfl⟩
    simp only [← hi] at hlt hk ⊢
    have e : l = l.take i ++ (l[i] :: l.drop (i + 1)) := by rw [← List.drop_eq_getElem_cons hlt, List.take_append_drop]
    have h1 : (l.take i).filter (fun x => !(x.1 == key)) = l.take i := filter_not fun j hj e => by
      simp only [List.length_take] at hj
      simp only [List.getElem_take] at e
      have := key_ne hc (i := j) (j := i) (by omega) hlt (by rw [e, hk])
      omega
    have h2 : (l.drop (i + 1)).filter (fun x => !(x.1 == key)) = l.drop (i + 1) := filter_not fun j hj e => by
      simp only [List.length_drop] at hj
      simp only [List.getElem_drop] at e
      have := key_ne hc (i := i + 1 + j) (j := i) (by omega) hlt (by rw [e, hk])
      omega
    simp only [cond_true]
    conv => rhs; rw [e]
    rw [List.filter_append, List.filter_cons_of_neg (by simp [hk]), h1, h2]
theorem has_any {o : Int} {l : List Pr} {key : Int} (hm : mayR o l = true) : hasR o l key = l.any (fun x => x.1 == key) := by
  rw [Bool.eq_iff_iff, hasR_iff hm, List.any_eq_true]
  constructor
  · rintro ⟨i, hi, e⟩; exact ⟨_, List.getElem_mem hi, by simpa using e⟩
  · rintro ⟨x, hx, e⟩
    obtain ⟨i, hi, rfl⟩ := List.getElem_of_mem hx
    exact ⟨i, hi, by simpa using e⟩
theorem put_eq {o p : Int} {l : List Pr} {x : Pr} (hh : hasR o l x.1 = true) :
    l.set (posR o l x.1) (x.1, comb p (l.getD (posR o l x.1) (0, 0)).2 x.2) = l.take (posR o l x.1) ++ (x.1, comb p (l.getD (posR o l x.1) (0, 0)).2 x.2) :: l.drop (posR o l x.1 + 1) :=
  List.set_eq_take_append_cons_drop.trans (if_pos (hasR_lt hh))
set_option maxRecDepth 20000 in
theorem c_r4put {o p : Int} {l : List Pr} {x : Pr} {q : Option Addr} {n c : Nat} {w : World} {R : Ending → World → Prop} (hl : Cs w q (prs l)) (hn : l.length = n) (hnc : n ≤ c) (hm : n ≤ 1000000000000) (hI : InP l) (hx : In x.1)
    (h : ∀ p' n' c' w', OwnP w' w.heap.size p' n' c' (putR o p l x) → Ext w w' → R (.returned (.tuple #[.slice p' n' c', .int .i64 (putE o p l)])) w') : Calls Tryz.prog 130 #[.int .u8 o, .int .u8 p, .slice q n c, agP x] w R := by
  refine sh130_ok _ _ _ _ _ _ _ ?_
  unfold sh130
  refine ⟨?_⟩
  have e0 := ext_alloc w (.cells #[.int .i64 x.1, .int .i64 x.2] 76)
  have hb := blk_alloc w #[.int .i64 x.1, .int .i64 x.2] 76
  generalize hb0 : w.heap.size = b at *
  generalize w.alloc (.cells #[.int .i64 x.1, .int .i64 x.2] 76) = w0 at *
  refine do_call Tryz.call53 (c_r4may (hl.ext e0) hn hm hI fun w1 e1 => retS_ret ⟨_, rfl, ?_⟩)
  have E1 := e0.trans e1
  have hb1 := hb.ext e1
  cases hmay : mayR o l
  · refine ifB_t rfl ?_
    have hr := h none 0 0 w1
    simp only [putR, putE, hmay, cond_false, Bool.false_and] at hr
    exact hr (ownP_nil _ _) E1
  refine ifB_f rfl ?_
  refine do_call Tryz.call11 (c_rmay (retS_ret ⟨_, rfl, ?_⟩))
  cases hp : may p
  · refine ifB_t rfl ?_
    have hr := h none 0 0 w1
    simp only [putR, putE, hp, cond_false, Bool.and_false] at hr
    exact hr (ownP_nil _ _) E1
  refine ifB_f rfl ?_
  refine ⟨_, hb1.cell (by rw [add_blk]) rfl, ?_⟩
  refine do_call Tryz.call176 (c_r4find (hl.ext E1) hn hm hI hx fun w2 e2 => retS_ret ⟨_, _, rfl, ?_⟩)
  have E2 := E1.trans e2
  have hb2 := hb1.ext e2
  have hple := posR_le o l x.1
  refine sl_pr (a := 0) (b := posR o l x.1) (hl.ext E2) hn hnc rfl rfl (by omega) (by omega) fun q1 hq1 _ => ?_
  simp only [List.drop_zero, Nat.sub_zero] at hq1 ⊢
  refine do_app elP (ownP_nil w2 w2.heap.size) (m := posR o l x.1) hq1 (by simp; omega) prs_one (by simp only [maxLen]; omega) (by omega) (Nat.le_refl _) fun p3 c3 w3 h3 g3 => retS_ret ⟨_, _, _, rfl, ?_⟩
  simp only [Nat.zero_add, prs_nil, List.nil_append] at h3 ⊢
  have e3 : Ext w2 w3 := (ext_refl w2).grown g3 (by simp [Value.ownBlock])
  have E3 := E2.trans e3
  have hb3 := hb2.ext e3
  have hsz : b < w2.heap.size := hb2.lt
  have hK : ∀ (y : Pr) (i : Nat) (w4 : World), Ext w w4 → Blk w4 b #[.int .i64 y.1, .int .i64 y.2] 76 → OwnP w4 w2.heap.size p3 (posR o l x.1) c3 (l.take (posR o l x.1)) → w2.heap.size ≤ w4.heap.size → i ≤ n →
      putR o p l x = l.take (posR o l x.1) ++ y :: l.drop i → 
      doDr w4 (fun w30 => ∃ (C29 : World → Prop), C29 w30 ∧ (∃ (x31 : Int), (∀ w, C29 w → World.cell? w ((blk b).add 0) = some (.int .i64 x31)) ∧ (∃ (x32 : Int), (∀ w, C29 w → World.cell? w ((blk b).add 1) = some (.int .i64 x32)) ∧ (
        doSl q c 2 (i : Nat) (((n : Nat) : Int)) (fun p33 n34 c35 => doAl (.cells #[.int .i64 x31, .int .i64 x32] 76) w30 (fun b36 w37 =>
        doGo Tryz.prog (.builtin .append #[63, 63] 63 #[false, false]) #[.slice p3 (posR o l x.1) c3, .slice (some (blk b36)) 1 1] w37 (retS (fun v41 w42 => ∃ (xp38 : Option Addr), ∃ (xn39 : Nat), ∃ (xc40 : Nat), v41 = (.slice xp38 xn39 xc40 : Value) ∧ (C29 w42 ∧ (
        doGo Tryz.prog (.builtin .append #[63, 63] 63 #[false, false]) #[.slice xp38 xn39 xc40, .slice p33 n34 c35] w42 (retS (fun v46 w47 => ∃ (xp43 : Option Addr), ∃ (xn44 : Nat), ∃ (xc45 : Nat), v46 = (.slice xp43 xn44 xc45 : Value) ∧ (C29 w47 ∧ (
        R (.returned (.tuple #[.slice xp43 xn44 xc45, .int .i64 0])) w47))) (fun ch w => Kfn R ch [] w))))) (fun ch w => Kfn R ch [] w)))))))) := by
    intro y i w4 E4 hb4 ho4 hsz4 hi hput
    refine ⟨⟨fun w' => Ext w w' ∧ Blk w' b #[.int .i64 y.1, .int .i64 y.2] 76, ⟨E4.drew, hb4⟩, _, fun w' e => e.2.cell (by rw [add_blk]) rfl, _, fun w' e => e.2.cell (by rw [add_blk]) rfl, ?_⟩⟩
    refine sl_pr (w := w) (a := i) (b := n) hl hn hnc rfl rfl hi (Nat.le_refl n) fun q5 hq5 _ => ⟨?_⟩
    rw [← hn, List.take_length] at hq5
    have e5 := ext_alloc w4.drew (.cells #[.int .i64 y.1, .int .i64 y.2] 76)
    have ho5 := row_to ho4 ((ext_drew w4).trans e5) (Nat.le_refl _)
    refine do_app elP ho5 (m := 1) (cs_alloc w4.drew _ _) (by simp) (by simp [Value.oneCell']) (by simp only [maxLen]; omega) (by omega) (Nat.le_trans hsz4 e5.size) fun p6 c6 w6 h6 g6 => retS_ret ⟨_, _, _, rfl, ?_⟩
    have e6 : Ext w w6 := ext_own ho5 (E4.drew.trans e5) g6 (by omega)
    have hb6 : Blk w6 b #[.int .i64 y.1, .int .i64 y.2] 76 := Blk.grown (Blk.ext hb4 ((ext_drew w4).trans e5)) g6 (by
      intro hk; have := (World.ownsRow.lt ho5 _ hk.symm).1; omega)
    have h6' : OwnP w6 w2.heap.size p6 (posR o l x.1 + 1) c6 (l.take (posR o l x.1) ++ [y]) := by unfold OwnP; rw [prs_append]; exact h6
    refine ⟨⟨e6, hb6⟩, ?_⟩
    refine do_app elP h6' (m := n - i) (hq5.ext e6) (by simp; omega) prs_one (by simp only [maxLen]; omega) (by omega) (Nat.le_trans hsz4 (Nat.le_trans e5.size g6.size)) fun p7 c7 w7 h7 g7 => retS_ret ⟨_, _, _, rfl, ?_⟩
    have e7 : Ext w w7 := ext_own h6' e6 g7 (by omega)
    have hb7 : Blk w7 b #[.int .i64 y.1, .int .i64 y.2] 76 := Blk.grown hb6 g7 (by
      intro hk; have := (World.ownsRow.lt h6' _ hk.symm).1; omega)
    refine ⟨⟨e7, hb7⟩, ?_⟩
    have hr := h p7 (posR o l x.1 + 1 + (n - i)) c7 w7
    simp only [putE, hp, hmay, cond_true, Bool.and_true] at hr
    refine hr ?_ e7
    rw [hput, show l.take (posR o l x.1) ++ y :: l.drop i = (l.take (posR o l x.1) ++ [y]) ++ l.drop i by simp]
    unfold OwnP
    rw [prs_append]
    exact row_mono h7 (by omega)
  have hp3 : OwnP w3 w2.heap.size p3 (posR o l x.1) c3 (l.take (posR o l x.1)) := h3
  cases hh : hasR o l x.1
  · refine ifB_f rfl ?_
    refine hK x _ w3 E3 hb3 hp3 e3.size (by omega) ?_
    simp only [putR, hp, hmay, hh, cond_false, cond_true, Bool.and_true]
  · refine ifB_t rfl ?_
    have hlt := hasR_lt hh
    refine ⟨⟨fun w' => Ext w3 w', ext_drew _, ?_⟩⟩
    refine ix_prC (fun w' e => (hl.ext E3).ext e) (ext_refl _) hn rfl (by omega) fun a _ r2 => ⟨_, r2, _, fun w' e => (hb3.ext e).cell (i := 1) (by rw [add_blk]) rfl, ?_⟩
    refine do_call Tryz.call75 (c_rcomb (retS_ret ⟨_, rfl, ?_⟩))
    refine do_st (i := 1) (b := b) (w := w3.drew) hb3 (by rw [add_zero', add_blk]) (by simp) fun w5 hb5 g5 => ?_
    rw [show IntKind.wrap .i64 ((posR o l x.1 : Nat) + 1 : Int) = ((posR o l x.1 + 1 : Nat) : Int) from wrap_succ (n := n) (by omega) (by omega)]
    refine hK (x.1, comb p (l[posR o l x.1]'hlt).2 x.2) _ w5 (E3.drew.st g5 (by omega)) hb5 ?_ (Nat.le_trans e3.size g5.size) (by omega) ?_
    · refine World.ownsRow.kept (World.ownsRow.kept hp3 (grown_drew w3 none) ?_) g5 ?_
      · cases (Value.slice p3 (posR o l x.1) c3).ownBlock <;> simp
      · right
        intro hk; have := (World.ownsRow.lt hp3 _ hk).1; omega
    · simp only [putR, hp, hmay, hh, cond_true, Bool.and_true]
      rw [put_eq hh, getD_of hlt]
/-- what the last pair at or ahead of a key is, of the first k -/
theorem floor_at {o key : Int} {l : List Pr} (hmay : mayR o l = true) (hI : InP l) (hk : In key) {i : Nat} (hi : i < l.length) : (0 ≤ cmpI o key l[i].1) ↔ (i < posR o l key ∨ (hasR o l key = true ∧ i = posR o l key)) := by
  have hc := mayR_chain hmay
  have hp : posR o l key = idxR o l key := by unfold posR; rw [hmay]; rfl
  constructor
  · intro h
    rcases Nat.lt_trichotomy i (posR o l key) with h1 | h1 | h1
    · exact .inl h1
    · right
      refine ⟨?_, h1⟩
      have hge : 0 ≤ cmpI o l[i].1 key := by
        have := idxR_ge (o := o) (l := l) (key := key) (by rw [← hp]; omega)
        simp only [← hp, ← h1] at this; exact this
      have h0 : cmpI o l[i].1 key = 0 := by
        rcases Int.lt_or_le 0 (cmpI o l[i].1 key) with h2 | h2
        · have := cmpI_pos h2; omega
        · omega
      exact (hasR_iff hmay).2 ⟨i, hi, cmpI_eq (mayR_o hmay) (hI _ (List.getElem_mem hi)).1 hk h0⟩
    · exfalso
      have hlt : idxR o l key < l.length := by omega
      have hge := idxR_ge (o := o) (l := l) (key := key) hlt
      have h2 := chain_lt hc (i := idxR o l key) (j := i) (by omega) hi
      have h3 : cmpI o key l[i].1 < 0 := by
        rcases Int.lt_or_le 0 (cmpI o l[idxR o l key].1 key) with h4 | h4
        · exact cmpI_trans (cmpI_pos h4) h2
        · have h0 : cmpI o l[idxR o l key].1 key = 0 := by omega
          rw [← cmpI_eq (mayR_o hmay) (hI _ (List.getElem_mem hlt)).1 hk h0]
          exact h2
      omega
  · rintro (h | ⟨h, rfl⟩)
    · have := (idxR_lt (o := o) (l := l) (key := key) (i := i) (by omega)).2
      have := cmpI_neg this; omega
    · have := hasR_key h
      rw [this, cmpI_self]; omega
def lastF (o : Int) (l : List Pr) (key : Int) (k : Nat) : Bool × Pr := (List.range k).foldl (fun s i => if 0 ≤ cmpI o key (l.getD i (0, 0)).1 then (true, l.getD i (0, 0)) else s) (false, (0, 0))
theorem lastF_succ (o : Int) (l : List Pr) (key : Int) (k : Nat) : lastF o l key (k + 1) = if 0 ≤ cmpI o key (l.getD k (0, 0)).1 then (true, l.getD k (0, 0)) else lastF o l key k := by
  simp [lastF, List.range_succ, List.foldl_append]
theorem lastF_eq {o key : Int} {l : List Pr} (hmay : mayR o l = true) (hI : InP l) (hk : In key) {m : Nat} (hm : m ≤ l.length) (k : Nat) (hkm : k ≤ m) (h1 : ∀ i, i < k → i < posR o l key ∨ (hasR o l key = true ∧ i = posR o l key))
    (h2 : ∀ i, k ≤ i → ¬ (i < posR o l key ∨ (hasR o l key = true ∧ i = posR o l key))) : lastF o l key m = if k = 0 then (false, (0, 0)) else (true, l.getD (k - 1) (0, 0)) := by
  induction m with
  | zero => have : k = 0 := by omega
            subst this; rfl
  | succ m ih =>
    rw [lastF_succ, getD_of (by omega)]
    have hiff := floor_at (i := m) hmay hI hk (by omega)
    by_cases hmk : m + 1 = k
    · subst hmk
      rw [if_pos (hiff.2 (h1 m (by omega))), if_neg (by omega), Nat.add_sub_cancel, getD_of (by omega)]
    · rw [if_neg (fun h => h2 m (by omega) (hiff.1 h)), ih (by omega) (by omega)]
theorem lastF_all {o key : Int} {l : List Pr} (hmay : mayR o l = true) (hI : InP l) (hk : In key) : lastF o l key l.length = (isFloorR o l key, floorR o l key) := by
  have hple := posR_le o l key
  cases hh : hasR o l key
  · rw [lastF_eq hmay hI hk (Nat.le_refl _) (posR o l key) hple (fun i hi => .inl hi) (fun i hi h => by
      rcases h with h | ⟨h, _⟩
      · omega
      · rw [hh] at h; cases h)]
    unfold isFloorR floorR
    rw [hh]
    by_cases h0 : posR o l key = 0
    · simp [h0]
    · simp [h0]; omega
  · have hlt := hasR_lt hh
    rw [lastF_eq hmay hI hk (Nat.le_refl _) (posR o l key + 1) (by omega) (fun i hi => by
      rcases Nat.lt_or_ge i (posR o l key) with h | h
      · exact .inl h
      · exact .inr ⟨hh, by omega⟩) (fun i hi h => by
      rcases h with h | ⟨_, h⟩ <;> omega)]
    unfold isFloorR floorR
    rw [hh]
    simp
end Go.Proofs.YtbaoihmffobneaaGreat

namespace Go.Proofs.YtbaoihmffobneaaGreat
open Go Go.Sh Go.RowKit

theorem in_nat (n : Nat) (h : n ≤ 1000) : In (n : Int) := ⟨by omega, by omega⟩
theorem cs2 {w : World} {b : Nat} {u v x y : Int} {t : TypeId} (h : Blk w b #[.int .i64 u, .int .i64 v, .int .i64 x, .int .i64 y] t) : Cs w (some (blk b)) (prs [(u, v), (x, y)]) := fun i v hv => by
  refine ⟨_, rfl, ?_⟩
  rw [add_blk]
  match i, hv with
  | 0, hv => cases hv; exact h.cell rfl rfl
  | 1, hv => cases hv; exact h.cell rfl rfl
  | 2, hv => cases hv; exact h.cell rfl rfl
  | 3, hv => cases hv; exact h.cell rfl rfl
  | i + 4, hv => simp at hv
abbrev alL : List Pr := [(1, 10), (3, 30)]
theorem alI : InP alL := by
  intro x hx
  simp at hx
  rcases hx with rfl | rfl <;> exact ⟨⟨by decide, by decide⟩, ⟨by decide, by decide⟩⟩
theorem alI' : InP [(3, 30), (1, 10)] := by
  intro x hx
  simp at hx
  rcases hx with rfl | rfl <;> exact ⟨⟨by decide, by decide⟩, ⟨by decide, by decide⟩⟩
theorem pos_at {o : Int} {l : List Pr} (hm : mayR o l = true) {i : Nat} (hi : i < l.length) : posR o l l[i].1 = i ∧ hasR o l l[i].1 = true ∧ getR o l l[i].1 = l[i].2 := by
  have h1 : posR o l l[i].1 = i := by unfold posR; rw [hm]; exact idx_of_mem (mayR_chain hm) hi
  have h2 : hasR o l l[i].1 = true := (hasR_iff hm).2 ⟨i, hi, rfl⟩
  refine ⟨h1, h2, ?_⟩
  unfold getR
  rw [h1, h2, getD_of hi]; rfl
theorem floor_le {o key : Int} {l : List Pr} (hm : mayR o l = true) (h : isFloorR o l key = true) : cmpI o (floorR o l key).1 key ≤ 0 := by
  unfold floorR
  cases hh : hasR o l key
  · have hp : 0 < posR o l key := by simpa [isFloorR, hh] using h
    have hpx : posR o l key = idxR o l key := by unfold posR; rw [hm]; rfl
    simp only [cond_false]
    rw [if_neg (by omega)]
    have := idxR_lt (o := o) (l := l) (key := key) (i := posR o l key - 1) (by omega)
    obtain ⟨h1, h2⟩ := this
    rw [getD_of h1]; omega
  · have hlt := hasR_lt hh
    simp only [cond_true]
    rw [getD_of hlt, hasR_key hh, cmpI_self]; omega
theorem ceil_le {o key : Int} {l : List Pr} (h : isCeilR o l key = true) : cmpI o key (ceilR o l key).1 ≤ 0 := by
  have hm : mayR o l = true := by simp [isCeilR] at h; exact h.1
  have hp : posR o l key < l.length := by simp [isCeilR] at h; exact h.2
  have hpx : posR o l key = idxR o l key := by unfold posR; rw [hm]; rfl
  unfold ceilR
  rw [hm, getD_of hp]
  have := idxR_ge (o := o) (l := l) (key := key) (by omega)
  simp only [← hpx] at this
  simp only [cond_true]
  rcases Int.lt_or_le 0 (cmpI o l[posR o l key].1 key) with h1 | h1
  · have := cmpI_pos h1; omega
  · rcases Int.lt_or_le 0 (cmpI o key l[posR o l key].1) with h2 | h2
    · have := cmpI_pos h2; omega
    · omega
end Go.Proofs.YtbaoihmffobneaaGreat

namespace Go.Proofs.YtbaoihmffobneaaGreat
open Go Go.Sh Go.RowKit

theorem wrap_in (x : Int) : In (IntKind.wrap .i64 x) := by
  simp only [IntKind.wrap, IntKind.signed, IntKind.bits, In]
  simp
  omega
abbrev ltO (o : Int) (a b : Int) : Prop := cmpI o a b < 0
theorem chain_pw {o : Int} : ∀ {l : List Pr}, chain o l = true ↔ (l.map (·.1)).Pairwise (ltO o)
  | [] => by simp [chain]
  | [a] => by simp [chain]
  | a :: b :: l => by
    rw [chain_cons, Bool.and_eq_true, decide_eq_true_eq, chain_pw (l := b :: l)]
    simp only [List.map_cons, List.pairwise_cons, List.mem_cons, List.mem_map, forall_eq_or_imp]
    constructor
    · rintro ⟨h1, h2, h3⟩
      exact ⟨⟨h1, fun x hx => cmpI_trans h1 (h2 x hx)⟩, h2, h3⟩
    · rintro ⟨⟨h1, _⟩, h2, h3⟩
      exact ⟨h1, h2, h3⟩
theorem mayR_iff {o : Int} {l : List Pr} : mayR o l = true ↔ isO o = true ∧ (l.map (·.1)).Pairwise (ltO o) := by
  unfold mayR; rw [Bool.and_eq_true, chain_pw]
theorem mem_get {o : Int} {l : List Pr} (hm : mayR o l = true) {key v : Int} (h : (key, v) ∈ l) : hasR o l key = true ∧ getR o l key = v := by
  obtain ⟨i, hi, e⟩ := List.getElem_of_mem h
  have := pos_at hm hi
  rw [e] at this
  exact ⟨this.2.1, this.2.2⟩
theorem has_mem {o : Int} {l : List Pr} {key : Int} (h : hasR o l key = true) : (key, getR o l key) ∈ l := by
  have hlt := hasR_lt h
  have hk := hasR_key h
  have : getR o l key = (l[posR o l key]'hlt).2 := by unfold getR; rw [h, getD_of hlt]; rfl
  rw [this]
  have hm := List.getElem_mem hlt
  rw [show (l[posR o l key]'hlt) = (key, (l[posR o l key]'hlt).2) from Prod.ext hk rfl] at hm
  exact hm
theorem get_none {o : Int} {l : List Pr} {key : Int} (h : hasR o l key = false) : getR o l key = 0 := by unfold getR; rw [h]; rfl
/-- two rows that may be and agree about a key -/
theorem same_at {o : Int} {l r : List Pr} (hl : mayR o l = true) (hr : mayR o r = true) {key : Int} (h : ∀ v, (key, v) ∈ l ↔ (key, v) ∈ r) : hasR o l key = hasR o r key ∧ getR o l key = getR o r key := by
  cases hh : hasR o l key
  · cases hh' : hasR o r key
    · exact ⟨rfl, by rw [get_none hh, get_none hh']⟩
    · have := (mem_get hl ((h _).2 (has_mem hh'))).1
      rw [hh] at this; cases this
  · have := mem_get hr ((h _).1 (has_mem hh))
    exact ⟨this.1.symm, this.2.symm⟩
theorem drop_may {o key : Int} {l : List Pr} (hm : mayR o l = true) : mayR o (dropR o l key) = true := by
  rw [drop_filter hm, mayR_iff]
  have := mayR_iff.1 hm
  exact ⟨this.1, this.2.sublist (List.filter_sublist.map _)⟩
theorem drop_len {o key : Int} {l : List Pr} (hm : mayR o l = true) : (dropR o l key).length = if hasR o l key then l.length - 1 else l.length := by
  unfold dropR
  rw [hm]
  cases hh : hasR o l key
  · rfl
  · have := hasR_lt hh
    simp; omega
theorem drop_has {o key : Int} {l : List Pr} (hm : mayR o l = true) : hasR o (dropR o l key) key = false := by
  cases hh : hasR o (dropR o l key) key
  · rfl
  · have := has_mem hh
    rw [drop_filter hm, List.mem_filter] at this
    simp at this
theorem drop_other {o key key' : Int} {l : List Pr} (hm : mayR o l = true) (hne : key' ≠ key) : hasR o (dropR o l key) key' = hasR o l key' ∧ getR o (dropR o l key) key' = getR o l key' :=
  same_at (drop_may hm) hm fun v => by rw [drop_filter hm, List.mem_filter]; simp [hne]
theorem drop_in {o key : Int} {l : List Pr} (hm : mayR o l = true) (hI : InP l) : InP (dropR o l key) := fun x hx => by
  rw [drop_filter hm, List.mem_filter] at hx
  exact hI x hx.1
theorem put_miss {o p : Int} {l : List Pr} {x : Pr} (hm : mayR o l = true) (hp : may p = true) (hh : hasR o l x.1 = false) : putR o p l x = l.take (posR o l x.1) ++ x :: l.drop (posR o l x.1) := by
  unfold putR; rw [hm, hp, hh]; rfl
theorem put_hit {o p : Int} {l : List Pr} {x : Pr} (hm : mayR o l = true) (hp : may p = true) (hh : hasR o l x.1 = true) : putR o p l x = l.set (posR o l x.1) (x.1, comb p (getR o l x.1) x.2) := by
  unfold putR getR; rw [hm, hp, hh]; rfl
theorem put_may {o p : Int} {l : List Pr} {x : Pr} (hm : mayR o l = true) (hp : may p = true) (hI : InP l) (hx : In x.1) : mayR o (putR o p l x) = true := by
  have hpw := mayR_iff.1 hm
  cases hh : hasR o l x.1
  · rw [put_miss hm hp hh, mayR_iff]
    refine ⟨hpw.1, ?_⟩
    have hpx : posR o l x.1 = idxR o l x.1 := by unfold posR; rw [hm]; rfl
    have hsplit := hpw.2
    rw [← List.take_append_drop (posR o l x.1) l, List.map_append, List.pairwise_append] at hsplit
    rw [List.map_append, List.map_cons, List.pairwise_append, List.pairwise_cons]
    have hlo : ∀ a ∈ (l.take (posR o l x.1)).map (·.1), ltO o a x.1 := fun a ha => by
      simp only [List.mem_map] at ha
      obtain ⟨y, hy, rfl⟩ := ha
      obtain ⟨i, hi, rfl⟩ := List.getElem_of_mem hy
      rw [List.length_take] at hi
      rw [List.getElem_take]
      exact (idxR_lt (o := o) (l := l) (key := x.1) (i := i) (by omega)).2
    have hhi : ∀ b ∈ (l.drop (posR o l x.1)).map (·.1), ltO o x.1 b := fun b hb => by
      simp only [List.mem_map] at hb
      obtain ⟨y, hy, rfl⟩ := hb
      obtain ⟨i, hi, rfl⟩ := List.getElem_of_mem hy
      rw [List.length_drop] at hi
      rw [List.getElem_drop]
      have hlt : idxR o l x.1 < l.length := by omega
      have hge := idxR_ge (o := o) (l := l) (key := x.1) hlt
      have hne : cmpI o l[idxR o l x.1].1 x.1 ≠ 0 := fun h0 => by
        have := (hasR_iff hm).2 ⟨_, hlt, cmpI_eq hpw.1 (hI _ (List.getElem_mem hlt)).1 hx h0⟩
        rw [hh] at this; cases this
      have h1 : cmpI o x.1 l[idxR o l x.1].1 < 0 := cmpI_pos (by omega)
      simp only [hpx]
      rcases Nat.eq_zero_or_pos i with h0 | h0
      · subst h0; exact h1
      · exact cmpI_trans h1 (chain_lt (mayR_chain hm) (i := idxR o l x.1) (j := idxR o l x.1 + i) (by omega) (by omega))
    refine ⟨hsplit.1, ⟨hhi, hsplit.2.1⟩, fun a ha b hb => ?_⟩
    rcases List.mem_cons.1 hb with rfl | hb
    · exact hlo a ha
    · exact hsplit.2.2 a ha b hb
  · rw [put_hit hm hp hh, mayR_iff]
    refine ⟨hpw.1, ?_⟩
    have hlt := hasR_lt hh
    have hk := hasR_key hh
    have : (l.set (posR o l x.1) (x.1, comb p (getR o l x.1) x.2)).map (·.1) = l.map (·.1) := by
      refine List.ext_getElem (by simp) fun i h1 h2 => ?_
      simp only [List.getElem_map, List.getElem_set]
      split
      · rename_i e; subst e; exact hk.symm
      · rfl
    rw [this]; exact hpw.2
theorem put_len {o p : Int} {l : List Pr} {x : Pr} (hm : mayR o l = true) (hp : may p = true) : (putR o p l x).length = if hasR o l x.1 then l.length else l.length + 1 := by
  cases hh : hasR o l x.1
  · rw [put_miss hm hp hh]
    have := posR_le o l x.1
    simp; omega
  · rw [put_hit hm hp hh]; simp
theorem put_mem {o p : Int} {l : List Pr} {x : Pr} (hm : mayR o l = true) (hp : may p = true) (y : Pr) : y ∈ putR o p l x → y = (x.1, if hasR o l x.1 then comb p (getR o l x.1) x.2 else x.2) ∨ y ∈ l := by
  intro hy
  cases hh : hasR o l x.1
  · rw [put_miss hm hp hh] at hy
    rcases List.mem_append.1 hy with h | h
    · exact .inr (List.mem_of_mem_take h)
    · rcases List.mem_cons.1 h with h | h
      · exact .inl h
      · exact .inr (List.mem_of_mem_drop h)
  · rw [put_hit hm hp hh] at hy
    rcases List.mem_or_eq_of_mem_set hy with h | h
    · exact .inr h
    · exact .inl h
theorem put_key {o p : Int} {l : List Pr} {x : Pr} (hm : mayR o l = true) (hp : may p = true) (hI : InP l) (hx : In x.1) :
    hasR o (putR o p l x) x.1 = true ∧ getR o (putR o p l x) x.1 = if hasR o l x.1 then comb p (getR o l x.1) x.2 else x.2 := by
  refine mem_get (put_may hm hp hI hx) ?_
  cases hh : hasR o l x.1
  · rw [put_miss hm hp hh]; simp
  · rw [put_hit hm hp hh]
    have hlt := hasR_lt hh
    exact List.mem_of_getElem (i := posR o l x.1) (h := by simpa using hlt) (by simp)
theorem put_other {o p key : Int} {l : List Pr} {x : Pr} (hm : mayR o l = true) (hp : may p = true) (hI : InP l) (hx : In x.1) (hne : key ≠ x.1) : hasR o (putR o p l x) key = hasR o l key ∧ getR o (putR o p l x) key = getR o l key := by
  refine same_at (put_may hm hp hI hx) hm fun v => ?_
  constructor
  · intro h
    rcases put_mem hm hp _ h with h | h
    · exact absurd (congrArg Prod.fst h) hne
    · exact h
  · intro h
    cases hh : hasR o l x.1
    · rw [put_miss hm hp hh]
      rw [← List.take_append_drop (posR o l x.1) l] at h
      rcases List.mem_append.1 h with h | h
      · exact List.mem_append_left _ h
      · exact List.mem_append_right _ (List.mem_cons_of_mem _ h)
    · rw [put_hit hm hp hh]
      have hlt := hasR_lt hh
      have hk := hasR_key hh
      obtain ⟨i, hi, e⟩ := List.getElem_of_mem h
      have hii : posR o l x.1 ≠ i := fun e' => by
        subst e'
        rw [e] at hk
        exact hne hk
      refine List.mem_of_getElem (i := i) (h := by simpa using hi) ?_
      rw [List.getElem_set_ne hii]; exact e
theorem put_in {o p : Int} {l : List Pr} {x : Pr} (hm : mayR o l = true) (hp : may p = true) (hI : InP l) (hx : In x.1 ∧ In x.2) : InP (putR o p l x) := fun y hy => by
  rcases put_mem hm hp _ hy with rfl | h
  · refine ⟨hx.1, ?_⟩
    show In (if hasR o l x.1 then comb p (getR o l x.1) x.2 else x.2)
    split
    · rename_i hh
      have hg := (hI _ (has_mem hh)).2
      unfold comb
      split
      · exact hg
      · split
        · exact hx.2
        · exact wrap_in _
    · exact hx.2
  · exact hI _ h
/-- a step: a pair, and whether it is dropped -/
def ecS (x : (Int × Int) × Bool) : List Value := [.int .i64 x.1.1, .int .i64 x.1.2, .bool x.2]
theorem ord_of {o : Int} (h0 : 0 ≤ o) : ∃ o', IntKind.wrap .u8 (1 + (Int.tmod o 7)) = o' ∧ isO o' = true := by
  refine ⟨_, rfl, ?_⟩
  have e : Int.tmod o 7 = o % 7 := Int.tmod_eq_emod_of_nonneg h0
  have e2 : IntKind.wrap .u8 (1 + o % 7) = 1 + o % 7 := by
    simp only [IntKind.wrap, IntKind.signed, IntKind.bits]
    simp
    omega
  rw [e, e2]
  simp [isO]
  omega
/-- the state of RowKeeps -/
structure Keeps (o key : Int) (w w' : World) (k : Nat) (p : Option Addr) (n c : Nat) (val : Int) (has : Bool) : Prop where
  ext : Ext w w'
  row : ∃ r, OwnP w' w.heap.size p n c r ∧ mayR o r = true ∧ InP r ∧ hasR o r key = has ∧ (has = true → getR o r key = val)
  len : n ≤ k
theorem Keeps.to {o key : Int} {w w' w'' : World} {k : Nat} {p : Option Addr} {n c : Nat} {val : Int} {has : Bool} (h : Keeps o key w w' k p n c val has) (e : Ext w' w'') : Keeps o key w w'' k p n c val has := by
  obtain ⟨r, h1, h2⟩ := h.row
  exact ⟨h.ext.trans e, ⟨r, row_to h1 e (Nat.le_refl _), h2⟩, h.len⟩
end Go.Proofs.YtbaoihmffobneaaGreat
