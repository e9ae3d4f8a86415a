/-
  What the functions of row do, part 3: rows of one's own: Clone, Insert, Delete, Put, Drop, Sum.
-/
/-
  What the document's answers of layer 4 (joineryref04) do.
-/
/-
  What the statements of layer 4 come to: RowEnds, RowTells.
-/
/-
  RowKeeps: the plain laws of rows, and the walk.
-/
import Derived.Test.YthgckfeocalbdaaGreatPj

namespace Go.Proofs.YthgckfeocalbdaaGreat
open Go Go.Sh Go.RowKit

/-- a row of pairs of one's own -/
abbrev OwnP (w : World) (base : Nat) (p : Option Addr) (n c : Nat) (l : List Pr) : Prop := w.ownsRow base 223 2 (.slice p n c) n (prs l)
theorem ownP_open {w : World} {base n c : Nat} {p : Option Addr} {l : List Pr} (h : OwnP w base p n c l) : (p = none ∧ n = 0 ∧ c = 0) ∨
    ∃ g cur, p = some ⟨g, 0, none⟩ ∧ base ≤ g ∧ Blk w g (List.toArray cur) 223 ∧ n ≤ c ∧ c ≤ maxLen ∧ cur.length = c * 2 ∧ cur.take (n * 2) = prs l := by
  rcases h.2 with ⟨hv, hn⟩ | ⟨g, cap, cur, hv, hb, hg, h1, h2, h3, h4⟩
  · cases hv; exact .inl ⟨rfl, rfl, rfl⟩
  · cases hv; exact .inr ⟨g, cur.toList, rfl, hb, hg, h1, h2, by simpa using h3, h4⟩
theorem ownP_close {w : World} {base g n c : Nat} {cur : List Value} {l : List Pr} (hb : base ≤ g) (hg : Blk w g cur.toArray 223) (h1 : n ≤ c) (h2 : c ≤ maxLen) (h3 : cur.length = c * 2) (h4 : cur.take (n * 2) = prs l) : OwnP w base (some ⟨g, 0, none⟩) n c l := by
  refine ⟨by rw [← h4]; simp; omega, .inr ⟨g, c, cur.toArray, rfl, hb, hg, h1, h2, by simpa using h3, h4⟩⟩
theorem ownP_len {w : World} {base n c : Nat} {p : Option Addr} {l : List Pr} (h : OwnP w base p n c l) : l.length = n := by have := h.1; simp at this; omega
theorem ownP_cs {w : World} {base n c : Nat} {p : Option Addr} {l : List Pr} (h : OwnP w base p n c l) : Cs w p (prs l) := Cs.of_row h
theorem ownP_nil (w : World) (base : Nat) : OwnP w base none 0 0 [] := World.ownsRow_nil _ _ _ _
theorem cs_prs_nil {w : World} {q : Option Addr} {l : List Pr} (h : Cs w q (prs l)) (hq : q = none) : l = [] := by
  subst hq
  cases l with
  | nil => rfl
  | cons x xs => obtain ⟨a, ha, _⟩ := h 0 (.int .i64 x.1) rfl; cases ha
theorem prs_split (l : List Pr) (i : Nat) : prs l = prs (l.take i) ++ prs (l.drop i) := by rw [← prs_append, List.take_append_drop]
theorem drop2 {Q : List Value} (h : 2 ≤ Q.length) : ∃ a b Z, Q = a :: b :: Z := by
  match Q, h with
  | a :: b :: Z, _ => exact ⟨a, b, Z, rfl⟩
def dropR (o : Int) (l : List Pr) (key : Int) : List Pr := cond (mayR o l) (cond (hasR o l key) (l.take (posR o l key) ++ l.drop (posR o l key + 1)) l) []
theorem row_to {w w' : World} {base base' n c : Nat} {p : Option Addr} {l : List Pr} (h : OwnP w base p n c l) (e : Ext w w') (hb : base' ≤ base) : OwnP w' base' p n c l := row_mono (e.row h) hb
theorem ext_own {a w w' : World} {base n c : Nat} {p : Option Addr} {l : List Pr} (h : OwnP w base p n c l) (e : Ext a w) (g : w.grownBy w' (Value.slice p n c).ownBlock) (hb : a.heap.size ≤ base) : Ext a w' :=
  e.grown g fun k hk => Nat.le_trans hb (World.ownsRow.lt h k hk).1
/-- what is put -/
def putR (o p : Int) (l : List Pr) (x : Pr) : List Pr :=
  cond (mayR o l && may p) (cond (hasR o l x.1) (l.set (posR o l x.1) (x.1, comb p (l.getD (posR o l x.1) (0, 0)).2 x.2)) (l.take (posR o l x.1) ++ x :: l.drop (posR o l x.1))) []
def putE (o p : Int) (l : List Pr) : Int := cond (mayR o l && may p) 0 2
theorem prs_set2 {l : List Pr} {k : Nat} (hk : k < l.length) (v : Int) : (prs l).set (k * 2 + 1) (.int .i64 v) = prs (l.set k (l[k].1, v)) := by
  induction l generalizing k with
  | nil => simp at hk
  | cons x xs ih =>
    cases k with
    | zero => rfl
    | succ k =>
      have := ih (k := k) (by simpa using hk)
      rw [show (k + 1) * 2 + 1 = k * 2 + 1 + 1 + 1 by omega]
      simp only [prs_cons, List.set_cons_succ, List.getElem_cons_succ, this]
theorem prs_set1 {l : List Pr} {k : Nat} (hk : k < l.length) (v : Int) : (prs l).set (k * 2) (.int .i64 v) = prs (l.set k (v, l[k].2)) := by
  induction l generalizing k with
  | nil => simp at hk
  | cons x xs ih =>
    cases k with
    | zero => rfl
    | succ k =>
      have := ih (k := k) (by simpa using hk)
      rw [show (k + 1) * 2 = k * 2 + 1 + 1 by omega]
      simp only [prs_cons, List.set_cons_succ, List.getElem_cons_succ, this]
theorem own_st2 {l : List Pr} {p : Option Addr} {n c base k : Nat} {w : World} (ho : OwnP w base p n c l) (hk : k < n) {a : Addr} (ha : ∃ b, p = some b ∧ a = b.add (k * 2)) {v : Int} {K : World → Prop}
    (h : ∀ w', OwnP w' base p n c (l.set k ((l[k]'(by rw [ownP_len ho]; exact hk)).1, v)) → w.grownBy w' (Value.slice p n c).ownBlock → K w') : doSt ((a.add 1).add 0) (.int .i64 v) w K := by
  obtain ⟨b, hb, rfl⟩ := ha
  have hl := ownP_len ho
  rcases ownP_open ho with ⟨hp, hn0, _⟩ | ⟨g, cur, hp, hbg, hg, _, hcm, hcl, hct⟩
  · omega
  subst hp; cases hb
  rw [add_zero', add_add]
  have ea : (⟨g, 0, none⟩ : Addr).add (k * 2 + 1) = ⟨g, k * 2 + 1, none⟩ := add_blk g _
  rw [ea]
  have hs := ho.stored (k * 2 + 1) (.int .i64 v)
  rw [prs_set2 (by omega)] at hs
  exact ⟨⟨_, by rw [ho.cellAt _ (by omega)]; exact List.getElem?_eq_getElem (by simp; omega)⟩, ho.frozenAt _, h _ hs.1 hs.2⟩
end Go.Proofs.YthgckfeocalbdaaGreat

namespace Go.Proofs.YthgckfeocalbdaaGreat
open Go Go.Sh Go.RowKit

theorem cmpI_self (o a : Int) : cmpI o a a = 0 := by unfold cmpI; split <;> simp
theorem cmpI_neg {o a b : Int} (h : cmpI o a b < 0) : 0 < cmpI o b a := by
  unfold cmpI at *
  split at h
  · rename_i ho
    rw [if_pos ho]
    split at h
    · rw [if_neg (by omega), if_pos (by omega)]; omega
    · split at h <;> omega
  · omega
theorem cmpI_pos {o a b : Int} (h : 0 < cmpI o a b) : cmpI o b a < 0 := by
  unfold cmpI at *
  split at h
  · rename_i ho
    rw [if_pos ho]
    split at h
    · omega
    · split at h
      · rw [if_pos (by omega)]; omega
      · omega
  · omega
theorem cmpI_eq {o a b : Int} (ho : isO o = true) (ha : In a) (hb : In b) (h : cmpI o a b = 0) : a = b := by
  have ho' : 1 ≤ o ∧ o ≤ 7 := by simpa [isO] using ho
  unfold cmpI at h
  rw [if_pos ho'] at h
  split at h
  · omega
  · split at h
    · omega
    · exact codeI_inj (o := o) ha hb (by omega)
theorem mayR_o {o : Int} {l : List Pr} (h : mayR o l = true) : isO o = true := by simp [mayR] at h; exact h.1
/-- a key that stands in the row stands at its place -/
theorem idx_of_mem {o : Int} {l : List Pr} (hc : chain o l = true) {i : Nat} (hi : i < l.length) : idxR o l l[i].1 = i :=
  idxR_eq (by omega) (fun j hj hji => chain_lt hc hji hi) fun _ => by rw [cmpI_self]; omega
theorem hasR_iff {o : Int} {l : List Pr} {key : Int} (hm : mayR o l = true) : hasR o l key = true ↔ ∃ i, ∃ h : i < l.length, l[i].1 = key := by
  constructor
  · intro h; exact ⟨_, hasR_lt h, hasR_key h⟩
  · rintro ⟨i, hi, rfl⟩
    have := idx_of_mem (mayR_chain hm) hi
    unfold hasR
    rw [hm, this, List.getElem?_eq_getElem hi]
    simp
/-! ### Put, Drop, Floor -/
theorem key_ne {o : Int} {l : List Pr} (hc : chain o l = true) {i j : Nat} (hi : i < l.length) (hj : j < l.length) (h : l[i].1 = l[j].1) : i = j := by
  rcases Nat.lt_trichotomy i j with h1 | h1 | h1
  · have := chain_lt hc h1 hj; rw [h, cmpI_self] at this; omega
  · exact h1
  · have := chain_lt hc h1 hi; rw [h, cmpI_self] at this; omega
theorem filter_not {l : List Pr} {key : Int} (h : ∀ i (h : i < l.length), l[i].1 ≠ key) : l.filter (fun x => !(x.1 == key)) = l := by
  rw [List.filter_eq_self]
  intro x hx
  obtain ⟨i, hi, rfl⟩ := List.getElem_of_mem hx
  simpa using h i hi
theorem drop_filter {o : Int} {l : List Pr} {key : Int} (hm : mayR o l = true) : dropR o l key = l.filter (fun x => !(x.1 == key)) := by
  unfold dropR
  rw [hm]
  cases hh : hasR o l key
  · refine (filter_not fun i hi e => ?_).symm
    have := (hasR_iff hm).2 ⟨i, hi, e⟩
    rw [hh] at this; cases this
  · have hlt := hasR_lt hh
    have hk := hasR_key hh
    have hc := mayR_chain hm
    obtain ⟨i, hi⟩ : ∃ i, i = posR o l key := ⟨_, rfl⟩
    simp only [← hi] at hlt hk ⊢
    have e : l = l.take i ++ (l[i] :: l.drop (i + 1)) := by rw [← List.drop_eq_getElem_cons hlt, List.take_append_drop]
    have h1 : (l.take i).filter (fun x => !(x.1 == key)) = l.take i := filter_not fun j hj e => by
      simp only [List.length_take] at hj
      simp only [List.getElem_take] at e
      have := key_ne hc (i := j) (j := i) (by omega) hlt (by rw [e, hk])
      omega
    have h2 : (l.drop (i + 1)).filter (fun x => !(x.1 == key)) = l.drop (i + 1) := filter_not fun j hj e => by
      simp only [List.length_drop] at hj
      simp only [List.getElem_drop] at e
      have := key_ne hc (i := i + 1 + j) (j := i) (by omega) hlt (by rw [e, hk])
      omega
    simp only [cond_true]
    conv => rhs; rw [e]
    rw [List.filter_append, List.filter_cons_of_neg (by simp [hk]), h1, h2]
theorem has_any {o : Int} {l : List Pr} {key : Int} (hm : mayR o l = true) : hasR o l key = l.any (fun x => x.1 == key) := by
  rw [Bool.eq_iff_iff, hasR_iff hm, List.any_eq_true]
  constructor
  · rintro ⟨i, hi, e⟩; exact ⟨_, List.getElem_mem hi, by simpa using e⟩
  · rintro ⟨x, hx, e⟩
    obtain ⟨i, hi, rfl⟩ := List.getElem_of_mem hx
    exact ⟨i, hi, by simpa using e⟩
theorem put_eq {o p : Int} {l : List Pr} {x : Pr} (hh : hasR o l x.1 = true) :
    l.set (posR o l x.1) (x.1, comb p (l.getD (posR o l x.1) (0, 0)).2 x.2) = l.take (posR o l x.1) ++ (x.1, comb p (l.getD (posR o l x.1) (0, 0)).2 x.2) :: l.drop (posR o l x.1 + 1) :=
  List.set_eq_take_append_cons_drop.trans (if_pos (hasR_lt hh))
/-- what the last pair at or ahead of a key is, of the first k -/
theorem floor_at {o key : Int} {l : List Pr} (hmay : mayR o l = true) (hI : InP l) (hk : In key) {i : Nat} (hi : i < l.length) : (0 ≤ cmpI o key l[i].1) ↔ (i < posR o l key ∨ (hasR o l key = true ∧ i = posR o l key)) := by
  have hc := mayR_chain hmay
  have hp : posR o l key = idxR o l key := by unfold posR; rw [hmay]; rfl
  constructor
  · intro h
    rcases Nat.lt_trichotomy i (posR o l key) with h1 | h1 | h1
    · exact .inl h1
    · right
      refine ⟨?_, h1⟩
      have hge : 0 ≤ cmpI o l[i].1 key := by
        have := idxR_ge (o := o) (l := l) (key := key) (by rw [← hp]; omega)
        simp only [← hp, ← h1] at this; exact this
      have h0 : cmpI o l[i].1 key = 0 := by
        rcases Int.lt_or_le 0 (cmpI o l[i].1 key) with h2 | h2
        · have := cmpI_pos h2; omega
        · omega
      exact (hasR_iff hmay).2 ⟨i, hi, cmpI_eq (mayR_o hmay) (hI _ (List.getElem_mem hi)).1 hk h0⟩
    · exfalso
      have hlt : idxR o l key < l.length := by omega
      have hge := idxR_ge (o := o) (l := l) (key := key) hlt
      have h2 := chain_lt hc (i := idxR o l key) (j := i) (by omega) hi
      have h3 : cmpI o key l[i].1 < 0 := by
        rcases Int.lt_or_le 0 (cmpI o l[idxR o l key].1 key) with h4 | h4
        · exact cmpI_trans (cmpI_pos h4) h2
        · have h0 : cmpI o l[idxR o l key].1 key = 0 := by omega
          rw [← cmpI_eq (mayR_o hmay) (hI _ (List.getElem_mem hlt)).1 hk h0]
          exact h2
      omega
  · rintro (h | ⟨h, rfl⟩)
    · have := (idxR_lt (o := o) (l := l) (key := key) (i := i) (by omega)).2
      have := cmpI_neg this; omega
    · have := hasR_key h
      rw [this, cmpI_self]; omega
def lastF (o : Int) (l : List Pr) (key : Int) (k : Nat) : Bool × Pr := (List.range k).foldl (fun s i => if 0 ≤ cmpI o key (l.getD i (0, 0)).1 then (true, l.getD i (0, 0)) else s) (false, (0, 0))
theorem lastF_succ (o : Int) (l : List Pr) (key : Int) (k : Nat) : lastF o l key (k + 1) = if 0 ≤ cmpI o key (l.getD k (0, 0)).1 then (true, l.getD k (0, 0)) else lastF o l key k := by
  simp [lastF, List.range_succ, List.foldl_append]
theorem lastF_eq {o key : Int} {l : List Pr} (hmay : mayR o l = true) (hI : InP l) (hk : In key) {m : Nat} (hm : m ≤ l.length) (k : Nat) (hkm : k ≤ m) (h1 : ∀ i, i < k → i < posR o l key ∨ (hasR o l key = true ∧ i = posR o l key))
    (h2 : ∀ i, k ≤ i → ¬ (i < posR o l key ∨ (hasR o l key = true ∧ i = posR o l key))) : lastF o l key m = if k = 0 then (false, (0, 0)) else (true, l.getD (k - 1) (0, 0)) := by
  induction m with
  | zero => have : k = 0 := by omega
            subst this; rfl
  | succ m ih =>
    rw [lastF_succ, getD_of (by omega)]
    have hiff := floor_at (i := m) hmay hI hk (by omega)
    by_cases hmk : m + 1 = k
    · subst hmk
      rw [if_pos (hiff.2 (h1 m (by omega))), if_neg (by omega), Nat.add_sub_cancel, getD_of (by omega)]
    · rw [if_neg (fun h => h2 m (by omega) (hiff.1 h)), ih (by omega) (by omega)]
theorem lastF_all {o key : Int} {l : List Pr} (hmay : mayR o l = true) (hI : InP l) (hk : In key) : lastF o l key l.length = (isFloorR o l key, floorR o l key) := by
  have hple := posR_le o l key
  cases hh : hasR o l key
  · rw [lastF_eq hmay hI hk (Nat.le_refl _) (posR o l key) hple (fun i hi => .inl hi) (fun i hi h => by
      rcases h with h | ⟨h, _⟩
      · omega
      · rw [hh] at h; cases h)]
    unfold isFloorR floorR
    rw [hh]
    by_cases h0 : posR o l key = 0
    · simp [h0]
    · simp [h0]; omega
  · have hlt := hasR_lt hh
    rw [lastF_eq hmay hI hk (Nat.le_refl _) (posR o l key + 1) (by omega) (fun i hi => by
      rcases Nat.lt_or_ge i (posR o l key) with h | h
      · exact .inl h
      · exact .inr ⟨hh, by omega⟩) (fun i hi h => by
      rcases h with h | ⟨_, h⟩ <;> omega)]
    unfold isFloorR floorR
    rw [hh]
    simp
end Go.Proofs.YthgckfeocalbdaaGreat

namespace Go.Proofs.YthgckfeocalbdaaGreat
open Go Go.Sh Go.RowKit

theorem in_nat (n : Nat) (h : n ≤ 1000) : In (n : Int) := ⟨by omega, by omega⟩
theorem cs2 {w : World} {b : Nat} {u v x y : Int} {t : TypeId} (h : Blk w b #[.int .i64 u, .int .i64 v, .int .i64 x, .int .i64 y] t) : Cs w (some (blk b)) (prs [(u, v), (x, y)]) := fun i v hv => by
  refine ⟨_, rfl, ?_⟩
  rw [add_blk]
  match i, hv with
  | 0, hv => cases hv; exact h.cell rfl rfl
  | 1, hv => cases hv; exact h.cell rfl rfl
  | 2, hv => cases hv; exact h.cell rfl rfl
  | 3, hv => cases hv; exact h.cell rfl rfl
  | i + 4, hv => simp at hv
abbrev alL : List Pr := [(1, 10), (3, 30)]
theorem alI : InP alL := by
  intro x hx
  simp at hx
  rcases hx with rfl | rfl <;> exact ⟨⟨by decide, by decide⟩, ⟨by decide, by decide⟩⟩
theorem alI' : InP [(3, 30), (1, 10)] := by
  intro x hx
  simp at hx
  rcases hx with rfl | rfl <;> exact ⟨⟨by decide, by decide⟩, ⟨by decide, by decide⟩⟩
theorem pos_at {o : Int} {l : List Pr} (hm : mayR o l = true) {i : Nat} (hi : i < l.length) : posR o l l[i].1 = i ∧ hasR o l l[i].1 = true ∧ getR o l l[i].1 = l[i].2 := by
  have h1 : posR o l l[i].1 = i := by unfold posR; rw [hm]; exact idx_of_mem (mayR_chain hm) hi
  have h2 : hasR o l l[i].1 = true := (hasR_iff hm).2 ⟨i, hi, rfl⟩
  refine ⟨h1, h2, ?_⟩
  unfold getR
  rw [h1, h2, getD_of hi]; rfl
theorem floor_le {o key : Int} {l : List Pr} (hm : mayR o l = true) (h : isFloorR o l key = true) : cmpI o (floorR o l key).1 key ≤ 0 := by
  unfold floorR
  cases hh : hasR o l key
  · have hp : 0 < posR o l key := by simpa [isFloorR, hh] using h
    have hpx : posR o l key = idxR o l key := by unfold posR; rw [hm]; rfl
    simp only [cond_false]
    rw [if_neg (by omega)]
    have := idxR_lt (o := o) (l := l) (key := key) (i := posR o l key - 1) (by omega)
    obtain ⟨h1, h2⟩ := this
    rw [getD_of h1]; omega
  · have hlt := hasR_lt hh
    simp only [cond_true]
    rw [getD_of hlt, hasR_key hh, cmpI_self]; omega
theorem ceil_le {o key : Int} {l : List Pr} (h : isCeilR o l key = true) : cmpI o key (ceilR o l key).1 ≤ 0 := by
  have hm : mayR o l = true := by simp [isCeilR] at h; exact h.1
  have hp : posR o l key < l.length := by simp [isCeilR] at h; exact h.2
  have hpx : posR o l key = idxR o l key := by unfold posR; rw [hm]; rfl
  unfold ceilR
  rw [hm, getD_of hp]
  have := idxR_ge (o := o) (l := l) (key := key) (by omega)
  simp only [← hpx] at this
  simp only [cond_true]
  rcases Int.lt_or_le 0 (cmpI o l[posR o l key].1 key) with h1 | h1
  · have := cmpI_pos h1; omega
  · rcases Int.lt_or_le 0 (cmpI o key l[posR o l key].1) with h2 | h2
    · have := cmpI_pos h2; omega
    · omega
end Go.Proofs.YthgckfeocalbdaaGreat

namespace Go.Proofs.YthgckfeocalbdaaGreat
open Go Go.Sh Go.RowKit

theorem wrap_in (x : Int) : In (IntKind.wrap .i64 x) := by
  simp only [IntKind.wrap, IntKind.signed, IntKind.bits, In]
  simp
  omega
abbrev ltO (o : Int) (a b : Int) : Prop := cmpI o a b < 0
theorem chain_pw {o : Int} : ∀ {l : List Pr}, chain o l = true ↔ (l.map (·.1)).Pairwise (ltO o)
  | [] => by simp [chain]
  | [a] => by simp [chain]
  | a :: b :: l => by
    rw [chain_cons, Bool.and_eq_true, decide_eq_true_eq, chain_pw (l := b :: l)]
    simp only [List.map_cons, List.pairwise_cons, List.mem_cons, List.mem_map, forall_eq_or_imp]
    constructor
    · rintro ⟨h1, h2, h3⟩
      exact ⟨⟨h1, fun x hx => cmpI_trans h1 (h2 x hx)⟩, h2, h3⟩
    · rintro ⟨⟨h1, _⟩, h2, h3⟩
      exact ⟨h1, h2, h3⟩
theorem mayR_iff {o : Int} {l : List Pr} : mayR o l = true ↔ isO o = true ∧ (l.map (·.1)).Pairwise (ltO o) := by
  unfold mayR; rw [Bool.and_eq_true, chain_pw]
theorem mem_get {o : Int} {l : List Pr} (hm : mayR o l = true) {key v : Int} (h : (key, v) ∈ l) : hasR o l key = true ∧ getR o l key = v := by
  obtain ⟨i, hi, e⟩ := List.getElem_of_mem h
  have := pos_at hm hi
  rw [e] at this
  exact ⟨this.2.1, this.2.2⟩
theorem has_mem {o : Int} {l : List Pr} {key : Int} (h : hasR o l key = true) : (key, getR o l key) ∈ l := by
  have hlt := hasR_lt h
  have hk := hasR_key h
  have : getR o l key = (l[posR o l key]'hlt).2 := by unfold getR; rw [h, getD_of hlt]; rfl
  rw [this]
  have hm := List.getElem_mem hlt
  rw [show (l[posR o l key]'hlt) = (key, (l[posR o l key]'hlt).2) from Prod.ext hk rfl] at hm
  exact hm
theorem get_none {o : Int} {l : List Pr} {key : Int} (h : hasR o l key = false) : getR o l key = 0 := by unfold getR; rw [h]; rfl
/-- two rows that may be and agree about a key -/
theorem same_at {o : Int} {l r : List Pr} (hl : mayR o l = true) (hr : mayR o r = true) {key : Int} (h : ∀ v, (key, v) ∈ l ↔ (key, v) ∈ r) : hasR o l key = hasR o r key ∧ getR o l key = getR o r key := by
  cases hh : hasR o l key
  · cases hh' : hasR o r key
    · exact ⟨rfl, by rw [get_none hh, get_none hh']⟩
    · have := (mem_get hl ((h _).2 (has_mem hh'))).1
      rw [hh] at this; cases this
  · have := mem_get hr ((h _).1 (has_mem hh))
    exact ⟨this.1.symm, this.2.symm⟩
theorem drop_may {o key : Int} {l : List Pr} (hm : mayR o l = true) : mayR o (dropR o l key) = true := by
  rw [drop_filter hm, mayR_iff]
  have := mayR_iff.1 hm
  exact ⟨this.1, this.2.sublist (List.filter_sublist.map _)⟩
theorem drop_len {o key : Int} {l : List Pr} (hm : mayR o l = true) : (dropR o l key).length = if hasR o l key then l.length - 1 else l.length := by
  unfold dropR
  rw [hm]
  cases hh : hasR o l key
  · rfl
  · have := hasR_lt hh
    simp; omega
theorem drop_has {o key : Int} {l : List Pr} (hm : mayR o l = true) : hasR o (dropR o l key) key = false := by
  cases hh : hasR o (dropR o l key) key
  · rfl
  · have := has_mem hh
    rw [drop_filter hm, List.mem_filter] at this
    simp at this
theorem drop_other {o key key' : Int} {l : List Pr} (hm : mayR o l = true) (hne : key' ≠ key) : hasR o (dropR o l key) key' = hasR o l key' ∧ getR o (dropR o l key) key' = getR o l key' :=
  same_at (drop_may hm) hm fun v => by rw [drop_filter hm, List.mem_filter]; simp [hne]
theorem drop_in {o key : Int} {l : List Pr} (hm : mayR o l = true) (hI : InP l) : InP (dropR o l key) := fun x hx => by
  rw [drop_filter hm, List.mem_filter] at hx
  exact hI x hx.1
theorem put_miss {o p : Int} {l : List Pr} {x : Pr} (hm : mayR o l = true) (hp : may p = true) (hh : hasR o l x.1 = false) : putR o p l x = l.take (posR o l x.1) ++ x :: l.drop (posR o l x.1) := by
  unfold putR; rw [hm, hp, hh]; rfl
theorem put_hit {o p : Int} {l : List Pr} {x : Pr} (hm : mayR o l = true) (hp : may p = true) (hh : hasR o l x.1 = true) : putR o p l x = l.set (posR o l x.1) (x.1, comb p (getR o l x.1) x.2) := by
  unfold putR getR; rw [hm, hp, hh]; rfl
theorem put_may {o p : Int} {l : List Pr} {x : Pr} (hm : mayR o l = true) (hp : may p = true) (hI : InP l) (hx : In x.1) : mayR o (putR o p l x) = true := by
  have hpw := mayR_iff.1 hm
  cases hh : hasR o l x.1
  · rw [put_miss hm hp hh, mayR_iff]
    refine ⟨hpw.1, ?_⟩
    have hpx : posR o l x.1 = idxR o l x.1 := by unfold posR; rw [hm]; rfl
    have hsplit := hpw.2
    rw [← List.take_append_drop (posR o l x.1) l, List.map_append, List.pairwise_append] at hsplit
    rw [List.map_append, List.map_cons, List.pairwise_append, List.pairwise_cons]
    have hlo : ∀ a ∈ (l.take (posR o l x.1)).map (·.1), ltO o a x.1 := fun a ha => by
      simp only [List.mem_map] at ha
      obtain ⟨y, hy, rfl⟩ := ha
      obtain ⟨i, hi, rfl⟩ := List.getElem_of_mem hy
      rw [List.length_take] at hi
      rw [List.getElem_take]
      exact (idxR_lt (o := o) (l := l) (key := x.1) (i := i) (by omega)).2
    have hhi : ∀ b ∈ (l.drop (posR o l x.1)).map (·.1), ltO o x.1 b := fun b hb => by
      simp only [List.mem_map] at hb
      obtain ⟨y, hy, rfl⟩ := hb
      obtain ⟨i, hi, rfl⟩ := List.getElem_of_mem hy
      rw [List.length_drop] at hi
      rw [List.getElem_drop]
      have hlt : idxR o l x.1 < l.length := by omega
      have hge := idxR_ge (o := o) (l := l) (key := x.1) hlt
      have hne : cmpI o l[idxR o l x.1].1 x.1 ≠ 0 := fun h0 => by
        have := (hasR_iff hm).2 ⟨_, hlt, cmpI_eq hpw.1 (hI _ (List.getElem_mem hlt)).1 hx h0⟩
        rw [hh] at this; cases this
      have h1 : cmpI o x.1 l[idxR o l x.1].1 < 0 := cmpI_pos (by omega)
      simp only [hpx]
      rcases Nat.eq_zero_or_pos i with h0 | h0
      · subst h0; exact h1
      · exact cmpI_trans h1 (chain_lt (mayR_chain hm) (i := idxR o l x.1) (j := idxR o l x.1 + i) (by omega) (by omega))
    refine ⟨hsplit.1, ⟨hhi, hsplit.2.1⟩, fun a ha b hb => ?_⟩
    rcases List.mem_cons.1 hb with rfl | hb
    · exact hlo a ha
    · exact hsplit.2.2 a ha b hb
  · rw [put_hit hm hp hh, mayR_iff]
    refine ⟨hpw.1, ?_⟩
    have hlt := hasR_lt hh
    have hk := hasR_key hh
    have : (l.set (posR o l x.1) (x.1, comb p (getR o l x.1) x.2)).map (·.1) = l.map (·.1) := by
      refine List.ext_getElem (by simp) fun i h1 h2 => ?_
      simp only [List.getElem_map, List.getElem_set]
      split
      · rename_i e; subst e; exact hk.symm
      · rfl
    rw [this]; exact hpw.2
theorem put_len {o p : Int} {l : List Pr} {x : Pr} (hm : mayR o l = true) (hp : may p = true) : (putR o p l x).length = if hasR o l x.1 then l.length else l.length + 1 := by
  cases hh : hasR o l x.1
  · rw [put_miss hm hp hh]
    have := posR_le o l x.1
    simp; omega
  · rw [put_hit hm hp hh]; simp
theorem put_mem {o p : Int} {l : List Pr} {x : Pr} (hm : mayR o l = true) (hp : may p = true) (y : Pr) : y ∈ putR o p l x → y = (x.1, if hasR o l x.1 then comb p (getR o l x.1) x.2 else x.2) ∨ y ∈ l := by
  intro hy
  cases hh : hasR o l x.1
  · rw [put_miss hm hp hh] at hy
    rcases List.mem_append.1 hy with h | h
    · exact .inr (List.mem_of_mem_take h)
    · rcases List.mem_cons.1 h with h | h
      · exact .inl h
      · exact .inr (List.mem_of_mem_drop h)
  · rw [put_hit hm hp hh] at hy
    rcases List.mem_or_eq_of_mem_set hy with h | h
    · exact .inr h
    · exact .inl h
theorem put_key {o p : Int} {l : List Pr} {x : Pr} (hm : mayR o l = true) (hp : may p = true) (hI : InP l) (hx : In x.1) :
    hasR o (putR o p l x) x.1 = true ∧ getR o (putR o p l x) x.1 = if hasR o l x.1 then comb p (getR o l x.1) x.2 else x.2 := by
  refine mem_get (put_may hm hp hI hx) ?_
  cases hh : hasR o l x.1
  · rw [put_miss hm hp hh]; simp
  · rw [put_hit hm hp hh]
    have hlt := hasR_lt hh
    exact List.mem_of_getElem (i := posR o l x.1) (h := by simpa using hlt) (by simp)
theorem put_other {o p key : Int} {l : List Pr} {x : Pr} (hm : mayR o l = true) (hp : may p = true) (hI : InP l) (hx : In x.1) (hne : key ≠ x.1) : hasR o (putR o p l x) key = hasR o l key ∧ getR o (putR o p l x) key = getR o l key := by
  refine same_at (put_may hm hp hI hx) hm fun v => ?_
  constructor
  · intro h
    rcases put_mem hm hp _ h with h | h
    · exact absurd (congrArg Prod.fst h) hne
    · exact h
  · intro h
    cases hh : hasR o l x.1
    · rw [put_miss hm hp hh]
      rw [← List.take_append_drop (posR o l x.1) l] at h
      rcases List.mem_append.1 h with h | h
      · exact List.mem_append_left _ h
      · exact List.mem_append_right _ (List.mem_cons_of_mem _ h)
    · rw [put_hit hm hp hh]
      have hlt := hasR_lt hh
      have hk := hasR_key hh
      obtain ⟨i, hi, e⟩ := List.getElem_of_mem h
      have hii : posR o l x.1 ≠ i := fun e' => by
        subst e'
        rw [e] at hk
        exact hne hk
      refine List.mem_of_getElem (i := i) (h := by simpa using hi) ?_
      rw [List.getElem_set_ne hii]; exact e
theorem put_in {o p : Int} {l : List Pr} {x : Pr} (hm : mayR o l = true) (hp : may p = true) (hI : InP l) (hx : In x.1 ∧ In x.2) : InP (putR o p l x) := fun y hy => by
  rcases put_mem hm hp _ hy with rfl | h
  · refine ⟨hx.1, ?_⟩
    show In (if hasR o l x.1 then comb p (getR o l x.1) x.2 else x.2)
    split
    · rename_i hh
      have hg := (hI _ (has_mem hh)).2
      unfold comb
      split
      · exact hg
      · split
        · exact hx.2
        · exact wrap_in _
    · exact hx.2
  · exact hI _ h
/-- a step: a pair, and whether it is dropped -/
def ecS (x : (Int × Int) × Bool) : List Value := [.int .i64 x.1.1, .int .i64 x.1.2, .bool x.2]
theorem ord_of {o : Int} (h0 : 0 ≤ o) : ∃ o', IntKind.wrap .u8 (1 + (Int.tmod o 7)) = o' ∧ isO o' = true := by
  refine ⟨_, rfl, ?_⟩
  have e : Int.tmod o 7 = o % 7 := Int.tmod_eq_emod_of_nonneg h0
  have e2 : IntKind.wrap .u8 (1 + o % 7) = 1 + o % 7 := by
    simp only [IntKind.wrap, IntKind.signed, IntKind.bits]
    simp
    omega
  rw [e, e2]
  simp [isO]
  omega
/-- the state of RowKeeps -/
structure Keeps (o key : Int) (w w' : World) (k : Nat) (p : Option Addr) (n c : Nat) (val : Int) (has : Bool) : Prop where
  ext : Ext w w'
  row : ∃ r, OwnP w' w.heap.size p n c r ∧ mayR o r = true ∧ InP r ∧ hasR o r key = has ∧ (has = true → getR o r key = val)
  len : n ≤ k
theorem Keeps.to {o key : Int} {w w' w'' : World} {k : Nat} {p : Option Addr} {n c : Nat} {val : Int} {has : Bool} (h : Keeps o key w w' k p n c val has) (e : Ext w' w'') : Keeps o key w w'' k p n c val has := by
  obtain ⟨r, h1, h2⟩ := h.row
  exact ⟨h.ext.trans e, ⟨r, row_to h1 e (Nat.le_refl _), h2⟩, h.len⟩
end Go.Proofs.YthgckfeocalbdaaGreat
