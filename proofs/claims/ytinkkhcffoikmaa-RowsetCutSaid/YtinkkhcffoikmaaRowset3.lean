/-
  What Union, Meet, Less, Apart, Range and Cut of rowset do.
-/
import Derived.Test.YtinkkhcffoikmaaRowset2
namespace Go.Proofs.Ytinkkhcffoikmaa
open Go Go.Sh Go.RowKit

def wU (_ : Ke) : Bool := true
def wM (e : Ke) : Bool := e.inA && e.inB
def wL (e : Ke) : Bool := !e.inB
def wA (e : Ke) : Bool := !(e.inA == e.inB)
def wR (o lo hi : Int) (e : Ke) : Bool := decide (cmpI o e.key lo ≥ 0) && decide (cmpI o e.key hi ≤ 0)
theorem wn_u {w : World} {ok : Ke → Prop} : Wn w wU (.func 100) #[] #[] ok := by
  intro e _ w' _ R h
  refine do_callc Try.call100 (by rfl) (sh100_ok _ _ _ _ _ ?_)
  unfold sh100
  exact ⟨h _ (ext_alloc _ _)⟩
theorem wn_m {w : World} {ok : Ke → Prop} : Wn w wM (.func 101) #[] #[] ok := by
  intro e _ w' _ R h
  refine do_callc Try.call101 (by rfl) (sh101_ok _ _ _ _ _ ?_)
  unfold sh101
  have hx := blk_alloc w' #[.int .i64 e.key, .int .i64 e.a, .int .i64 e.b, .bool e.inA, .bool e.inB] 122
  refine ⟨⟨_, hx.cell (i := 3) (add_blk _ _) rfl, ifB_intro (fun h1 => ⟨_, hx.cell (i := 4) (add_blk _ _) rfl, ?_⟩) fun h1 => ?_⟩⟩
  · rw [show wM e = e.inB by unfold wM; rw [h1]; rfl] at h; exact h _ (ext_alloc w' _)
  · rw [show wM e = false by unfold wM; rw [h1]; rfl] at h; exact h _ (ext_alloc w' _)
theorem wn_l {w : World} {ok : Ke → Prop} : Wn w wL (.func 102) #[] #[] ok := by
  intro e _ w' _ R h
  refine do_callc Try.call102 (by rfl) (sh102_ok _ _ _ _ _ ?_)
  unfold sh102
  have hx := blk_alloc w' #[.int .i64 e.key, .int .i64 e.a, .int .i64 e.b, .bool e.inA, .bool e.inB] 122
  exact ⟨⟨_, hx.cell (i := 4) (add_blk _ _) rfl, h _ (ext_alloc w' _)⟩⟩
theorem wn_a {w : World} {ok : Ke → Prop} : Wn w wA (.func 103) #[] #[] ok := by
  intro e _ w' _ R h
  refine do_callc Try.call103 (by rfl) (sh103_ok _ _ _ _ _ ?_)
  unfold sh103
  have hx := blk_alloc w' #[.int .i64 e.key, .int .i64 e.a, .int .i64 e.b, .bool e.inA, .bool e.inB] 122
  exact ⟨⟨_, hx.cell (i := 3) (add_blk _ _) rfl, _, hx.cell (i := 4) (add_blk _ _) rfl, h _ (ext_alloc w' _)⟩⟩
theorem wn_r {w : World} {o lo hi : Int} {b1 b2 b3 : Nat} (h1 : Blk w b1 #[.int .u8 o] 5) (h2 : Blk w b2 #[.int .i64 lo] 2) (h3 : Blk w b3 #[.int .i64 hi] 2) (hlo : In lo) (hhi : In hi) :
    Wn w (wR o lo hi) (.func 107) #[] #[.pointer (some (blk b1)), .pointer (some (blk b2)), .pointer (some (blk b3))] fun e => In e.key := by
  intro e he w' e' R h
  refine do_callc Try.call107 (by rfl) (sh107_ok _ _ _ _ _ _ _ _ ?_)
  unfold sh107
  refine ⟨?_⟩
  have hx := blk_alloc w' #[.int .i64 e.key, .int .i64 e.a, .int .i64 e.b, .bool e.inA, .bool e.inB] 122
  have e2 := ext_alloc w' (.cells #[.int .i64 e.key, .int .i64 e.a, .int .i64 e.b, .bool e.inA, .bool e.inB] 122)
  generalize w'.alloc (.cells #[.int .i64 e.key, .int .i64 e.a, .int .i64 e.b, .bool e.inA, .bool e.inB] 122) = w2 at *
  have E := e'.trans e2
  refine ⟨_, (h1.ext E).cell (i := 0) rfl rfl, _, hx.cell (i := 0) (add_blk _ _) rfl, _, (h2.ext E).cell (i := 0) rfl rfl, do_call Try.call93 (c_compare he hlo fun w3 e3 => retS_ret ⟨_, rfl, ?_⟩)⟩
  refine ifB_intro (fun g1 => ?_) fun g1 => ?_
  · refine ⟨_, (h1.ext (E.trans e3)).cell (i := 0) rfl rfl, _, (hx.ext e3).cell (i := 0) (add_blk _ _) rfl, _, (h3.ext (E.trans e3)).cell (i := 0) rfl rfl, do_call Try.call93 (c_compare he hhi fun w4 e4 => retS_ret ⟨_, rfl, ?_⟩)⟩
    have := h _ ((e2.trans e3).trans e4)
    unfold wR at this
    rw [g1, Bool.true_and] at this
    exact this
  · have := h _ (e2.trans e3)
    unfold wR at this
    rw [g1, Bool.false_and] at this
    exact this
/-- what the four and Range answer -/
def setL (o p : Int) (want : Ke → Bool) (a b : List Pr) : List Pr := cond (mayR o a && mayR o b && may p) (someL o p want a b) []
def setE (o p : Int) (a b : List Pr) : Int := cond (mayR o a && mayR o b && may p) 0 2
theorem someL_len (o p : Int) (want : Ke → Bool) (a b : List Pr) : (someL o p want a b).length ≤ a.length + b.length :=
  Nat.le_trans (outL_len _ _ _) (mg_len _ _ _)
theorem setL_len (o p : Int) (want : Ke → Bool) (a b : List Pr) : (setL o p want a b).length ≤ a.length + b.length := by
  unfold setL; cases (mayR o a && mayR o b && may p)
  · exact Nat.zero_le _
  · exact someL_len _ _ _ _ _
theorem inv_outL {p : Int} {want : Ke → Bool} {l : List Ke} (h : ∀ e ∈ l, In e.key ∧ In e.a ∧ In e.b) : InP (outL p want l) := by
  intro x hx
  unfold outL at hx
  obtain ⟨e, he, rfl⟩ := List.mem_map.1 hx
  have := h e (List.mem_filter.1 he |>.1)
  refine ⟨this.1, ?_⟩
  unfold valK
  split
  · exact comb_in this.2.1 this.2.2
  · exact wrap_in _
theorem setL_in {o p : Int} {want : Ke → Bool} {a b : List Pr} (ha : InP a) (hb : InP b) : InP (setL o p want a b) := by
  unfold setL; cases (mayR o a && mayR o b && may p)
  · intro x hx; cases hx
  · exact inv_outL fun e he => mg_in o a b ha hb e he
section
variable {o p : Int} {a b : List Pr} {qa qb : Option Addr} {na ca nb cb : Nat} {w : World} {R : Ending → World → Prop}
theorem c_un (hla : Cs w qa (prs a)) (hna : a.length = na) (hca : na ≤ ca) (hlb : Cs w qb (prs b)) (hnb : b.length = nb) (hcb : nb ≤ cb) (hm : na + nb ≤ 1000000) (hIa : InP a) (hIb : InP b)
    (h : ∀ p' n' c' w', OwnP w' w.heap.size p' n' c' (setL o p wU a b) → Ext w w' → R (.returned (.tuple #[.slice p' n' c', .int .i64 (setE o p a b)])) w') :
    Calls Try.prog 55 #[.int .u8 o, .int .u8 p, .slice qa na ca, .slice qb nb cb] w R := by
  refine sh55_ok _ _ _ _ _ _ _ _ ?_
  unfold sh55
  exact do_call Try.call99 (c_some wn_u hla hna hca hlb hnb hcb hm hIa hIb fun p' n' c' w' h1 e1 => retS_ret ⟨_, _, _, _, rfl, h _ _ _ _ h1 e1⟩)
theorem c_me (hla : Cs w qa (prs a)) (hna : a.length = na) (hca : na ≤ ca) (hlb : Cs w qb (prs b)) (hnb : b.length = nb) (hcb : nb ≤ cb) (hm : na + nb ≤ 1000000) (hIa : InP a) (hIb : InP b)
    (h : ∀ p' n' c' w', OwnP w' w.heap.size p' n' c' (setL o p wM a b) → Ext w w' → R (.returned (.tuple #[.slice p' n' c', .int .i64 (setE o p a b)])) w') :
    Calls Try.prog 56 #[.int .u8 o, .int .u8 p, .slice qa na ca, .slice qb nb cb] w R := by
  refine sh56_ok _ _ _ _ _ _ _ _ ?_
  unfold sh56
  exact do_call Try.call99 (c_some wn_m hla hna hca hlb hnb hcb hm hIa hIb fun p' n' c' w' h1 e1 => retS_ret ⟨_, _, _, _, rfl, h _ _ _ _ h1 e1⟩)
theorem c_le (hla : Cs w qa (prs a)) (hna : a.length = na) (hca : na ≤ ca) (hlb : Cs w qb (prs b)) (hnb : b.length = nb) (hcb : nb ≤ cb) (hm : na + nb ≤ 1000000) (hIa : InP a) (hIb : InP b)
    (h : ∀ p' n' c' w', OwnP w' w.heap.size p' n' c' (setL o 1 wL a b) → Ext w w' → R (.returned (.tuple #[.slice p' n' c', .int .i64 (setE o 1 a b)])) w') :
    Calls Try.prog 57 #[.int .u8 o, .slice qa na ca, .slice qb nb cb] w R := by
  refine sh57_ok _ _ _ _ _ _ _ ?_
  unfold sh57
  exact do_call Try.call99 (c_some wn_l hla hna hca hlb hnb hcb hm hIa hIb fun p' n' c' w' h1 e1 => retS_ret ⟨_, _, _, _, rfl, h _ _ _ _ h1 e1⟩)
theorem c_ap (hla : Cs w qa (prs a)) (hna : a.length = na) (hca : na ≤ ca) (hlb : Cs w qb (prs b)) (hnb : b.length = nb) (hcb : nb ≤ cb) (hm : na + nb ≤ 1000000) (hIa : InP a) (hIb : InP b)
    (h : ∀ p' n' c' w', OwnP w' w.heap.size p' n' c' (setL o 1 wA a b) → Ext w w' → R (.returned (.tuple #[.slice p' n' c', .int .i64 (setE o 1 a b)])) w') :
    Calls Try.prog 58 #[.int .u8 o, .slice qa na ca, .slice qb nb cb] w R := by
  refine sh58_ok _ _ _ _ _ _ _ ?_
  unfold sh58
  exact do_call Try.call99 (c_some wn_a hla hna hca hlb hnb hcb hm hIa hIb fun p' n' c' w' h1 e1 => retS_ret ⟨_, _, _, _, rfl, h _ _ _ _ h1 e1⟩)
theorem c_range {lo hi : Int} (hlo : In lo) (hhi : In hi) (hla : Cs w qa (prs a)) (hna : a.length = na) (hca : na ≤ ca) (hm : na ≤ 1000000) (hIa : InP a)
    (h : ∀ p' n' c' w', OwnP w' w.heap.size p' n' c' (setL o 1 (wR o lo hi) a []) → Ext w w' → R (.returned (.tuple #[.slice p' n' c', .int .i64 (setE o 1 a [])])) w') :
    Calls Try.prog 64 #[.int .u8 o, .slice qa na ca, .int .i64 lo, .int .i64 hi] w R := by
  refine sh64_ok _ _ _ _ _ _ ?_
  unfold sh64
  refine ⟨⟨⟨?_⟩⟩⟩
  have e1 := ext_alloc w (.cells #[.int .u8 o] 5)
  have h1 := blk_alloc w #[.int .u8 o] 5
  generalize w.alloc (.cells #[.int .u8 o] 5) = w1 at *
  have e2 := ext_alloc w1 (.cells #[.int .i64 lo] 2)
  have h2 := blk_alloc w1 #[.int .i64 lo] 2
  generalize w1.alloc (.cells #[.int .i64 lo] 2) = w2 at *
  have e3 := ext_alloc w2 (.cells #[.int .i64 hi] 2)
  have h3 := blk_alloc w2 #[.int .i64 hi] 2
  generalize w2.alloc (.cells #[.int .i64 hi] 2) = w3 at *
  have E := (e1.trans e2).trans e3
  refine ⟨_, ((h1.ext e2).ext e3).cell (i := 0) rfl rfl, ?_⟩
  refine do_call Try.call99 (c_some (b := []) (wn_r ((h1.ext e2).ext e3) (h2.ext e3) h3 hlo hhi) (hla.ext E) hna hca (cs_nil _ _) rfl (Nat.le_refl _) (by omega) hIa (by intro x hx; cases hx) fun p' n' c' w' g1 g2 => retS_ret ⟨_, _, _, _, rfl, h _ _ _ _ (row_mono g1 E.size) (E.trans g2)⟩)
end
def cutA (o : Int) (l : List Pr) (key : Int) : List Pr := cond (mayR o l) (l.take (posR o l key)) []
def cutB (o : Int) (l : List Pr) (key : Int) : List Pr := cond (mayR o l) (l.drop (posR o l key + (if hasR o l key then 1 else 0))) []
theorem c_cut {o key : Int} {l : List Pr} {q : Option Addr} {n c : Nat} {w : World} {R : Ending → World → Prop} (hl : Cs w q (prs l)) (hn : l.length = n) (hnc : n ≤ c) (hm : n ≤ 1000000000000) (hI : InP l) (hk : In key)
    (h : ∀ p1 n1 c1 p2 n2 c2 w', Cs w' p1 (prs (cutA o l key)) → (cutA o l key).length = n1 → n1 ≤ c1 → Cs w' p2 (prs (cutB o l key)) → (cutB o l key).length = n2 → n2 ≤ c2 → Ext w w' →
      R (.returned (.tuple #[.slice p1 n1 c1, .int .i64 (getR o l key), .bool (hasR o l key), .slice p2 n2 c2])) w') :
    Calls Try.prog 66 #[.int .u8 o, .slice q n c, .int .i64 key] w R := by
  refine sh66_ok _ _ _ _ _ ?_
  unfold sh66
  refine do_call Try.call40 (c_may hl hn (by omega) hI fun w1 e1 => retS_ret ⟨_, rfl, ?_⟩)
  cases hmay : mayR o l
  · refine ifB_t rfl ?_
    have hh : hasR o l key = false := by unfold hasR; rw [hmay]; rfl
    have hr := h none 0 0 none 0 0 w1
    simp only [cutA, cutB, getR, hh, hmay, cond_false] at hr
    exact hr (cs_nil _ _) rfl (Nat.le_refl _) (cs_nil _ _) rfl (Nat.le_refl _) e1
  refine ifB_f rfl ?_
  refine do_call Try.call25 (c_rowfind (hl.ext e1) hn (by omega) hI hk fun w2 e2 => retS_ret ⟨_, _, rfl, ⟨?_⟩⟩)
  have hle := posR_le o l key
  have E2 := (e1.trans e2).trans (ext_drew w2)
  have hl2 := hl.ext E2
  refine sl_flat (ec := fun x : Pr => [.int .i64 x.1, .int .i64 x.2]) (s := 2) (fun _ => rfl) (by omega) hl2 hn hnc (a := 0) (b := posR o l key) rfl rfl (by omega) (by omega) fun p1 h1 => ?_
  refine sl_flat (ec := fun x : Pr => [.int .i64 x.1, .int .i64 x.2]) (s := 2) (fun _ => rfl) (by omega) hl2 hn hnc (a := posR o l key) (b := n) rfl rfl (by omega) (by omega) fun p2 h2 => ?_
  have h1 := h1 _ hl2
  have h2 := h2 _ hl2
  rw [List.drop_zero] at h1
  rw [List.take_of_length_le (by omega)] at h2
  refine do_call Try.call87 (c_clone h1 (by simp; omega) (by omega) fun p3 c3 w3 g3 e3 => retS_ret ⟨_, _, _, rfl, ?_⟩)
  refine do_call Try.call87 (c_clone (h2.ext e3) (by simp; omega) (by omega) fun p4 c4 w4 g4 e4 => retS_ret ⟨_, _, _, rfl, ?_⟩)
  have hA : cutA o l key = l.take (posR o l key) := by unfold cutA; rw [hmay]; rfl
  have hB : cutB o l key = l.drop (posR o l key + (if hasR o l key then 1 else 0)) := by unfold cutB; rw [hmay]; rfl
  have h3 := (ownP_cs g3).ext e4
  have hc3 : posR o l key - 0 ≤ c3 := row_cap g3
  have hc4 : n - posR o l key ≤ c4 := row_cap g4
  cases hh : hasR o l key
  · refine ifB_f rfl ?_
    rw [hh] at hB
    have hg : getR o l key = 0 := get_none hh
    have hr := h p3 _ c3 p4 _ c4 w4 (by rw [hA]; exact h3) (by rw [hA]; simp; omega) hc3 (by rw [hB]; exact ownP_cs g4) (by rw [hB]; simp; omega) hc4 ((E2.trans e3).trans e4)
    rw [hg, hh] at hr
    exact hr
  · refine ifB_t rfl ?_
    rw [hh] at hB
    have hlt := hasR_lt hh
    refine ⟨⟨fun w' => Ext w4 w', ext_drew _, ?_⟩⟩
    have h4 := ownP_cs g4
    refine ix_prC (fun w' e' => h4.ext e') (ext_refl _) (by simp; omega) (k := 0) rfl (by omega) fun a _ r2 => ⟨_, r2, ?_⟩
    refine sl_flat (ec := fun x : Pr => [.int .i64 x.1, .int .i64 x.2]) (s := 2) (fun _ => rfl) (by omega) (h4.ext (ext_drew _)) (by simp; omega) hc4 (a := 1) (b := n - posR o l key) rfl rfl (by omega) (by omega) fun p5 h5 => ?_
    have h5 := h5 _ (h4.ext (ext_drew _))
    rw [List.take_of_length_le (by simp; omega), List.drop_drop] at h5
    have hg : getR o l key = ((l.drop (posR o l key))[0]'(by simp; omega)).2 := by
      unfold getR; rw [hh, cond_true, List.getElem_drop, getD_of hlt]; rfl
    have hr := h p3 (posR o l key - 0) c3 p5 (n - posR o l key - 1) (c4 - 1) _ (by rw [hA]; exact h3.ext (ext_drew _)) (by rw [hA, List.length_take]; omega) hc3 (by rw [hB]; exact h5) (by rw [hB, if_pos rfl, List.length_drop]; omega) (by omega) (((E2.trans e3).trans e4).trans (ext_drew _))
    rw [hh, hg] at hr
    exact hr
end Go.Proofs.Ytinkkhcffoikmaa
