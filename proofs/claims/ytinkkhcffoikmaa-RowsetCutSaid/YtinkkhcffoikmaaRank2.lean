/-
  Ranks, Select, Many, and the document's Rank, Pairs, Select.
-/
import Derived.Test.YtinkkhcffoikmaaRank
namespace Go.Proofs.Ytinkkhcffoikmaa
open Go Go.Sh Go.RowKit

set_option maxRecDepth 20000 in
theorem elN : ElT Try.prog 24 3 (.int .i64 0) 1 8 := ⟨Try.underlying24, ⟨_, Try.type3, by kernel_rfl, by kernel_rfl, by kernel_rfl⟩, rfl, by omega⟩
theorem c_ranks {o : Int} {keys : List Int} {t : Tr} {pt q : Option Addr} {n c : Nat} {w : World} {R : Ending → World → Prop} (ht : IsN w pt t) (hA : AllK t) (hs : t.size ≤ 4611686018427387903) (hl : Cs w q (ints keys)) (hn : keys.length = n) (hm : n ≤ 1000000000000) (hk : ∀ k ∈ keys, In k)
    (h : ∀ p c' w', w'.ownsRow w.heap.size 3 1 (.slice p n c') n (ints (keys.map fun k => (rankR o t k : Int))) → Ext w w' → R (.returned (.slice p n c')) w') : Calls Try.prog 16 #[.int .u8 o, .pointer pt, .slice q n c] w R := by
  refine sh16_ok _ _ _ _ _ ?_
  unfold sh16
  refine ⟨fun vs w' => ∃ (p : Option Addr) (k c' : Nat), vs = [.slice p k c', .int .i64 (k : Nat)] ∧ k ≤ n ∧ Ext w w' ∧ w'.ownsRow w.heap.size 3 1 (.slice p k c') k (ints ((keys.take k).map fun k => (rankR o t k : Int))), fun vs _ => n - (intOf (vs.getD 1 undef)).toNat,
    ⟨none, 0, 0, rfl, by omega, ext_refl w, World.ownsRow_nil _ _ _ _⟩, ?_⟩
  rintro p1 n1 c1 i1 _ w1 ⟨p, k, c', hv, hk', E, ho⟩
  simp only [List.cons.injEq, Value.slice.injEq, Value.int.injEq, true_and, and_true] at hv
  obtain ⟨⟨rfl, rfl, rfl⟩, rfl⟩ := hv
  refine ifB_intro (fun hlt => ?_) fun hge => ?_
  · have hlt : n1 < n := by have := of_decide_eq_true hlt; omega
    refine ix_int (hl.ext E) hn (by omega) (by omega) fun a ha hc => ⟨_, hc, ?_⟩
    rw [Int.toNat_natCast, List.getD_eq_getElem?_getD, List.getElem?_eq_getElem (by omega), Option.getD_some]
    refine do_call Try.call17 (c_rank (ht.ext E) (hk _ (List.getElem_mem _)) hA hs fun w2 e2 => retS_ret ⟨_, _, rfl, ⟨?_⟩⟩)
    have e3 := ext_alloc w2 (.cells #[.int .i64 (rankR o t (keys[n1]'(by omega)) : Nat)] 3)
    have ho3 := (e2.trans e3).row ho
    refine do_app elN ho3 (m := 1) (cs_alloc w2 _ _) (by simp) (by simp [Value.oneCell']) (by simp only [maxLen]; omega) (by omega) (Nat.le_trans E.size (e2.trans e3).size) fun p' c' w4 h4 g4 => retS_ret ⟨_, _, _, rfl, ?_⟩
    refine ⟨⟨p', n1 + 1, c', ?_, by omega, (E.trans (e2.trans e3)).grown g4 fun k hk => (World.ownsRow.lt ho3 k hk).1, ?_⟩, ?_⟩
    · rw [wrap_succ hlt (by omega)]
    · rw [show keys.take (n1 + 1) = keys.take n1 ++ [keys[n1]'(by omega)] from (List.take_append_getElem (by omega)).symm, List.map_append, ints_append]; exact h4
    · rw [wrap_succ hlt (by omega)]; simp [intOf]; omega
  · have hge : n1 = n := by have := of_decide_eq_false hge; omega
    subst hge
    rw [← hn, List.take_length] at ho
    rw [hn] at ho
    exact h _ _ _ ho E
/-- the pair at a place -/
def selR (t : Tr) (n : Int) : Pr := if 0 ≤ n ∧ n < (t.size : Int) then t.pairs.getD n.toNat (0, 0) else (0, 0)
def selE (t : Tr) (n : Int) : Int := if 0 ≤ n ∧ n < (t.size : Int) then 0 else 320
theorem pairs_left {l r : Tr} {k v g : Int} {m : Nat} (h : m < l.size) : (Tr.node l k v g r).pairs.getD m (0, 0) = l.pairs.getD m (0, 0) := by
  have : m < l.pairs.length := by rw [Tr.pairs_length]; exact h
  simp only [Tr.pairs, List.getD_eq_getElem?_getD]
  rw [List.getElem?_append_left this]
theorem pairs_mid {l r : Tr} {k v g : Int} : (Tr.node l k v g r).pairs.getD l.size (0, 0) = (k, v) := by
  simp only [Tr.pairs, List.getD_eq_getElem?_getD]
  rw [List.getElem?_append_right (by rw [Tr.pairs_length]; exact Nat.le_refl _), Tr.pairs_length, Nat.sub_self]; rfl
theorem pairs_right {l r : Tr} {k v g : Int} {m : Nat} (h : l.size < m) : (Tr.node l k v g r).pairs.getD m (0, 0) = r.pairs.getD (m - l.size - 1) (0, 0) := by
  simp only [Tr.pairs, List.getD_eq_getElem?_getD]
  rw [List.getElem?_append_right (by rw [Tr.pairs_length]; omega), Tr.pairs_length]
  obtain ⟨d, hd⟩ : ∃ d, m - l.size = d + 1 := ⟨m - l.size - 1, by omega⟩
  rw [hd, List.getElem?_cons_succ, Nat.add_sub_cancel]
set_option maxRecDepth 20000 in
theorem c_select {t : Tr} {pt : Option Addr} {n : Int} {w : World} {R : Ending → World → Prop} (ht : IsN w pt t) (hs : t.size ≤ 4611686018427387903)
    (h : ∀ w', Ext w w' → R (.returned (.tuple #[agP (selR t n), .int .i64 (selE t n)])) w') : Calls Try.prog 20 #[.pointer pt, .int .i64 n] w R := by
  refine sh20_ok _ _ ?_
  unfold sh20
  refine ⟨?_⟩
  have e1 := ext_alloc w (.cells #[.int .i64 0, .int .i64 0] 38)
  have hb := blk_alloc w #[.int .i64 0, .int .i64 0] 38
  generalize hb0 : w.heap.size = b at *
  generalize w.alloc (.cells #[.int .i64 0, .int .i64 0] 38) = w1 at *
  have hno : ∀ {w' : World}, Ext w w' → Blk w' b #[.int .i64 0, .int .i64 0] 38 → ¬ (0 ≤ n ∧ n < (t.size : Int)) →
      doSt ((blk b).add 0) (.int .i64 0) w' (fun w10 => doSt ((blk b).add 1) (.int .i64 0) w10 (fun w11 => ∃ (x12 : Int), World.cell? w11 ((blk b).add 0) = some (.int .i64 x12) ∧ (
        ∃ (x13 : Int), World.cell? w11 ((blk b).add 1) = some (.int .i64 x13) ∧ (R (.returned (.tuple #[.agg #[.int .i64 x12, .int .i64 x13], .int .i64 320])) w11)))) := by
    intro w' e' hb' hn
    refine do_st2 hb' fun w2 h2 g2 => ⟨_, h2.cell (i := 0) rfl rfl, _, h2.cell (i := 1) rfl rfl, ?_⟩
    have hr := h w2 (e'.st g2 (by omega))
    unfold selR selE at hr
    rw [if_neg hn, if_neg hn] at hr
    exact hr
  refine ifB_intro (fun h0 => hno e1 hb (by have := of_decide_eq_true h0; omega)) fun h0 => ?_
  have h0 : 0 ≤ n := by have := of_decide_eq_false h0; omega
  refine do_call Try.call74 (c_tsize (ht.ext e1) fun w2 e2 => retS_ret ⟨_, rfl, ?_⟩)
  refine ifB_intro (fun h1 => hno (e1.trans e2) (hb.ext e2) (by have := of_decide_eq_true h1; omega)) fun h1 => ?_
  have h1 : n < (t.size : Int) := by have := of_decide_eq_false h1; omega
  have hr : selR t n = t.pairs.getD n.toNat (0, 0) := if_pos ⟨h0, h1⟩
  have he : selE t n = 0 := if_pos ⟨h0, h1⟩
  rw [hr, he] at h
  refine ⟨fun vs w' => ∃ (s : Tr) (p : Option Addr) (m : Nat), vs = [.pointer p, .int .i64 (m : Int)] ∧ IsN w' p s ∧ Ext w w' ∧ Blk w' b #[.int .i64 0, .int .i64 0] 38 ∧ m < s.size ∧ s.size ≤ t.size ∧ s.pairs.getD m (0, 0) = t.pairs.getD n.toNat (0, 0), fun vs w' => szAt (vs.getD 0 undef) w',
    ⟨t, pt, n.toNat, by rw [Int.toNat_of_nonneg h0], ht.ext (e1.trans e2), e1.trans e2, hb.ext e2, by omega, Nat.le_refl _, rfl⟩, ?_⟩
  rintro p m' _ w3 ⟨s, p', m, hv, hN, E, hb3, hms, hst, hpr⟩
  simp only [List.cons.injEq, Value.pointer.injEq, Value.int.injEq, true_and, and_true] at hv
  obtain ⟨rfl, rfl⟩ := hv
  cases s with
  | nil => exact absurd hms (Nat.not_lt_zero _)
  | node l k v g r =>
    simp only [Tr.size] at hms hst
    refine do_call Try.call73 (c_left hN fun ql hql => retS_ret ⟨_, rfl, ?_⟩)
    refine do_call Try.call74 (c_tsize hql fun w4 e4 => retS_ret ⟨_, rfl, ?_⟩)
    have hN4 := hN.ext e4
    simp only [Tr.left] at *
    have hmu : ∀ {q' : Option Addr} {s' : Tr} {w' : World}, IsN w' q' s' → s'.size < (Tr.node l k v g r).size → szAt (.pointer q') w' < szAt (.pointer p) w3 := fun h1 h2 => by rw [szAt_of h1, szAt_of hN]; exact h2
    refine ifB_intro (fun h2 => ?_) fun h2 => ?_
    · have h2 : m < l.size := by have := of_decide_eq_true h2; omega
      refine do_call Try.call73 (c_left hN4 fun q2 hq2 => retS_ret ⟨_, rfl, ⟨l, q2, m, rfl, hq2, E.trans e4, hb3.ext e4, h2, by omega, ?_⟩, ?_⟩)
      · rw [← hpr, pairs_left h2]
      · exact hmu hq2 (by simp only [Tr.left, Tr.size]; omega)
    · have h2 : l.size ≤ m := by have := of_decide_eq_false h2; omega
      refine ifB_intro (fun h3 => ?_) fun h3 => ?_
      · have h3 : m = l.size := Int.ofNat_inj.1 (by simpa using h3)
        subst h3
        rw [pairs_mid] at hpr
        refine do_call Try.call76 (c_key hN4 fun w5 e5 => retS_ret ⟨_, rfl, ?_⟩)
        refine do_call Try.call77 (c_val (hN4.ext e5) fun w6 e6 => retS_ret ⟨_, rfl, ?_⟩)
        have e46 := (e4.trans e5).trans e6
        refine do_st2 (hb3.ext e46) fun w7 h7 g7 => ⟨_, h7.cell (i := 0) rfl rfl, _, h7.cell (i := 1) rfl rfl, ?_⟩
        have := h w7 ((E.trans e46).st g7 (by omega))
        rw [← hpr] at this
        exact this
      · have h3 : ¬ (m : Int) = l.size := by simpa using h3
        have e : IntKind.wrap .i64 (IntKind.wrap .i64 ((m : Int) - (l.size : Int)) - 1) = ((m - l.size - 1 : Nat) : Int) := by
          rw [wrap_of (x := (m : Int) - (l.size : Int)) (by omega) (by omega), wrap_of (by omega) (by omega)]; omega
        rw [e]
        refine do_call Try.call78 (c_right hN4 fun q2 hq2 => retS_ret ⟨_, rfl, ⟨r, q2, m - l.size - 1, rfl, hq2, E.trans e4, hb3.ext e4, by omega, by omega, ?_⟩, ?_⟩)
        · rw [← hpr, pairs_right (by omega)]
        · exact hmu hq2 (by simp only [Tr.right, Tr.size]; omega)
/-- the pairs at places, and the error -/
def manyR (t : Tr) (l : List Int) : List Pr := if l.all (fun n => selE t n == 0) then l.map (selR t) else []
def manyE (t : Tr) (l : List Int) : Int := if l.all (fun n => selE t n == 0) then 0 else 320
set_option maxRecDepth 20000 in
theorem c_many {t : Tr} {l : List Int} {pt q : Option Addr} {n c : Nat} {w : World} {R : Ending → World → Prop} (ht : IsN w pt t) (hs : t.size ≤ 4611686018427387903) (hl : Cs w q (ints l)) (hn : l.length = n) (hm : n ≤ 1000000000000)
    (h : ∀ p n' c' w', OwnP w' w.heap.size p n' c' (manyR t l) → Ext w w' → R (.returned (.tuple #[.slice p n' c', .int .i64 (manyE t l)])) w') : Calls Try.prog 19 #[.pointer pt, .slice q n c] w R := by
  refine sh19_ok _ _ _ _ ?_
  unfold sh19
  refine ⟨fun vs w' => ∃ (p : Option Addr) (k c' : Nat), vs = [.slice p k c', .int .i64 (k : Nat)] ∧ k ≤ n ∧ Ext w w' ∧ OwnP w' w.heap.size p k c' ((l.take k).map (selR t)) ∧ (l.take k).all (fun n => selE t n == 0) = true, fun vs _ => n - (intOf (vs.getD 1 undef)).toNat,
    ⟨none, 0, 0, rfl, by omega, ext_refl w, ownP_nil _ _, rfl⟩, ?_⟩
  rintro p1 n1 c1 i1 _ w1 ⟨p, k, c', hv, hk', E, ho, hall⟩
  simp only [List.cons.injEq, Value.slice.injEq, Value.int.injEq, true_and, and_true] at hv
  obtain ⟨⟨rfl, rfl, rfl⟩, rfl⟩ := hv
  refine ifB_intro (fun hlt => ?_) fun hge => ?_
  · have hlt : n1 < n := by have := of_decide_eq_true hlt; omega
    have htk : l.take (n1 + 1) = l.take n1 ++ [l[n1]'(by omega)] := (List.take_append_getElem (by omega)).symm
    refine ix_int (hl.ext E) hn (by omega) (by omega) fun a ha hc => ⟨_, hc, ?_⟩
    rw [Int.toNat_natCast, List.getD_eq_getElem?_getD, List.getElem?_eq_getElem (by omega), Option.getD_some]
    refine do_call Try.call20 (c_select (ht.ext E) hs fun w2 e2 => retS_ret ⟨_, _, _, rfl, ⟨?_⟩⟩)
    refine do_st2 (blk_alloc w2 _ _) fun w3 h3 g3 => ?_
    have e3 : Ext w2 w3 := (ext_alloc w2 _).st g3 (Nat.le_refl _)
    have E3 := E.trans (e2.trans e3)
    refine ifB_intro (fun he => ?_) fun he => ?_
    · have he : ¬ selE t (l[n1]'(by omega)) = 0 := by simpa using he
      have hne : l.all (fun n => selE t n == 0) = false := by
        rw [← Bool.not_eq_true, List.all_eq_true]
        exact fun hall => he (by simpa using hall _ (List.getElem_mem (show n1 < l.length by omega)))
      have h320 : selE t (l[n1]'(by omega)) = 320 := by unfold selE at he ⊢; split at he <;> simp_all
      have hr := h none 0 0 w3
      unfold manyR manyE at hr
      rw [hne] at hr
      rw [h320]
      exact hr (ownP_nil _ _) E3
    · have he : selE t (l[n1]'(by omega)) = 0 := by simpa using he
      refine ⟨_, h3.cell (i := 0) (add_blk _ _) rfl, _, h3.cell (i := 1) (add_blk _ _) rfl, ⟨?_⟩⟩
      have e4 := ext_alloc w3 (.cells #[.int .i64 (selR t (l[n1]'(by omega))).1, .int .i64 (selR t (l[n1]'(by omega))).2] 38)
      have ho4 := row_to ho ((e2.trans e3).trans e4) (Nat.le_refl _)
      refine do_app elP ho4 (m := 1) (cs_alloc w3 _ _) (by simp) (by simp [Value.oneCell']) (by simp only [maxLen]; omega) (by omega) (Nat.le_trans E3.size e4.size) fun p' c' w5 h5 g5 => retS_ret ⟨_, _, _, rfl, ?_⟩
      refine ⟨⟨p', n1 + 1, c', ?_, by omega, ext_own ho4 (E3.trans e4) g5 (Nat.le_refl _), ?_, ?_⟩, ?_⟩
      · rw [wrap_succ hlt (by omega)]
      · rw [htk, List.map_append]; unfold OwnP; rw [prs_append]; exact h5
      · rw [htk, List.all_append, hall]; simp [he]
      · rw [wrap_succ hlt (by omega)]; simp [intOf]; omega
  · have hge : n1 = n := by have := of_decide_eq_false hge; omega
    subst hge
    rw [List.take_of_length_le (by omega)] at ho hall
    have hr := h p1 n1 c1 w1
    unfold manyR manyE at hr
    rw [hall] at hr
    exact hr ho E
/-! ### The document's answers -/
set_option maxRecDepth 20000 in
theorem c_pairs : ∀ (t : BT) {q : Option Addr} {n c : Nat} {w : World} {R : Ending → World → Prop} (_hl : Cs w q (bds t.beads)) (_hn : t.size = n) (_hnc : n ≤ c) (_hw : t.wf = true) (_hm : n ≤ 5000)
    (_h : ∀ p n' c' w', OwnP w' w.heap.size p n' c' t.tr.pairs → Ext w w' → R (.returned (.slice p n' c')) w'), Calls Try.prog 79 #[.slice q n c] w R
  | .nil, q, n, c, w, R, hl, hn, hnc, hw, hm, h => by
    refine sh79_ok _ _ _ ?_
    unfold sh79
    have : n = 0 := by rw [← hn]; rfl
    subst this
    exact ifB_t rfl (h _ _ _ _ (ownP_nil _ _) (ext_refl w))
  | .node x L Rt, q, n, c, w, R, hl, hn, hnc, hw, hm, h => by
    refine sh79_ok _ _ _ ?_
    unfold sh79
    have hsz := BT.size_node x L Rt
    obtain ⟨_, _, w2f, w3f⟩ := BT.wf_node hw
    refine ifB_f (by simp; omega) ?_
    refine do_call Try.call70 (c_parts hl hn hnc hw hm fun p1 c1 p2 c2 w1 e1 hp h1 h2 => retS_ret ⟨_, _, _, _, _, _, _, _, _, _, _, _, _, rfl, ⟨?_⟩⟩)
    refine do_st7 (blk_alloc w1 _ _) fun w2 hb2 g2 => ?_
    have e2 : Ext w1 w2 := (ext_alloc w1 _).st g2 (Nat.le_refl _)
    have E2 := e1.trans e2
    have hcs := fun (w'' : World) (e : Ext w2 w'') => hp w'' (hl.ext (E2.trans e))
    have hLp : L.tr.pairs.length = L.size := by rw [Tr.pairs_length, BT.tr_size]
    have hRp : Rt.tr.pairs.length = Rt.size := by rw [Tr.pairs_length, BT.tr_size]
    -- what is right of it, behind what there is
    have hK : ∀ {out : Option Addr} {on oc : Nat} {w' : World}, Ext w w' → OwnP w' w.heap.size out on oc (L.tr.pairs ++ [(x.key, x.val)]) → (∀ w'', Ext w' w'' → Cs w'' p2 (bds Rt.beads)) →
        doCall Try.prog (.func (.func 79) #[] #[]) #[.slice p2 Rt.size c2] w' (retS (fun v36 w37 => ∃ (xp33 : Option Addr), ∃ (xn34 : Nat), ∃ (xc35 : Nat), v36 = (.slice xp33 xn34 xc35 : Value) ∧ (
          doGo Try.prog (.builtin .append #[33, 33] 33 #[false, false]) #[.slice out on oc, .slice xp33 xn34 xc35] w37 (retS (fun v41 w42 => ∃ (xp38 : Option Addr), ∃ (xn39 : Nat), ∃ (xc40 : Nat), v41 = (.slice xp38 xn39 xc40 : Value) ∧ (
          R (.returned (.slice xp38 xn39 xc40)) w42)) (fun ch w => Kfn R ch [] w)))) (fun ch w => Kfn R ch [] w)) := by
      intro out on oc w' E' ho' hR'
      refine do_call Try.call79 (c_pairs Rt (hR' _ (ext_refl _)) rfl h2 w3f (by omega) fun p5 n5 c5 w5 h5 e5 => retS_ret ⟨_, _, _, rfl, ?_⟩)
      have hon := ownP_len ho'
      have hn5 := ownP_len h5
      simp only [List.length_append, List.length_cons, List.length_nil] at hon
      have ho5 := row_to ho' e5 (Nat.le_refl _)
      refine do_app elP ho5 (ownP_cs h5) (by simp [hn5]) prs_one (by simp only [maxLen]; omega) (by omega) (Nat.le_trans E'.size e5.size) fun p6 c6 w6 h6 g6 => retS_ret ⟨_, _, _, rfl, ?_⟩
      refine h _ _ _ _ ?_ (ext_own ho5 (E'.trans e5) g6 (Nat.le_refl _))
      show w6.ownsRow _ _ _ _ _ (prs (L.tr.pairs ++ (x.key, x.val) :: Rt.tr.pairs))
      rw [show L.tr.pairs ++ (x.key, x.val) :: Rt.tr.pairs = (L.tr.pairs ++ [(x.key, x.val)]) ++ Rt.tr.pairs by simp, prs_append]
      exact h6
    refine ⟨⟨fun w' => Ext w2 w', ext_drew _, _, fun w' e => (hb2.ext e).cell (i := 0) (add_blk _ _) rfl, _, fun w' e => (hb2.ext e).cell (i := 1) (add_blk _ _) rfl, ?_, ?_⟩⟩
    · refine do_call Try.call79 (c_pairs L (hcs _ (ext_drew _)).1 rfl h1 w2f (by omega) fun p3 n3 c3 w3 h3 e3 => retS_ret ⟨_, _, _, rfl, (ext_drew w2).trans e3, ⟨?_⟩⟩)
      have e4 := ext_alloc w3 (.cells #[.int .i64 x.key, .int .i64 x.val] 38)
      have E3 := (ext_drew w2).trans e3
      refine ⟨E3.trans e4, ?_⟩
      have hn3 := ownP_len h3
      have ho4 := row_to h3 e4 (Nat.le_refl _)
      refine do_app elP ho4 (m := 1) (cs_alloc w3 _ _) (by simp) (by simp [Value.oneCell']) (by simp only [maxLen]; omega) (by omega) (Nat.le_trans e3.size e4.size) fun p5 c5 w5 h5 g5 => retS_ret ⟨_, _, _, rfl, ?_⟩
      have E5 : Ext w2 w5 := ext_own ho4 (E3.trans e4) g5 (Nat.le_refl _)
      refine ⟨E5, hK (E2.trans E5) ?_ fun w'' e => (hcs _ (E5.trans e)).2⟩
      show w5.ownsRow _ _ _ _ _ _
      rw [prs_append]
      exact row_mono h5 E2.size
    · refine ⟨?_⟩
      have e3 : Ext w2 (w2.drew.alloc (.cells #[.int .i64 x.key, .int .i64 x.val] 38)) := (ext_drew w2).alloc _
      have hx3 := blk_alloc w2.drew #[.int .i64 x.key, .int .i64 x.val] 38
      generalize w2.drew.alloc (.cells #[.int .i64 x.key, .int .i64 x.val] 38) = w3 at *
      refine ⟨e3, ?_⟩
      refine do_call Try.call79 (c_pairs L (hcs _ e3).1 rfl h1 w2f (by omega) fun p4 n4 c4 w4 h4 e4 => retS_ret ⟨_, _, _, rfl, e3.trans e4, ?_⟩)
      have E4 := e3.trans e4
      have hn4 := ownP_len h4
      have hx4 := hx3.ext e4
      refine do_app elP h4 (m := 1) (news := prs [(x.key, x.val)]) (q := some (blk w2.drew.heap.size)) (fun j v hj => ?_) (by simp) prs_one (by simp only [maxLen]; omega) (by omega) e4.size fun p5 c5 w5 h5 g5 => retS_ret ⟨_, _, _, rfl, ?_⟩
      · match j, hj with
        | 0, hj => cases hj; exact ⟨_, rfl, hx4.cell (add_blk _ _) rfl⟩
        | 1, hj => cases hj; exact ⟨_, rfl, hx4.cell (add_blk _ _) rfl⟩
        | j + 2, hj => simp at hj
      have E5 : Ext w2 w5 := ext_own h4 E4 g5 e3.size
      refine ⟨E5, hK (E2.trans E5) ?_ fun w'' e => (hcs _ (E5.trans e)).2⟩
      show w5.ownsRow _ _ _ _ _ _
      rw [prs_append]
      exact row_mono h5 (Nat.le_trans E2.size e3.size)
end Go.Proofs.Ytinkkhcffoikmaa
