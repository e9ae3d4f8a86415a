/-
  Of, Node, Sort, Shape: rows and trees that the statements make.
-/
import Derived.Test.YtinkkhcffoikmaaRank2
import Derived.Test.YtinkkhcffoikmaaLaw4b
namespace Go.Proofs.Ytinkkhcffoikmaa
open Go Go.Sh Go.RowKit

abbrev OwnB (w : World) (base : Nat) (p : Option Addr) (n c : Nat) (l : List Bd) : Prop := w.ownsRow base 88 7 (.slice p n c) n (bds l)
theorem ownB_len {w : World} {base n c : Nat} {p : Option Addr} {l : List Bd} (h : OwnB w base p n c l) : l.length = n := by have := h.1; rw [bds_length] at this; omega
theorem ownB_cs {w : World} {base n c : Nat} {p : Option Addr} {l : List Bd} (h : OwnB w base p n c l) : Cs w p (bds l) := Cs.of_row h
theorem ownB_nil (w : World) (base : Nat) : OwnB w base none 0 0 [] := World.ownsRow_nil _ _ _ _
theorem rowB_to {w w' : World} {base base' n c : Nat} {p : Option Addr} {l : List Bd} (h : OwnB w base p n c l) (e : Ext w w') (hb : base' ≤ base) : OwnB w' base' p n c l := row_mono (e.row h) hb
theorem extB_own {a w w' : World} {base n c : Nat} {p : Option Addr} {l : List Bd} (h : OwnB w base p n c l) (e : Ext a w) (g : w.grownBy w' (Value.slice p n c).ownBlock) (hb : a.heap.size ≤ base) : Ext a w' :=
  e.grown g fun k hk => Nat.le_trans hb (World.ownsRow.lt h k hk).1
theorem c_r9sum {l : List Bd} {q : Option Addr} {n c : Nat} {w : World} {R : Ending → World → Prop} (hl : Cs w q (bds l)) (hn : l.length = n) (hm : n ≤ 1000000000000)
    (h : R (.returned (.int .i64 (sumV l))) w) : Calls Try.prog 134 #[.slice q n c] w R := by
  refine sh134_ok _ _ _ ?_
  unfold sh134
  refine ⟨fun vs w' => ∃ k : Nat, vs = [.int .i64 (sumV (l.take k)), .int .i64 k] ∧ k ≤ n ∧ w' = w, fun vs _ => n - (intOf (vs.getD 1 undef)).toNat, ⟨0, rfl, by omega, rfl⟩, ?_⟩
  rintro v i _ w2 ⟨k, hv, hkn, rfl⟩
  simp only [List.cons.injEq, Value.int.injEq, true_and, and_true] at hv
  obtain ⟨rfl, rfl⟩ := hv
  refine ifB_intro (fun hlt => ?_) fun hge => ?_
  · have hlt : k < n := by have := of_decide_eq_true hlt; omega
    refine ix_flat ecB_len (by omega) hl hn rfl hlt fun a r _ => ⟨_, r 1 _ rfl, ⟨k + 1, ?_, by omega, rfl⟩, ?_⟩
    · rw [wrap_succ hlt (by omega), show l.take (k + 1) = l.take k ++ [l[k]'(by omega)] from (List.take_append_getElem (by omega)).symm]
      simp only [sumV, List.foldl_append, List.foldl_cons, List.foldl_nil]
    · rw [wrap_succ hlt (by omega)]; simp [intOf]; omega
  · have hge : k = n := by have := of_decide_eq_false hge; omega
    subst hge
    rw [List.take_of_length_le (by omega)] at *
    exact h
theorem cs_bd {w : World} {b : Nat} {x : Bd} {t : TypeId} (h : Blk w b #[.int .i64 x.key, .int .i64 x.val, .int .i64 x.sum, .int .i64 x.size, .int .u64 x.tag, .bool x.left, .bool x.right] t) : Cs w (some (blk b)) (bds [x]) := fun i v hv => by
  refine ⟨_, rfl, ?_⟩
  rw [add_blk]
  match i, hv with
  | 0, hv => cases hv; exact h.cell rfl rfl
  | 1, hv => cases hv; exact h.cell rfl rfl
  | 2, hv => cases hv; exact h.cell rfl rfl
  | 3, hv => cases hv; exact h.cell rfl rfl
  | 4, hv => cases hv; exact h.cell rfl rfl
  | 5, hv => cases hv; exact h.cell rfl rfl
  | 6, hv => cases hv; exact h.cell rfl rfl
  | i + 7, hv => simp [ecB] at hv
/-- a bead alone is a row of one's own -/
theorem ownB_one {w : World} (x : Bd) : OwnB (w.alloc (.cells #[.int .i64 x.key, .int .i64 x.val, .int .i64 x.sum, .int .i64 x.size, .int .u64 x.tag, .bool x.left, .bool x.right] 88)) w.heap.size (some (blk w.heap.size)) 1 1 [x] :=
  World.ownsRow_lit (base := w.heap.size) (size := 7) (e := 88) w _ 1 (Nat.le_refl _) (by simp [maxLen]) (by simp)
set_option maxRecDepth 20000 in
theorem c_r9of : ∀ (t : BT) {q : Option Addr} {n c : Nat} {w : World} {R : Ending → World → Prop} (_hl : Cs w q (bds t.beads)) (_hn : t.size = n) (_hnc : n ≤ c) (_hw : t.wf = true) (_hm : n ≤ 5000)
    (_h : ∀ p n' c' w', OwnB w' w.heap.size p n' c' t.of.beads → Ext w w' → R (.returned (.slice p n' c')) w'), Calls Try.prog 114 #[.slice q n c] w R
  | .nil, q, n, c, w, R, hl, hn, hnc, hw, hm, h => by
    refine sh114_ok _ _ _ ?_
    unfold sh114
    have : n = 0 := by rw [← hn]; rfl
    subst this
    exact ifB_t rfl (h _ _ _ _ (ownB_nil _ _) (ext_refl w))
  | .node x L Rt, q, n, c, w, R, hl, hn, hnc, hw, hm, h => by
    refine sh114_ok _ _ _ ?_
    unfold sh114
    have hsz := BT.size_node x L Rt
    obtain ⟨_, _, w2f, w3f⟩ := BT.wf_node hw
    refine ifB_f (by simp; omega) ?_
    refine do_call Try.call70 (c_parts hl hn hnc hw hm fun p1 c1 p2 c2 w1 e1 hp h1 h2 => retS_ret ⟨_, _, _, _, _, _, _, _, _, _, _, _, _, rfl, ⟨?_⟩⟩)
    refine do_st7 (blk_alloc w1 _ _) fun w2 hb2 g2 => ?_
    have e2 : Ext w1 w2 := (ext_alloc w1 _).st g2 (Nat.le_refl _)
    have E2 := e1.trans e2
    have lb : w1.heap.size < w2.heap.size := hb2.lt
    refine do_st (i := 3) hb2 (by rw [add_zero', add_blk]) (by simp) fun w3 hb3 g3 => ?_
    have e3 : Ext w1 w3 := e2.st g3 (Nat.le_refl _)
    have E3 := e1.trans e3
    refine do_call Try.call134 (c_r9sum (hl.ext E3) (by exact hn) (by omega) (retS_ret ⟨_, rfl, ?_⟩))
    refine do_st (i := 2) hb3 (by rw [add_zero', add_blk]) (by simp) fun w4 hb4 g4 => ?_
    have e4 : Ext w1 w4 := e3.st g4 (Nat.le_refl _)
    have E4 := e1.trans e4
    obtain ⟨y, hy⟩ : ∃ y : Bd, y = { x with size := ((BT.node x L Rt).size : Nat), sum := sumV (BT.node x L Rt).beads } := ⟨_, rfl⟩
    have hb4 : Blk w4 w1.heap.size #[.int .i64 y.key, .int .i64 y.val, .int .i64 y.sum, .int .i64 y.size, .int .u64 y.tag, .bool y.left, .bool y.right] 88 := by rw [hy, hn]; exact hb4
    have hof : (BT.node x L Rt).of.beads = y :: (L.of.beads ++ Rt.of.beads) := by rw [hy]; rfl
    have hcs := fun (w'' : World) (e : Ext w4 w'') => hp w'' (hl.ext (E4.trans e))
    have hLs : L.of.beads.length = L.size := BT.of_size L
    have hRs : Rt.of.beads.length = Rt.size := BT.of_size Rt
    -- what is right of it, behind what there is
    have hK : ∀ {out : Option Addr} {on oc : Nat} {w' : World}, Ext w w' → OwnB w' w.heap.size out on oc (y :: L.of.beads) → (∀ w'', Ext w' w'' → Cs w'' p2 (bds Rt.beads)) →
        doCall Try.prog (.func (.func 114) #[] #[]) #[.slice p2 Rt.size c2] w' (retS (fun v36 w37 => ∃ (xp33 : Option Addr), ∃ (xn34 : Nat), ∃ (xc35 : Nat), v36 = (.slice xp33 xn34 xc35 : Value) ∧ (
          doGo Try.prog (.builtin .append #[22, 22] 22 #[false, false]) #[.slice out on oc, .slice xp33 xn34 xc35] w37 (retS (fun v41 w42 => ∃ (xp38 : Option Addr), ∃ (xn39 : Nat), ∃ (xc40 : Nat), v41 = (.slice xp38 xn39 xc40 : Value) ∧ (
          R (.returned (.slice xp38 xn39 xc40)) w42)) (fun ch w => Kfn R ch [] w)))) (fun ch w => Kfn R ch [] w)) := by
      intro out on oc w' E' ho' hR'
      refine do_call Try.call114 (c_r9of Rt (hR' _ (ext_refl _)) rfl h2 w3f (by omega) fun p5 n5 c5 w5 h5 e5 => retS_ret ⟨_, _, _, rfl, ?_⟩)
      have hon := ownB_len ho'
      have hn5 := ownB_len h5
      simp only [List.length_cons] at hon
      have ho5 := rowB_to ho' e5 (Nat.le_refl _)
      refine do_app elB ho5 (ownB_cs h5) (by rw [bds_length, hn5]) bds_one (by simp only [maxLen]; omega) (by omega) (Nat.le_trans E'.size e5.size) fun p6 c6 w6 h6 g6 => retS_ret ⟨_, _, _, rfl, ?_⟩
      refine h _ _ _ _ ?_ (extB_own ho5 (E'.trans e5) g6 (Nat.le_refl _))
      rw [hof]
      show w6.ownsRow _ _ _ _ _ (bds (y :: L.of.beads ++ Rt.of.beads))
      rw [bds_append]
      exact h6
    refine ⟨⟨fun w' => Ext w4 w', ext_drew _, _, fun w' e => (hb4.ext e).cell (i := 0) (add_blk _ _) rfl, _, fun w' e => (hb4.ext e).cell (i := 1) (add_blk _ _) rfl, _, fun w' e => (hb4.ext e).cell (i := 2) (add_blk _ _) rfl, _, fun w' e => (hb4.ext e).cell (i := 3) (add_blk _ _) rfl, _, fun w' e => (hb4.ext e).cell (i := 4) (add_blk _ _) rfl, _, fun w' e => (hb4.ext e).cell (i := 5) (add_blk _ _) rfl, _, fun w' e => (hb4.ext e).cell (i := 6) (add_blk _ _) rfl, ?_, ?_⟩⟩
    · refine ⟨?_⟩
      have ho5 := ownB_one (w := w4.drew) y
      have e5 : Ext w4 (w4.drew.alloc (.cells #[.int .i64 y.key, .int .i64 y.val, .int .i64 y.sum, .int .i64 y.size, .int .u64 y.tag, .bool y.left, .bool y.right] 88)) := (ext_drew w4).alloc _
      generalize w4.drew.alloc (.cells #[.int .i64 y.key, .int .i64 y.val, .int .i64 y.sum, .int .i64 y.size, .int .u64 y.tag, .bool y.left, .bool y.right] 88) = w5 at *
      refine do_call Try.call114 (c_r9of L (hcs _ e5).1 rfl h1 w2f (by omega) fun p6 n6 c6 w6 h6 e6 => retS_ret ⟨_, _, _, rfl, e5.trans e6, ?_⟩)
      have hn6 := ownB_len h6
      have ho6 := rowB_to ho5 e6 (Nat.le_refl _)
      refine do_app elB ho6 (ownB_cs h6) (by rw [bds_length, hn6]) bds_one (by simp only [maxLen]; omega) (by omega) (Nat.le_trans (Nat.le_of_eq rfl) (e5.trans e6).size) fun p7 c7 w7 h7 g7 => retS_ret ⟨_, _, _, rfl, ?_⟩
      have E7 : Ext w4 w7 := extB_own ho6 (e5.trans e6) g7 (Nat.le_refl _)
      refine ⟨E7, hK (E4.trans E7) ?_ fun w'' e => (hcs _ (E7.trans e)).2⟩
      show w7.ownsRow _ _ _ _ _ (bds ([y] ++ L.of.beads))
      rw [bds_append]
      exact row_mono h7 E4.size
    · refine do_call Try.call114 (c_r9of L (hcs _ (ext_drew _)).1 rfl h1 w2f (by omega) fun p6 n6 c6 w6 h6 e6 => retS_ret ⟨_, _, _, rfl, (ext_drew w4).trans e6, ⟨?_⟩⟩)
      have hn6 := ownB_len h6
      have e46 := (ext_drew w4).trans e6
      have ho7 := ownB_one (w := w6) y
      have e7 := ext_alloc w6 (.cells #[.int .i64 y.key, .int .i64 y.val, .int .i64 y.sum, .int .i64 y.size, .int .u64 y.tag, .bool y.left, .bool y.right] 88)
      refine do_app elB ho7 ((ownB_cs h6).ext e7) (by rw [bds_length, hn6]) bds_one (by simp only [maxLen]; omega) (by omega) e7.size fun p8 c8 w8 h8 g8 => retS_ret ⟨_, _, _, rfl, ?_⟩
      have E8 : Ext w4 w8 := extB_own ho7 (e46.trans e7) g8 e46.size
      refine ⟨E8, hK (E4.trans E8) ?_ fun w'' e => (hcs _ (E8.trans e)).2⟩
      show w8.ownsRow _ _ _ _ _ (bds ([y] ++ L.of.beads))
      rw [bds_append]
      exact row_mono h8 (Nat.le_trans E4.size e46.size)
/-- the root that Node makes -/
def rootB (L Rt : BT) (k v g : Int) : BT := .node ⟨k, v, 0, 0, g, L.nn, Rt.nn⟩ L Rt
theorem rootB_wf {L Rt : BT} {k v g : Int} (h1 : L.wf = true) (h2 : Rt.wf = true) : (rootB L Rt k v g).wf = true := by simp [rootB, BT.wf, h1, h2]
set_option maxRecDepth 20000 in
theorem c_r9node {L Rt : BT} {k v g : Int} {q q' : Option Addr} {n c n' c' : Nat} {w : World} {R : Ending → World → Prop} (hl : Cs w q (bds L.beads)) (hn : L.size = n) (hr : Cs w q' (bds Rt.beads)) (hn' : Rt.size = n') (hw1 : L.wf = true) (hw2 : Rt.wf = true) (hm : n + 1 + n' ≤ 5000)
    (h : ∀ p n'' c'' w', OwnB w' w.heap.size p n'' c'' (rootB L Rt k v g).of.beads → Ext w w' → R (.returned (.slice p n'' c'')) w') : Calls Try.prog 81 #[.slice q n c, .int .i64 k, .int .i64 v, .int .u64 g, .slice q' n' c'] w R := by
  refine sh81_ok _ _ _ _ _ _ _ _ _ ?_
  unfold sh81
  refine ⟨?_⟩
  have hnn1 : decide (((n : Nat) : Int) > 0) = L.nn := by rw [BT.nn_iff, hn]; exact decide_eq_decide.2 (by omega)
  have hnn2 : decide (((n' : Nat) : Int) > 0) = Rt.nn := by rw [BT.nn_iff, hn']; exact decide_eq_decide.2 (by omega)
  rw [hnn1, hnn2]
  have hln : L.beads.length = n := hn
  have hrn : Rt.beads.length = n' := hn'
  have ho1 := ownB_one (w := w) ⟨k, v, 0, 0, g, L.nn, Rt.nn⟩
  have e1 := ext_alloc w (.cells #[.int .i64 k, .int .i64 v, .int .i64 0, .int .i64 0, .int .u64 g, .bool L.nn, .bool Rt.nn] 88)
  refine do_app elB ho1 (hl.ext e1) (by rw [bds_length, hln]) bds_one (by simp only [maxLen]; omega) (by omega) e1.size fun p2 c2 w2 h2 g2 => retS_ret ⟨_, _, _, rfl, ?_⟩
  have e2 : Ext w w2 := extB_own ho1 e1 g2 (Nat.le_refl _)
  have h2' : OwnB w2 w.heap.size p2 (1 + n) c2 (⟨k, v, 0, 0, g, L.nn, Rt.nn⟩ :: L.beads) := by
    show w2.ownsRow _ _ _ _ _ (bds ([_] ++ L.beads)); rw [bds_append]; exact h2
  refine do_app elB h2' (hr.ext e2) (by rw [bds_length, hrn]) bds_one (by simp only [maxLen]; omega) (by omega) e2.size fun p3 c3 w3 h3 g3 => retS_ret ⟨_, _, _, rfl, ?_⟩
  have e3 : Ext w w3 := extB_own h2' e2 g3 (Nat.le_refl _)
  have h3' : OwnB w3 w.heap.size p3 (1 + n + n') c3 (rootB L Rt k v g).beads := by
    show w3.ownsRow _ _ _ _ _ (bds (_ :: L.beads ++ Rt.beads)); rw [bds_append]; exact h3
  refine do_call Try.call114 (c_r9of (rootB L Rt k v g) (ownB_cs h3') (ownB_len h3') (row_cap h3') (rootB_wf hw1 hw2) (by omega) fun p4 n4 c4 w4 h4 e4 => retS_ret ⟨_, _, _, rfl, ?_⟩)
  exact h _ _ _ _ (row_mono h4 e3.size) (e3.trans e4)
/-! ### Sort: the row of pairs -/
def sortL (o p : Int) (l : List Pr) : List Pr := l.foldl (fun r x => putR o p r x) []
theorem sortL_snoc (o p : Int) (l : List Pr) (x : Pr) : sortL o p (l ++ [x]) = putR o p (sortL o p l) x := by simp [sortL]
theorem sortL_take {o p : Int} {l : List Pr} {k : Nat} (h : k < l.length) : sortL o p (l.take (k + 1)) = putR o p (sortL o p (l.take k)) l[k] := by
  rw [← List.take_append_getElem h, sortL_snoc]
theorem snoc_ind {α : Type} {P : List α → Prop} (h0 : P []) (h1 : ∀ l x, P l → P (l ++ [x])) (l : List α) : P l := by
  have : ∀ k, k ≤ l.length → P (l.take k) := fun k => by
    induction k with
    | zero => intro _; exact h0
    | succ k ih => intro hk; rw [← List.take_append_getElem (show k < l.length by omega)]; exact h1 _ _ (ih (by omega))
  have := this l.length (Nat.le_refl _)
  rwa [List.take_length] at this
theorem sortL_may {o p : Int} {l : List Pr} (ho : isO o = true) (hp : may p = true) (hI : InP l) : mayR o (sortL o p l) = true ∧ InP (sortL o p l) ∧ (sortL o p l).length ≤ l.length := by
  revert hI
  induction l using snoc_ind with
  | h0 => intro _; exact ⟨by simp [sortL, mayR, ho, chain], (by intro x hx; cases hx), Nat.le_refl _⟩
  | h1 l x ih =>
    intro hI
    obtain ⟨h1, h2, h3⟩ := ih fun y hy => hI y (List.mem_append_left _ hy)
    have hx := hI x (by simp)
    rw [sortL_snoc]
    refine ⟨put_may h1 hp h2 hx.1, put_in h1 hp h2 hx, ?_⟩
    rw [put_len h1 hp]
    simp only [List.length_append, List.length_cons, List.length_nil]
    split <;> omega
set_option maxRecDepth 20000 in
theorem c_r5sort {o p : Int} {l : List Pr} {q : Option Addr} {n c : Nat} {w : World} {R : Ending → World → Prop} (hl : Cs w q (prs l)) (hn : l.length = n) (hm : n ≤ 1000000000000 - 1) (hI : InP l)
    (h : ∀ p' n' c' w', OwnP w' w.heap.size p' n' c' (cond (isO o && may p) (sortL o p l) []) → Ext w w' → R (.returned (.tuple #[.slice p' n' c', .int .i64 (cond (isO o && may p) 0 2)])) w') : Calls Try.prog 23 #[.int .u8 o, .int .u8 p, .slice q n c] w R := by
  refine sh23_ok _ _ _ _ _ ?_
  unfold sh23
  refine do_call Try.call75 (c_ris (retS_ret ⟨_, rfl, ?_⟩))
  cases ho : isO o
  · have hr := h none 0 0 w
    rw [ho] at hr
    exact ifB_t rfl (hr (ownP_nil _ _) (ext_refl w))
  refine ifB_f rfl (do_call Try.call80 (c_rmay (retS_ret ⟨_, rfl, ?_⟩)))
  cases hp : may p
  · have hr := h none 0 0 w
    rw [ho, hp] at hr
    exact ifB_t rfl (hr (ownP_nil _ _) (ext_refl w))
  refine ifB_f rfl ?_
  rw [ho, hp] at h
  refine ⟨fun vs w' => ∃ (k n' c' : Nat) (p' : Option Addr), vs = [.slice p' n' c', .int .i64 k] ∧ k ≤ n ∧ Ext w w' ∧ OwnP w' w.heap.size p' n' c' (sortL o p (l.take k)), fun vs _ => n - (intOf (vs.getD 1 undef)).toNat, ⟨0, 0, 0, none, rfl, by omega, ext_refl w, ownP_nil _ _⟩, ?_⟩
  rintro p1 n1 c1 i1 _ w1 ⟨k, n', c', p', hv, hkn, E, ho1⟩
  simp only [List.cons.injEq, Value.slice.injEq, Value.int.injEq, true_and, and_true] at hv
  obtain ⟨⟨rfl, rfl, rfl⟩, rfl⟩ := hv
  refine ifB_intro (fun hlt => ?_) fun hge => ?_
  · have hlt : k < n := by have := of_decide_eq_true hlt; omega
    obtain ⟨m1, m2, m3⟩ := sortL_may (p := p) ho hp (fun x (hx : x ∈ l.take k) => hI x (List.mem_of_mem_take hx))
    have hl1 := ownP_len ho1
    rw [List.length_take] at m3
    refine ix_pr (hl.ext E) hn rfl hlt fun a r1 r2 _ => ⟨_, r1, _, r2, ?_⟩
    refine do_call Try.call45 (c_r4put (x := l[k]'(by omega)) (ownP_cs ho1) hl1 (row_cap ho1) (by omega) m2 (hI _ (List.getElem_mem _)).1 fun p2 n2 c2 w2 h2 e2 => retS_ret ⟨_, _, _, _, rfl, ?_⟩)
    refine ⟨⟨k + 1, n2, c2, p2, by rw [wrap_succ hlt (by omega)], by omega, E.trans e2, ?_⟩, ?_⟩
    · rw [sortL_take (by omega)]; exact row_mono h2 E.size
    · rw [wrap_succ hlt (by omega)]; simp [intOf]; omega
  · have hge : k = n := by have := of_decide_eq_false hge; omega
    subst hge
    rw [List.take_of_length_le (by omega)] at ho1
    exact h _ _ _ _ ho1 E
/-! ### Shape -/
set_option maxRecDepth 20000 in
theorem c_shape : ∀ (N : Nat) (l : List Pr) (picks : List Int) {q q' : Option Addr} {n c n' c' : Nat} {w : World} {R : Ending → World → Prop} (_hN : n ≤ N) (_hl : Cs w q (prs l)) (_hn : l.length = n) (_hnc : n ≤ c) (_hp : Cs w q' (u8s picks)) (_hn' : picks.length = n') (_hnc' : n' ≤ c') (_hpI : ∀ x ∈ picks, 0 ≤ x ∧ x < 256) (_hm : n ≤ 4000) (_hm' : n' ≤ 1000000)
    (_h : ∀ (t : BT) p n'' c'' w', t.wf = true → t.tr.pairs = l → OwnB w' w.heap.size p n'' c'' t.beads → Ext w w' → R (.returned (.slice p n'' c'')) w'), Calls Try.prog 24 #[.slice q n c, .slice q' n' c'] w R := by
  intro N
  induction N with
  | zero =>
    intro l picks q q' n c n' c' w R hN hl hn hnc hp hn' hnc' hpI hm hm' h
    refine sh24_ok _ _ _ _ _ _ ?_
    unfold sh24
    have : n = 0 := by omega
    subst this
    have hl0 : l = [] := List.eq_nil_of_length_eq_zero hn
    subst hl0
    exact ifB_t rfl (h .nil _ _ _ _ rfl rfl (ownB_nil _ _) (ext_refl w))
  | succ N ih =>
    intro l picks q q' n c n' c' w R hN hl hn hnc hp hn' hnc' hpI hm hm' h
    refine sh24_ok _ _ _ _ _ _ ?_
    unfold sh24
    refine ifB_intro (fun h0 => ?_) fun h0 => ?_
    · have : n = 0 := by simpa using h0
      subst this
      have hl0 : l = [] := List.eq_nil_of_length_eq_zero hn
      subst hl0
      exact h .nil _ _ _ _ rfl rfl (ownB_nil _ _) (ext_refl w)
    have h0 : n ≠ 0 := by simpa using h0
    refine ⟨by decide, ?_⟩
    intro K12
    have hK : ∀ (pk : List Int) (qk : Option Addr) (nk ck k : Nat), Cs w qk (u8s pk) → pk.length = nk → nk ≤ ck → (∀ x ∈ pk, 0 ≤ x ∧ x < 256) → nk ≤ 1000000 → k < n → K12 qk nk ck (k : Nat) w := by
      intro pk qk nk ck k hpk hnk hck hpkI hnm hk
      refine sl_pr (a := 0) (b := k) hl hn hnc rfl rfl (by omega) (by omega) fun q1 hq1 _ => ?_
      simp only [List.drop_zero, Nat.sub_zero] at hq1 ⊢
      refine do_call Try.call24 (ih (l.take k) pk (by omega) hq1 (by rw [List.length_take]; omega) (by omega) hpk hnk hck hpkI (by omega) hnm fun tL p1 n1 c1 w1 hwL hpL h1 e1 => retS_ret ⟨_, _, _, rfl, ?_⟩)
      have hK25 : ∀ (pk : List Int) (qk : Option Addr) (nk ck : Nat), Cs w1 qk (u8s pk) → pk.length = nk → nk ≤ ck → (∀ x ∈ pk, 0 ≤ x ∧ x < 256) → nk ≤ 1000000 →
          doDr w1 (fun w27 => ∃ (C26 : World → Prop), C26 w27 ∧ (doIx q n 2 ((k : Nat) : Int) (fun a28 => ∃ (x29 : Int), (∀ w, C26 w → World.cell? w (a28.add 0) = some (.int .i64 x29)) ∧ (
          doIx q n 2 ((k : Nat) : Int) (fun a30 => ∃ (x31 : Int), (∀ w, C26 w → World.cell? w (a30.add 1) = some (.int .i64 x31)) ∧ (
          doSl q c 2 (IntKind.wrap .i64 (((k : Nat) : Int) + 1)) (((n : Nat) : Int)) (fun p32 n33 c34 =>
          doCall Try.prog (.func (.func 24) #[] #[]) #[.slice p32 n33 c34, .slice qk nk ck] w27 (retS (fun v38 w39 => ∃ (xp35 : Option Addr), ∃ (xn36 : Nat), ∃ (xc37 : Nat), v38 = (.slice xp35 xn36 xc37 : Value) ∧ (C26 w39 ∧ (
          doCall Try.prog (.func (.func 81) #[] #[]) #[.slice p1 n1 c1, .int .i64 x29, .int .i64 x31, .int .u64 0, .slice xp35 xn36 xc37] w39 (retS (fun v43 w44 => ∃ (xp40 : Option Addr), ∃ (xn41 : Nat), ∃ (xc42 : Nat), v43 = (.slice xp40 xn41 xc42 : Value) ∧ (
          R (.returned (.slice xp40 xn41 xc42)) w44)) (fun ch w => Kfn R ch [] w))))) (fun ch w => Kfn R ch [] w))))))))) := by
        intro pk qk nk ck hpk hnk hck hpkI hnm
        refine ⟨⟨fun w' => Ext w1 w', ext_drew _, ?_⟩⟩
        refine ix_prC (fun w' e => (hl.ext e1).ext e) (ext_refl _) hn rfl hk fun a r1 _ => ⟨_, r1, ?_⟩
        refine ix_prC (fun w' e => (hl.ext e1).ext e) (ext_refl _) hn rfl hk fun a _ r2 => ⟨_, r2, ?_⟩
        have ek : IntKind.wrap .i64 ((k : Int) + 1) = ((k + 1 : Nat) : Int) := wrap_succ hk (by omega)
        refine sl_pr (w := w1.drew) (a := k + 1) (b := n) ((hl.ext e1).ext (ext_drew _)) hn hnc ek rfl (by omega) (Nat.le_refl n) fun q2 hq2 _ => ?_
        rw [← hn, List.take_length] at hq2
        refine do_call Try.call24 (ih (l.drop (k + 1)) pk (by omega) hq2 (by rw [List.length_drop]; omega) (by omega) (hpk.ext (ext_drew _)) hnk hck hpkI (by omega) hnm fun tR p2 n2 c2 w2 hwR hpR h2 e2 => retS_ret ⟨_, _, _, rfl, (ext_drew w1).trans e2, ?_⟩)
        have e12 := (ext_drew w1).trans e2
        have hLl : tL.size = k := by rw [← BT.tr_size, ← Tr.pairs_length, hpL, List.length_take]; omega
        have hRl : tR.size = n - (k + 1) := by rw [← BT.tr_size, ← Tr.pairs_length, hpR, List.length_drop]; omega
        have hn1 := ownB_len h1
        have hn2 := ownB_len h2
        have hn1' : tL.size = n1 := hn1
        have hn2' : tR.size = n2 := hn2
        refine do_call Try.call81 (c_r9node ((ownB_cs h1).ext e12) hn1 (ownB_cs h2) hn2 hwL hwR (by omega) fun p3 n3 c3 w3 h3 e3 => retS_ret ⟨_, _, _, rfl, ?_⟩)
        refine h _ _ _ _ _ (by rw [BT.of_wf]; exact rootB_wf hwL hwR) ?_ (row_mono h3 (e1.trans e12).size) ((e1.trans e12).trans e3)
        rw [BT.of_tr]
        simp only [rootB, BT.tr, Tr.pairs, hpL, hpR]
        conv => rhs; rw [← List.take_append_drop k l, List.drop_eq_getElem_cons (show k < l.length by omega)]
      refine ifB_intro (fun hgt => ?_) fun _ => hK25 pk qk nk ck (hpk.ext e1) hnk hck hpkI hnm
      have hgt : k < nk := by have := of_decide_eq_true hgt; omega
      refine sl_flat u8_len (by omega) (hpk.ext e1) hnk hck (a := k) (b := nk) rfl rfl (by omega) (Nat.le_refl _) fun q3 hq3 => ?_
      have hq3' := hq3 w1 (hpk.ext e1)
      rw [← hnk, List.take_length] at hq3'
      exact hK25 (pk.drop k) q3 (nk - k) (ck - k) hq3' (by rw [List.length_drop]; omega) (by omega) (fun x hx => hpkI x (List.mem_of_mem_drop hx)) (by omega)
    refine ifB_intro (fun hgt => ?_) fun _ => ?_
    · have hgt : 0 < n' := by have := of_decide_eq_true hgt; omega
      refine ix_flat u8_len (by omega) hp hn' (k := 0) rfl hgt fun a ra _ => ⟨picks[0]'(by omega), by have := ra 0 _ rfl; rwa [add_zero'] at this, by omega, ?_⟩
      refine sl_flat u8_len (by omega) hp hn' hnc' (a := 1) (b := n') rfl rfl (by omega) (Nat.le_refl _) fun q3 hq3 => ?_
      have hq3' := hq3 w hp
      rw [← hn', List.take_length] at hq3'
      have hx := hpI _ (List.getElem_mem (show 0 < picks.length by omega))
      obtain ⟨x, hxe⟩ : ∃ x, x = (picks[0]'(by omega)) := ⟨_, rfl⟩
      rw [← hxe] at hx ⊢
      have ex : Int.tmod (IntKind.wrap .i64 x) (n : Int) = ((x.toNat % n : Nat) : Int) := by
        rw [wrap_of (by omega) (by omega), Int.tmod_eq_emod_of_nonneg hx.1, Int.natCast_emod, Int.toNat_of_nonneg hx.1]
      rw [ex]
      exact hK (picks.drop 1) q3 (n' - 1) (c' - 1) _ hq3' (by rw [List.length_drop]; omega) (by omega) (fun x hx => hpI x (List.mem_of_mem_drop hx)) (by omega) (Nat.mod_lt _ (by omega))
    · have e : IntKind.wrap .i64 (Int.tdiv (n : Int) 2) = ((n / 2 : Nat) : Int) := by
        rw [Int.tdiv_eq_ediv_of_nonneg (by omega), wrap_of (by omega) (by omega)]; omega
      rw [e]
      exact hK picks q' n' c' (n / 2) hp hn' hnc' hpI hm' (by omega)
end Go.Proofs.Ytinkkhcffoikmaa
