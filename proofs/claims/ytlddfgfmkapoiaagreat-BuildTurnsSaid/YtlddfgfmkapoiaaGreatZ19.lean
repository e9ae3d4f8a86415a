/-
  Of, Node, Sort, Shape: rows and trees that the statements make.
-/
/-
  The document's checks of trees, of beads: layers 14, 16, 18, 20, 22.
-/
/-
  The document's checks of trees, of beads: layers 16, 18, 20, 22.
-/
import Derived.Test.YtlddfgfmkapoiaaGreatZ18
import Derived.Test.YtlddfgfmkapoiaaGreatZ14

namespace Go.Proofs.YtlddfgfmkapoiaaGreat
open Go Go.Sh Go.RowKit

abbrev OwnB (w : World) (base : Nat) (p : Option Addr) (n c : Nat) (l : List Bd) : Prop := w.ownsRow base 150 7 (.slice p n c) n (bds l)
theorem ownB_len {w : World} {base n c : Nat} {p : Option Addr} {l : List Bd} (h : OwnB w base p n c l) : l.length = n := by have := h.1; rw [bds_length] at this; omega
theorem ownB_cs {w : World} {base n c : Nat} {p : Option Addr} {l : List Bd} (h : OwnB w base p n c l) : Cs w p (bds l) := Cs.of_row h
theorem ownB_nil (w : World) (base : Nat) : OwnB w base none 0 0 [] := World.ownsRow_nil _ _ _ _
theorem rowB_to {w w' : World} {base base' n c : Nat} {p : Option Addr} {l : List Bd} (h : OwnB w base p n c l) (e : Ext w w') (hb : base' ≤ base) : OwnB w' base' p n c l := row_mono (e.row h) hb
theorem extB_own {a w w' : World} {base n c : Nat} {p : Option Addr} {l : List Bd} (h : OwnB w base p n c l) (e : Ext a w) (g : w.grownBy w' (Value.slice p n c).ownBlock) (hb : a.heap.size ≤ base) : Ext a w' :=
  e.grown g fun k hk => Nat.le_trans hb (World.ownsRow.lt h k hk).1
theorem c_r9sum {l : List Bd} {q : Option Addr} {n c : Nat} {w : World} {R : Ending → World → Prop} (hl : Cs w q (bds l)) (hn : l.length = n) (hm : n ≤ 1000000000000)
    (h : R (.returned (.int .i64 (sumV l))) w) : Calls Tryz.prog 115 #[.slice q n c] w R := by
  refine sh115_ok _ _ _ ?_
  unfold sh115
  refine ⟨fun vs w' => ∃ k : Nat, vs = [.int .i64 (sumV (l.take k)), .int .i64 k] ∧ k ≤ n ∧ w' = w, fun vs _ => n - (intOf (vs.getD 1 undef)).toNat, ⟨0, rfl, by omega, rfl⟩, ?_⟩
  rintro v i _ w2 ⟨k, hv, hkn, rfl⟩
  simp only [List.cons.injEq, Value.int.injEq, true_and, and_true] at hv
  obtain ⟨rfl, rfl⟩ := hv
  refine ifB_intro (fun hlt => ?_) fun hge => ?_
  · have hlt : k < n := by have := of_decide_eq_true hlt; omega
    refine ix_flat ecB_len (by omega) hl hn rfl hlt fun a r _ => ⟨_, r 1 _ rfl, ⟨k + 1, ?_, by omega, rfl⟩, ?_⟩
    · rw [wrap_succ hlt (by omega), show l.take (k + 1) = l.take k ++ [l[k]'(by omega)] from (List.take_append_getElem (by omega)).symm]
      simp only [sumV, List.foldl_append, List.foldl_cons, List.foldl_nil]
    · rw [wrap_succ hlt (by omega)]; simp [intOf]; omega
  · have hge : k = n := by have := of_decide_eq_false hge; omega
    subst hge
    rw [List.take_of_length_le (by omega)] at *
    exact h
theorem cs_bd {w : World} {b : Nat} {x : Bd} {t : TypeId} (h : Blk w b #[.int .i64 x.key, .int .i64 x.val, .int .i64 x.sum, .int .i64 x.size, .int .u64 x.tag, .bool x.left, .bool x.right] t) : Cs w (some (blk b)) (bds [x]) := fun i v hv => by
  refine ⟨_, rfl, ?_⟩
  rw [add_blk]
  match i, hv with
  | 0, hv => cases hv; exact h.cell rfl rfl
  | 1, hv => cases hv; exact h.cell rfl rfl
  | 2, hv => cases hv; exact h.cell rfl rfl
  | 3, hv => cases hv; exact h.cell rfl rfl
  | 4, hv => cases hv; exact h.cell rfl rfl
  | 5, hv => cases hv; exact h.cell rfl rfl
  | 6, hv => cases hv; exact h.cell rfl rfl
  | i + 7, hv => simp [ecB] at hv
/-- a bead alone is a row of one's own -/
theorem ownB_one {w : World} (x : Bd) : OwnB (w.alloc (.cells #[.int .i64 x.key, .int .i64 x.val, .int .i64 x.sum, .int .i64 x.size, .int .u64 x.tag, .bool x.left, .bool x.right] 150)) w.heap.size (some (blk w.heap.size)) 1 1 [x] :=
  World.ownsRow_lit (base := w.heap.size) (size := 7) (e := 150) w _ 1 (Nat.le_refl _) (by simp [maxLen]) (by simp)
set_option maxRecDepth 20000 in
theorem c_r9of : ∀ (t : BT) {q : Option Addr} {n c : Nat} {w : World} {R : Ending → World → Prop} (_hl : Cs w q (bds t.beads)) (_hn : t.size = n) (_hnc : n ≤ c) (_hw : t.wf = true) (_hm : n ≤ 5000)
    (_h : ∀ p n' c' w', OwnB w' w.heap.size p n' c' t.of.beads → Ext w w' → R (.returned (.slice p n' c')) w'), Calls Tryz.prog 47 #[.slice q n c] w R
  | .nil, q, n, c, w, R, hl, hn, hnc, hw, hm, h => by
    refine sh47_ok _ _ _ ?_
    unfold sh47
    have : n = 0 := by rw [← hn]; rfl
    subst this
    exact ifB_t rfl (h _ _ _ _ (ownB_nil _ _) (ext_refl w))
  | .node x L Rt, q, n, c, w, R, hl, hn, hnc, hw, hm, h => by
    refine sh47_ok _ _ _ ?_
    unfold sh47
    have hsz := BT.size_node x L Rt
    obtain ⟨_, _, w2f, w3f⟩ := BT.wf_node hw
    refine ifB_f (by simp; omega) ?_
    refine do_call Tryz.call109 (c_parts hl hn hnc hw hm fun p1 c1 p2 c2 w1 e1 hp h1 h2 => retS_ret ⟨_, _, _, _, _, _, _, _, _, _, _, _, _, rfl, ⟨?_⟩⟩)
    refine do_st7 (blk_alloc w1 _ _) fun w2 hb2 g2 => ?_
    have e2 : Ext w1 w2 := (ext_alloc w1 _).st g2 (Nat.le_refl _)
    have E2 := e1.trans e2
    have lb : w1.heap.size < w2.heap.size := hb2.lt
    refine do_st (i := 3) hb2 (by rw [add_zero', add_blk]) (by simp) fun w3 hb3 g3 => ?_
    have e3 : Ext w1 w3 := e2.st g3 (Nat.le_refl _)
    have E3 := e1.trans e3
    refine do_call Tryz.call115 (c_r9sum (hl.ext E3) (by exact hn) (by omega) (retS_ret ⟨_, rfl, ?_⟩))
    refine do_st (i := 2) hb3 (by rw [add_zero', add_blk]) (by simp) fun w4 hb4 g4 => ?_
    have e4 : Ext w1 w4 := e3.st g4 (Nat.le_refl _)
    have E4 := e1.trans e4
    obtain ⟨y, hy⟩ : ∃ y : Bd, y = { x with size := ((BT.node x L Rt).size : Nat), sum := sumV (BT.node x L Rt).beads } := ⟨_, rfl⟩
    have hb4 : Blk w4 w1.heap.size #[.int .i64 y.key, .int .i64 y.val, .int .i64 y.sum, .int .i64 y.size, .int .u64 y.tag, .bool y.left, .bool y.right] 150 := by rw [hy, hn]; exact hb4
    have hof : (BT.node x L Rt).of.beads = y :: (L.of.beads ++ Rt.of.beads) := by rw [hy]; rfl
    have hcs := fun (w'' : World) (e : Ext w4 w'') => hp w'' (hl.ext (E4.trans e))
    have hLs : L.of.beads.length = L.size := BT.of_size L
    have hRs : Rt.of.beads.length = Rt.size := BT.of_size Rt
    -- what is right of it, behind what there is
    have hK : ∀ {out : Option Addr} {on oc : Nat} {w' : World}, Ext w w' → OwnB w' w.heap.size out on oc (y :: L.of.beads) → (∀ w'', Ext w' w'' → Cs w'' p2 (bds Rt.beads)) →
        doCall Tryz.prog (.func (.func 47) #[] #[]) #[.slice p2 Rt.size c2] w' (retS (fun v36 w37 => ∃ (xp33 : Option Addr), ∃ (xn34 : Nat), ∃ (xc35 : Nat), v36 = (.slice xp33 xn34 xc35 : Value) ∧ (
          doGo Tryz.prog (.builtin .append #[57, 57] 57 #[false, false]) #[.slice out on oc, .slice xp33 xn34 xc35] w37 (retS (fun v41 w42 => ∃ (xp38 : Option Addr), ∃ (xn39 : Nat), ∃ (xc40 : Nat), v41 = (.slice xp38 xn39 xc40 : Value) ∧ (
          R (.returned (.slice xp38 xn39 xc40)) w42)) (fun ch w => Kfn R ch [] w)))) (fun ch w => Kfn R ch [] w)) := by
      intro out on oc w' E' ho' hR'
      refine do_call Tryz.call47 (c_r9of Rt (hR' _ (ext_refl _)) rfl h2 w3f (by omega) fun p5 n5 c5 w5 h5 e5 => retS_ret ⟨_, _, _, rfl, ?_⟩)
      have hon := ownB_len ho'
      have hn5 := ownB_len h5
      simp only [List.length_cons] at hon
      have ho5 := rowB_to ho' e5 (Nat.le_refl _)
      refine do_app elB ho5 (ownB_cs h5) (by rw [bds_length, hn5]) bds_one (by simp only [maxLen]; omega) (by omega) (Nat.le_trans E'.size e5.size) fun p6 c6 w6 h6 g6 => retS_ret ⟨_, _, _, rfl, ?_⟩
      refine h _ _ _ _ ?_ (extB_own ho5 (E'.trans e5) g6 (Nat.le_refl _))
      rw [hof]
      show w6.ownsRow _ _ _ _ _ (bds (y :: L.of.beads ++ Rt.of.beads))
      rw [bds_append]
      exact h6
    refine ⟨⟨fun w' => Ext w4 w', ext_drew _, _, fun w' e => (hb4.ext e).cell (i := 0) (add_blk _ _) rfl, _, fun w' e => (hb4.ext e).cell (i := 1) (add_blk _ _) rfl, _, fun w' e => (hb4.ext e).cell (i := 2) (add_blk _ _) rfl, _, fun w' e => (hb4.ext e).cell (i := 3) (add_blk _ _) rfl, _, fun w' e => (hb4.ext e).cell (i := 4) (add_blk _ _) rfl, _, fun w' e => (hb4.ext e).cell (i := 5) (add_blk _ _) rfl, _, fun w' e => (hb4.ext e).cell (i := 6) (add_blk _ _) rfl, ?_, ?_⟩⟩
    · refine ⟨?_⟩
      have ho5 := ownB_one (w := w4.drew) y
      have e5 : Ext w4 (w4.drew.alloc (.cells #[.int .i64 y.key, .int .i64 y.val, .int .i64 y.sum, .int .i64 y.size, .int .u64 y.tag, .bool y.left, .bool y.right] 150)) := (ext_drew w4).alloc _
      generalize w4.drew.alloc (.cells #[.int .i64 y.key, .int .i64 y.val, .int .i64 y.sum, .int .i64 y.size, .int .u64 y.tag, .bool y.left, .bool y.right] 150) = w5 at *
      refine do_call Tryz.call47 (c_r9of L (hcs _ e5).1 rfl h1 w2f (by omega) fun p6 n6 c6 w6 h6 e6 => retS_ret ⟨_, _, _, rfl, e5.trans e6, ?_⟩)
      have hn6 := ownB_len h6
      have ho6 := rowB_to ho5 e6 (Nat.le_refl _)
      refine do_app elB ho6 (ownB_cs h6) (by rw [bds_length, hn6]) bds_one (by simp only [maxLen]; omega) (by omega) (Nat.le_trans (Nat.le_of_eq rfl) (e5.trans e6).size) fun p7 c7 w7 h7 g7 => retS_ret ⟨_, _, _, rfl, ?_⟩
      have E7 : Ext w4 w7 := extB_own ho6 (e5.trans e6) g7 (Nat.le_refl _)
      refine ⟨E7, hK (E4.trans E7) ?_ fun w'' e => (hcs _ (E7.trans e)).2⟩
      show w7.ownsRow _ _ _ _ _ (bds ([y] ++ L.of.beads))
      rw [bds_append]
      exact row_mono h7 E4.size
    · refine do_call Tryz.call47 (c_r9of L (hcs _ (ext_drew _)).1 rfl h1 w2f (by omega) fun p6 n6 c6 w6 h6 e6 => retS_ret ⟨_, _, _, rfl, (ext_drew w4).trans e6, ⟨?_⟩⟩)
      have hn6 := ownB_len h6
      have e46 := (ext_drew w4).trans e6
      have ho7 := ownB_one (w := w6) y
      have e7 := ext_alloc w6 (.cells #[.int .i64 y.key, .int .i64 y.val, .int .i64 y.sum, .int .i64 y.size, .int .u64 y.tag, .bool y.left, .bool y.right] 150)
      refine do_app elB ho7 ((ownB_cs h6).ext e7) (by rw [bds_length, hn6]) bds_one (by simp only [maxLen]; omega) (by omega) e7.size fun p8 c8 w8 h8 g8 => retS_ret ⟨_, _, _, rfl, ?_⟩
      have E8 : Ext w4 w8 := extB_own ho7 (e46.trans e7) g8 e46.size
      refine ⟨E8, hK (E4.trans E8) ?_ fun w'' e => (hcs _ (E8.trans e)).2⟩
      show w8.ownsRow _ _ _ _ _ (bds ([y] ++ L.of.beads))
      rw [bds_append]
      exact row_mono h8 (Nat.le_trans E4.size e46.size)
/-- the root that Node makes -/
def rootB (L Rt : BT) (k v g : Int) : BT := .node ⟨k, v, 0, 0, g, L.nn, Rt.nn⟩ L Rt
theorem rootB_wf {L Rt : BT} {k v g : Int} (h1 : L.wf = true) (h2 : Rt.wf = true) : (rootB L Rt k v g).wf = true := by simp [rootB, BT.wf, h1, h2]
set_option maxRecDepth 20000 in
theorem c_r9node {L Rt : BT} {k v g : Int} {q q' : Option Addr} {n c n' c' : Nat} {w : World} {R : Ending → World → Prop} (hl : Cs w q (bds L.beads)) (hn : L.size = n) (hr : Cs w q' (bds Rt.beads)) (hn' : Rt.size = n') (hw1 : L.wf = true) (hw2 : Rt.wf = true) (hm : n + 1 + n' ≤ 5000)
    (h : ∀ p n'' c'' w', OwnB w' w.heap.size p n'' c'' (rootB L Rt k v g).of.beads → Ext w w' → R (.returned (.slice p n'' c'')) w') : Calls Tryz.prog 193 #[.slice q n c, .int .i64 k, .int .i64 v, .int .u64 g, .slice q' n' c'] w R := by
  refine sh193_ok _ _ _ _ _ _ _ _ _ ?_
  unfold sh193
  refine ⟨?_⟩
  have hnn1 : decide (((n : Nat) : Int) > 0) = L.nn := by rw [BT.nn_iff, hn]; exact decide_eq_decide.2 (by omega)
  have hnn2 : decide (((n' : Nat) : Int) > 0) = Rt.nn := by rw [BT.nn_iff, hn']; exact decide_eq_decide.2 (by omega)
  rw [hnn1, hnn2]
  have hln : L.beads.length = n := hn
  have hrn : Rt.beads.length = n' := hn'
  have ho1 := ownB_one (w := w) ⟨k, v, 0, 0, g, L.nn, Rt.nn⟩
  have e1 := ext_alloc w (.cells #[.int .i64 k, .int .i64 v, .int .i64 0, .int .i64 0, .int .u64 g, .bool L.nn, .bool Rt.nn] 150)
  refine do_app elB ho1 (hl.ext e1) (by rw [bds_length, hln]) bds_one (by simp only [maxLen]; omega) (by omega) e1.size fun p2 c2 w2 h2 g2 => retS_ret ⟨_, _, _, rfl, ?_⟩
  have e2 : Ext w w2 := extB_own ho1 e1 g2 (Nat.le_refl _)
  have h2' : OwnB w2 w.heap.size p2 (1 + n) c2 (⟨k, v, 0, 0, g, L.nn, Rt.nn⟩ :: L.beads) := by
    show w2.ownsRow _ _ _ _ _ (bds ([_] ++ L.beads)); rw [bds_append]; exact h2
  refine do_app elB h2' (hr.ext e2) (by rw [bds_length, hrn]) bds_one (by simp only [maxLen]; omega) (by omega) e2.size fun p3 c3 w3 h3 g3 => retS_ret ⟨_, _, _, rfl, ?_⟩
  have e3 : Ext w w3 := extB_own h2' e2 g3 (Nat.le_refl _)
  have h3' : OwnB w3 w.heap.size p3 (1 + n + n') c3 (rootB L Rt k v g).beads := by
    show w3.ownsRow _ _ _ _ _ (bds (_ :: L.beads ++ Rt.beads)); rw [bds_append]; exact h3
  refine do_call Tryz.call47 (c_r9of (rootB L Rt k v g) (ownB_cs h3') (ownB_len h3') (row_cap h3') (rootB_wf hw1 hw2) (by omega) fun p4 n4 c4 w4 h4 e4 => retS_ret ⟨_, _, _, rfl, ?_⟩)
  exact h _ _ _ _ (row_mono h4 e3.size) (e3.trans e4)
/-! ### Sort: the row of pairs -/
def sortL (o p : Int) (l : List Pr) : List Pr := l.foldl (fun r x => putR o p r x) []
theorem sortL_snoc (o p : Int) (l : List Pr) (x : Pr) : sortL o p (l ++ [x]) = putR o p (sortL o p l) x := by simp [sortL]
theorem sortL_take {o p : Int} {l : List Pr} {k : Nat} (h : k < l.length) : sortL o p (l.take (k + 1)) = putR o p (sortL o p (l.take k)) l[k] := by
  rw [← List.take_append_getElem h, sortL_snoc]
theorem snoc_ind {α : Type} {P : List α → Prop} (h0 : P []) (h1 : ∀ l x, P l → P (l ++ [x])) (l : List α) : P l := by
  have : ∀ k, k ≤ l.length → P (l.take k) := fun k => by
    induction k with
    | zero => intro _; exact h0
    | succ k ih => intro hk; rw [← List.take_append_getElem (show k < l.length by omega)]; exact h1 _ _ (ih (by omega))
  have := this l.length (Nat.le_refl _)
  rwa [List.take_length] at this
theorem sortL_may {o p : Int} {l : List Pr} (ho : isO o = true) (hp : may p = true) (hI : InP l) : mayR o (sortL o p l) = true ∧ InP (sortL o p l) ∧ (sortL o p l).length ≤ l.length := by
  revert hI
  induction l using snoc_ind with
  | h0 => intro _; exact ⟨by simp [sortL, mayR, ho, chain], (by intro x hx; cases hx), Nat.le_refl _⟩
  | h1 l x ih =>
    intro hI
    obtain ⟨h1, h2, h3⟩ := ih fun y hy => hI y (List.mem_append_left _ hy)
    have hx := hI x (by simp)
    rw [sortL_snoc]
    refine ⟨put_may h1 hp h2 hx.1, put_in h1 hp h2 hx, ?_⟩
    rw [put_len h1 hp]
    simp only [List.length_append, List.length_cons, List.length_nil]
    split <;> omega
set_option maxRecDepth 20000 in
theorem c_r5sort {o p : Int} {l : List Pr} {q : Option Addr} {n c : Nat} {w : World} {R : Ending → World → Prop} (hl : Cs w q (prs l)) (hn : l.length = n) (hm : n ≤ 1000000000000 - 1) (hI : InP l)
    (h : ∀ p' n' c' w', OwnP w' w.heap.size p' n' c' (cond (isO o && may p) (sortL o p l) []) → Ext w w' → R (.returned (.tuple #[.slice p' n' c', .int .i64 (cond (isO o && may p) 0 2)])) w') : Calls Tryz.prog 96 #[.int .u8 o, .int .u8 p, .slice q n c] w R := by
  refine sh96_ok _ _ _ _ _ ?_
  unfold sh96
  refine do_call Tryz.call16 (c_ris (retS_ret ⟨_, rfl, ?_⟩))
  cases ho : isO o
  · have hr := h none 0 0 w
    rw [ho] at hr
    exact ifB_t rfl (hr (ownP_nil _ _) (ext_refl w))
  refine ifB_f rfl (do_call Tryz.call17 (c_rmay (retS_ret ⟨_, rfl, ?_⟩)))
  cases hp : may p
  · have hr := h none 0 0 w
    rw [ho, hp] at hr
    exact ifB_t rfl (hr (ownP_nil _ _) (ext_refl w))
  refine ifB_f rfl ?_
  rw [ho, hp] at h
  refine ⟨fun vs w' => ∃ (k n' c' : Nat) (p' : Option Addr), vs = [.slice p' n' c', .int .i64 k] ∧ k ≤ n ∧ Ext w w' ∧ OwnP w' w.heap.size p' n' c' (sortL o p (l.take k)), fun vs _ => n - (intOf (vs.getD 1 undef)).toNat, ⟨0, 0, 0, none, rfl, by omega, ext_refl w, ownP_nil _ _⟩, ?_⟩
  rintro p1 n1 c1 i1 _ w1 ⟨k, n', c', p', hv, hkn, E, ho1⟩
  simp only [List.cons.injEq, Value.slice.injEq, Value.int.injEq, true_and, and_true] at hv
  obtain ⟨⟨rfl, rfl, rfl⟩, rfl⟩ := hv
  refine ifB_intro (fun hlt => ?_) fun hge => ?_
  · have hlt : k < n := by have := of_decide_eq_true hlt; omega
    obtain ⟨m1, m2, m3⟩ := sortL_may (p := p) ho hp (fun x (hx : x ∈ l.take k) => hI x (List.mem_of_mem_take hx))
    have hl1 := ownP_len ho1
    rw [List.length_take] at m3
    refine ix_pr (hl.ext E) hn rfl hlt fun a r1 r2 _ => ⟨_, r1, _, r2, ?_⟩
    refine do_call Tryz.call177 (c_r4put (x := l[k]'(by omega)) (ownP_cs ho1) hl1 (row_cap ho1) (by omega) m2 (hI _ (List.getElem_mem _)).1 fun p2 n2 c2 w2 h2 e2 => retS_ret ⟨_, _, _, _, rfl, ?_⟩)
    refine ⟨⟨k + 1, n2, c2, p2, by rw [wrap_succ hlt (by omega)], by omega, E.trans e2, ?_⟩, ?_⟩
    · rw [sortL_take (by omega)]; exact row_mono h2 E.size
    · rw [wrap_succ hlt (by omega)]; simp [intOf]; omega
  · have hge : k = n := by have := of_decide_eq_false hge; omega
    subst hge
    rw [List.take_of_length_le (by omega)] at ho1
    exact h _ _ _ _ ho1 E
/-! ### Shape -/
end Go.Proofs.YtlddfgfmkapoiaaGreat

namespace Go.Proofs.YtlddfgfmkapoiaaGreat
open Go Go.Sh Go.RowKit

/-- tags that fit -/
def TagB (t : BT) : Prop := ∀ x ∈ t.beads, 0 ≤ x.tag ∧ x.tag < 18446744073709551616
theorem TagB.node {x : Bd} {L R : BT} (h : TagB (.node x L R)) : (0 ≤ x.tag ∧ x.tag < 18446744073709551616) ∧ TagB L ∧ TagB R :=
  ⟨h _ (by simp [BT.beads]), fun y hy => h _ (by simp [BT.beads, hy]), fun y hy => h _ (by simp [BT.beads, hy])⟩
theorem TagB.tag {t : BT} (h : TagB t) : 0 ≤ t.tr.tag ∧ t.tr.tag < 18446744073709551616 := by
  cases t with
  | nil => exact ⟨Int.le_refl _, by decide⟩
  | node x l r => exact h.node.1
theorem c_r14tag {t : BT} {q : Option Addr} {n c : Nat} {w : World} {R : Ending → World → Prop} (hl : Cs w q (bds t.beads)) (hn : t.size = n) (h : R (.returned (.int .u64 t.tr.tag)) w) : Calls Tryz.prog 346 #[.slice q n c] w R := by
  refine sh346_ok _ _ _ ?_
  unfold sh346
  cases t with
  | nil =>
    have : n = 0 := by rw [← hn]; rfl
    subst this
    exact ifB_t rfl h
  | node x L Rt =>
    have hsz := BT.size_node x L Rt
    refine ifB_f (by simp; omega) ?_
    refine ix_flat ecB_len (by omega) hl hn (k := 0) rfl (by omega) fun a r _ => ?_
    exact ⟨_, r 4 _ rfl, h⟩
set_option maxRecDepth 20000 in
theorem c_r14one {x : Bd} {L Rt : BT} {q : Option Addr} {n c : Nat} {w : World} {R : Ending → World → Prop} (hl : Cs w q (bds (BT.node x L Rt).beads)) (hn : (BT.node x L Rt).size = n) (hnc : n ≤ c) (hw : (BT.node x L Rt).wf = true) (hm : n ≤ 5000) (hT : TagB (.node x L Rt))
    (h : ∀ e w', Ext w w' → (e = 0 ↔ (x.tag = max L.tr.tag Rt.tr.tag + 1 ∧ L.tr.tag ≤ Rt.tr.tag + 1 ∧ Rt.tr.tag ≤ L.tr.tag + 1)) → R (.returned (.int .i64 e)) w') : Calls Tryz.prog 331 #[.slice q n c] w R := by
  refine sh331_ok _ _ _ ?_
  unfold sh331
  obtain ⟨tx, tl, tr⟩ := hT.node
  have tl := tl.tag
  have tr := tr.tag
  refine do_call Tryz.call109 (c_parts hl hn hnc hw hm fun p1 c1 p2 c2 w1 e1 hp h1 h2 => retS_ret ⟨_, _, _, _, _, _, _, _, _, _, _, _, _, rfl, ⟨?_⟩⟩)
  refine do_st7 (blk_alloc w1 _ _) fun w2 hb2 g2 => ?_
  have e2 : Ext w1 w2 := (ext_alloc w1 _).st g2 (Nat.le_refl _)
  have E2 := e1.trans e2
  have hcs := hp w2 (hl.ext E2)
  refine do_call Tryz.call346 (c_r14tag hcs.1 rfl (retS_ret ⟨_, rfl, ?_⟩))
  refine do_call Tryz.call346 (c_r14tag hcs.2 rfl (retS_ret ⟨_, rfl, ?_⟩))
  refine do_mink (retS_ret ⟨_, rfl, ?_⟩)
  refine do_call Tryz.call346 (c_r14tag hcs.1 rfl (retS_ret ⟨_, rfl, ?_⟩))
  refine do_call Tryz.call346 (c_r14tag hcs.2 rfl (retS_ret ⟨_, rfl, ?_⟩))
  refine do_maxk (retS_ret ⟨_, rfl, ?_⟩)
  intro K48
  refine ⟨_, hb2.cell (i := 4) (add_blk _ _) rfl, ifB_intro (fun h0 => ?_) fun h0 => ?_⟩
  · have h0 : x.tag = 0 := by simpa using h0
    exact h _ _ E2 (by constructor <;> intro hh <;> omega)
  · have h0 : x.tag ≠ 0 := by simpa using h0
    refine ⟨_, hb2.cell (i := 4) (add_blk _ _) rfl, ?_⟩
    rw [wrapU_of (x := x.tag - 1) (by omega) (by omega)]
    refine ifB_intro (fun h3 => ?_) fun h3 => ?_
    · have h3 : x.tag - 1 ≠ max L.tr.tag Rt.tr.tag := by simpa using h3
      exact h _ _ E2 (by constructor <;> intro hh <;> omega)
    · have h3 : x.tag - 1 = max L.tr.tag Rt.tr.tag := by simpa using h3
      rw [wrapU_of (by omega) (by omega)]
      refine ifB_intro (fun h4 => ?_) fun h4 => ?_
      · have h4 := of_decide_eq_true h4
        exact h _ _ E2 (by constructor <;> intro hh <;> omega)
      · have h4 := of_decide_eq_false h4
        exact h _ _ E2 (by constructor <;> intro hh <;> omega)
set_option maxRecDepth 20000 in
theorem c_r14check : ∀ (t : BT) {q : Option Addr} {n c : Nat} {w : World} {R : Ending → World → Prop} (_hl : Cs w q (bds t.beads)) (_hn : t.size = n) (_hnc : n ≤ c) (_hw : t.wf = true) (_hm : n ≤ 5000) (_hT : TagB t)
    (_h : ∀ k e w', Ext w w' → (e = 0 ↔ Avl t.tr) → R (.returned (.tuple #[.int .i64 k, .int .i64 e])) w'), Calls Tryz.prog 298 #[.slice q n c] w R
  | .nil, q, n, c, w, R, hl, hn, hnc, hw, hm, hT, h => by
    refine sh298_ok _ _ _ ?_
    unfold sh298
    have : n = 0 := by rw [← hn]; rfl
    subst this
    exact ifB_t rfl (h _ _ _ (ext_refl w) (by simp [BT.tr, Avl]))
  | .node x L Rt, q, n, c, w, R, hl, hn, hnc, hw, hm, hT, h => by
    refine sh298_ok _ _ _ ?_
    unfold sh298
    have hsz := BT.size_node x L Rt
    obtain ⟨_, _, w2f, w3f⟩ := BT.wf_node hw
    obtain ⟨tx, tl, tr⟩ := hT.node
    refine ifB_f (by simp; omega) ?_
    refine do_call Tryz.call331 (c_r14one hl hn hnc hw hm hT fun e w0 e0 he => retS_ret ⟨_, rfl, ?_⟩)
    have key : Avl (BT.node x L Rt).tr ↔ Avl L.tr ∧ Avl Rt.tr ∧ e = 0 := by rw [he]; exact Iff.rfl
    refine ifB_intro (fun hne => ?_) fun hne => ?_
    · have hne : e ≠ 0 := by simpa using hne
      exact h _ _ _ e0 (by rw [key]; exact ⟨fun h => absurd h hne, fun h => h.2.2⟩)
    have hz : e = 0 := by simpa using hne
    refine do_call Tryz.call109 (c_parts (hl.ext e0) hn hnc hw hm fun p1 c1 p2 c2 w1 e1 hp h1 h2 => retS_ret ⟨_, _, _, _, _, _, _, _, _, _, _, _, _, rfl, ⟨?_⟩⟩)
    refine do_st7 (blk_alloc w1 _ _) fun w2 hb2 g2 => ?_
    have e2 : Ext w1 w2 := (ext_alloc w1 _).st g2 (Nat.le_refl _)
    have E2 := (e0.trans e1).trans e2
    have hcs := fun (w'' : World) (e : Ext w2 w'') => hp w'' (hl.ext (E2.trans e))
    refine do_call Tryz.call298 (c_r14check L (hcs _ (ext_refl _)).1 rfl h1 w2f (by omega) tl fun k1 f1 w3 e3 hf1 => retS_ret ⟨_, _, rfl, ?_⟩)
    refine ifB_intro (fun hne => ?_) fun hne => ?_
    · have hne : f1 ≠ 0 := by simpa using hne
      exact h _ _ _ (E2.trans e3) (by rw [key]; exact ⟨fun h => absurd h hne, fun h => hf1.2 h.1⟩)
    have hz1 : f1 = 0 := by simpa using hne
    refine do_call Tryz.call298 (c_r14check Rt (hcs _ e3).2 rfl h2 w3f (by omega) tr fun k2 f2 w4 e4 hf2 => retS_ret ⟨_, _, rfl, ?_⟩)
    exact h _ _ _ ((E2.trans e3).trans e4) (by rw [key]; exact ⟨fun h => ⟨hf1.1 hz1, hf2.1 h, hz⟩, fun h => hf2.2 h.2.1⟩)
/-! ### colours -/
theorem c_r16high {t : BT} {q : Option Addr} {n c : Nat} {w : World} {R : Ending → World → Prop} (hl : Cs w q (bds t.beads)) (hn : t.size = n) (hT : TagB t) (h : R (.returned (.int .u64 (hiR t.tr))) w) : Calls Tryz.prog 352 #[.slice q n c] w R := by
  refine sh352_ok _ _ _ ?_
  unfold sh352
  have := hT.tag
  refine do_call Tryz.call346 (c_r14tag hl hn (retS_ret ⟨_, rfl, by decide, ?_⟩))
  rw [Int.tdiv_eq_ediv_of_nonneg this.1, wrapU_of (by omega) (by omega)]
  exact h
theorem c_r16red {t : BT} {q : Option Addr} {n c : Nat} {w : World} {R : Ending → World → Prop} (hl : Cs w q (bds t.beads)) (hn : t.size = n) (hT : TagB t) (h : R (.returned (.bool (redR t.tr))) w) : Calls Tryz.prog 333 #[.slice q n c] w R := by
  refine sh333_ok _ _ _ ?_
  unfold sh333
  have := hT.tag
  refine do_call Tryz.call346 (c_r14tag hl hn (retS_ret ⟨_, rfl, by decide, ?_⟩))
  rw [Int.tmod_eq_emod_of_nonneg this.1]
  exact h
theorem wrapU_mod (x : Int) : IntKind.wrap .u64 x = x % 18446744073709551616 := by
  simp only [IntKind.wrap, IntKind.signed, IntKind.bits]
  simp
set_option maxRecDepth 20000 in
theorem c_r16one {x : Bd} {L Rt : BT} {q : Option Addr} {n c : Nat} {w : World} {R : Ending → World → Prop} (hl : Cs w q (bds (BT.node x L Rt).beads)) (hn : (BT.node x L Rt).size = n) (hnc : n ≤ c) (hw : (BT.node x L Rt).wf = true) (hm : n ≤ 5000) (hT : TagB (.node x L Rt))
    (h : ∀ e w', Ext w w' → (e = 0 ↔ (hiR L.tr = hiR Rt.tr ∧ ((x.tag = 2 * hiR L.tr + 1 ∧ redR L.tr = false ∧ redR Rt.tr = false) ∨ x.tag = 2 * hiR L.tr + 2))) → R (.returned (.int .i64 e)) w') : Calls Tryz.prog 347 #[.slice q n c] w R := by
  refine sh347_ok _ _ _ ?_
  unfold sh347
  obtain ⟨tx, tL, tR⟩ := hT.node
  have tl := tL.tag
  have tr := tR.tag
  have hl0 : 0 ≤ hiR L.tr ∧ hiR L.tr < 9223372036854775808 := by unfold hiR; omega
  refine do_call Tryz.call109 (c_parts hl hn hnc hw hm fun p1 c1 p2 c2 w1 e1 hp h1 h2 => retS_ret ⟨_, _, _, _, _, _, _, _, _, _, _, _, _, rfl, ⟨?_⟩⟩)
  refine do_st7 (blk_alloc w1 _ _) fun w2 hb2 g2 => ?_
  have e2 : Ext w1 w2 := (ext_alloc w1 _).st g2 (Nat.le_refl _)
  have E2 := e1.trans e2
  have hcs := hp w2 (hl.ext E2)
  refine do_call Tryz.call352 (c_r16high hcs.1 rfl tL (retS_ret ⟨_, rfl, ?_⟩))
  intro K32 K50
  have hb4 := hb2.cell (i := 4) (add_blk w1.heap.size 4) rfl
  have hK32 : (x.tag = 2 * hiR L.tr + 1 ∨ x.tag = 2 * hiR L.tr + 2) → K32 w2 := by
    intro htag
    simp -zeta -zetaHave only [K32]
    intro K34 K37
    refine do_call Tryz.call352 (c_r16high hcs.2 rfl tR (retS_ret ⟨_, rfl, ?_⟩))
    refine ifB_intro (fun h3 => ?_) fun h3 => ?_
    · have h3 : hiR Rt.tr ≠ hiR L.tr := by simpa using h3
      exact h _ _ E2 ⟨(fun h => by cases h), fun h => absurd h.1.symm h3⟩
    · have h3 : hiR Rt.tr = hiR L.tr := by simpa using h3
      refine ⟨_, hb4, by decide, ?_⟩
      rw [Int.tmod_eq_emod_of_nonneg tx.1]
      refine ifB_intro (fun h5 => ?_) fun h5 => ?_
      · have h5 : x.tag % 2 = 1 := by simpa using h5
        have h6 : x.tag = 2 * hiR L.tr + 1 := by omega
        refine do_call Tryz.call333 (c_r16red hcs.1 rfl tL (retS_ret ⟨_, rfl, ifB_intro (fun h7 => ?_) fun h7 => ?_⟩))
        · refine h _ _ E2 ⟨(fun h => by cases h), fun h => ?_⟩
          rcases h.2 with h | h
          · rw [h7] at h; simp at h
          · omega
        · refine do_call Tryz.call333 (c_r16red hcs.2 rfl tR (retS_ret ⟨_, rfl, ifB_intro (fun h8 => ?_) fun h8 => ?_⟩))
          · refine h _ _ E2 ⟨(fun h => by cases h), fun h => ?_⟩
            rcases h.2 with h | h
            · rw [h8] at h; simp at h
            · omega
          · exact h _ _ E2 ⟨fun _ => ⟨h3.symm, .inl ⟨h6, h7, h8⟩⟩, fun _ => rfl⟩
      · have h5 : x.tag % 2 ≠ 1 := by simpa using h5
        exact h _ _ E2 ⟨fun _ => ⟨h3.symm, .inr (by omega)⟩, fun _ => rfl⟩
  refine ⟨_, hb4, ifB_intro (fun h0 => ?_) fun h0 => ?_⟩
  · have h0 : x.tag = 0 := by simpa using h0
    refine h _ _ E2 ⟨(fun h => by cases h), fun h => ?_⟩
    rcases h.2 with h | h <;> omega
  · have h0 : x.tag ≠ 0 := by simpa using h0
    refine ⟨_, hb4, ?_⟩
    rw [wrapU_of (x := 2 * hiR L.tr) (by omega) (by omega), wrapU_of (x := 2 * hiR L.tr + 1) (by omega) (by omega)]
    refine ifB_intro (fun h3 => ⟨_, hb4, ?_⟩) fun h3 => ?_
    · have h3 : x.tag ≠ 2 * hiR L.tr + 1 := by simpa using h3
      rw [wrapU_mod]
      refine ifB_intro (fun h4 => ?_) fun h4 => ?_
      · have h4 : x.tag ≠ (2 * hiR L.tr + 2) % 18446744073709551616 := by simpa using h4
        refine h _ _ E2 ⟨(fun h => by cases h), fun h => ?_⟩
        rcases h.2 with h | h
        · exact absurd h.1 h3
        · omega
      · have h4 : x.tag = (2 * hiR L.tr + 2) % 18446744073709551616 := by simpa using h4
        exact hK32 (by omega)
    · have h3 : x.tag = 2 * hiR L.tr + 1 := by simpa using h3
      exact hK32 (.inl h3)
set_option maxRecDepth 20000 in
theorem c_r16parts : ∀ (t : BT) {q : Option Addr} {n c : Nat} {w : World} {R : Ending → World → Prop} (_hl : Cs w q (bds t.beads)) (_hn : t.size = n) (_hnc : n ≤ c) (_hw : t.wf = true) (_hm : n ≤ 5000) (_hT : TagB t)
    (_h : ∀ k e w', Ext w w' → (e = 0 ↔ Rb t.tr) → R (.returned (.tuple #[.int .i64 k, .int .i64 e])) w'), Calls Tryz.prog 332 #[.slice q n c] w R
  | .nil, q, n, c, w, R, hl, hn, hnc, hw, hm, hT, h => by
    refine sh332_ok _ _ _ ?_
    unfold sh332
    have : n = 0 := by rw [← hn]; rfl
    subst this
    exact ifB_t rfl (h _ _ _ (ext_refl w) (by simp [BT.tr, Rb]))
  | .node x L Rt, q, n, c, w, R, hl, hn, hnc, hw, hm, hT, h => by
    refine sh332_ok _ _ _ ?_
    unfold sh332
    have hsz := BT.size_node x L Rt
    obtain ⟨_, _, w2f, w3f⟩ := BT.wf_node hw
    obtain ⟨tx, tl, tr⟩ := hT.node
    refine ifB_f (by simp; omega) ?_
    refine do_call Tryz.call347 (c_r16one hl hn hnc hw hm hT fun e w0 e0 he => retS_ret ⟨_, rfl, ?_⟩)
    have key : Rb (BT.node x L Rt).tr ↔ Rb L.tr ∧ Rb Rt.tr ∧ e = 0 := by rw [he]; exact Iff.rfl
    refine ifB_intro (fun hne => ?_) fun hne => ?_
    · have hne : e ≠ 0 := by simpa using hne
      exact h _ _ _ e0 (by rw [key]; exact ⟨fun h => absurd h hne, fun h => h.2.2⟩)
    have hz : e = 0 := by simpa using hne
    refine do_call Tryz.call109 (c_parts (hl.ext e0) hn hnc hw hm fun p1 c1 p2 c2 w1 e1 hp h1 h2 => retS_ret ⟨_, _, _, _, _, _, _, _, _, _, _, _, _, rfl, ⟨?_⟩⟩)
    refine do_st7 (blk_alloc w1 _ _) fun w2 hb2 g2 => ?_
    have e2 : Ext w1 w2 := (ext_alloc w1 _).st g2 (Nat.le_refl _)
    have E2 := (e0.trans e1).trans e2
    have hcs := fun (w'' : World) (e : Ext w2 w'') => hp w'' (hl.ext (E2.trans e))
    refine do_call Tryz.call332 (c_r16parts L (hcs _ (ext_refl _)).1 rfl h1 w2f (by omega) tl fun k1 f1 w3 e3 hf1 => retS_ret ⟨_, _, rfl, ?_⟩)
    refine ifB_intro (fun hne => ?_) fun hne => ?_
    · have hne : f1 ≠ 0 := by simpa using hne
      exact h _ _ _ (E2.trans e3) (by rw [key]; exact ⟨fun h => absurd h hne, fun h => hf1.2 h.1⟩)
    have hz1 : f1 = 0 := by simpa using hne
    refine do_call Tryz.call332 (c_r16parts Rt (hcs _ e3).2 rfl h2 w3f (by omega) tr fun k2 f2 w4 e4 hf2 => retS_ret ⟨_, _, rfl, ?_⟩)
    exact h _ _ _ ((E2.trans e3).trans e4) (by rw [key]; exact ⟨fun h => ⟨hf1.1 hz1, hf2.1 h, hz⟩, fun h => hf2.2 h.2.1⟩)
end Go.Proofs.YtlddfgfmkapoiaaGreat

namespace Go.Proofs.YtlddfgfmkapoiaaGreat
open Go Go.Sh Go.RowKit

theorem c_r16check {t : BT} {q : Option Addr} {n c : Nat} {w : World} {R : Ending → World → Prop} (hl : Cs w q (bds t.beads)) (hn : t.size = n) (hnc : n ≤ c) (hw : t.wf = true) (hm : n ≤ 5000) (hT : TagB t)
    (h : ∀ k e w', Ext w w' → (e = 0 ↔ (Rb t.tr ∧ redR t.tr = false)) → R (.returned (.tuple #[.int .i64 k, .int .i64 e])) w') : Calls Tryz.prog 299 #[.slice q n c] w R := by
  refine sh299_ok _ _ _ ?_
  unfold sh299
  refine do_call Tryz.call332 (c_r16parts t hl hn hnc hw hm hT fun k e w1 e1 he => retS_ret ⟨_, _, rfl, ?_⟩)
  intro K9 K12
  refine ifB_intro (fun hz => ?_) fun hz => ?_
  · have hz : e = 0 := by simpa using hz
    refine do_call Tryz.call333 (c_r16red (hl.ext e1) hn hT (retS_ret ⟨_, rfl, ifB_intro (fun hr => ?_) fun hr => ?_⟩))
    · exact h _ _ _ e1 ⟨(fun h => by cases h), fun h => by rw [hr] at h; cases h.2⟩
    · exact h _ _ _ e1 ⟨fun _ => ⟨he.1 hz, hr⟩, fun _ => hz⟩
  · have hz : e ≠ 0 := by simpa using hz
    exact h _ _ _ e1 ⟨fun h => absurd h hz, fun h => he.2 h.1⟩
/-! ### weights -/
theorem c_r18like {a b : Nat} {w : World} {R : Ending → World → Prop} (h1 : 1 ≤ a ∧ a ≤ 10000) (h2 : 1 ≤ b ∧ b ≤ 10000) (h : R (.returned (.bool (likeW a b))) w) : Calls Tryz.prog 334 #[.int .i64 (a : Nat), .int .i64 (b : Nat)] w R := by
  refine sh334_ok _ _ ?_
  unfold sh334
  intro K5
  refine ifB_f (decide_eq_false (by omega)) (ifB_f (decide_eq_false (by omega)) (ifB_f (decide_eq_false (by omega)) (ifB_f (decide_eq_false (by omega)) ?_)))
  intro K8
  rw [wrap_of (x := (a : Int) + b) (by omega) (by omega), wrap_of (x := 29 * ((a : Int) + b)) (by omega) (by omega), wrap_of (x := 100 * (a : Int)) (by omega) (by omega)]
  have hr := h
  unfold likeW at hr
  refine ifB_intro (fun hc => ?_) fun hc => ?_
  · have hc := of_decide_eq_true hc
    have e : decide (29 * ((a : Int) + b) ≤ IntKind.wrap .i64 (100 * (b : Int))) = decide (29 * (a + b) ≤ 100 * a ∧ 29 * (a + b) ≤ 100 * b) := by
      rw [wrap_of (x := 100 * (b : Int)) (by omega) (by omega)]
      exact decide_eq_decide.2 (by omega)
    show R (.returned (.bool _)) w
    rw [e]
    exact hr
  · have hc := of_decide_eq_false hc
    rw [decide_eq_false (by omega)] at hr
    exact hr
set_option maxRecDepth 20000 in
theorem c_r18check : ∀ (t : BT) {q : Option Addr} {n c : Nat} {w : World} {R : Ending → World → Prop} (_hl : Cs w q (bds t.beads)) (_hn : t.size = n) (_hnc : n ≤ c) (_hw : t.wf = true) (_hm : n ≤ 5000)
    (_h : ∀ k e w', Ext w w' → (e = 0 ↔ Wb t.tr) → R (.returned (.tuple #[.int .i64 k, .int .i64 e])) w'), Calls Tryz.prog 300 #[.slice q n c] w R
  | .nil, q, n, c, w, R, hl, hn, hnc, hw, hm, h => by
    refine sh300_ok _ _ _ ?_
    unfold sh300
    have : n = 0 := by rw [← hn]; rfl
    subst this
    exact ifB_t rfl (h _ _ _ (ext_refl w) (by simp [BT.tr, Wb]))
  | .node x L Rt, q, n, c, w, R, hl, hn, hnc, hw, hm, h => by
    refine sh300_ok _ _ _ ?_
    unfold sh300
    have hsz := BT.size_node x L Rt
    obtain ⟨_, _, w2f, w3f⟩ := BT.wf_node hw
    refine ifB_f (by simp; omega) ?_
    refine do_call Tryz.call109 (c_parts hl hn hnc hw hm fun p1 c1 p2 c2 w1 e1 hp h1 h2 => retS_ret ⟨_, _, _, _, _, _, _, _, _, _, _, _, _, rfl, ⟨?_⟩⟩)
    refine do_st7 (blk_alloc w1 _ _) fun w2 hb2 g2 => ?_
    have e2 : Ext w1 w2 := (ext_alloc w1 _).st g2 (Nat.le_refl _)
    have E2 := e1.trans e2
    have hcs := fun (w'' : World) (e : Ext w2 w'') => hp w'' (hl.ext (E2.trans e))
    have key : Wb (BT.node x L Rt).tr ↔ Wb L.tr ∧ Wb Rt.tr ∧ x.tag = 0 ∧ likeW (L.size + 1) (Rt.size + 1) = true := by
      rw [← BT.tr_size, ← BT.tr_size]; exact Iff.rfl
    refine ⟨_, hb2.cell (i := 4) (add_blk _ _) rfl, ifB_intro (fun hne => ?_) fun hne => ?_⟩
    · have hne : x.tag ≠ 0 := by simpa using hne
      exact h _ _ _ E2 (by rw [key]; exact ⟨(fun h => by cases h), fun h => absurd h.2.2.1 hne⟩)
    have hz : x.tag = 0 := by simpa using hne
    have w1' : IntKind.wrap .i64 ((L.size : Int) + 1) = ((L.size + 1 : Nat) : Int) := by rw [wrap_of (by omega) (by omega)]; omega
    have w2' : IntKind.wrap .i64 ((Rt.size : Int) + 1) = ((Rt.size + 1 : Nat) : Int) := by rw [wrap_of (by omega) (by omega)]; omega
    rw [w1', w2']
    refine do_call Tryz.call334 (c_r18like (by omega) (by omega) (retS_ret ⟨_, rfl, ?_⟩))
    cases hk : likeW (L.size + 1) (Rt.size + 1) with
    | false => exact ifB_t rfl (h _ _ _ E2 (by rw [key, hk]; exact ⟨(fun h => by cases h), fun h => by cases h.2.2.2⟩))
    | true =>
      rw [hk] at key
      refine ifB_f rfl ?_
      refine do_call Tryz.call300 (c_r18check L (hcs _ (ext_refl _)).1 rfl h1 w2f (by omega) fun k1 f1 w3 e3 hf1 => retS_ret ⟨_, _, rfl, ?_⟩)
      refine ifB_intro (fun hne => ?_) fun hne => ?_
      · have hne : f1 ≠ 0 := by simpa using hne
        exact h _ _ _ (E2.trans e3) (by rw [key]; exact ⟨fun h => absurd h hne, fun h => hf1.2 h.1⟩)
      have hz1 : f1 = 0 := by simpa using hne
      refine do_call Tryz.call300 (c_r18check Rt (hcs _ e3).2 rfl h2 w3f (by omega) fun k2 f2 w4 e4 hf2 => retS_ret ⟨_, _, rfl, ?_⟩)
      exact h _ _ _ ((E2.trans e3).trans e4) (by rw [key]; exact ⟨fun h => ⟨hf1.1 hz1, hf2.1 h, hz, rfl⟩, fun h => hf2.2 h.2.1⟩)
/-! ### tags -/
theorem c_r20item {x : Bd} {w : World} {R : Ending → World → Prop} (h : ∀ w', Ext w w' → R (.returned (agI (x.key, x.val, x.tag))) w') : Calls Tryz.prog 190 #[bdV x] w R := by
  refine sh190_ok _ _ _ _ _ _ _ ?_
  unfold sh190
  have e0 := ext_alloc w (.cells #[.int .i64 x.key, .int .i64 x.val, .int .i64 x.sum, .int .i64 x.size, .int .u64 x.tag, .bool x.left, .bool x.right] 150)
  have hb := blk_alloc w #[.int .i64 x.key, .int .i64 x.val, .int .i64 x.sum, .int .i64 x.size, .int .u64 x.tag, .bool x.left, .bool x.right] 150
  refine ⟨⟨?_⟩⟩
  generalize w.alloc (.cells #[.int .i64 x.key, .int .i64 x.val, .int .i64 x.sum, .int .i64 x.size, .int .u64 x.tag, .bool x.left, .bool x.right] 150) = w1 at *
  have e1 := ext_alloc w1 (.cells #[.int .i64 0, .int .i64 0, .int .u64 0] 114)
  have hb := hb.ext e1
  refine ⟨_, hb.cell (i := 0) (add_blk _ _) rfl, _, hb.cell (i := 1) (add_blk _ _) rfl, _, hb.cell (i := 4) (add_blk _ _) rfl, do_st3 (blk_alloc w1 _ _) fun w2 h2 g2 => ?_⟩
  exact ⟨_, h2.cell (i := 0) (add_blk _ _) rfl, _, h2.cell (i := 1) (add_blk _ _) rfl, _, h2.cell (i := 2) (add_blk _ _) rfl, h _ (e0.trans (e1.st g2 (Nat.le_refl _)))⟩
theorem c_r20above {a b : It} {w : World} {R : Ending → World → Prop} (h : ∀ w', Ext w w' → R (.returned (.bool (decide (b.2.2 < a.2.2) || (decide (a.2.2 = b.2.2) && decide (b.1 < a.1))))) w') : Calls Tryz.prog 192 #[agI a, agI b] w R := by
  refine sh192_ok _ _ _ _ _ _ ?_
  unfold sh192
  have e0 := ext_alloc w (.cells #[.int .i64 a.1, .int .i64 a.2.1, .int .u64 a.2.2] 114)
  have hb := blk_alloc w #[.int .i64 a.1, .int .i64 a.2.1, .int .u64 a.2.2] 114
  refine ⟨⟨?_⟩⟩
  intro K13
  generalize w.alloc (.cells #[.int .i64 a.1, .int .i64 a.2.1, .int .u64 a.2.2] 114) = w1 at *
  have e1 := ext_alloc w1 (.cells #[.int .i64 b.1, .int .i64 b.2.1, .int .u64 b.2.2] 114)
  have hc := blk_alloc w1 #[.int .i64 b.1, .int .i64 b.2.1, .int .u64 b.2.2] 114
  have hb := hb.ext e1
  have hr := h _ (e0.trans e1)
  refine ⟨_, hb.cell (i := 2) (add_blk _ _) rfl, _, hc.cell (i := 2) (add_blk _ _) rfl, ifB_intro (fun h1 => ?_) fun h1 => ?_⟩
  · have h1 : b.2.2 < a.2.2 := of_decide_eq_true h1
    rw [decide_eq_true h1] at hr; exact hr
  · have h1 : ¬ b.2.2 < a.2.2 := of_decide_eq_false h1
    rw [decide_eq_false h1, Bool.false_or] at hr
    refine ⟨_, hb.cell (i := 2) (add_blk _ _) rfl, _, hc.cell (i := 2) (add_blk _ _) rfl, ifB_intro (fun h2 => ?_) fun h2 => ?_⟩
    · have h2 : a.2.2 = b.2.2 := by simpa using h2
      rw [decide_eq_true h2, Bool.true_and] at hr
      exact ⟨_, hb.cell (i := 0) (add_blk _ _) rfl, _, hc.cell (i := 0) (add_blk _ _) rfl, hr⟩
    · have h2 : ¬ a.2.2 = b.2.2 := by simpa using h2
      rw [decide_eq_false h2, Bool.false_and] at hr; exact hr
set_option maxRecDepth 20000 in
theorem c_r20over {t T : BT} {x : Bd} {L Rt : BT} (hT : T = .node x L Rt) {q : Option Addr} {n c : Nat} {w : World} {R : Ending → World → Prop} (hl : Cs w q (bds t.beads)) (hn : t.size = n)
    (h : ∀ w', Ext w w' → R (.returned (.bool (abT t.tr T.tr))) w') : Calls Tryz.prog 256 #[.slice q n c, bdV x] w R := by
  subst hT
  refine sh256_ok _ _ _ _ _ _ _ _ _ _ ?_
  unfold sh256
  refine ⟨?_⟩
  have e0 := ext_alloc w (.cells #[.int .i64 x.key, .int .i64 x.val, .int .i64 x.sum, .int .i64 x.size, .int .u64 x.tag, .bool x.left, .bool x.right] 150)
  have hb := blk_alloc w #[.int .i64 x.key, .int .i64 x.val, .int .i64 x.sum, .int .i64 x.size, .int .u64 x.tag, .bool x.left, .bool x.right] 150
  generalize hbx : w.heap.size = bx at *
  generalize w.alloc (.cells #[.int .i64 x.key, .int .i64 x.val, .int .i64 x.sum, .int .i64 x.size, .int .u64 x.tag, .bool x.left, .bool x.right] 150) = w1 at *
  intro K15
  have d := ext_drew w1
  refine ⟨⟨fun w' => Ext w1 w', d, ifB_intro (fun hc => ?_) fun hc => ?_⟩⟩
  · have hc : 0 < n := by have := of_decide_eq_true hc; omega
    cases t with
    | nil => have : n = 0 := by rw [← hn]; rfl
             omega
    | node y A B =>
      refine ix_flatC ecB_len (by omega) (C := fun w' => Ext w1 w') (fun w' e => hl.ext (e0.trans e)) d hn (k := 0) rfl hc fun a r => ?_
      refine ⟨_, fun w' e => r w' e 0 _ rfl, _, fun w' e => r w' e 1 _ rfl, _, fun w' e => r w' e 2 _ rfl, _, fun w' e => r w' e 3 _ rfl, _, fun w' e => r w' e 4 _ rfl, _, fun w' e => r w' e 5 _ rfl, _, fun w' e => r w' e 6 _ rfl, _, fun w' e => (hb.ext e).cell (i := 0) (add_blk _ _) rfl, _, fun w' e => (hb.ext e).cell (i := 1) (add_blk _ _) rfl, _, fun w' e => (hb.ext e).cell (i := 2) (add_blk _ _) rfl, _, fun w' e => (hb.ext e).cell (i := 3) (add_blk _ _) rfl, _, fun w' e => (hb.ext e).cell (i := 4) (add_blk _ _) rfl, _, fun w' e => (hb.ext e).cell (i := 5) (add_blk _ _) rfl, _, fun w' e => (hb.ext e).cell (i := 6) (add_blk _ _) rfl, ?_⟩
      refine do_call Tryz.call190 (c_r20item (x := y) fun w2 e2 => retS_ret ⟨_, _, _, rfl, d.trans e2, ?_⟩)
      refine do_call Tryz.call190 (c_r20item (x := x) fun w3 e3 => retS_ret ⟨_, _, _, rfl, (d.trans e2).trans e3, ?_⟩)
      refine do_call Tryz.call192 (c_r20above (a := (y.key, y.val, y.tag)) (b := (x.key, x.val, x.tag)) fun w4 e4 => retS_ret ⟨_, rfl, ((d.trans e2).trans e3).trans e4, ?_⟩)
      exact h _ (e0.trans (((d.trans e2).trans e3).trans e4))
  · have hc : n = 0 := by have := of_decide_eq_false hc; omega
    have : t = .nil := BT.size_nil (by rw [BT.nn_iff]; exact decide_eq_false (by omega))
    subst this
    exact h _ (e0.trans d)
set_option maxRecDepth 20000 in
theorem c_r20check : ∀ (t : BT) {q : Option Addr} {n c : Nat} {w : World} {R : Ending → World → Prop} (_hl : Cs w q (bds t.beads)) (_hn : t.size = n) (_hnc : n ≤ c) (_hw : t.wf = true) (_hm : n ≤ 5000)
    (_h : ∀ k e w', Ext w w' → (e = 0 ↔ Tp t.tr) → R (.returned (.tuple #[.int .i64 k, .int .i64 e])) w'), Calls Tryz.prog 200 #[.slice q n c] w R
  | .nil, q, n, c, w, R, hl, hn, hnc, hw, hm, h => by
    refine sh200_ok _ _ _ ?_
    unfold sh200
    have : n = 0 := by rw [← hn]; rfl
    subst this
    exact ifB_t rfl (h _ _ _ (ext_refl w) (by simp [BT.tr, Tp]))
  | .node x L Rt, q, n, c, w, R, hl, hn, hnc, hw, hm, h => by
    refine sh200_ok _ _ _ ?_
    unfold sh200
    have hsz := BT.size_node x L Rt
    obtain ⟨_, _, w2f, w3f⟩ := BT.wf_node hw
    refine ifB_f (by simp; omega) ?_
    refine do_call Tryz.call109 (c_parts hl hn hnc hw hm fun p1 c1 p2 c2 w1 e1 hp h1 h2 => retS_ret ⟨_, _, _, _, _, _, _, _, _, _, _, _, _, rfl, ⟨?_⟩⟩)
    refine do_st7 (blk_alloc w1 _ _) fun w2 hb2 g2 => ?_
    have e2 : Ext w1 w2 := (ext_alloc w1 _).st g2 (Nat.le_refl _)
    have E2 := e1.trans e2
    have hcs := fun (w'' : World) (e : Ext w2 w'') => hp w'' (hl.ext (E2.trans e))
    have key : Tp (BT.node x L Rt).tr ↔ Tp L.tr ∧ Tp Rt.tr ∧ abT L.tr (BT.node x L Rt).tr = false ∧ abT Rt.tr (BT.node x L Rt).tr = false := Iff.rfl
    intro K30
    refine ⟨_, hb2.cell (i := 0) (add_blk _ _) rfl, _, hb2.cell (i := 1) (add_blk _ _) rfl, _, hb2.cell (i := 2) (add_blk _ _) rfl, _, hb2.cell (i := 3) (add_blk _ _) rfl, _, hb2.cell (i := 4) (add_blk _ _) rfl, _, hb2.cell (i := 5) (add_blk _ _) rfl, _, hb2.cell (i := 6) (add_blk _ _) rfl, ?_⟩
    refine do_call Tryz.call256 (c_r20over (T := .node x L Rt) rfl (hcs _ (ext_refl _)).1 rfl fun w3 e3 => retS_ret ⟨_, rfl, ifB_intro (fun hab => ?_) fun hab => ?_⟩)
    · exact h _ _ _ (E2.trans e3) (by rw [key, hab]; exact ⟨(fun h => by cases h), fun h => by cases h.2.2.1⟩)
    rw [hab] at key
    have hb3 := hb2.ext e3
    refine ⟨_, hb3.cell (i := 0) (add_blk _ _) rfl, _, hb3.cell (i := 1) (add_blk _ _) rfl, _, hb3.cell (i := 2) (add_blk _ _) rfl, _, hb3.cell (i := 3) (add_blk _ _) rfl, _, hb3.cell (i := 4) (add_blk _ _) rfl, _, hb3.cell (i := 5) (add_blk _ _) rfl, _, hb3.cell (i := 6) (add_blk _ _) rfl, ?_⟩
    refine do_call Tryz.call256 (c_r20over (T := .node x L Rt) rfl (hcs _ e3).2 rfl fun w4 e4 => retS_ret ⟨_, rfl, ifB_intro (fun hab => ?_) fun hab => ?_⟩)
    · exact h _ _ _ ((E2.trans e3).trans e4) (by rw [key, hab]; exact ⟨(fun h => by cases h), fun h => by cases h.2.2.2⟩)
    rw [hab] at key
    have E4 := (E2.trans e3).trans e4
    refine do_call Tryz.call200 (c_r20check L (hcs _ (e3.trans e4)).1 rfl h1 w2f (by omega) fun k1 f1 w5 e5 hf1 => retS_ret ⟨_, _, rfl, ?_⟩)
    refine ifB_intro (fun hne => ?_) fun hne => ?_
    · have hne : f1 ≠ 0 := by simpa using hne
      exact h _ _ _ (E4.trans e5) (by rw [key]; exact ⟨fun h => absurd h hne, fun h => hf1.2 h.1⟩)
    have hz1 : f1 = 0 := by simpa using hne
    refine do_call Tryz.call200 (c_r20check Rt (hcs _ ((e3.trans e4).trans e5)).2 rfl h2 w3f (by omega) fun k2 f2 w6 e6 hf2 => retS_ret ⟨_, _, rfl, ?_⟩)
    exact h _ _ _ ((E4.trans e5).trans e6) (by rw [key]; exact ⟨fun h => ⟨hf1.1 hz1, hf2.1 h, rfl, rfl⟩, fun h => hf2.2 h.2.1⟩)
/-! ### all of them -/
theorem c_r22may {cd : Int} {t : BT} {q : Option Addr} {n c : Nat} {w : World} {R : Ending → World → Prop} (hcd : isS cd = true) (hl : Cs w q (bds t.beads)) (hn : t.size = n) (hnc : n ≤ c) (hw : t.wf = true) (hm : n ≤ 5000) (hT : TagB t)
    (h : ∀ b w', Ext w w' → (b = true ↔ OkM cd t.tr) → R (.returned (.bool b)) w') : Calls Tryz.prog 179 #[.int .u8 cd, .slice q n c] w R := by
  refine sh179_ok _ _ _ _ ?_
  unfold sh179
  refine do_call Tryz.call239 (sh239_ok _ _ _ _ ?_)
  unfold sh239
  rcases isS_iff.1 hcd with rfl | rfl | rfl | rfl
  · exact ifB_t rfl (do_call Tryz.call298 (c_r14check t hl hn hnc hw hm hT fun k e w1 e1 he => retS_ret ⟨_, _, rfl, retS_ret ⟨_, _, rfl, h _ _ e1 (by rw [beq_iff_eq, he]; exact ⟨fun h => ⟨.inl ⟨rfl, h⟩, by simp⟩, fun h => h.1.of1⟩)⟩⟩))
  · exact ifB_f rfl (ifB_t rfl (do_call Tryz.call299 (c_r16check hl hn hnc hw hm hT fun k e w1 e1 he => retS_ret ⟨_, _, rfl, retS_ret ⟨_, _, rfl, h _ _ e1 (by rw [beq_iff_eq, he]; exact ⟨fun h => ⟨.inr (.inl ⟨rfl, h.1⟩), fun _ => h.2⟩, fun h => ⟨h.1.of2, h.2 rfl⟩⟩)⟩⟩)))
  · exact ifB_f rfl (ifB_f rfl (ifB_t rfl (do_call Tryz.call300 (c_r18check t hl hn hnc hw hm fun k e w1 e1 he => retS_ret ⟨_, _, rfl, retS_ret ⟨_, _, rfl, h _ _ e1 (by rw [beq_iff_eq, he]; exact ⟨fun h => ⟨.inr (.inr (.inl ⟨rfl, h⟩)), by simp⟩, fun h => h.1.of3⟩)⟩⟩))))
  · exact ifB_f rfl (ifB_f rfl (ifB_f rfl (do_call Tryz.call200 (c_r20check t hl hn hnc hw hm fun k e w1 e1 he => retS_ret ⟨_, _, rfl, retS_ret ⟨_, _, rfl, h _ _ e1 (by rw [beq_iff_eq, he]; exact ⟨fun h => ⟨.inr (.inr (.inr ⟨rfl, h⟩)), by simp⟩, fun h => h.1.of4⟩)⟩⟩))))
end Go.Proofs.YtlddfgfmkapoiaaGreat

