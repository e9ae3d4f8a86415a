/-
  Parts, Make, Pairs, Height of beads; whether beads are a tree.
-/
import Derived.Test.YtinkkhcffoikmaaTree
namespace Go.Proofs.Ytinkkhcffoikmaa
open Go Go.Sh Go.RowKit

def bdV (x : Bd) : Value := .agg #[.int .i64 x.key, .int .i64 x.val, .int .i64 x.sum, .int .i64 x.size, .int .u64 x.tag, .bool x.left, .bool x.right]
set_option maxRecDepth 20000 in
theorem c_parts {x : Bd} {L Rt : BT} {q : Option Addr} {n c : Nat} {w : World} {R : Ending → World → Prop} (hl : Cs w q (bds (BT.node x L Rt).beads)) (hn : (BT.node x L Rt).size = n) (hnc : n ≤ c) (hw : (BT.node x L Rt).wf = true) (hm : n ≤ 5000)
    (h : ∀ p1 c1 p2 c2 w', Ext w w' → (∀ w'', Cs w'' q (bds (BT.node x L Rt).beads) → Cs w'' p1 (bds L.beads) ∧ Cs w'' p2 (bds Rt.beads)) → L.size ≤ c1 → Rt.size ≤ c2 → R (.returned (.tuple #[bdV x, .slice p1 L.size c1, .slice p2 Rt.size c2])) w') :
    Calls Try.prog 70 #[.slice q n c] w R := by
  refine sh70_ok _ _ _ ?_
  unfold sh70
  refine ⟨?_⟩
  obtain ⟨w1f, _, w2f, w3f⟩ := BT.wf_node hw
  have e1 := ext_alloc w (.cells #[.int .i64 0, .int .i64 0, .int .i64 0, .int .i64 0, .int .u64 0, .bool false, .bool false] 88)
  have hb := blk_alloc w #[.int .i64 0, .int .i64 0, .int .i64 0, .int .i64 0, .int .u64 0, .bool false, .bool false] 88
  generalize hb0 : w.heap.size = b at *
  generalize w.alloc (.cells #[.int .i64 0, .int .i64 0, .int .i64 0, .int .i64 0, .int .u64 0, .bool false, .bool false] 88) = w1 at *
  have hsz := BT.size_node x L Rt
  have hln : (BT.node x L Rt).beads.length = n := hn
  have hk : ∀ k : Int, k = (L.size : Int) → _ := fun k hk => by
    subst hk
    have ew : IntKind.wrap .i64 (1 + (L.size : Int)) = ((1 + L.size : Nat) : Int) := by rw [wrap_of (by omega) (by omega)]; omega
    refine (show doDr w1 (fun w10 => ∃ (C9 : World → Prop), C9 w10 ∧ (
      doIx q n 7 (0) (fun a11 => ∃ (x12 : Int), (∀ w, C9 w → World.cell? w (a11.add 0) = some (.int .i64 x12)) ∧ (
      ∃ (x13 : Int), (∀ w, C9 w → World.cell? w (a11.add 1) = some (.int .i64 x13)) ∧ (
      ∃ (x14 : Int), (∀ w, C9 w → World.cell? w (a11.add 2) = some (.int .i64 x14)) ∧ (
      ∃ (x15 : Int), (∀ w, C9 w → World.cell? w (a11.add 3) = some (.int .i64 x15)) ∧ (
      ∃ (x16 : Int), (∀ w, C9 w → World.cell? w (a11.add 4) = some (.int .u64 x16)) ∧ (
      ∃ (x17 : Bool), (∀ w, C9 w → World.cell? w (a11.add 5) = some (.bool x17)) ∧ (
      ∃ (x18 : Bool), (∀ w, C9 w → World.cell? w (a11.add 6) = some (.bool x18)) ∧ (
      doSl q c 7 (1) (IntKind.wrap .i64 (1 + (L.size : Int))) (fun p19 n20 c21 =>
      doSl q c 7 (IntKind.wrap .i64 (1 + (L.size : Int))) (((n : Nat) : Int)) (fun p22 n23 c24 =>
      doSt ((blk b).add 0) (.int .i64 x12) w10 (fun w25 => doSt ((blk b).add 1) (.int .i64 x13) w25 (fun w26 =>
      doSt ((blk b).add 2) (.int .i64 x14) w26 (fun w27 => doSt ((blk b).add 3) (.int .i64 x15) w27 (fun w28 =>
      doSt ((blk b).add 4) (.int .u64 x16) w28 (fun w29 => doSt ((blk b).add 5) (.bool x17) w29 (fun w30 =>
      doSt ((blk b).add 6) (.bool x18) w30 (fun w31 =>
      ∃ (x32 : Int), World.cell? w31 ((blk b).add 0) = some (.int .i64 x32) ∧ (
      ∃ (x33 : Int), World.cell? w31 ((blk b).add 1) = some (.int .i64 x33) ∧ (
      ∃ (x34 : Int), World.cell? w31 ((blk b).add 2) = some (.int .i64 x34) ∧ (
      ∃ (x35 : Int), World.cell? w31 ((blk b).add 3) = some (.int .i64 x35) ∧ (
      ∃ (x36 : Int), World.cell? w31 ((blk b).add 4) = some (.int .u64 x36) ∧ (
      ∃ (x37 : Bool), World.cell? w31 ((blk b).add 5) = some (.bool x37) ∧ (
      ∃ (x38 : Bool), World.cell? w31 ((blk b).add 6) = some (.bool x38) ∧ (
      R (.returned (.tuple #[.agg #[.int .i64 x32, .int .i64 x33, .int .i64 x34, .int .i64 x35, .int .u64 x36, .bool x37, .bool x38], .slice p19 n20 c21, .slice p22 n23 c24])) w31)))))))))))))))))))))))))) from ?_)
    refine ⟨⟨fun w' => Ext w w', e1.drew, ?_⟩⟩
    refine ix_flatC ecB_len (by omega) (C := fun w' => Ext w w') (fun w' e => hl.ext e) e1 hln (k := 0) rfl (by omega) fun a r => ?_
    refine ⟨_, fun w' e => r w' e 0 _ rfl, _, fun w' e => r w' e 1 _ rfl, _, fun w' e => r w' e 2 _ rfl, _, fun w' e => r w' e 3 _ rfl, _, fun w' e => r w' e 4 _ rfl, _, fun w' e => r w' e 5 _ rfl, _, fun w' e => r w' e 6 _ rfl, ?_⟩
    refine sl_flat ecB_len (by omega) hl hln hnc (a := 1) (b := 1 + L.size) rfl ew (by omega) (by omega) fun p1 hp1 => ?_
    refine sl_flat ecB_len (by omega) hl hln hnc (a := 1 + L.size) (b := n) ew rfl (by omega) (Nat.le_refl n) fun p2 hp2 => ?_
    refine do_st7 (w := w1.drew) hb fun w2 h2 g2 => ?_
    refine ⟨_, h2.cell (i := 0) (add_blk _ _) rfl, _, h2.cell (i := 1) (add_blk _ _) rfl, _, h2.cell (i := 2) (add_blk _ _) rfl, _, h2.cell (i := 3) (add_blk _ _) rfl, _, h2.cell (i := 4) (add_blk _ _) rfl, _, h2.cell (i := 5) (add_blk _ _) rfl, _, h2.cell (i := 6) (add_blk _ _) rfl, ?_⟩
    have hL1 : 1 + L.size - 1 = L.size := by omega
    have hR1 : n - (1 + L.size) = Rt.size := by omega
    rw [hL1, hR1]
    refine h p1 _ p2 _ w2 (e1.drew.st g2 (by omega)) (fun w'' hc => ⟨?_, ?_⟩) (by omega) (by omega)
    · have := hp1 w'' hc
      rw [show ((BT.node x L Rt).beads.take (1 + L.size)).drop 1 = L.beads by
        simp only [BT.beads]
        rw [show 1 + L.size = L.size + 1 by omega, List.take_succ_cons, List.drop_succ_cons, List.drop_zero, List.take_left]] at this
      exact this
    · have := hp2 w'' hc
      rw [show ((BT.node x L Rt).beads.take n).drop (1 + L.size) = Rt.beads by
        rw [List.take_of_length_le (by omega)]
        simp only [BT.beads]
        rw [show 1 + L.size = L.size + 1 by omega, List.drop_succ_cons, List.drop_left]] at this
      exact this
  refine ix_flat ecB_len (by omega) (hl.ext e1) hln (k := 0) rfl (by omega) fun a r _ => ?_
  refine ⟨x.left, r 5 _ rfl, ?_⟩
  refine ifB_intro (fun hlf => ?_) fun hlf => ?_
  · refine do_call Try.call108 (c_ends (hl.ext e1) hln (by omega) 5001 0 1 _ rfl (by omega) (retS_ret ⟨_, rfl, ?_⟩))
    have hp : parse 5001 ((BT.node x L Rt).beads.drop 1) = some L := by
      simp only [BT.beads, List.drop_succ_cons, List.drop_zero]
      exact parse_of _ (by rw [← w1f]; exact hlf) w2f (by have := L.depth_le; omega)
    rw [hp]
    exact hk _ rfl
  · have : L.size = 0 := by
      have := L.nn_iff
      rw [← w1f, hlf] at this
      simpa using this
    have h2 := hk _ rfl
    rw [show (L.size : Int) = 0 by rw [this]; rfl] at h2
    exact h2
theorem c_bmay {l : List Bd} {q : Option Addr} {n c : Nat} {w : World} {R : Ending → World → Prop} (hl : Cs w q (bds l)) (hn : l.length = n) (hm : n ≤ 1000000000000)
    (h : R (.returned (.bool (mayB l))) w) : Calls Try.prog 68 #[.slice q n c] w R := by
  refine sh68_ok _ _ _ ?_
  unfold sh68
  refine ifB_intro (fun h0 => ?_) fun h0 => ?_
  · have h0 : n = 0 := by simpa using h0
    have : l = [] := List.eq_nil_of_length_eq_zero (by omega)
    subst this
    exact h
  · have h0 : n ≠ 0 := by simpa using h0
    refine do_call Try.call108 (c_ends hl hn hm 5001 0 0 _ rfl (by omega) (retS_ret ⟨_, rfl, ?_⟩))
    have he : l.isEmpty = false := by cases l <;> simp_all
    rw [List.drop_zero]
    unfold mayB at h
    rw [he, Bool.false_or] at h
    cases hp : parse 5001 l with
    | none =>
      rw [hp] at h
      have : ((-1 : Int) == (n : Int)) = false := by simp
      simp only [this]
      exact h
    | some t =>
      rw [hp] at h
      have : ((t.size : Int) == (n : Int)) = (t.size == l.length) := by
        rw [hn, Bool.eq_iff_iff]; simp only [beq_iff_eq]; exact Int.ofNat_inj
      simp only [this]
      exact h
/-- beads of which a statement makes no tree -/
theorem c_long {l : List Bd} {q : Option Addr} {n c : Nat} {w : World} {R : Ending → World → Prop} (hl : Cs w q (bds l)) (hn : l.length = n)
    (h : ∀ b, (b = true ∨ (b = false ∧ n ≤ 400 ∧ ∃ t : BT, t.wf = true ∧ l = t.beads)) → R (.returned (.bool b)) w) : Calls Try.prog 13 #[.slice q n c] w R := by
  refine sh13_ok _ _ _ ?_
  unfold sh13
  refine ifB_intro (fun _ => h _ (.inl rfl)) fun hle => ?_
  have hle : n ≤ 400 := by have := of_decide_eq_false hle; omega
  refine do_call Try.call68 (c_bmay hl hn (by omega) (retS_ret ⟨_, rfl, h _ ?_⟩))
  cases hm : mayB l
  · exact .inl rfl
  · exact .inr ⟨rfl, hle, mayB_some hm⟩
set_option maxRecDepth 20000 in
theorem c_make : ∀ (t : BT) {q : Option Addr} {n c : Nat} {w : World} {R : Ending → World → Prop} (_hl : Cs w q (bds t.beads)) (_hn : t.size = n) (_hnc : n ≤ c) (_hw : t.wf = true) (_hm : n ≤ 5000)
    (_h : ∀ p w', Ext w w' → IsN w' p t.tr → R (.returned (.pointer p)) w'), Calls Try.prog 15 #[.slice q n c] w R
  | .nil, q, n, c, w, R, hl, hn, hnc, hw, hm, h => by
    refine sh15_ok _ _ _ ?_
    unfold sh15
    have : n = 0 := by rw [← hn]; rfl
    subst this
    exact ifB_t rfl (h _ _ (ext_refl w) rfl)
  | .node x L Rt, q, n, c, w, R, hl, hn, hnc, hw, hm, h => by
    refine sh15_ok _ _ _ ?_
    unfold sh15
    have hsz := BT.size_node x L Rt
    obtain ⟨_, _, w2f, w3f⟩ := BT.wf_node hw
    refine ifB_f (by simp; omega) ?_
    refine do_call Try.call70 (c_parts hl hn hnc hw hm fun p1 c1 p2 c2 w1 e1 hp h1 h2 => retS_ret ⟨_, _, _, _, _, _, _, _, _, _, _, _, _, rfl, ⟨?_⟩⟩)
    refine do_st7 (blk_alloc w1 _ _) fun w2 hb2 g2 => ?_
    have e2 : Ext w1 w2 := (ext_alloc w1 _).st g2 (Nat.le_refl _)
    have E2 := e1.trans e2
    have hcs := fun (w'' : World) (e : Ext w2 w'') => hp w'' (hl.ext (E2.trans e))
    refine ⟨⟨fun w' => Ext w2 w', ext_drew _, _, fun w' e => (hb2.ext e).cell (i := 0) (add_blk _ _) rfl, _, fun w' e => (hb2.ext e).cell (i := 1) (add_blk _ _) rfl, _, fun w' e => (hb2.ext e).cell (i := 4) (add_blk _ _) rfl, ?_⟩⟩
    refine do_call Try.call15 (c_make L (hcs _ (ext_drew _)).1 rfl h1 w2f (by omega) fun pl w3 e3 hL => retS_ret ⟨_, rfl, (ext_drew w2).trans e3, ?_⟩)
    have E3 := (ext_drew w2).trans e3
    refine do_call Try.call15 (c_make Rt (hcs _ E3).2 rfl h2 w3f (by omega) fun pr w4 e4 hR => retS_ret ⟨_, rfl, E3.trans e4, ?_⟩)
    have E4 := E3.trans e4
    refine do_call Try.call69 (c_new (hL.ext e4) hR (by rw [BT.tr_size, BT.tr_size]; omega) fun b w5 e5 hN _ => retS_ret ⟨_, rfl, h _ _ (E2.trans (E4.trans e5)) hN⟩)
end Go.Proofs.Ytinkkhcffoikmaa
