/-
  The document's checks of trees, of beads: layers 14, 16, 18, 20, 22.
-/
/-
  The document's checks of trees, of beads: layers 16, 18, 20, 22.
-/
/-
  Rows of items: Items, See, Same.
-/
/-
  Has, Is; the document's answers of layers 12, 24.
-/
/-
  The document's answers of layer 24; what a statement parts.
-/
/-
  Layer 24: what a statement parts; the chapter's examples.
-/
/-
  Trees made of rows, in plain; the frame of what is changed: a scheme, and draws.
-/
import Derived.Test.YtlddfgfmkapoiaaGreatZ19

namespace Go.Proofs.YtlddfgfmkapoiaaGreat
open Go Go.Sh Go.RowKit

/-- tags that fit -/
def TagB (t : BT) : Prop := ∀ x ∈ t.beads, 0 ≤ x.tag ∧ x.tag < 18446744073709551616
theorem TagB.node {x : Bd} {L R : BT} (h : TagB (.node x L R)) : (0 ≤ x.tag ∧ x.tag < 18446744073709551616) ∧ TagB L ∧ TagB R :=
  ⟨h _ (by simp [BT.beads]), fun y hy => h _ (by simp [BT.beads, hy]), fun y hy => h _ (by simp [BT.beads, hy])⟩
theorem TagB.tag {t : BT} (h : TagB t) : 0 ≤ t.tr.tag ∧ t.tr.tag < 18446744073709551616 := by
  cases t with
  | nil => exact ⟨Int.le_refl _, by decide⟩
  | node x l r => exact h.node.1
theorem c_r14tag {t : BT} {q : Option Addr} {n c : Nat} {w : World} {R : Ending → World → Prop} (hl : Cs w q (bds t.beads)) (hn : t.size = n) (h : R (.returned (.int .u64 t.tr.tag)) w) : Calls Tryz.prog 346 #[.slice q n c] w R := by
  refine sh346_ok _ _ _ ?_
  unfold sh346
  cases t with
  | nil =>
    have : n = 0 := by rw [← hn]; rfl
    subst this
    exact ifB_t rfl h
  | node x L Rt =>
    have hsz := BT.size_node x L Rt
    refine ifB_f (by simp; omega) ?_
    refine ix_flat ecB_len (by omega) hl hn (k := 0) rfl (by omega) fun a r _ => ?_
    exact ⟨_, r 4 _ rfl, h⟩
set_option maxRecDepth 20000 in
theorem c_r14one {x : Bd} {L Rt : BT} {q : Option Addr} {n c : Nat} {w : World} {R : Ending → World → Prop} (hl : Cs w q (bds (BT.node x L Rt).beads)) (hn : (BT.node x L Rt).size = n) (hnc : n ≤ c) (hw : (BT.node x L Rt).wf = true) (hm : n ≤ 5000) (hT : TagB (.node x L Rt))
    (h : ∀ e w', Ext w w' → (e = 0 ↔ (x.tag = max L.tr.tag Rt.tr.tag + 1 ∧ L.tr.tag ≤ Rt.tr.tag + 1 ∧ Rt.tr.tag ≤ L.tr.tag + 1)) → R (.returned (.int .i64 e)) w') : Calls Tryz.prog 331 #[.slice q n c] w R := by
  refine sh331_ok _ _ _ ?_
  unfold sh331
  obtain ⟨tx, tl, tr⟩ := hT.node
  have tl := tl.tag
  have tr := tr.tag
  refine do_call Tryz.call109 (c_parts hl hn hnc hw hm fun p1 c1 p2 c2 w1 e1 hp h1 h2 => retS_ret ⟨_, _, _, _, _, _, _, _, _, _, _, _, _, rfl, ⟨?_⟩⟩)
  refine do_st7 (blk_alloc w1 _ _) fun w2 hb2 g2 => ?_
  have e2 : Ext w1 w2 := (ext_alloc w1 _).st g2 (Nat.le_refl _)
  have E2 := e1.trans e2
  have hcs := hp w2 (hl.ext E2)
  refine do_call Tryz.call346 (c_r14tag hcs.1 rfl (retS_ret ⟨_, rfl, ?_⟩))
  refine do_call Tryz.call346 (c_r14tag hcs.2 rfl (retS_ret ⟨_, rfl, ?_⟩))
  refine do_mink (retS_ret ⟨_, rfl, ?_⟩)
  refine do_call Tryz.call346 (c_r14tag hcs.1 rfl (retS_ret ⟨_, rfl, ?_⟩))
  refine do_call Tryz.call346 (c_r14tag hcs.2 rfl (retS_ret ⟨_, rfl, ?_⟩))
  refine do_maxk (retS_ret ⟨_, rfl, ?_⟩)
  intro K48
  refine ⟨_, hb2.cell (i := 4) (add_blk _ _) rfl, ifB_intro (fun h0 => ?_) fun h0 => ?_⟩
  · have h0 : x.tag = 0 := by simpa using h0
    exact h _ _ E2 (by constructor <;> intro hh <;> omega)
  · have h0 : x.tag ≠ 0 := by simpa using h0
    refine ⟨_, hb2.cell (i := 4) (add_blk _ _) rfl, ?_⟩
    rw [wrapU_of (x := x.tag - 1) (by omega) (by omega)]
    refine ifB_intro (fun h3 => ?_) fun h3 => ?_
    · have h3 : x.tag - 1 ≠ max L.tr.tag Rt.tr.tag := by simpa using h3
      exact h _ _ E2 (by constructor <;> intro hh <;> omega)
    · have h3 : x.tag - 1 = max L.tr.tag Rt.tr.tag := by simpa using h3
      rw [wrapU_of (by omega) (by omega)]
      refine ifB_intro (fun h4 => ?_) fun h4 => ?_
      · have h4 := of_decide_eq_true h4
        exact h _ _ E2 (by constructor <;> intro hh <;> omega)
      · have h4 := of_decide_eq_false h4
        exact h _ _ E2 (by constructor <;> intro hh <;> omega)
set_option maxRecDepth 20000 in
theorem c_r14check : ∀ (t : BT) {q : Option Addr} {n c : Nat} {w : World} {R : Ending → World → Prop} (_hl : Cs w q (bds t.beads)) (_hn : t.size = n) (_hnc : n ≤ c) (_hw : t.wf = true) (_hm : n ≤ 5000) (_hT : TagB t)
    (_h : ∀ k e w', Ext w w' → (e = 0 ↔ Avl t.tr) → R (.returned (.tuple #[.int .i64 k, .int .i64 e])) w'), Calls Tryz.prog 298 #[.slice q n c] w R
  | .nil, q, n, c, w, R, hl, hn, hnc, hw, hm, hT, h => by
    refine sh298_ok _ _ _ ?_
    unfold sh298
    have : n = 0 := by rw [← hn]; rfl
    subst this
    exact ifB_t rfl (h _ _ _ (ext_refl w) (by simp [BT.tr, Avl]))
  | .node x L Rt, q, n, c, w, R, hl, hn, hnc, hw, hm, hT, h => by
    refine sh298_ok _ _ _ ?_
    unfold sh298
    have hsz := BT.size_node x L Rt
    obtain ⟨_, _, w2f, w3f⟩ := BT.wf_node hw
    obtain ⟨tx, tl, tr⟩ := hT.node
    refine ifB_f (by simp; omega) ?_
    refine do_call Tryz.call331 (c_r14one hl hn hnc hw hm hT fun e w0 e0 he => retS_ret ⟨_, rfl, ?_⟩)
    have key : Avl (BT.node x L Rt).tr ↔ Avl L.tr ∧ Avl Rt.tr ∧ e = 0 := by rw [he]; exact Iff.rfl
    refine ifB_intro (fun hne => ?_) fun hne => ?_
    · have hne : e ≠ 0 := by simpa using hne
      exact h _ _ _ e0 (by rw [key]; exact ⟨fun h => absurd h hne, fun h => h.2.2⟩)
    have hz : e = 0 := by simpa using hne
    refine do_call Tryz.call109 (c_parts (hl.ext e0) hn hnc hw hm fun p1 c1 p2 c2 w1 e1 hp h1 h2 => retS_ret ⟨_, _, _, _, _, _, _, _, _, _, _, _, _, rfl, ⟨?_⟩⟩)
    refine do_st7 (blk_alloc w1 _ _) fun w2 hb2 g2 => ?_
    have e2 : Ext w1 w2 := (ext_alloc w1 _).st g2 (Nat.le_refl _)
    have E2 := (e0.trans e1).trans e2
    have hcs := fun (w'' : World) (e : Ext w2 w'') => hp w'' (hl.ext (E2.trans e))
    refine do_call Tryz.call298 (c_r14check L (hcs _ (ext_refl _)).1 rfl h1 w2f (by omega) tl fun k1 f1 w3 e3 hf1 => retS_ret ⟨_, _, rfl, ?_⟩)
    refine ifB_intro (fun hne => ?_) fun hne => ?_
    · have hne : f1 ≠ 0 := by simpa using hne
      exact h _ _ _ (E2.trans e3) (by rw [key]; exact ⟨fun h => absurd h hne, fun h => hf1.2 h.1⟩)
    have hz1 : f1 = 0 := by simpa using hne
    refine do_call Tryz.call298 (c_r14check Rt (hcs _ e3).2 rfl h2 w3f (by omega) tr fun k2 f2 w4 e4 hf2 => retS_ret ⟨_, _, rfl, ?_⟩)
    exact h _ _ _ ((E2.trans e3).trans e4) (by rw [key]; exact ⟨fun h => ⟨hf1.1 hz1, hf2.1 h, hz⟩, fun h => hf2.2 h.2.1⟩)
/-! ### colours -/
theorem c_r16high {t : BT} {q : Option Addr} {n c : Nat} {w : World} {R : Ending → World → Prop} (hl : Cs w q (bds t.beads)) (hn : t.size = n) (hT : TagB t) (h : R (.returned (.int .u64 (hiR t.tr))) w) : Calls Tryz.prog 352 #[.slice q n c] w R := by
  refine sh352_ok _ _ _ ?_
  unfold sh352
  have := hT.tag
  refine do_call Tryz.call346 (c_r14tag hl hn (retS_ret ⟨_, rfl, by decide, ?_⟩))
  rw [Int.tdiv_eq_ediv_of_nonneg this.1, wrapU_of (by omega) (by omega)]
  exact h
theorem c_r16red {t : BT} {q : Option Addr} {n c : Nat} {w : World} {R : Ending → World → Prop} (hl : Cs w q (bds t.beads)) (hn : t.size = n) (hT : TagB t) (h : R (.returned (.bool (redR t.tr))) w) : Calls Tryz.prog 333 #[.slice q n c] w R := by
  refine sh333_ok _ _ _ ?_
  unfold sh333
  have := hT.tag
  refine do_call Tryz.call346 (c_r14tag hl hn (retS_ret ⟨_, rfl, by decide, ?_⟩))
  rw [Int.tmod_eq_emod_of_nonneg this.1]
  exact h
theorem wrapU_mod (x : Int) : IntKind.wrap .u64 x = x % 18446744073709551616 := by
  simp only [IntKind.wrap, IntKind.signed, IntKind.bits]
  simp
set_option maxRecDepth 20000 in
theorem c_r16one {x : Bd} {L Rt : BT} {q : Option Addr} {n c : Nat} {w : World} {R : Ending → World → Prop} (hl : Cs w q (bds (BT.node x L Rt).beads)) (hn : (BT.node x L Rt).size = n) (hnc : n ≤ c) (hw : (BT.node x L Rt).wf = true) (hm : n ≤ 5000) (hT : TagB (.node x L Rt))
    (h : ∀ e w', Ext w w' → (e = 0 ↔ (hiR L.tr = hiR Rt.tr ∧ ((x.tag = 2 * hiR L.tr + 1 ∧ redR L.tr = false ∧ redR Rt.tr = false) ∨ x.tag = 2 * hiR L.tr + 2))) → R (.returned (.int .i64 e)) w') : Calls Tryz.prog 347 #[.slice q n c] w R := by
  refine sh347_ok _ _ _ ?_
  unfold sh347
  obtain ⟨tx, tL, tR⟩ := hT.node
  have tl := tL.tag
  have tr := tR.tag
  have hl0 : 0 ≤ hiR L.tr ∧ hiR L.tr < 9223372036854775808 := by unfold hiR; omega
  refine do_call Tryz.call109 (c_parts hl hn hnc hw hm fun p1 c1 p2 c2 w1 e1 hp h1 h2 => retS_ret ⟨_, _, _, _, _, _, _, _, _, _, _, _, _, rfl, ⟨?_⟩⟩)
  refine do_st7 (blk_alloc w1 _ _) fun w2 hb2 g2 => ?_
  have e2 : Ext w1 w2 := (ext_alloc w1 _).st g2 (Nat.le_refl _)
  have E2 := e1.trans e2
  have hcs := hp w2 (hl.ext E2)
  refine do_call Tryz.call352 (c_r16high hcs.1 rfl tL (retS_ret ⟨_, rfl, ?_⟩))
  intro K32 K50
  have hb4 := hb2.cell (i := 4) (add_blk w1.heap.size 4) rfl
  have hK32 : (x.tag = 2 * hiR L.tr + 1 ∨ x.tag = 2 * hiR L.tr + 2) → K32 w2 := by
    intro htag
    simp -zeta -zetaHave only [K32]
    intro K34 K37
    refine do_call Tryz.call352 (c_r16high hcs.2 rfl tR (retS_ret ⟨_, rfl, ?_⟩))
    refine ifB_intro (fun h3 => ?_) fun h3 => ?_
    · have h3 : hiR Rt.tr ≠ hiR L.tr := by simpa using h3
      exact h _ _ E2 ⟨(fun h => by cases h), fun h => absurd h.1.symm h3⟩
    · have h3 : hiR Rt.tr = hiR L.tr := by simpa using h3
      refine ⟨_, hb4, by decide, ?_⟩
      rw [Int.tmod_eq_emod_of_nonneg tx.1]
      refine ifB_intro (fun h5 => ?_) fun h5 => ?_
      · have h5 : x.tag % 2 = 1 := by simpa using h5
        have h6 : x.tag = 2 * hiR L.tr + 1 := by omega
        refine do_call Tryz.call333 (c_r16red hcs.1 rfl tL (retS_ret ⟨_, rfl, ifB_intro (fun h7 => ?_) fun h7 => ?_⟩))
        · refine h _ _ E2 ⟨(fun h => by cases h), fun h => ?_⟩
          rcases h.2 with h | h
          · rw [h7] at h; simp at h
          · omega
        · refine do_call Tryz.call333 (c_r16red hcs.2 rfl tR (retS_ret ⟨_, rfl, ifB_intro (fun h8 => ?_) fun h8 => ?_⟩))
          · refine h _ _ E2 ⟨(fun h => by cases h), fun h => ?_⟩
            rcases h.2 with h | h
            · rw [h8] at h; simp at h
            · omega
          · exact h _ _ E2 ⟨fun _ => ⟨h3.symm, .inl ⟨h6, h7, h8⟩⟩, fun _ => rfl⟩
      · have h5 : x.tag % 2 ≠ 1 := by simpa using h5
        exact h _ _ E2 ⟨fun _ => ⟨h3.symm, .inr (by omega)⟩, fun _ => rfl⟩
  refine ⟨_, hb4, ifB_intro (fun h0 => ?_) fun h0 => ?_⟩
  · have h0 : x.tag = 0 := by simpa using h0
    refine h _ _ E2 ⟨(fun h => by cases h), fun h => ?_⟩
    rcases h.2 with h | h <;> omega
  · have h0 : x.tag ≠ 0 := by simpa using h0
    refine ⟨_, hb4, ?_⟩
    rw [wrapU_of (x := 2 * hiR L.tr) (by omega) (by omega), wrapU_of (x := 2 * hiR L.tr + 1) (by omega) (by omega)]
    refine ifB_intro (fun h3 => ⟨_, hb4, ?_⟩) fun h3 => ?_
    · have h3 : x.tag ≠ 2 * hiR L.tr + 1 := by simpa using h3
      rw [wrapU_mod]
      refine ifB_intro (fun h4 => ?_) fun h4 => ?_
      · have h4 : x.tag ≠ (2 * hiR L.tr + 2) % 18446744073709551616 := by simpa using h4
        refine h _ _ E2 ⟨(fun h => by cases h), fun h => ?_⟩
        rcases h.2 with h | h
        · exact absurd h.1 h3
        · omega
      · have h4 : x.tag = (2 * hiR L.tr + 2) % 18446744073709551616 := by simpa using h4
        exact hK32 (by omega)
    · have h3 : x.tag = 2 * hiR L.tr + 1 := by simpa using h3
      exact hK32 (.inl h3)
set_option maxRecDepth 20000 in
theorem c_r16parts : ∀ (t : BT) {q : Option Addr} {n c : Nat} {w : World} {R : Ending → World → Prop} (_hl : Cs w q (bds t.beads)) (_hn : t.size = n) (_hnc : n ≤ c) (_hw : t.wf = true) (_hm : n ≤ 5000) (_hT : TagB t)
    (_h : ∀ k e w', Ext w w' → (e = 0 ↔ Rb t.tr) → R (.returned (.tuple #[.int .i64 k, .int .i64 e])) w'), Calls Tryz.prog 332 #[.slice q n c] w R
  | .nil, q, n, c, w, R, hl, hn, hnc, hw, hm, hT, h => by
    refine sh332_ok _ _ _ ?_
    unfold sh332
    have : n = 0 := by rw [← hn]; rfl
    subst this
    exact ifB_t rfl (h _ _ _ (ext_refl w) (by simp [BT.tr, Rb]))
  | .node x L Rt, q, n, c, w, R, hl, hn, hnc, hw, hm, hT, h => by
    refine sh332_ok _ _ _ ?_
    unfold sh332
    have hsz := BT.size_node x L Rt
    obtain ⟨_, _, w2f, w3f⟩ := BT.wf_node hw
    obtain ⟨tx, tl, tr⟩ := hT.node
    refine ifB_f (by simp; omega) ?_
    refine do_call Tryz.call347 (c_r16one hl hn hnc hw hm hT fun e w0 e0 he => retS_ret ⟨_, rfl, ?_⟩)
    have key : Rb (BT.node x L Rt).tr ↔ Rb L.tr ∧ Rb Rt.tr ∧ e = 0 := by rw [he]; exact Iff.rfl
    refine ifB_intro (fun hne => ?_) fun hne => ?_
    · have hne : e ≠ 0 := by simpa using hne
      exact h _ _ _ e0 (by rw [key]; exact ⟨fun h => absurd h hne, fun h => h.2.2⟩)
    have hz : e = 0 := by simpa using hne
    refine do_call Tryz.call109 (c_parts (hl.ext e0) hn hnc hw hm fun p1 c1 p2 c2 w1 e1 hp h1 h2 => retS_ret ⟨_, _, _, _, _, _, _, _, _, _, _, _, _, rfl, ⟨?_⟩⟩)
    refine do_st7 (blk_alloc w1 _ _) fun w2 hb2 g2 => ?_
    have e2 : Ext w1 w2 := (ext_alloc w1 _).st g2 (Nat.le_refl _)
    have E2 := (e0.trans e1).trans e2
    have hcs := fun (w'' : World) (e : Ext w2 w'') => hp w'' (hl.ext (E2.trans e))
    refine do_call Tryz.call332 (c_r16parts L (hcs _ (ext_refl _)).1 rfl h1 w2f (by omega) tl fun k1 f1 w3 e3 hf1 => retS_ret ⟨_, _, rfl, ?_⟩)
    refine ifB_intro (fun hne => ?_) fun hne => ?_
    · have hne : f1 ≠ 0 := by simpa using hne
      exact h _ _ _ (E2.trans e3) (by rw [key]; exact ⟨fun h => absurd h hne, fun h => hf1.2 h.1⟩)
    have hz1 : f1 = 0 := by simpa using hne
    refine do_call Tryz.call332 (c_r16parts Rt (hcs _ e3).2 rfl h2 w3f (by omega) tr fun k2 f2 w4 e4 hf2 => retS_ret ⟨_, _, rfl, ?_⟩)
    exact h _ _ _ ((E2.trans e3).trans e4) (by rw [key]; exact ⟨fun h => ⟨hf1.1 hz1, hf2.1 h, hz⟩, fun h => hf2.2 h.2.1⟩)
end Go.Proofs.YtlddfgfmkapoiaaGreat

namespace Go.Proofs.YtlddfgfmkapoiaaGreat
open Go Go.Sh Go.RowKit

theorem c_r16check {t : BT} {q : Option Addr} {n c : Nat} {w : World} {R : Ending → World → Prop} (hl : Cs w q (bds t.beads)) (hn : t.size = n) (hnc : n ≤ c) (hw : t.wf = true) (hm : n ≤ 5000) (hT : TagB t)
    (h : ∀ k e w', Ext w w' → (e = 0 ↔ (Rb t.tr ∧ redR t.tr = false)) → R (.returned (.tuple #[.int .i64 k, .int .i64 e])) w') : Calls Tryz.prog 299 #[.slice q n c] w R := by
  refine sh299_ok _ _ _ ?_
  unfold sh299
  refine do_call Tryz.call332 (c_r16parts t hl hn hnc hw hm hT fun k e w1 e1 he => retS_ret ⟨_, _, rfl, ?_⟩)
  intro K9 K12
  refine ifB_intro (fun hz => ?_) fun hz => ?_
  · have hz : e = 0 := by simpa using hz
    refine do_call Tryz.call333 (c_r16red (hl.ext e1) hn hT (retS_ret ⟨_, rfl, ifB_intro (fun hr => ?_) fun hr => ?_⟩))
    · exact h _ _ _ e1 ⟨(fun h => by cases h), fun h => by rw [hr] at h; cases h.2⟩
    · exact h _ _ _ e1 ⟨fun _ => ⟨he.1 hz, hr⟩, fun _ => hz⟩
  · have hz : e ≠ 0 := by simpa using hz
    exact h _ _ _ e1 ⟨fun h => absurd h hz, fun h => he.2 h.1⟩
/-! ### weights -/
theorem c_r18like {a b : Nat} {w : World} {R : Ending → World → Prop} (h1 : 1 ≤ a ∧ a ≤ 10000) (h2 : 1 ≤ b ∧ b ≤ 10000) (h : R (.returned (.bool (likeW a b))) w) : Calls Tryz.prog 334 #[.int .i64 (a : Nat), .int .i64 (b : Nat)] w R := by
  refine sh334_ok _ _ ?_
  unfold sh334
  intro K5
  refine ifB_f (decide_eq_false (by omega)) (ifB_f (decide_eq_false (by omega)) (ifB_f (decide_eq_false (by omega)) (ifB_f (decide_eq_false (by omega)) ?_)))
  intro K8
  rw [wrap_of (x := (a : Int) + b) (by omega) (by omega), wrap_of (x := 29 * ((a : Int) + b)) (by omega) (by omega), wrap_of (x := 100 * (a : Int)) (by omega) (by omega)]
  have hr := h
  unfold likeW at hr
  refine ifB_intro (fun hc => ?_) fun hc => ?_
  · have hc := of_decide_eq_true hc
    have e : decide (29 * ((a : Int) + b) ≤ IntKind.wrap .i64 (100 * (b : Int))) = decide (29 * (a + b) ≤ 100 * a ∧ 29 * (a + b) ≤ 100 * b) := by
      rw [wrap_of (x := 100 * (b : Int)) (by omega) (by omega)]
      exact decide_eq_decide.2 (by omega)
    show R (.returned (.bool _)) w
    rw [e]
    exact hr
  · have hc := of_decide_eq_false hc
    rw [decide_eq_false (by omega)] at hr
    exact hr
set_option maxRecDepth 20000 in
theorem c_r18check : ∀ (t : BT) {q : Option Addr} {n c : Nat} {w : World} {R : Ending → World → Prop} (_hl : Cs w q (bds t.beads)) (_hn : t.size = n) (_hnc : n ≤ c) (_hw : t.wf = true) (_hm : n ≤ 5000)
    (_h : ∀ k e w', Ext w w' → (e = 0 ↔ Wb t.tr) → R (.returned (.tuple #[.int .i64 k, .int .i64 e])) w'), Calls Tryz.prog 300 #[.slice q n c] w R
  | .nil, q, n, c, w, R, hl, hn, hnc, hw, hm, h => by
    refine sh300_ok _ _ _ ?_
    unfold sh300
    have : n = 0 := by rw [← hn]; rfl
    subst this
    exact ifB_t rfl (h _ _ _ (ext_refl w) (by simp [BT.tr, Wb]))
  | .node x L Rt, q, n, c, w, R, hl, hn, hnc, hw, hm, h => by
    refine sh300_ok _ _ _ ?_
    unfold sh300
    have hsz := BT.size_node x L Rt
    obtain ⟨_, _, w2f, w3f⟩ := BT.wf_node hw
    refine ifB_f (by simp; omega) ?_
    refine do_call Tryz.call109 (c_parts hl hn hnc hw hm fun p1 c1 p2 c2 w1 e1 hp h1 h2 => retS_ret ⟨_, _, _, _, _, _, _, _, _, _, _, _, _, rfl, ⟨?_⟩⟩)
    refine do_st7 (blk_alloc w1 _ _) fun w2 hb2 g2 => ?_
    have e2 : Ext w1 w2 := (ext_alloc w1 _).st g2 (Nat.le_refl _)
    have E2 := e1.trans e2
    have hcs := fun (w'' : World) (e : Ext w2 w'') => hp w'' (hl.ext (E2.trans e))
    have key : Wb (BT.node x L Rt).tr ↔ Wb L.tr ∧ Wb Rt.tr ∧ x.tag = 0 ∧ likeW (L.size + 1) (Rt.size + 1) = true := by
      rw [← BT.tr_size, ← BT.tr_size]; exact Iff.rfl
    refine ⟨_, hb2.cell (i := 4) (add_blk _ _) rfl, ifB_intro (fun hne => ?_) fun hne => ?_⟩
    · have hne : x.tag ≠ 0 := by simpa using hne
      exact h _ _ _ E2 (by rw [key]; exact ⟨(fun h => by cases h), fun h => absurd h.2.2.1 hne⟩)
    have hz : x.tag = 0 := by simpa using hne
    have w1' : IntKind.wrap .i64 ((L.size : Int) + 1) = ((L.size + 1 : Nat) : Int) := by rw [wrap_of (by omega) (by omega)]; omega
    have w2' : IntKind.wrap .i64 ((Rt.size : Int) + 1) = ((Rt.size + 1 : Nat) : Int) := by rw [wrap_of (by omega) (by omega)]; omega
    rw [w1', w2']
    refine do_call Tryz.call334 (c_r18like (by omega) (by omega) (retS_ret ⟨_, rfl, ?_⟩))
    cases hk : likeW (L.size + 1) (Rt.size + 1) with
    | false => exact ifB_t rfl (h _ _ _ E2 (by rw [key, hk]; exact ⟨(fun h => by cases h), fun h => by cases h.2.2.2⟩))
    | true =>
      rw [hk] at key
      refine ifB_f rfl ?_
      refine do_call Tryz.call300 (c_r18check L (hcs _ (ext_refl _)).1 rfl h1 w2f (by omega) fun k1 f1 w3 e3 hf1 => retS_ret ⟨_, _, rfl, ?_⟩)
      refine ifB_intro (fun hne => ?_) fun hne => ?_
      · have hne : f1 ≠ 0 := by simpa using hne
        exact h _ _ _ (E2.trans e3) (by rw [key]; exact ⟨fun h => absurd h hne, fun h => hf1.2 h.1⟩)
      have hz1 : f1 = 0 := by simpa using hne
      refine do_call Tryz.call300 (c_r18check Rt (hcs _ e3).2 rfl h2 w3f (by omega) fun k2 f2 w4 e4 hf2 => retS_ret ⟨_, _, rfl, ?_⟩)
      exact h _ _ _ ((E2.trans e3).trans e4) (by rw [key]; exact ⟨fun h => ⟨hf1.1 hz1, hf2.1 h, hz, rfl⟩, fun h => hf2.2 h.2.1⟩)
/-! ### tags -/
theorem c_r20item {x : Bd} {w : World} {R : Ending → World → Prop} (h : ∀ w', Ext w w' → R (.returned (agI (x.key, x.val, x.tag))) w') : Calls Tryz.prog 190 #[bdV x] w R := by
  refine sh190_ok _ _ _ _ _ _ _ ?_
  unfold sh190
  have e0 := ext_alloc w (.cells #[.int .i64 x.key, .int .i64 x.val, .int .i64 x.sum, .int .i64 x.size, .int .u64 x.tag, .bool x.left, .bool x.right] 150)
  have hb := blk_alloc w #[.int .i64 x.key, .int .i64 x.val, .int .i64 x.sum, .int .i64 x.size, .int .u64 x.tag, .bool x.left, .bool x.right] 150
  refine ⟨⟨?_⟩⟩
  generalize w.alloc (.cells #[.int .i64 x.key, .int .i64 x.val, .int .i64 x.sum, .int .i64 x.size, .int .u64 x.tag, .bool x.left, .bool x.right] 150) = w1 at *
  have e1 := ext_alloc w1 (.cells #[.int .i64 0, .int .i64 0, .int .u64 0] 114)
  have hb := hb.ext e1
  refine ⟨_, hb.cell (i := 0) (add_blk _ _) rfl, _, hb.cell (i := 1) (add_blk _ _) rfl, _, hb.cell (i := 4) (add_blk _ _) rfl, do_st3 (blk_alloc w1 _ _) fun w2 h2 g2 => ?_⟩
  exact ⟨_, h2.cell (i := 0) (add_blk _ _) rfl, _, h2.cell (i := 1) (add_blk _ _) rfl, _, h2.cell (i := 2) (add_blk _ _) rfl, h _ (e0.trans (e1.st g2 (Nat.le_refl _)))⟩
theorem c_r20above {a b : It} {w : World} {R : Ending → World → Prop} (h : ∀ w', Ext w w' → R (.returned (.bool (decide (b.2.2 < a.2.2) || (decide (a.2.2 = b.2.2) && decide (b.1 < a.1))))) w') : Calls Tryz.prog 192 #[agI a, agI b] w R := by
  refine sh192_ok _ _ _ _ _ _ ?_
  unfold sh192
  have e0 := ext_alloc w (.cells #[.int .i64 a.1, .int .i64 a.2.1, .int .u64 a.2.2] 114)
  have hb := blk_alloc w #[.int .i64 a.1, .int .i64 a.2.1, .int .u64 a.2.2] 114
  refine ⟨⟨?_⟩⟩
  intro K13
  generalize w.alloc (.cells #[.int .i64 a.1, .int .i64 a.2.1, .int .u64 a.2.2] 114) = w1 at *
  have e1 := ext_alloc w1 (.cells #[.int .i64 b.1, .int .i64 b.2.1, .int .u64 b.2.2] 114)
  have hc := blk_alloc w1 #[.int .i64 b.1, .int .i64 b.2.1, .int .u64 b.2.2] 114
  have hb := hb.ext e1
  have hr := h _ (e0.trans e1)
  refine ⟨_, hb.cell (i := 2) (add_blk _ _) rfl, _, hc.cell (i := 2) (add_blk _ _) rfl, ifB_intro (fun h1 => ?_) fun h1 => ?_⟩
  · have h1 : b.2.2 < a.2.2 := of_decide_eq_true h1
    rw [decide_eq_true h1] at hr; exact hr
  · have h1 : ¬ b.2.2 < a.2.2 := of_decide_eq_false h1
    rw [decide_eq_false h1, Bool.false_or] at hr
    refine ⟨_, hb.cell (i := 2) (add_blk _ _) rfl, _, hc.cell (i := 2) (add_blk _ _) rfl, ifB_intro (fun h2 => ?_) fun h2 => ?_⟩
    · have h2 : a.2.2 = b.2.2 := by simpa using h2
      rw [decide_eq_true h2, Bool.true_and] at hr
      exact ⟨_, hb.cell (i := 0) (add_blk _ _) rfl, _, hc.cell (i := 0) (add_blk _ _) rfl, hr⟩
    · have h2 : ¬ a.2.2 = b.2.2 := by simpa using h2
      rw [decide_eq_false h2, Bool.false_and] at hr; exact hr
set_option maxRecDepth 20000 in
theorem c_r20over {t T : BT} {x : Bd} {L Rt : BT} (hT : T = .node x L Rt) {q : Option Addr} {n c : Nat} {w : World} {R : Ending → World → Prop} (hl : Cs w q (bds t.beads)) (hn : t.size = n)
    (h : ∀ w', Ext w w' → R (.returned (.bool (abT t.tr T.tr))) w') : Calls Tryz.prog 256 #[.slice q n c, bdV x] w R := by
  subst hT
  refine sh256_ok _ _ _ _ _ _ _ _ _ _ ?_
  unfold sh256
  refine ⟨?_⟩
  have e0 := ext_alloc w (.cells #[.int .i64 x.key, .int .i64 x.val, .int .i64 x.sum, .int .i64 x.size, .int .u64 x.tag, .bool x.left, .bool x.right] 150)
  have hb := blk_alloc w #[.int .i64 x.key, .int .i64 x.val, .int .i64 x.sum, .int .i64 x.size, .int .u64 x.tag, .bool x.left, .bool x.right] 150
  generalize hbx : w.heap.size = bx at *
  generalize w.alloc (.cells #[.int .i64 x.key, .int .i64 x.val, .int .i64 x.sum, .int .i64 x.size, .int .u64 x.tag, .bool x.left, .bool x.right] 150) = w1 at *
  intro K15
  have d := ext_drew w1
  refine ⟨⟨fun w' => Ext w1 w', d, ifB_intro (fun hc => ?_) fun hc => ?_⟩⟩
  · have hc : 0 < n := by have := of_decide_eq_true hc; omega
    cases t with
    | nil => have : n = 0 := by rw [← hn]; rfl
             omega
    | node y A B =>
      refine ix_flatC ecB_len (by omega) (C := fun w' => Ext w1 w') (fun w' e => hl.ext (e0.trans e)) d hn (k := 0) rfl hc fun a r => ?_
      refine ⟨_, fun w' e => r w' e 0 _ rfl, _, fun w' e => r w' e 1 _ rfl, _, fun w' e => r w' e 2 _ rfl, _, fun w' e => r w' e 3 _ rfl, _, fun w' e => r w' e 4 _ rfl, _, fun w' e => r w' e 5 _ rfl, _, fun w' e => r w' e 6 _ rfl, _, fun w' e => (hb.ext e).cell (i := 0) (add_blk _ _) rfl, _, fun w' e => (hb.ext e).cell (i := 1) (add_blk _ _) rfl, _, fun w' e => (hb.ext e).cell (i := 2) (add_blk _ _) rfl, _, fun w' e => (hb.ext e).cell (i := 3) (add_blk _ _) rfl, _, fun w' e => (hb.ext e).cell (i := 4) (add_blk _ _) rfl, _, fun w' e => (hb.ext e).cell (i := 5) (add_blk _ _) rfl, _, fun w' e => (hb.ext e).cell (i := 6) (add_blk _ _) rfl, ?_⟩
      refine do_call Tryz.call190 (c_r20item (x := y) fun w2 e2 => retS_ret ⟨_, _, _, rfl, d.trans e2, ?_⟩)
      refine do_call Tryz.call190 (c_r20item (x := x) fun w3 e3 => retS_ret ⟨_, _, _, rfl, (d.trans e2).trans e3, ?_⟩)
      refine do_call Tryz.call192 (c_r20above (a := (y.key, y.val, y.tag)) (b := (x.key, x.val, x.tag)) fun w4 e4 => retS_ret ⟨_, rfl, ((d.trans e2).trans e3).trans e4, ?_⟩)
      exact h _ (e0.trans (((d.trans e2).trans e3).trans e4))
  · have hc : n = 0 := by have := of_decide_eq_false hc; omega
    have : t = .nil := BT.size_nil (by rw [BT.nn_iff]; exact decide_eq_false (by omega))
    subst this
    exact h _ (e0.trans d)
set_option maxRecDepth 20000 in
theorem c_r20check : ∀ (t : BT) {q : Option Addr} {n c : Nat} {w : World} {R : Ending → World → Prop} (_hl : Cs w q (bds t.beads)) (_hn : t.size = n) (_hnc : n ≤ c) (_hw : t.wf = true) (_hm : n ≤ 5000)
    (_h : ∀ k e w', Ext w w' → (e = 0 ↔ Tp t.tr) → R (.returned (.tuple #[.int .i64 k, .int .i64 e])) w'), Calls Tryz.prog 200 #[.slice q n c] w R
  | .nil, q, n, c, w, R, hl, hn, hnc, hw, hm, h => by
    refine sh200_ok _ _ _ ?_
    unfold sh200
    have : n = 0 := by rw [← hn]; rfl
    subst this
    exact ifB_t rfl (h _ _ _ (ext_refl w) (by simp [BT.tr, Tp]))
  | .node x L Rt, q, n, c, w, R, hl, hn, hnc, hw, hm, h => by
    refine sh200_ok _ _ _ ?_
    unfold sh200
    have hsz := BT.size_node x L Rt
    obtain ⟨_, _, w2f, w3f⟩ := BT.wf_node hw
    refine ifB_f (by simp; omega) ?_
    refine do_call Tryz.call109 (c_parts hl hn hnc hw hm fun p1 c1 p2 c2 w1 e1 hp h1 h2 => retS_ret ⟨_, _, _, _, _, _, _, _, _, _, _, _, _, rfl, ⟨?_⟩⟩)
    refine do_st7 (blk_alloc w1 _ _) fun w2 hb2 g2 => ?_
    have e2 : Ext w1 w2 := (ext_alloc w1 _).st g2 (Nat.le_refl _)
    have E2 := e1.trans e2
    have hcs := fun (w'' : World) (e : Ext w2 w'') => hp w'' (hl.ext (E2.trans e))
    have key : Tp (BT.node x L Rt).tr ↔ Tp L.tr ∧ Tp Rt.tr ∧ abT L.tr (BT.node x L Rt).tr = false ∧ abT Rt.tr (BT.node x L Rt).tr = false := Iff.rfl
    intro K30
    refine ⟨_, hb2.cell (i := 0) (add_blk _ _) rfl, _, hb2.cell (i := 1) (add_blk _ _) rfl, _, hb2.cell (i := 2) (add_blk _ _) rfl, _, hb2.cell (i := 3) (add_blk _ _) rfl, _, hb2.cell (i := 4) (add_blk _ _) rfl, _, hb2.cell (i := 5) (add_blk _ _) rfl, _, hb2.cell (i := 6) (add_blk _ _) rfl, ?_⟩
    refine do_call Tryz.call256 (c_r20over (T := .node x L Rt) rfl (hcs _ (ext_refl _)).1 rfl fun w3 e3 => retS_ret ⟨_, rfl, ifB_intro (fun hab => ?_) fun hab => ?_⟩)
    · exact h _ _ _ (E2.trans e3) (by rw [key, hab]; exact ⟨(fun h => by cases h), fun h => by cases h.2.2.1⟩)
    rw [hab] at key
    have hb3 := hb2.ext e3
    refine ⟨_, hb3.cell (i := 0) (add_blk _ _) rfl, _, hb3.cell (i := 1) (add_blk _ _) rfl, _, hb3.cell (i := 2) (add_blk _ _) rfl, _, hb3.cell (i := 3) (add_blk _ _) rfl, _, hb3.cell (i := 4) (add_blk _ _) rfl, _, hb3.cell (i := 5) (add_blk _ _) rfl, _, hb3.cell (i := 6) (add_blk _ _) rfl, ?_⟩
    refine do_call Tryz.call256 (c_r20over (T := .node x L Rt) rfl (hcs _ e3).2 rfl fun w4 e4 => retS_ret ⟨_, rfl, ifB_intro (fun hab => ?_) fun hab => ?_⟩)
    · exact h _ _ _ ((E2.trans e3).trans e4) (by rw [key, hab]; exact ⟨(fun h => by cases h), fun h => by cases h.2.2.2⟩)
    rw [hab] at key
    have E4 := (E2.trans e3).trans e4
    refine do_call Tryz.call200 (c_r20check L (hcs _ (e3.trans e4)).1 rfl h1 w2f (by omega) fun k1 f1 w5 e5 hf1 => retS_ret ⟨_, _, rfl, ?_⟩)
    refine ifB_intro (fun hne => ?_) fun hne => ?_
    · have hne : f1 ≠ 0 := by simpa using hne
      exact h _ _ _ (E4.trans e5) (by rw [key]; exact ⟨fun h => absurd h hne, fun h => hf1.2 h.1⟩)
    have hz1 : f1 = 0 := by simpa using hne
    refine do_call Tryz.call200 (c_r20check Rt (hcs _ ((e3.trans e4).trans e5)).2 rfl h2 w3f (by omega) fun k2 f2 w6 e6 hf2 => retS_ret ⟨_, _, rfl, ?_⟩)
    exact h _ _ _ ((E4.trans e5).trans e6) (by rw [key]; exact ⟨fun h => ⟨hf1.1 hz1, hf2.1 h, rfl, rfl⟩, fun h => hf2.2 h.2.1⟩)
/-! ### all of them -/
theorem c_r22may {cd : Int} {t : BT} {q : Option Addr} {n c : Nat} {w : World} {R : Ending → World → Prop} (hcd : isS cd = true) (hl : Cs w q (bds t.beads)) (hn : t.size = n) (hnc : n ≤ c) (hw : t.wf = true) (hm : n ≤ 5000) (hT : TagB t)
    (h : ∀ b w', Ext w w' → (b = true ↔ OkM cd t.tr) → R (.returned (.bool b)) w') : Calls Tryz.prog 179 #[.int .u8 cd, .slice q n c] w R := by
  refine sh179_ok _ _ _ _ ?_
  unfold sh179
  refine do_call Tryz.call239 (sh239_ok _ _ _ _ ?_)
  unfold sh239
  rcases isS_iff.1 hcd with rfl | rfl | rfl | rfl
  · exact ifB_t rfl (do_call Tryz.call298 (c_r14check t hl hn hnc hw hm hT fun k e w1 e1 he => retS_ret ⟨_, _, rfl, retS_ret ⟨_, _, rfl, h _ _ e1 (by rw [beq_iff_eq, he]; exact ⟨fun h => ⟨.inl ⟨rfl, h⟩, by simp⟩, fun h => h.1.of1⟩)⟩⟩))
  · exact ifB_f rfl (ifB_t rfl (do_call Tryz.call299 (c_r16check hl hn hnc hw hm hT fun k e w1 e1 he => retS_ret ⟨_, _, rfl, retS_ret ⟨_, _, rfl, h _ _ e1 (by rw [beq_iff_eq, he]; exact ⟨fun h => ⟨.inr (.inl ⟨rfl, h.1⟩), fun _ => h.2⟩, fun h => ⟨h.1.of2, h.2 rfl⟩⟩)⟩⟩)))
  · exact ifB_f rfl (ifB_f rfl (ifB_t rfl (do_call Tryz.call300 (c_r18check t hl hn hnc hw hm fun k e w1 e1 he => retS_ret ⟨_, _, rfl, retS_ret ⟨_, _, rfl, h _ _ e1 (by rw [beq_iff_eq, he]; exact ⟨fun h => ⟨.inr (.inr (.inl ⟨rfl, h⟩)), by simp⟩, fun h => h.1.of3⟩)⟩⟩))))
  · exact ifB_f rfl (ifB_f rfl (ifB_f rfl (do_call Tryz.call200 (c_r20check t hl hn hnc hw hm fun k e w1 e1 he => retS_ret ⟨_, _, rfl, retS_ret ⟨_, _, rfl, h _ _ e1 (by rw [beq_iff_eq, he]; exact ⟨fun h => ⟨.inr (.inr (.inr ⟨rfl, h⟩)), by simp⟩, fun h => h.1.of4⟩)⟩⟩))))
end Go.Proofs.YtlddfgfmkapoiaaGreat

namespace Go.Proofs.YtlddfgfmkapoiaaGreat
open Go Go.Sh Go.RowKit

set_option maxRecDepth 100000 in
theorem elIt : ElT Tryz.prog 40 114 (.agg #[.int .i64 0, .int .i64 0, .int .u64 0]) 3 24 := ⟨Tryz.underlying40, ⟨_, Tryz.type114, by kernel_rfl, by kernel_rfl, by kernel_rfl⟩, rfl, by omega⟩
abbrev OwnI (w : World) (base : Nat) (p : Option Addr) (n c : Nat) (l : List It) : Prop := w.ownsRow base 114 3 (.slice p n c) n (its l)
theorem ownI_len {w : World} {base n c : Nat} {p : Option Addr} {l : List It} (h : OwnI w base p n c l) : l.length = n := by have := h.1; rw [its_length] at this; omega
theorem ownI_cs {w : World} {base n c : Nat} {p : Option Addr} {l : List It} (h : OwnI w base p n c l) : Cs w p (its l) := Cs.of_row h
theorem ownI_nil (w : World) (base : Nat) : OwnI w base none 0 0 [] := World.ownsRow_nil _ _ _ _
theorem extI_own {a w w' : World} {base n c : Nat} {p : Option Addr} {l : List It} (h : OwnI w base p n c l) (e : Ext a w) (g : w.grownBy w' (Value.slice p n c).ownBlock) (hb : a.heap.size ≤ base) : Ext a w' :=
  e.grown g fun k hk => Nat.le_trans hb (World.ownsRow.lt h k hk).1
theorem cs_it {w : World} {b : Nat} {x : It} {t : TypeId} (h : Blk w b #[.int .i64 x.1, .int .i64 x.2.1, .int .u64 x.2.2] t) : Cs w (some (blk b)) (its [x]) := fun i v hv => by
  refine ⟨_, rfl, ?_⟩
  rw [add_blk]
  match i, hv with
  | 0, hv => cases hv; exact h.cell rfl rfl
  | 1, hv => cases hv; exact h.cell rfl rfl
  | 2, hv => cases hv; exact h.cell rfl rfl
  | i + 3, hv => simp [ecI] at hv
/-- a write into a row of one's own -/
theorem do_st_own {w : World} {base e s n c : Nat} {p : Option Addr} {xs : List Value} (h : w.ownsRow base e s (.slice p n c) n xs) {i : Nat} (hi : i < xs.length) {a a' : Addr} (ha : p = some a) (ha' : a' = a.add i) (v : Value) {K : World → Prop}
    (k : ∀ w', w'.ownsRow base e s (.slice p n c) n (xs.set i v) → w.grownBy w' (some a.block) → K w') : doSt a' v w K := by
  subst ha
  subst ha'
  obtain ⟨g, rfl⟩ : ∃ g, a = ⟨g, 0, none⟩ := by
    rcases h.2 with ⟨h', _⟩ | ⟨g, cap, cur, h', _⟩
    · cases h'
    · cases h'; exact ⟨g, rfl⟩
  rw [add_blk]
  have hs := h.stored i v
  have h1 := h.1
  exact ⟨⟨_, by rw [h.cellAt i (by omega)]; exact List.getElem?_eq_getElem hi⟩, h.frozenAt i, k _ hs.1 hs.2⟩
/-! ### See, Same, Is -/
set_option maxRecDepth 20000 in
theorem c_see : ∀ (t : Tr) {pt p : Option Addr} {n c d : Nat} {l : List Bd} {w0 w : World} {R : Ending → World → Prop} (_E : Ext w0 w) (_ht : IsN w0 pt t) (_hr : OwnB w w0.heap.size p n c l) (_h1 : n + t.size ≤ 5000) (_h2 : d + htT t ≤ 2000)
    (_h : ∀ p' n' c' w', OwnB w' w0.heap.size p' n' c' (l ++ (btT t).beads) → Ext w0 w' → R (.returned (.tuple #[.slice p' n' c', .bool true])) w'), Calls Tryz.prog 178 #[.pointer pt, .slice p n c, .int .i64 (d : Nat)] w R
  | .nil, pt, p, n, c, d, l, w0, w, R, E, ht, hr, h1, h2, h => by
    refine sh178_ok _ _ _ _ _ ?_
    unfold sh178
    obtain rfl : pt = none := ht
    refine ifB_t rfl (h _ _ _ _ ?_ E)
    simpa [btT, BT.beads] using hr
  | .node L k v g Rt, pt, p, n, c, d, l, w0, w, R, E, ht, hr, h1, h2, h => by
    refine sh178_ok _ _ _ _ _ ?_
    unfold sh178
    refine ifB_f (by rw [ht.isNone]; rfl) ?_
    have hsz : (Tr.node L k v g Rt).size = L.size + 1 + Rt.size := rfl
    have hht : htT (.node L k v g Rt) = 1 + max (htT L) (htT Rt) := rfl
    intro K8
    refine ifB_f (decide_eq_false (by omega)) (ifB_f (decide_eq_false (by omega)) ?_)
    have htw := ht.ext E
    refine do_call Tryz.call108 (c_key htw fun w1 e1 => retS_ret ⟨_, rfl, ?_⟩)
    refine do_call Tryz.call126 (c_val (htw.ext e1) fun w2 e2 => retS_ret ⟨_, rfl, ?_⟩)
    have E2 := e1.trans e2
    refine do_call Tryz.call196 (c_tag (htw.ext E2) fun w3 e3 => retS_ret ⟨_, rfl, ?_⟩)
    have E3 := E2.trans e3
    refine do_call Tryz.call91 (c_tsize (htw.ext E3) fun w4 e4 => retS_ret ⟨_, rfl, ?_⟩)
    have E4 := E3.trans e4
    refine do_call Tryz.call107 (c_tsum (htw.ext E4) fun w5 e5 => retS_ret ⟨_, rfl, ?_⟩)
    have E5 := E4.trans e5
    refine do_call Tryz.call123 (c_left (htw.ext E5) fun ql hql => retS_ret ⟨_, rfl, ?_⟩)
    refine do_call Tryz.call125 (c_right (htw.ext E5) fun qr hqr => retS_ret ⟨_, rfl, ⟨?_⟩⟩)
    have hx : ∃ x : Bd, x = (⟨k, v, (Tr.node L k v g Rt).sum, ((Tr.node L k v g Rt).size : Nat), g, L.nn, Rt.nn⟩ : Bd) := ⟨_, rfl⟩
    obtain ⟨x, hx⟩ := hx
    have hbe : (btT (.node L k v g Rt)).beads = x :: ((btT L).beads ++ (btT Rt).beads) := by rw [hx]; rfl
    rw [hbe] at h
    rw [hql.isNone, hqr.isNone, Bool.not_not, Bool.not_not]
    have e6 := ext_alloc w5 (.cells #[.int .i64 x.key, .int .i64 x.val, .int .i64 x.sum, .int .i64 x.size, .int .u64 x.tag, .bool x.left, .bool x.right] 150)
    have hb6 := blk_alloc w5 #[.int .i64 x.key, .int .i64 x.val, .int .i64 x.sum, .int .i64 x.size, .int .u64 x.tag, .bool x.left, .bool x.right] 150
    have hw6 : w5.alloc (.cells #[.int .i64 x.key, .int .i64 x.val, .int .i64 x.sum, .int .i64 x.size, .int .u64 x.tag, .bool x.left, .bool x.right] 150) = w5.alloc (.cells #[.int .i64 (Tr.node L k v g Rt).key, .int .i64 (Tr.node L k v g Rt).val, .int .i64 (Tr.node L k v g Rt).sum, .int .i64 ((Tr.node L k v g Rt).size : Nat), .int .u64 (Tr.node L k v g Rt).tag, .bool L.nn, .bool Rt.nn] 150) := by rw [hx]; rfl
    show doGo Tryz.prog (.builtin .append #[57, 57] 57 #[false, false]) #[.slice p n c, .slice (some (blk w5.heap.size)) 1 1] (w5.alloc (.cells #[.int .i64 (Tr.node L k v g Rt).key, .int .i64 (Tr.node L k v g Rt).val, .int .i64 (Tr.node L k v g Rt).sum, .int .i64 ((Tr.node L k v g Rt).size : Nat), .int .u64 (Tr.node L k v g Rt).tag, .bool L.nn, .bool Rt.nn] 150)) _
    rw [← hw6]
    generalize w5.alloc (.cells #[.int .i64 x.key, .int .i64 x.val, .int .i64 x.sum, .int .i64 x.size, .int .u64 x.tag, .bool x.left, .bool x.right] 150) = w6 at *
    have E6 := E5.trans e6
    have ho6 := rowB_to hr E6 (Nat.le_refl _)
    have EE6 := E.trans E6
    refine do_app elB ho6 (cs_bd hb6) (by rw [bds_length]; rfl) bds_one (by simp only [maxLen]; omega) (by omega) EE6.size fun p7 c7 w7 h7 g7 => retS_ret ⟨_, _, _, rfl, ?_⟩
    have E7 : Ext w0 w7 := extB_own ho6 EE6 g7 (Nat.le_refl _)
    have h7 : OwnB w7 w0.heap.size p7 (n + 1) c7 (l ++ [x]) := by
      show w7.ownsRow _ _ _ _ _ (bds _)
      rw [bds_append]
      exact h7
    have ew : IntKind.wrap .i64 ((d : Int) + 1) = ((d + 1 : Nat) : Int) := wrap_succ (n := 3000) (by omega) (by omega)
    rw [ew]
    refine do_call Tryz.call123 (c_left0 ht E7 fun q8 h8 => retS_ret ⟨_, rfl, ?_⟩)
    have hLs := btT_size L
    refine do_call Tryz.call178 (c_see L E7 h8 h7 (by omega) (by omega) fun p9 n9 c9 w9 h9 e9 => retS_ret ⟨_, _, _, _, rfl, ifB_f rfl ?_⟩)
    have hn9 := ownB_len h9
    have hlb : (btT L).beads.length = L.size := hLs
    have hln := ownB_len h7
    simp only [List.length_append, List.length_cons, List.length_nil] at hn9 hln
    refine do_call Tryz.call125 (c_right0 ht e9 fun q10 h10 => retS_ret ⟨_, rfl, ?_⟩)
    refine do_call Tryz.call178 (c_see Rt e9 h10 h9 (by omega) (by omega) fun p11 n11 c11 w11 h11 e11 => retS_ret ⟨_, _, _, _, rfl, h _ _ _ _ ?_ e11⟩)
    rw [show l ++ x :: ((btT L).beads ++ (btT Rt).beads) = l ++ [x] ++ (btT L).beads ++ (btT Rt).beads by simp]
    exact h11
theorem c_See {t : Tr} {pt : Option Addr} {w : World} {R : Ending → World → Prop} (ht : IsN w pt t) (h1 : t.size ≤ 2000) (h : ∀ p' n' c' w', OwnB w' w.heap.size p' n' c' (btT t).beads → Ext w w' → R (.returned (.tuple #[.slice p' n' c', .bool true])) w') :
    Calls Tryz.prog 97 #[.pointer pt] w R := by
  refine sh97_ok _ ?_
  unfold sh97
  have := htT_le t
  exact do_call Tryz.call178 (c_see t (d := 0) (l := []) (ext_refl w) ht (ownB_nil _ _) (by omega) (by omega) fun p n c w1 hr e1 => retS_ret ⟨_, _, _, _, rfl, h _ _ _ _ hr e1⟩)
end Go.Proofs.YtlddfgfmkapoiaaGreat

namespace Go.Proofs.YtlddfgfmkapoiaaGreat
open Go Go.Sh Go.RowKit

/-! ### tags that fit -/
abbrev TagI (l : List It) : Prop := ∀ x ∈ l, 0 ≤ x.2.2 ∧ x.2.2 < 18446744073709551616
theorem tagB_of {c : Int} : ∀ {t : Tr}, OkP c t → t.size ≤ 5000 → TagI (itsC c t) → TagB (btT t)
  | .nil, _, _, _ => fun x hx => by simp [btT, BT.beads] at hx
  | .node l k v g r, h, hs, hT => by
    have hsz : (Tr.node l k v g r).size = l.size + 1 + r.size := rfl
    rw [itsC_node] at hT
    have IL := tagB_of h.sides.1 (by omega) fun x hx => hT x (List.mem_append_left _ hx)
    have IR := tagB_of h.sides.2 (by omega) fun x hx => hT x (List.mem_append_right _ (List.mem_cons_of_mem _ hx))
    have hg : 0 ≤ g ∧ g < 18446744073709551616 := by
      rcases h with ⟨e, h⟩ | ⟨e, h⟩ | ⟨e, h⟩ | ⟨e, h⟩
      · have := h.tag; simp only [Tr.tag] at this; omega
      · have := h.tg (by simp only [BIG]; omega); simp only [TgR, Tr.tag] at this; omega
      · have := h.2.2.1; omega
      · have := hT (itC c (k, v, g)) (by simp)
        unfold itC at this
        rw [if_pos e] at this
        exact this
    intro x hx
    simp only [btT, BT.beads, List.mem_cons, List.mem_append] at hx
    rcases hx with rfl | hx | hx
    · exact hg
    · exact IL x hx
    · exact IR x hx
/-! ### layer 12 -/
theorem c_rises {o : Int} {l : List Pr} {q : Option Addr} {n c : Nat} {w : World} {R : Ending → World → Prop} (hl : Cs w q (prs l)) (hn : l.length = n) (hm : n ≤ 1000000000000) (hI : InP l) (h : ∀ w', Ext w w' → R (.returned (.bool (chain o l))) w') :
    Calls Tryz.prog 199 #[.int .u8 o, .slice q n c] w R := by
  refine sh199_ok _ _ _ _ ?_
  unfold sh199
  refine ⟨fun vs w' => ∃ k : Nat, vs = [.int .i64 k] ∧ 1 ≤ k ∧ Ext w w' ∧ ∀ i (hi : i + 1 < l.length), i + 1 < k → cmpI o l[i].1 l[i + 1].1 < 0, fun vs _ => n - (intOf (vs.getD 0 undef)).toNat, ⟨1, rfl, by omega, ext_refl w, fun i _ hi => by omega⟩, ?_⟩
  rintro i _ w2 ⟨k, hv, hk1, E, hlo⟩
  simp only [List.cons.injEq, Value.int.injEq, true_and, and_true] at hv
  subst hv
  refine ifB_intro (fun hlt => ?_) fun hge => ?_
  · have hlt : k < n := by have := of_decide_eq_true hlt; omega
    have ek : IntKind.wrap .i64 ((k : Int) - 1) = ((k - 1 : Nat) : Int) := by rw [wrap_of (by omega) (by omega)]; omega
    rw [ek]
    refine ⟨⟨fun w' => Ext w2 w', ext_drew _, ?_⟩⟩
    refine ix_prC (fun w' e => (hl.ext E).ext e) (ext_refl _) hn rfl (by omega) fun a r1 _ => ⟨_, r1, ?_⟩
    refine ix_prC (fun w' e => (hl.ext E).ext e) (ext_refl _) hn rfl hlt fun a' r2 _ => ⟨_, r2, ?_⟩
    have i1 := hI (l[k - 1]'(by omega)) (List.getElem_mem _)
    have i2 := hI (l[k]'(by omega)) (List.getElem_mem _)
    refine do_call Tryz.call79 (c_rcompare i1.1 i2.1 (retS_ret ⟨_, rfl, ifB_intro (fun hc => ?_) fun hc => ?_⟩))
    · have hc := of_decide_eq_true hc
      have : chain o l = false := by
        cases hch : chain o l with
        | false => rfl
        | true =>
          have := chain_get hch (k - 1) (by omega)
          have e : l[k - 1 + 1]'(by omega) = l[k]'(by omega) := by congr 1; omega
          rw [e] at this
          omega
      rw [this] at h
      exact h _ E.drew
    · have hc := of_decide_eq_false hc
      refine ⟨⟨k + 1, by rw [wrap_succ hlt (by omega)], by omega, E.drew, fun i hi hik => ?_⟩, ?_⟩
      · by_cases hik' : i + 1 < k
        · exact hlo i hi hik'
        · obtain rfl : i = k - 1 := by omega
          have e : l[k - 1 + 1]'(by omega) = l[k]'(by omega) := by congr 1; omega
          rw [e]; omega
      · rw [wrap_succ hlt (by omega)]; simp [intOf]; omega
  · have hge := of_decide_eq_false hge
    have : chain o l = true := chain_of fun i hi => hlo i hi (by omega)
    rw [this] at h
    exact h _ E
end Go.Proofs.YtlddfgfmkapoiaaGreat

namespace Go.Proofs.YtlddfgfmkapoiaaGreat
open Go Go.Sh Go.RowKit

/-- append, and where the row then lies -/
theorem do_appI {base : Nat} {v : Value} {n : Nat} {xs : List Value} {w : World}
    (hown : w.ownsRow base 114 3 v n xs) {ad : Addr} {m c : Nat} {news : List Value} (hnews : Cs w (some ad) news) (hl : news.length = m * 3) (h1 : ∀ u ∈ news, u.oneCell' = true) (hm0 : 0 < m)
    (h63 : n + m ≤ maxLen) (hbytes : (n + m) * 24 ≤ 140737488355328) (hbase : base ≤ w.heap.size) {bs : Array Bool} {R : Ending → World → Prop}
    (h : ∀ p c w', w'.ownsRow base 114 3 (.slice p (n + m) c) (n + m) (xs ++ news) → w.grownBy w' v.ownBlock → ((Value.slice p (n + m) c).ownBlock = v.ownBlock ∨ (Value.slice p (n + m) c).ownBlock = some w.heap.size) → R (.returned (.slice p (n + m) c)) w') :
    doGo Tryz.prog (.builtin .append #[40, 40] 40 bs) #[v, .slice (some ad) m c] w R := by
  obtain ⟨i, hi, hz, hsz, hby⟩ := elIt.hi
  have hnews' : ∀ j u, news[j]? = some u → w.cell? (ad.add j) = some u := fun j u hu => by obtain ⟨a, ha, hc⟩ := hnews j u hu; cases ha; exact hc
  obtain ⟨v', w', hr, h2, h3, _⟩ := run_append_own (P := Tryz.prog) w base _ _ _ i _ 3 24 elIt.ht hi hz hsz hby elIt.hz elIt.hs v n xs hown ad m c news hl hnews' h1 h63 hbytes hbase
  obtain ⟨p, c', rfl⟩ := row_slice h2
  refine goV_append hr (h p c' w' h2 h3 ?_)
  have hmax : n + m ≤ 9223372036854775807 := by simp only [maxLen] at h63; omega
  rcases hown.2 with ⟨rfl, rfl⟩ | ⟨g, cap, cur, rfl, hbg, hg, hnc, hcm, hcs, htake⟩
  · have := run_append_nil (P := Tryz.prog) w 40 40 114 i _ elIt.ht hi hz ad m c news (by rw [hsz]; exact hl) hnews' hm0 (by omega) (by rw [hby]; omega)
    rw [this] at hr
    injection hr with hr1 _
    right; rw [← hr1]; rfl
  · by_cases hroom : n + m ≤ cap
    · have := run_append_room (P := Tryz.prog) w 40 40 114 i elIt.ht hi g n cap cur hg ad m c news (by rw [hsz]; exact hl) hnews' h1 hroom (by rw [hl, hcs, hsz, ← Nat.add_mul]; exact Nat.mul_le_mul_right _ hroom)
      rw [this] at hr
      injection hr with hr1 _
      left; rw [← hr1]; rfl
    · have := run_append_grow (P := Tryz.prog) w 40 40 114 i _ elIt.ht hi hz ⟨g, 0, none⟩ n cap xs (by rw [hsz]; exact hown.1) (hown.cells (g := g) rfl) ad m c news (by rw [hsz]; exact hl) hnews' (by omega) (by omega) (growslice_fits (by omega) (by rw [hby]; exact hbytes))
      rw [this] at hr
      injection hr with hr1 _
      right; rw [← hr1]; rfl
/-- one item more to a row of one's own -/
theorem do_app1I {q : Option Addr} {n c base : Nat} {r : List It} {w : World} (hrow : OwnI w base q n c r) (hn : n ≤ 1000000000000) (hb : base ≤ w.heap.size) {x : It} {Kf : Value → World → Prop} {F : List PanicEntry → World → Prop}
    (k : ∀ q' c' w', OwnI w' base q' (n + 1) c' (r ++ [x]) → (∀ w0, Ext w0 w → w0.heap.size ≤ base → Ext w0 w') → w.grownBy w' (Value.slice q n c).ownBlock →
      ((Value.slice q' (n + 1) c').ownBlock = (Value.slice q n c).ownBlock ∨ ∀ k, (Value.slice q' (n + 1) c').ownBlock = some k → w.heap.size ≤ k) → Kf (.slice q' (n + 1) c') w') :
    doAl (.cells #[.int .i64 x.1, .int .i64 x.2.1, .int .u64 x.2.2] 114) w (fun b w2 => doGo Tryz.prog (.builtin .append #[40, 40] 40 #[false, false]) #[.slice q n c, .slice (some (blk b)) 1 1] w2 (retS Kf F)) := by
  refine ⟨?_⟩
  have e1 := ext_alloc w (.cells #[.int .i64 x.1, .int .i64 x.2.1, .int .u64 x.2.2] 114)
  have hrow1 := e1.row hrow
  have hcs : Cs (w.alloc (.cells #[.int .i64 x.1, .int .i64 x.2.1, .int .u64 x.2.2] 114)) (some (blk w.heap.size)) (its [x]) := cs_it (blk_alloc w _ _)
  refine do_appI hrow1 (m := 1) hcs (by rw [its_length]; rfl) its_one (by omega) (by simp only [maxLen]; omega) (by omega) (Nat.le_trans hb e1.size) fun p' c' w' h2 g2 hor => retS_ret (k p' c' w' ?_ ?_ ?_ ?_)
  · show w'.ownsRow _ _ _ _ _ (its _); rw [its_append]; exact h2
  · intro w0 e0 hb0
    exact extI_own hrow1 (e0.trans e1) g2 hb0
  · have ga : w.grownBy (w.alloc (.cells #[.int .i64 x.1, .int .i64 x.2.1, .int .u64 x.2.2] 114)) (Value.slice q n c).ownBlock := World.grownBy_alloc _ _ _
    exact grown_trans ga g2
  · rcases hor with h | h
    · exact .inl h
    · right; intro k hk; rw [h] at hk; cases hk; exact e1.size
/-- two rows of one's own, apart -/
def TwoI (w : World) (base : Nat) (p : Option Addr) (n c : Nat) (l : List It) (p' : Option Addr) (n' c' : Nat) (l' : List It) : Prop :=
  OwnI w base p n c l ∧ OwnI w base p' n' c' l' ∧ ((Value.slice p' n' c').ownBlock = none ∨ (Value.slice p' n' c').ownBlock ≠ (Value.slice p n c).ownBlock)
theorem TwoI.ext {w w' : World} {base : Nat} {p : Option Addr} {n c : Nat} {l : List It} {p' : Option Addr} {n' c' : Nat} {l' : List It} (h : TwoI w base p n c l p' n' c' l') (e : Ext w w') : TwoI w' base p n c l p' n' c' l' :=
  ⟨e.row h.1, e.row h.2.1, h.2.2⟩
abbrev InI (l : List It) : Prop := ∀ x ∈ l, In x.1
/-- the last item of a key -/
def lastE (o key : Int) (l : List It) : It := ((eqF o key l).getLast?).getD (0, 0, 0)
def anyE (o key : Int) (l : List It) : Bool := !(eqF o key l).isEmpty
end Go.Proofs.YtlddfgfmkapoiaaGreat

namespace Go.Proofs.YtlddfgfmkapoiaaGreat
open Go Go.Sh Go.RowKit

theorem Ext.gs {b : Nat} {w w1 w2 : World} (e : Ext w w1) (g : Gs b w1 w2) (hb : w.heap.size ≤ b) : Ext w w2 := Go.Sh.Ext.st e g hb
theorem c_r22is {c : Int} {w : World} {R : Ending → World → Prop} (h : R (.returned (.bool (isS c))) w) : Calls Tryz.prog 18 #[.int .u8 c] w R := by
  refine sh18_ok _ ?_
  unfold sh18
  intro K4
  unfold isS at h
  refine ifB_intro (fun h1 => ?_) fun h1 => ?_
  · have h1 := of_decide_eq_true h1
    have : decide (1 ≤ c ∧ c ≤ 4) = decide (c ≤ 4) := decide_eq_decide.2 (by omega)
    rw [this] at h
    exact h
  · have h1 := of_decide_eq_false h1
    have : decide (1 ≤ c ∧ c ≤ 4) = false := decide_eq_false (by omega)
    rw [this] at h
    exact h
theorem c_r2may {o : Int} {w : World} {R : Ending → World → Prop} (h : R (.returned (.bool (isO o))) w) : Calls Tryz.prog 127 #[.int .u8 o] w R := by
  refine sh127_ok _ ?_
  unfold sh127
  exact do_call Tryz.call16 (c_ris (retS_ret ⟨_, rfl, h⟩))
/-! ### plain -/
theorem inK_all {t : Tr} (h : ∀ x ∈ t.pairs, In x.1) : InK t := by
  induction t with
  | nil => trivial
  | node l k v g r ihl ihr => exact ⟨ihl fun x hx => h x (by simp [Tr.pairs, hx]), h (k, v) (by simp [Tr.pairs]), ihr fun x hx => h x (by simp [Tr.pairs, hx])⟩
/-- numbers of beads that fit -/
structure FitB (t : BT) : Prop where
  key : ∀ x ∈ t.beads, In x.key
  val : ∀ x ∈ t.beads, In x.val
  tag : TagB t
theorem FitB.inK {t : BT} (h : FitB t) : InK t.tr := inK_all fun x hx => by
  obtain ⟨b, hb, rfl⟩ := BT.tr_mem hx
  exact h.key b hb
theorem FitB.inP {t : BT} (h : FitB t) : InP t.tr.pairs := fun x hx => by
  obtain ⟨b, hb, rfl⟩ := BT.tr_mem hx
  exact ⟨h.key b hb, h.val b hb⟩
theorem FitB.inI {t : BT} (h : FitB t) (c : Int) : InI (itsC c t.tr) := fun x hx => inK_its.1 h.inK x hx
/-! ### the chapter's examples -/
end Go.Proofs.YtlddfgfmkapoiaaGreat

namespace Go.Proofs.YtlddfgfmkapoiaaGreat
open Go Go.Sh Go.RowKit

/-! ### trees of rows -/
def bldC (c : Int) (l : List It) : Tr :=
  if h : 0 < l.length then joinC c (bldC c (l.take (l.length / 2))) (l[l.length / 2]'(by omega)) (bldC c (l.drop (l.length / 2 + 1))) else .nil
termination_by l.length
decreasing_by
  · simp only [List.length_take]; omega
  · simp only [List.length_drop]; omega
theorem bldC_nil (c : Int) : bldC c [] = .nil := by rw [bldC]; rfl
theorem bldC_eq {c : Int} {l : List It} (h : 0 < l.length) : bldC c l = joinC c (bldC c (l.take (l.length / 2))) (l[l.length / 2]'(by omega)) (bldC c (l.drop (l.length / 2 + 1))) := by
  rw [bldC, dif_pos h]
theorem bldC_okn {c : Int} (hs : isS c = true) : ∀ (n : Nat) (l : List It), l.length ≤ n → OkM c (bldC c l) ∧ itsC c (bldC c l) = l.map (itC c)
  | 0, l, h => by
    have : l = [] := List.eq_nil_of_length_eq_zero (by omega)
    subst this
    rw [bldC_nil]
    exact ⟨OkM.nil hs, rfl⟩
  | n + 1, l, h => by
    by_cases h0 : 0 < l.length
    · rw [bldC_eq h0]
      have a := bldC_okn hs n (l.take (l.length / 2)) (by simp only [List.length_take]; omega)
      have b := bldC_okn hs n (l.drop (l.length / 2 + 1)) (by simp only [List.length_drop]; omega)
      have j := joinC_ok a.1.1 b.1.1 (l[l.length / 2]'(by omega))
      refine ⟨j.1, ?_⟩
      rw [j.2, a.2, b.2, ← List.map_cons, ← List.map_append, ← List.drop_eq_getElem_cons, List.take_append_drop]
    · have : l = [] := List.eq_nil_of_length_eq_zero (by omega)
      subst this
      rw [bldC_nil]
      exact ⟨OkM.nil hs, rfl⟩
theorem bldC_ok {c : Int} (hs : isS c = true) (l : List It) : OkM c (bldC c l) ∧ itsC c (bldC c l) = l.map (itC c) := bldC_okn hs l.length l (Nat.le_refl _)
theorem bldC_size {c : Int} (hs : isS c = true) (l : List It) : (bldC c l).size = l.length := by rw [← itsC_len c, (bldC_ok hs l).2, List.length_map]
/-! ### numbers that are drawn -/
/-- what a key is drawn, of numbers -/
def mixK (key : Int) : Int := U (mixB (BitVec.ofInt 64 key + 0x9e3779b97f4a7c15#64))
def headD (ds : List Int) (key : Int) : Int := ds.headD (mixK key)
def drawL : List Int → List Pr → List It
  | _, [] => []
  | ds, x :: t => (x.1, x.2, headD ds x.1) :: drawL ds.tail t
theorem drawL_len : ∀ (ds : List Int) (l : List Pr), (drawL ds l).length = l.length
  | _, [] => rfl
  | ds, x :: t => by simp [drawL, drawL_len ds.tail t]
theorem drawL_snoc : ∀ (ds : List Int) (l : List Pr) (x : Pr), drawL ds (l ++ [x]) = drawL ds l ++ [(x.1, x.2, headD (ds.drop l.length) x.1)]
  | ds, [], x => by simp [drawL]
  | ds, y :: t, x => by
    show _ :: drawL ds.tail (t ++ [x]) = _
    rw [drawL_snoc]
    simp only [drawL, List.cons_append, List.length_cons]
    cases ds with
    | nil => simp
    | cons d ds => simp
def zeroL (l : List Pr) : List It := l.map fun x => (x.1, x.2, 0)
def tagL (c : Int) (ds : List Int) (l : List Pr) : List It := if c = 4 then drawL ds l else zeroL l
def restL (c : Int) (ds : List Int) (l : List Pr) : List Int := if c = 4 then ds.drop l.length else ds
theorem tagL_len (c : Int) (ds : List Int) (l : List Pr) : (tagL c ds l).length = l.length := by
  unfold tagL; split
  · exact drawL_len _ _
  · simp [zeroL]
theorem tagL_nil (c : Int) (ds : List Int) : tagL c ds [] = [] := by unfold tagL; split <;> rfl
theorem tagL_snoc (c : Int) (ds : List Int) (l : List Pr) (x : Pr) : tagL c ds (l ++ [x]) = tagL c ds l ++ [(x.1, x.2, if c = 4 then headD (restL c ds l) x.1 else 0)] := by
  unfold tagL restL; split
  · exact drawL_snoc _ _ _
  · simp [zeroL]
theorem tagL_take {c : Int} {ds : List Int} {l : List Pr} {i : Nat} (hi : i < l.length) : tagL c ds (l.take (i + 1)) = tagL c ds (l.take i) ++ [(l[i].1, l[i].2, if c = 4 then headD (restL c ds (l.take i)) l[i].1 else 0)] := by
  rw [show l.take (i + 1) = l.take i ++ [l[i]] from (List.take_append_getElem hi).symm, tagL_snoc]
theorem restL_take {c : Int} {ds : List Int} {l : List Pr} {i : Nat} (hi : i < l.length) : restL c ds (l.take (i + 1)) = if c = 4 then (restL c ds (l.take i)).tail else restL c ds (l.take i) := by
  unfold restL; split
  · rw [List.length_take, List.length_take, Nat.min_eq_left (by omega), Nat.min_eq_left (by omega), List.tail_drop]
  · rfl
abbrev InU (l : List Int) : Prop := ∀ x ∈ l, 0 ≤ x ∧ x < 18446744073709551616
theorem mixK_u (key : Int) : 0 ≤ mixK key ∧ mixK key < 18446744073709551616 := by
  unfold mixK U
  have := (mixB (BitVec.ofInt 64 key + 0x9e3779b97f4a7c15#64)).isLt
  omega
theorem headD_u {ds : List Int} (h : InU ds) (key : Int) : 0 ≤ headD ds key ∧ headD ds key < 18446744073709551616 := by
  cases ds with
  | nil => exact mixK_u key
  | cons d ds => exact h d (by simp)
theorem InU.tail {ds : List Int} (h : InU ds) : InU ds.tail := fun x hx => h x (List.mem_of_mem_tail hx)
theorem InU.drop {ds : List Int} (h : InU ds) (k : Nat) : InU (ds.drop k) := fun x hx => h x (List.mem_of_mem_drop hx)
theorem drawL_tag : ∀ {ds : List Int} {l : List Pr}, InU ds → TagI (drawL ds l)
  | _, [], _ => fun x hx => by cases hx
  | ds, y :: t, h => fun x hx => by
    rcases List.mem_cons.1 hx with rfl | hx
    · exact headD_u h _
    · exact drawL_tag h.tail x hx
theorem tagL_tag {c : Int} {ds : List Int} {l : List Pr} (h : InU ds) : TagI (tagL c ds l) := by
  unfold tagL; split
  · exact drawL_tag h
  · intro x hx
    obtain ⟨y, _, rfl⟩ := List.mem_map.1 hx
    exact ⟨Int.le_refl _, by show (0 : Int) < _; decide⟩
theorem drawL_prs : ∀ (ds : List Int) (l : List Pr), (drawL ds l).map (fun x => (x.1, x.2.1)) = l
  | _, [] => rfl
  | ds, x :: t => by simp [drawL, drawL_prs ds.tail t]
theorem tagL_prs (c : Int) (ds : List Int) (l : List Pr) : (tagL c ds l).map (fun x => (x.1, x.2.1)) = l := by
  unfold tagL; split
  · exact drawL_prs ds l
  · unfold zeroL
    rw [List.map_map]
    have : l.map ((fun x : It => (x.1, x.2.1)) ∘ fun x : Pr => (x.1, x.2, 0)) = l.map id := List.map_congr_left fun x _ => rfl
    rw [this, List.map_id]
theorem tagL_fix {c : Int} {ds : List Int} {l : List Pr} : (tagL c ds l).map (itC c) = tagL c ds l := by
  unfold tagL; split
  · have : (drawL ds l).map (itC c) = (drawL ds l).map id := List.map_congr_left fun x _ => by unfold itC; rw [if_pos (by assumption)]; rfl
    rw [this, List.map_id]
  · have : (zeroL l).map (itC c) = (zeroL l).map id := List.map_congr_left fun x hx => by
      obtain ⟨y, _, rfl⟩ := List.mem_map.1 hx
      unfold itC; rw [if_neg (by assumption)]; rfl
    rw [this, List.map_id]
theorem bldC_its {c : Int} {ds : List Int} {l : List Pr} (hs : isS c = true) : itsC c (bldC c (tagL c ds l)) = tagL c ds l := by rw [(bldC_ok hs _).2, tagL_fix]
/-! ### the frame -/
/-- all blocks that were there are as they were, but for some -/
def Gd (S : List Nat) (w w' : World) : Prop := w'.os = w.os ∧ w'.tape = w.tape ∧ w'.output = w.output ∧ w.heap.size ≤ w'.heap.size ∧ ∀ k, k < w.heap.size → k ∉ S → w'.heap[k]? = w.heap[k]?
theorem gd_of {S : List Nat} {w w' : World} (e : Ext w w') : Gd S w w' := ⟨e.os, e.tape, e.output, e.size, fun k hk _ => e.block k hk⟩
theorem gd_gs {S : List Nat} {b : Nat} {w w' : World} (g : Gs b w w') (hb : b ∈ S) : Gd S w w' := ⟨g.os, g.tape, g.output, World.grownBy.size g, fun k hk hn => g.block k hk (ne_some fun e => hn (by rw [e]; exact hb))⟩
theorem gd_refl (S : List Nat) (w : World) : Gd S w w := ⟨rfl, rfl, rfl, Nat.le_refl _, fun _ _ _ => rfl⟩
theorem Gd.size {S : List Nat} {w w' : World} (g : Gd S w w') : w.heap.size ≤ w'.heap.size := g.2.2.2.1
theorem Gd.trans {S : List Nat} {x y z : World} (g : Gd S x y) (k : Gd S y z) : Gd S x z :=
  ⟨k.1.trans g.1, k.2.1.trans g.2.1, k.2.2.1.trans g.2.2.1, Nat.le_trans g.size k.size, fun i hi hn => (k.2.2.2.2 i (Nat.lt_of_lt_of_le hi g.size) hn).trans (g.2.2.2.2 i hi hn)⟩
theorem Gd.mono {S T : List Nat} {x y : World} (g : Gd S x y) (h : ∀ k ∈ S, k ∈ T) : Gd T x y := ⟨g.1, g.2.1, g.2.2.1, g.2.2.2.1, fun i hi hn => g.2.2.2.2 i hi fun q => hn (h i q)⟩
theorem Gd.st {S : List Nat} {k : Nat} {w0 w1 w2 : World} (g : Gd S w0 w1) (q : w1.grownBy w2 (some k)) (hk : w0.heap.size ≤ k ∨ k ∈ S) : Gd S w0 w2 :=
  ⟨q.os.trans g.1, q.tape.trans g.2.1, q.output.trans g.2.2.1, Nat.le_trans g.size (World.grownBy.size q), fun i hi hn => (q.block i (Nat.lt_of_lt_of_le hi g.size) (ne_some fun e => by
    rcases hk with hk | hk
    · omega
    · exact hn (by rw [e]; exact hk))).trans (g.2.2.2.2 i hi hn)⟩
theorem Ext.gd {S : List Nat} {w w1 w2 : World} (e : Ext w w1) (g : Gd S w1 w2) (h : ∀ k ∈ S, w.heap.size ≤ k) : Ext w w2 :=
  ⟨g.1.trans e.os, g.2.1.trans e.tape, g.2.2.1.trans e.output, Nat.le_trans e.size g.size, fun i hi => (g.2.2.2.2 i (Nat.lt_of_lt_of_le hi e.size) fun q => by have := h i q; omega).trans (e.block i hi)⟩
theorem _root_.Go.Sh.Blk.gd {S : List Nat} {k : Nat} {w w' : World} {cs : Array Value} {ty : TypeId} (h : Blk w k cs ty) (g : Gd S w w') (hk : k ∉ S) : Blk w' k cs ty := by
  have := g.2.2.2.2 k h.lt hk
  unfold Blk at h ⊢
  rw [this]; exact h
theorem IsSch.gd {S : List Nat} {c : Int} {b : Nat} {w w' : World} (h : IsSch c b w) (g : Gd S w w') (hb : b ∉ S) : IsSch c b w' := by
  obtain ⟨hss, ⟨j, h⟩ | ⟨j, h⟩⟩ := h
  · exact ⟨hss, .inl ⟨j, h.gd g hb⟩⟩
  · exact ⟨hss, .inr ⟨j, h.gd g hb⟩⟩
/-- what is changed is no node -/
def Oth (S : List Nat) (w : World) : Prop := ∀ k ∈ S, ∀ cs, ¬ Blk w k cs 249
theorem oth_blk {w : World} {k : Nat} {cs : Array Value} {t : TypeId} (h : Blk w k cs t) (ht : t ≠ 249) : ∀ cs', ¬ Blk w k cs' 249 := fun _ h' => ht (blk_fun h h')
theorem _root_.Go.Sh.IsT.gd {S : List Nat} {w w' : World} {p : Option Addr} {t : Tr} (h : IsN w p t) (o : Oth S w) (g : Gd S w w') : IsN w' p t := by
  induction t generalizing p with
  | nil => exact h
  | node l k v gg r ihl ihr =>
    obtain ⟨b', pl, pr, hp, hb, hl, hr⟩ := h
    exact ⟨b', pl, pr, hp, hb.gd g (fun hm => o b' hm _ hb), ihl hl, ihr hr⟩
theorem IsSch.oth {c : Int} {b : Nat} {w : World} (h : IsSch c b w) : ∀ cs, ¬ Blk w b cs 249 := by
  rcases h.2 with ⟨j, h⟩ | ⟨j, h⟩
  · exact oth_blk h (by decide)
  · exact oth_blk h (by decide)
theorem heap_gd {S : List Nat} {k : Nat} {w w' : World} {o : Obj} (h : w.heap[k]? = some o) (g : Gd S w w') (hk : k ∉ S) : w'.heap[k]? = some o := by
  rw [g.2.2.2.2 k (Array.getElem?_eq_some_iff.1 h).1 hk]; exact h
theorem cell_gd {S : List Nat} {p : Addr} {v : Value} {w w' : World} (h : w.cell? p = some v) (g : Gd S w w') (hk : p.block ∉ S) : w'.cell? p = some v := by
  have := g.2.2.2.2 p.block (World.block_lt_of_cell? w p h) hk
  have e : w'.cell? p = w.cell? p := by unfold World.cell?; rw [this]
  rw [e]; exact h
theorem cs_gd {S : List Nat} {q : Option Addr} {vs : List Value} {w w' : World} (h : Cs w q vs) (g : Gd S w w') (hk : ∀ a, q = some a → a.block ∉ S) : Cs w' q vs := fun i v hv => by
  obtain ⟨a, ha, hc⟩ := h i v hv
  exact ⟨a, ha, cell_gd hc g (by rw [add_block]; exact hk a ha)⟩
/-- a row of one's own, that is none of what is changed -/
theorem row_gd {S : List Nat} {w w' : World} {base ty s n : Nat} {v : Value} {xs : List Value} (h : w.ownsRow base ty s v n xs) (g : Gd S w w') (hb : ∀ k ∈ S, k < base) : w'.ownsRow base ty s v n xs := by
  refine ⟨h.1, ?_⟩
  rcases h.2 with q | ⟨b, cap, cur, hv, hbb, hblk, rest⟩
  · exact .inl q
  · refine .inr ⟨b, cap, cur, hv, hbb, ?_, rest⟩
    have hlt : b < w.heap.size := (World.ownsRow.lt h b (by rw [hv]; rfl)).2
    rw [g.2.2.2.2 b hlt fun hm => by have := hb b hm; omega]
    exact hblk
end Go.Proofs.YtlddfgfmkapoiaaGreat

