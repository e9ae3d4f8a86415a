/-
  The document's checks of trees, of beads: layers 16, 18, 20, 22.
-/
/-
  Rows of items: Items, See, Same.
-/
/-
  Has, Is; the document's answers of layers 12, 24.
-/
/-
  The document's answers of layer 24; what a statement parts.
-/
/-
  Layer 24: what a statement parts; the chapter's examples.
-/
/-
  sound.Check, Ahead; a scheme's Check.
-/
/-
  Trees made of rows, in plain; the frame of what is changed: a scheme, and draws.
-/
/-
  draw, mix: numbers that are drawn; the document's.
-/
/-
  build.Items: a tree of items, by halves.
-/
import Derived.Test.YtlddfgfmkapoiaaGreatZ18

namespace Go.Proofs.YtlddfgfmkapoiaaGreat
open Go Go.Sh Go.RowKit

/-! ### weights -/
/-! ### tags -/
theorem c_r20item {x : Bd} {w : World} {R : Ending → World → Prop} (h : ∀ w', Ext w w' → R (.returned (agI (x.key, x.val, x.tag))) w') : Calls Tryz.prog 190 #[bdV x] w R := by
  refine sh190_ok _ _ _ _ _ _ _ ?_
  unfold sh190
  have e0 := ext_alloc w (.cells #[.int .i64 x.key, .int .i64 x.val, .int .i64 x.sum, .int .i64 x.size, .int .u64 x.tag, .bool x.left, .bool x.right] 150)
  have hb := blk_alloc w #[.int .i64 x.key, .int .i64 x.val, .int .i64 x.sum, .int .i64 x.size, .int .u64 x.tag, .bool x.left, .bool x.right] 150
  refine ⟨⟨?_⟩⟩
  generalize w.alloc (.cells #[.int .i64 x.key, .int .i64 x.val, .int .i64 x.sum, .int .i64 x.size, .int .u64 x.tag, .bool x.left, .bool x.right] 150) = w1 at *
  have e1 := ext_alloc w1 (.cells #[.int .i64 0, .int .i64 0, .int .u64 0] 114)
  have hb := hb.ext e1
  refine ⟨_, hb.cell (i := 0) (add_blk _ _) rfl, _, hb.cell (i := 1) (add_blk _ _) rfl, _, hb.cell (i := 4) (add_blk _ _) rfl, do_st3 (blk_alloc w1 _ _) fun w2 h2 g2 => ?_⟩
  exact ⟨_, h2.cell (i := 0) (add_blk _ _) rfl, _, h2.cell (i := 1) (add_blk _ _) rfl, _, h2.cell (i := 2) (add_blk _ _) rfl, h _ (e0.trans (e1.st g2 (Nat.le_refl _)))⟩
theorem c_r20above {a b : It} {w : World} {R : Ending → World → Prop} (h : ∀ w', Ext w w' → R (.returned (.bool (decide (b.2.2 < a.2.2) || (decide (a.2.2 = b.2.2) && decide (b.1 < a.1))))) w') : Calls Tryz.prog 192 #[agI a, agI b] w R := by
  refine sh192_ok _ _ _ _ _ _ ?_
  unfold sh192
  have e0 := ext_alloc w (.cells #[.int .i64 a.1, .int .i64 a.2.1, .int .u64 a.2.2] 114)
  have hb := blk_alloc w #[.int .i64 a.1, .int .i64 a.2.1, .int .u64 a.2.2] 114
  refine ⟨⟨?_⟩⟩
  intro K13
  generalize w.alloc (.cells #[.int .i64 a.1, .int .i64 a.2.1, .int .u64 a.2.2] 114) = w1 at *
  have e1 := ext_alloc w1 (.cells #[.int .i64 b.1, .int .i64 b.2.1, .int .u64 b.2.2] 114)
  have hc := blk_alloc w1 #[.int .i64 b.1, .int .i64 b.2.1, .int .u64 b.2.2] 114
  have hb := hb.ext e1
  have hr := h _ (e0.trans e1)
  refine ⟨_, hb.cell (i := 2) (add_blk _ _) rfl, _, hc.cell (i := 2) (add_blk _ _) rfl, ifB_intro (fun h1 => ?_) fun h1 => ?_⟩
  · have h1 : b.2.2 < a.2.2 := of_decide_eq_true h1
    rw [decide_eq_true h1] at hr; exact hr
  · have h1 : ¬ b.2.2 < a.2.2 := of_decide_eq_false h1
    rw [decide_eq_false h1, Bool.false_or] at hr
    refine ⟨_, hb.cell (i := 2) (add_blk _ _) rfl, _, hc.cell (i := 2) (add_blk _ _) rfl, ifB_intro (fun h2 => ?_) fun h2 => ?_⟩
    · have h2 : a.2.2 = b.2.2 := by simpa using h2
      rw [decide_eq_true h2, Bool.true_and] at hr
      exact ⟨_, hb.cell (i := 0) (add_blk _ _) rfl, _, hc.cell (i := 0) (add_blk _ _) rfl, hr⟩
    · have h2 : ¬ a.2.2 = b.2.2 := by simpa using h2
      rw [decide_eq_false h2, Bool.false_and] at hr; exact hr
set_option maxRecDepth 20000 in
theorem c_r20over {t T : BT} {x : Bd} {L Rt : BT} (hT : T = .node x L Rt) {q : Option Addr} {n c : Nat} {w : World} {R : Ending → World → Prop} (hl : Cs w q (bds t.beads)) (hn : t.size = n)
    (h : ∀ w', Ext w w' → R (.returned (.bool (abT t.tr T.tr))) w') : Calls Tryz.prog 256 #[.slice q n c, bdV x] w R := by
  subst hT
  refine sh256_ok _ _ _ _ _ _ _ _ _ _ ?_
  unfold sh256
  refine ⟨?_⟩
  have e0 := ext_alloc w (.cells #[.int .i64 x.key, .int .i64 x.val, .int .i64 x.sum, .int .i64 x.size, .int .u64 x.tag, .bool x.left, .bool x.right] 150)
  have hb := blk_alloc w #[.int .i64 x.key, .int .i64 x.val, .int .i64 x.sum, .int .i64 x.size, .int .u64 x.tag, .bool x.left, .bool x.right] 150
  generalize hbx : w.heap.size = bx at *
  generalize w.alloc (.cells #[.int .i64 x.key, .int .i64 x.val, .int .i64 x.sum, .int .i64 x.size, .int .u64 x.tag, .bool x.left, .bool x.right] 150) = w1 at *
  intro K15
  have d := ext_drew w1
  refine ⟨⟨fun w' => Ext w1 w', d, ifB_intro (fun hc => ?_) fun hc => ?_⟩⟩
  · have hc : 0 < n := by have := of_decide_eq_true hc; omega
    cases t with
    | nil => have : n = 0 := by rw [← hn]; rfl
             omega
    | node y A B =>
      refine ix_flatC ecB_len (by omega) (C := fun w' => Ext w1 w') (fun w' e => hl.ext (e0.trans e)) d hn (k := 0) rfl hc fun a r => ?_
      refine ⟨_, fun w' e => r w' e 0 _ rfl, _, fun w' e => r w' e 1 _ rfl, _, fun w' e => r w' e 2 _ rfl, _, fun w' e => r w' e 3 _ rfl, _, fun w' e => r w' e 4 _ rfl, _, fun w' e => r w' e 5 _ rfl, _, fun w' e => r w' e 6 _ rfl, _, fun w' e => (hb.ext e).cell (i := 0) (add_blk _ _) rfl, _, fun w' e => (hb.ext e).cell (i := 1) (add_blk _ _) rfl, _, fun w' e => (hb.ext e).cell (i := 2) (add_blk _ _) rfl, _, fun w' e => (hb.ext e).cell (i := 3) (add_blk _ _) rfl, _, fun w' e => (hb.ext e).cell (i := 4) (add_blk _ _) rfl, _, fun w' e => (hb.ext e).cell (i := 5) (add_blk _ _) rfl, _, fun w' e => (hb.ext e).cell (i := 6) (add_blk _ _) rfl, ?_⟩
      refine do_call Tryz.call190 (c_r20item (x := y) fun w2 e2 => retS_ret ⟨_, _, _, rfl, d.trans e2, ?_⟩)
      refine do_call Tryz.call190 (c_r20item (x := x) fun w3 e3 => retS_ret ⟨_, _, _, rfl, (d.trans e2).trans e3, ?_⟩)
      refine do_call Tryz.call192 (c_r20above (a := (y.key, y.val, y.tag)) (b := (x.key, x.val, x.tag)) fun w4 e4 => retS_ret ⟨_, rfl, ((d.trans e2).trans e3).trans e4, ?_⟩)
      exact h _ (e0.trans (((d.trans e2).trans e3).trans e4))
  · have hc : n = 0 := by have := of_decide_eq_false hc; omega
    have : t = .nil := BT.size_nil (by rw [BT.nn_iff]; exact decide_eq_false (by omega))
    subst this
    exact h _ (e0.trans d)
set_option maxRecDepth 20000 in
theorem c_r20check : ∀ (t : BT) {q : Option Addr} {n c : Nat} {w : World} {R : Ending → World → Prop} (_hl : Cs w q (bds t.beads)) (_hn : t.size = n) (_hnc : n ≤ c) (_hw : t.wf = true) (_hm : n ≤ 5000)
    (_h : ∀ k e w', Ext w w' → (e = 0 ↔ Tp t.tr) → R (.returned (.tuple #[.int .i64 k, .int .i64 e])) w'), Calls Tryz.prog 200 #[.slice q n c] w R
  | .nil, q, n, c, w, R, hl, hn, hnc, hw, hm, h => by
    refine sh200_ok _ _ _ ?_
    unfold sh200
    have : n = 0 := by rw [← hn]; rfl
    subst this
    exact ifB_t rfl (h _ _ _ (ext_refl w) (by simp [BT.tr, Tp]))
  | .node x L Rt, q, n, c, w, R, hl, hn, hnc, hw, hm, h => by
    refine sh200_ok _ _ _ ?_
    unfold sh200
    have hsz := BT.size_node x L Rt
    obtain ⟨_, _, w2f, w3f⟩ := BT.wf_node hw
    refine ifB_f (by simp; omega) ?_
    refine do_call Tryz.call109 (c_parts hl hn hnc hw hm fun p1 c1 p2 c2 w1 e1 hp h1 h2 => retS_ret ⟨_, _, _, _, _, _, _, _, _, _, _, _, _, rfl, ⟨?_⟩⟩)
    refine do_st7 (blk_alloc w1 _ _) fun w2 hb2 g2 => ?_
    have e2 : Ext w1 w2 := (ext_alloc w1 _).st g2 (Nat.le_refl _)
    have E2 := e1.trans e2
    have hcs := fun (w'' : World) (e : Ext w2 w'') => hp w'' (hl.ext (E2.trans e))
    have key : Tp (BT.node x L Rt).tr ↔ Tp L.tr ∧ Tp Rt.tr ∧ abT L.tr (BT.node x L Rt).tr = false ∧ abT Rt.tr (BT.node x L Rt).tr = false := Iff.rfl
    intro K30
    refine ⟨_, hb2.cell (i := 0) (add_blk _ _) rfl, _, hb2.cell (i := 1) (add_blk _ _) rfl, _, hb2.cell (i := 2) (add_blk _ _) rfl, _, hb2.cell (i := 3) (add_blk _ _) rfl, _, hb2.cell (i := 4) (add_blk _ _) rfl, _, hb2.cell (i := 5) (add_blk _ _) rfl, _, hb2.cell (i := 6) (add_blk _ _) rfl, ?_⟩
    refine do_call Tryz.call256 (c_r20over (T := .node x L Rt) rfl (hcs _ (ext_refl _)).1 rfl fun w3 e3 => retS_ret ⟨_, rfl, ifB_intro (fun hab => ?_) fun hab => ?_⟩)
    · exact h _ _ _ (E2.trans e3) (by rw [key, hab]; exact ⟨(fun h => by cases h), fun h => by cases h.2.2.1⟩)
    rw [hab] at key
    have hb3 := hb2.ext e3
    refine ⟨_, hb3.cell (i := 0) (add_blk _ _) rfl, _, hb3.cell (i := 1) (add_blk _ _) rfl, _, hb3.cell (i := 2) (add_blk _ _) rfl, _, hb3.cell (i := 3) (add_blk _ _) rfl, _, hb3.cell (i := 4) (add_blk _ _) rfl, _, hb3.cell (i := 5) (add_blk _ _) rfl, _, hb3.cell (i := 6) (add_blk _ _) rfl, ?_⟩
    refine do_call Tryz.call256 (c_r20over (T := .node x L Rt) rfl (hcs _ e3).2 rfl fun w4 e4 => retS_ret ⟨_, rfl, ifB_intro (fun hab => ?_) fun hab => ?_⟩)
    · exact h _ _ _ ((E2.trans e3).trans e4) (by rw [key, hab]; exact ⟨(fun h => by cases h), fun h => by cases h.2.2.2⟩)
    rw [hab] at key
    have E4 := (E2.trans e3).trans e4
    refine do_call Tryz.call200 (c_r20check L (hcs _ (e3.trans e4)).1 rfl h1 w2f (by omega) fun k1 f1 w5 e5 hf1 => retS_ret ⟨_, _, rfl, ?_⟩)
    refine ifB_intro (fun hne => ?_) fun hne => ?_
    · have hne : f1 ≠ 0 := by simpa using hne
      exact h _ _ _ (E4.trans e5) (by rw [key]; exact ⟨fun h => absurd h hne, fun h => hf1.2 h.1⟩)
    have hz1 : f1 = 0 := by simpa using hne
    refine do_call Tryz.call200 (c_r20check Rt (hcs _ ((e3.trans e4).trans e5)).2 rfl h2 w3f (by omega) fun k2 f2 w6 e6 hf2 => retS_ret ⟨_, _, rfl, ?_⟩)
    exact h _ _ _ ((E4.trans e5).trans e6) (by rw [key]; exact ⟨fun h => ⟨hf1.1 hz1, hf2.1 h, rfl, rfl⟩, fun h => hf2.2 h.2.1⟩)
/-! ### all of them -/
end Go.Proofs.YtlddfgfmkapoiaaGreat

namespace Go.Proofs.YtlddfgfmkapoiaaGreat
open Go Go.Sh Go.RowKit

set_option maxRecDepth 100000 in
theorem elIt : ElT Tryz.prog 40 114 (.agg #[.int .i64 0, .int .i64 0, .int .u64 0]) 3 24 := ⟨Tryz.underlying40, ⟨_, Tryz.type114, by kernel_rfl, by kernel_rfl, by kernel_rfl⟩, rfl, by omega⟩
abbrev OwnI (w : World) (base : Nat) (p : Option Addr) (n c : Nat) (l : List It) : Prop := w.ownsRow base 114 3 (.slice p n c) n (its l)
theorem ownI_len {w : World} {base n c : Nat} {p : Option Addr} {l : List It} (h : OwnI w base p n c l) : l.length = n := by have := h.1; rw [its_length] at this; omega
theorem ownI_cs {w : World} {base n c : Nat} {p : Option Addr} {l : List It} (h : OwnI w base p n c l) : Cs w p (its l) := Cs.of_row h
theorem ownI_nil (w : World) (base : Nat) : OwnI w base none 0 0 [] := World.ownsRow_nil _ _ _ _
theorem extI_own {a w w' : World} {base n c : Nat} {p : Option Addr} {l : List It} (h : OwnI w base p n c l) (e : Ext a w) (g : w.grownBy w' (Value.slice p n c).ownBlock) (hb : a.heap.size ≤ base) : Ext a w' :=
  e.grown g fun k hk => Nat.le_trans hb (World.ownsRow.lt h k hk).1
theorem cs_it {w : World} {b : Nat} {x : It} {t : TypeId} (h : Blk w b #[.int .i64 x.1, .int .i64 x.2.1, .int .u64 x.2.2] t) : Cs w (some (blk b)) (its [x]) := fun i v hv => by
  refine ⟨_, rfl, ?_⟩
  rw [add_blk]
  match i, hv with
  | 0, hv => cases hv; exact h.cell rfl rfl
  | 1, hv => cases hv; exact h.cell rfl rfl
  | 2, hv => cases hv; exact h.cell rfl rfl
  | i + 3, hv => simp [ecI] at hv
/-! ### See, Same, Is -/
end Go.Proofs.YtlddfgfmkapoiaaGreat

namespace Go.Proofs.YtlddfgfmkapoiaaGreat
open Go Go.Sh Go.RowKit

theorem bd_eq {x y : Bd} : (((x.key : Int) == y.key) && (((x.val : Int) == y.val) && (((x.sum : Int) == y.sum) && (((x.size : Int) == y.size) && (((x.tag : Int) == y.tag) && ((x.left == y.left) && ((x.right == y.right) && true))))))) = decide (x = y) := by
  obtain ⟨a1, a2, a3, a4, a5, a6, a7⟩ := x
  obtain ⟨b1, b2, b3, b4, b5, b6, b7⟩ := y
  rw [Bool.eq_iff_iff]
  simp only [Bool.and_eq_true, beq_iff_eq, Bool.and_true, decide_eq_true_eq, Bd.mk.injEq]
/-! ### tags that fit -/
abbrev TagI (l : List It) : Prop := ∀ x ∈ l, 0 ≤ x.2.2 ∧ x.2.2 < 18446744073709551616
/-! ### layer 12 -/
theorem c_rises {o : Int} {l : List Pr} {q : Option Addr} {n c : Nat} {w : World} {R : Ending → World → Prop} (hl : Cs w q (prs l)) (hn : l.length = n) (hm : n ≤ 1000000000000) (hI : InP l) (h : ∀ w', Ext w w' → R (.returned (.bool (chain o l))) w') :
    Calls Tryz.prog 199 #[.int .u8 o, .slice q n c] w R := by
  refine sh199_ok _ _ _ _ ?_
  unfold sh199
  refine ⟨fun vs w' => ∃ k : Nat, vs = [.int .i64 k] ∧ 1 ≤ k ∧ Ext w w' ∧ ∀ i (hi : i + 1 < l.length), i + 1 < k → cmpI o l[i].1 l[i + 1].1 < 0, fun vs _ => n - (intOf (vs.getD 0 undef)).toNat, ⟨1, rfl, by omega, ext_refl w, fun i _ hi => by omega⟩, ?_⟩
  rintro i _ w2 ⟨k, hv, hk1, E, hlo⟩
  simp only [List.cons.injEq, Value.int.injEq, true_and, and_true] at hv
  subst hv
  refine ifB_intro (fun hlt => ?_) fun hge => ?_
  · have hlt : k < n := by have := of_decide_eq_true hlt; omega
    have ek : IntKind.wrap .i64 ((k : Int) - 1) = ((k - 1 : Nat) : Int) := by rw [wrap_of (by omega) (by omega)]; omega
    rw [ek]
    refine ⟨⟨fun w' => Ext w2 w', ext_drew _, ?_⟩⟩
    refine ix_prC (fun w' e => (hl.ext E).ext e) (ext_refl _) hn rfl (by omega) fun a r1 _ => ⟨_, r1, ?_⟩
    refine ix_prC (fun w' e => (hl.ext E).ext e) (ext_refl _) hn rfl hlt fun a' r2 _ => ⟨_, r2, ?_⟩
    have i1 := hI (l[k - 1]'(by omega)) (List.getElem_mem _)
    have i2 := hI (l[k]'(by omega)) (List.getElem_mem _)
    refine do_call Tryz.call79 (c_rcompare i1.1 i2.1 (retS_ret ⟨_, rfl, ifB_intro (fun hc => ?_) fun hc => ?_⟩))
    · have hc := of_decide_eq_true hc
      have : chain o l = false := by
        cases hch : chain o l with
        | false => rfl
        | true =>
          have := chain_get hch (k - 1) (by omega)
          have e : l[k - 1 + 1]'(by omega) = l[k]'(by omega) := by congr 1; omega
          rw [e] at this
          omega
      rw [this] at h
      exact h _ E.drew
    · have hc := of_decide_eq_false hc
      refine ⟨⟨k + 1, by rw [wrap_succ hlt (by omega)], by omega, E.drew, fun i hi hik => ?_⟩, ?_⟩
      · by_cases hik' : i + 1 < k
        · exact hlo i hi hik'
        · obtain rfl : i = k - 1 := by omega
          have e : l[k - 1 + 1]'(by omega) = l[k]'(by omega) := by congr 1; omega
          rw [e]; omega
      · rw [wrap_succ hlt (by omega)]; simp [intOf]; omega
  · have hge := of_decide_eq_false hge
    have : chain o l = true := chain_of fun i hi => hlo i hi (by omega)
    rw [this] at h
    exact h _ E
end Go.Proofs.YtlddfgfmkapoiaaGreat

namespace Go.Proofs.YtlddfgfmkapoiaaGreat
open Go Go.Sh Go.RowKit

/-- append, and where the row then lies -/
theorem do_appI {base : Nat} {v : Value} {n : Nat} {xs : List Value} {w : World}
    (hown : w.ownsRow base 114 3 v n xs) {ad : Addr} {m c : Nat} {news : List Value} (hnews : Cs w (some ad) news) (hl : news.length = m * 3) (h1 : ∀ u ∈ news, u.oneCell' = true) (hm0 : 0 < m)
    (h63 : n + m ≤ maxLen) (hbytes : (n + m) * 24 ≤ 140737488355328) (hbase : base ≤ w.heap.size) {bs : Array Bool} {R : Ending → World → Prop}
    (h : ∀ p c w', w'.ownsRow base 114 3 (.slice p (n + m) c) (n + m) (xs ++ news) → w.grownBy w' v.ownBlock → ((Value.slice p (n + m) c).ownBlock = v.ownBlock ∨ (Value.slice p (n + m) c).ownBlock = some w.heap.size) → R (.returned (.slice p (n + m) c)) w') :
    doGo Tryz.prog (.builtin .append #[40, 40] 40 bs) #[v, .slice (some ad) m c] w R := by
  obtain ⟨i, hi, hz, hsz, hby⟩ := elIt.hi
  have hnews' : ∀ j u, news[j]? = some u → w.cell? (ad.add j) = some u := fun j u hu => by obtain ⟨a, ha, hc⟩ := hnews j u hu; cases ha; exact hc
  obtain ⟨v', w', hr, h2, h3, _⟩ := run_append_own (P := Tryz.prog) w base _ _ _ i _ 3 24 elIt.ht hi hz hsz hby elIt.hz elIt.hs v n xs hown ad m c news hl hnews' h1 h63 hbytes hbase
  obtain ⟨p, c', rfl⟩ := row_slice h2
  refine goV_append hr (h p c' w' h2 h3 ?_)
  have hmax : n + m ≤ 9223372036854775807 := by simp only [maxLen] at h63; omega
  rcases hown.2 with ⟨rfl, rfl⟩ | ⟨g, cap, cur, rfl, hbg, hg, hnc, hcm, hcs, htake⟩
  · have := run_append_nil (P := Tryz.prog) w 40 40 114 i _ elIt.ht hi hz ad m c news (by rw [hsz]; exact hl) hnews' hm0 (by omega) (by rw [hby]; omega)
    rw [this] at hr
    injection hr with hr1 _
    right; rw [← hr1]; rfl
  · by_cases hroom : n + m ≤ cap
    · have := run_append_room (P := Tryz.prog) w 40 40 114 i elIt.ht hi g n cap cur hg ad m c news (by rw [hsz]; exact hl) hnews' h1 hroom (by rw [hl, hcs, hsz, ← Nat.add_mul]; exact Nat.mul_le_mul_right _ hroom)
      rw [this] at hr
      injection hr with hr1 _
      left; rw [← hr1]; rfl
    · have := run_append_grow (P := Tryz.prog) w 40 40 114 i _ elIt.ht hi hz ⟨g, 0, none⟩ n cap xs (by rw [hsz]; exact hown.1) (hown.cells (g := g) rfl) ad m c news (by rw [hsz]; exact hl) hnews' (by omega) (by omega) (growslice_fits (by omega) (by rw [hby]; exact hbytes))
      rw [this] at hr
      injection hr with hr1 _
      right; rw [← hr1]; rfl
/-- one item more to a row of one's own -/
theorem do_app1I {q : Option Addr} {n c base : Nat} {r : List It} {w : World} (hrow : OwnI w base q n c r) (hn : n ≤ 1000000000000) (hb : base ≤ w.heap.size) {x : It} {Kf : Value → World → Prop} {F : List PanicEntry → World → Prop}
    (k : ∀ q' c' w', OwnI w' base q' (n + 1) c' (r ++ [x]) → (∀ w0, Ext w0 w → w0.heap.size ≤ base → Ext w0 w') → w.grownBy w' (Value.slice q n c).ownBlock →
      ((Value.slice q' (n + 1) c').ownBlock = (Value.slice q n c).ownBlock ∨ ∀ k, (Value.slice q' (n + 1) c').ownBlock = some k → w.heap.size ≤ k) → Kf (.slice q' (n + 1) c') w') :
    doAl (.cells #[.int .i64 x.1, .int .i64 x.2.1, .int .u64 x.2.2] 114) w (fun b w2 => doGo Tryz.prog (.builtin .append #[40, 40] 40 #[false, false]) #[.slice q n c, .slice (some (blk b)) 1 1] w2 (retS Kf F)) := by
  refine ⟨?_⟩
  have e1 := ext_alloc w (.cells #[.int .i64 x.1, .int .i64 x.2.1, .int .u64 x.2.2] 114)
  have hrow1 := e1.row hrow
  have hcs : Cs (w.alloc (.cells #[.int .i64 x.1, .int .i64 x.2.1, .int .u64 x.2.2] 114)) (some (blk w.heap.size)) (its [x]) := cs_it (blk_alloc w _ _)
  refine do_appI hrow1 (m := 1) hcs (by rw [its_length]; rfl) its_one (by omega) (by simp only [maxLen]; omega) (by omega) (Nat.le_trans hb e1.size) fun p' c' w' h2 g2 hor => retS_ret (k p' c' w' ?_ ?_ ?_ ?_)
  · show w'.ownsRow _ _ _ _ _ (its _); rw [its_append]; exact h2
  · intro w0 e0 hb0
    exact extI_own hrow1 (e0.trans e1) g2 hb0
  · have ga : w.grownBy (w.alloc (.cells #[.int .i64 x.1, .int .i64 x.2.1, .int .u64 x.2.2] 114)) (Value.slice q n c).ownBlock := World.grownBy_alloc _ _ _
    exact grown_trans ga g2
  · rcases hor with h | h
    · exact .inl h
    · right; intro k hk; rw [h] at hk; cases hk; exact e1.size
/-- two rows of one's own, apart -/
def TwoI (w : World) (base : Nat) (p : Option Addr) (n c : Nat) (l : List It) (p' : Option Addr) (n' c' : Nat) (l' : List It) : Prop :=
  OwnI w base p n c l ∧ OwnI w base p' n' c' l' ∧ ((Value.slice p' n' c').ownBlock = none ∨ (Value.slice p' n' c').ownBlock ≠ (Value.slice p n c).ownBlock)
theorem TwoI.ext {w w' : World} {base : Nat} {p : Option Addr} {n c : Nat} {l : List It} {p' : Option Addr} {n' c' : Nat} {l' : List It} (h : TwoI w base p n c l p' n' c' l') (e : Ext w w') : TwoI w' base p n c l p' n' c' l' :=
  ⟨e.row h.1, e.row h.2.1, h.2.2⟩
abbrev InI (l : List It) : Prop := ∀ x ∈ l, In x.1
end Go.Proofs.YtlddfgfmkapoiaaGreat

namespace Go.Proofs.YtlddfgfmkapoiaaGreat
open Go Go.Sh Go.RowKit

theorem Ext.gs {b : Nat} {w w1 w2 : World} (e : Ext w w1) (g : Gs b w1 w2) (hb : w.heap.size ≤ b) : Ext w w2 := Go.Sh.Ext.st e g hb
theorem c_r2may {o : Int} {w : World} {R : Ending → World → Prop} (h : R (.returned (.bool (isO o))) w) : Calls Tryz.prog 127 #[.int .u8 o] w R := by
  refine sh127_ok _ ?_
  unfold sh127
  exact do_call Tryz.call16 (c_ris (retS_ret ⟨_, rfl, h⟩))
/-! ### plain -/
theorem inK_all {t : Tr} (h : ∀ x ∈ t.pairs, In x.1) : InK t := by
  induction t with
  | nil => trivial
  | node l k v g r ihl ihr => exact ⟨ihl fun x hx => h x (by simp [Tr.pairs, hx]), h (k, v) (by simp [Tr.pairs]), ihr fun x hx => h x (by simp [Tr.pairs, hx])⟩
/-- numbers of beads that fit -/
structure FitB (t : BT) : Prop where
  key : ∀ x ∈ t.beads, In x.key
  val : ∀ x ∈ t.beads, In x.val
  tag : TagB t
theorem FitB.inK {t : BT} (h : FitB t) : InK t.tr := inK_all fun x hx => by
  obtain ⟨b, hb, rfl⟩ := BT.tr_mem hx
  exact h.key b hb
theorem FitB.inP {t : BT} (h : FitB t) : InP t.tr.pairs := fun x hx => by
  obtain ⟨b, hb, rfl⟩ := BT.tr_mem hx
  exact ⟨h.key b hb, h.val b hb⟩
theorem FitB.inI {t : BT} (h : FitB t) (c : Int) : InI (itsC c t.tr) := fun x hx => inK_its.1 h.inK x hx
/-! ### the chapter's examples -/
end Go.Proofs.YtlddfgfmkapoiaaGreat

namespace Go.Proofs.YtlddfgfmkapoiaaGreat
open Go Go.Sh Go.RowKit

set_option maxRecDepth 20000 in
set_option maxHeartbeats 1600000 in
theorem c_scheckS {c o : Int} {t : Tr} {p : Option Addr} {w : World} {R : Ending → World → Prop} (ho : isO o = true) (ht : IsN w p t) (ha : asc o (itsC c t)) (hk : InK t) (h : ∀ k w', Ext w w' → R (.returned (.tuple #[.int .i64 k, .int .i64 0])) w') :
    Calls Tryz.prog 117 #[.int .u8 o, .pointer p] w R := by
  refine sh117_ok _ _ ?_
  unfold sh117
  have ho7 : 1 ≤ o ∧ o ≤ 7 := by simpa [isO] using ho
  refine ⟨⟨?_⟩⟩
  have e0 := ext_alloc w (.cells #[.int .i64 0] 3)
  have h2 := blk_alloc w #[.int .i64 0] 3
  have k2 : w.heap.size ≤ w.heap.size := Nat.le_refl _
  generalize hb2 : w.heap.size = b2 at h2 k2 ⊢
  generalize w.alloc (.cells #[.int .i64 0] 3) = w1 at *
  have e1 := ext_alloc w1 (.cells #[.int .i64 0] 36)
  have h4 := blk_alloc w1 #[.int .i64 0] 36
  have l2 := h2.lt
  have n24 : b2 < w1.heap.size := l2
  generalize w1.heap.size = b4 at *
  generalize w1.alloc (.cells #[.int .i64 0] 36) = w2 at *
  have h22 := h2.ext e1
  have l4 := h4.lt
  intro K11 K40
  refine ifB_f (decide_eq_false (by omega)) ?_
  simp -zeta -zetaHave only [K40]
  refine ifB_f (decide_eq_false (by omega)) ?_
  simp -zeta -zetaHave only [K11]
  intro K13
  refine do_call Tryz.call194 (sh194_ok _ _ ?_)
  unfold sh194
  refine ⟨⟨retS_ret ⟨_, _, _, rfl, do_rf fun fn L w6 d hd hL hst hpe e6 hd6 hl6 => ?_⟩⟩⟩
  have e3 := ext_alloc w2 (.cells #[.int .u8 o] 5)
  have hbo := blk_alloc w2 #[.int .u8 o] 5
  generalize w2.heap.size = bo at *
  generalize w2.alloc (.cells #[.int .u8 o] 5) = w3 at *
  have e5 := ext_alloc w3 (.cells #[.pointer p] 35)
  have hbt := blk_alloc w3 #[.pointer p] 35
  generalize w3.heap.size = bt at *
  generalize w3.alloc (.cells #[.pointer p] 35) = w5 at *
  have e26 : Ext w2 w6 := (e3.trans e5).trans e6
  have E6 : Ext w w6 := (e0.trans e1).trans e26
  have hbt6 := hbt.ext e6
  have d2 : b2 < d := by have := (h22.ext (e3.trans e5)).lt; omega
  have d4 : b4 < d := by have := (h4.ext (e3.trans e5)).lt; omega
  have dO : bo < d := by have := (hbo.ext e5).lt; omega
  obtain ⟨J, hJ⟩ : ∃ J : Nat → World → Prop, J = fun n w' => Ext w w' ∧ Blk w' b2 #[.int .i64 (IntKind.wrap .i64 (n : Nat))] 3 ∧ Blk w' b4 #[.int .i64 0] 36 ∧ Blk w' bo #[.int .u8 o] 5 ∧ w'.heap[d]? = some (.deferred (some [])) ∧ w'.heap[d + 1]? = some (.loop L) := ⟨_, rfl⟩
  have hJe : ∀ n w', J n w' → Ext w w' := fun n w' q => by rw [hJ] at q; exact q.1
  have hJo : ∀ n w', J n w' → Blk w' bo #[.int .u8 o] 5 := fun n w' q => by rw [hJ] at q; exact q.2.2.2.1
  have hJd : ∀ n w', J n w' → d + 1 < w'.heap.size := fun n w' q => by rw [hJ] at q; exact (Array.getElem?_eq_some_iff.1 q.2.2.2.2.2).1
  have hJx : ∀ n w' w'', J n w' → Ext w' w'' → J n w'' := fun n w' w'' q e => by
    rw [hJ] at q ⊢
    exact ⟨q.1.trans e, q.2.1.ext e, q.2.2.1.ext e, q.2.2.2.1.ext e, e.heap q.2.2.2.2.1, e.heap q.2.2.2.2.2⟩
  have hwl : w.heap.size ≤ d := by omega
  have hY : ∀ n q w' (K : Ending → World → Prop), J n w' →
      (∀ w'', J (n + 1) w'' → KP (d + 1) w' w'' → K (.returned (.bool true)) w'') → doCall Tryz.prog (.func (.yield (d + 1)) #[] #[]) #[.pointer q, .bool false] w' K := by
    intro n q w5 K hj hK
    rw [hJ] at hj
    obtain ⟨E5, j2, j4, jo, jd, jl⟩ := hj
    refine sh117_0_ok (by rw [jl, hL]) ?_
    unfold sh117_0
    refine ⟨_, jl, hst, ?_⟩
    have g7 := put_grown w5 (d + 1) (.loop { L with state := .busy })
    have l7 := put_heap (o' := .loop { L with state := .busy }) jl
    have E7 := E5.put (l := d + 1) (by omega) (.loop { L with state := .busy })
    have hlt := (Array.getElem?_eq_some_iff.1 jl).1
    have j2 := j2.grown g7 (ne_some (by omega))
    have j4 := j4.grown g7 (ne_some (by omega))
    have jo := jo.grown g7 (ne_some (by omega))
    have jd := heap_grown g7 jd (ne_some (by omega))
    have hfr : KP (d + 1) w5 (w5.putObj (d + 1) (.loop { L with state := .busy })) := fun b cs ty hb hk => hk.grown g7 (ne_some (by omega))
    generalize w5.putObj (d + 1) (.loop { L with state := .busy }) = w7 at *
    refine ifB_f rfl ⟨_, j2.cell (i := 0) rfl rfl, ?_⟩
    refine do_st j2 (i := 0) (add_blk _ _) (by simp) fun w9 h9 g9 => ?_
    have l9 := heap_grown g9 l7 (ne_some (by omega))
    refine ⟨_, l9, hK _ ?_ fun b cs ty hb hk => ?_⟩
    · rw [hJ, rec_back hst hpe]
      have gp := put_grown w9 (d + 1) (.loop L)
      have h9 : Blk w9 b2 #[.int .i64 (IntKind.wrap .i64 ((n + 1 : Nat) : Int))] 3 := by
        have : IntKind.wrap .i64 (IntKind.wrap .i64 (n : Int) + 1) = IntKind.wrap .i64 ((n + 1 : Nat) : Int) := by rw [wrap_add]; rfl
        rw [this] at h9; exact h9
      exact ⟨(E7.st g9 (by omega)).put (by omega) _, h9.grown gp (ne_some (by omega)), (j4.grown g9 (ne_some (by omega))).grown gp (ne_some (by omega)), (jo.grown g9 (ne_some (by omega))).grown gp (ne_some (by omega)), heap_grown gp (heap_grown g9 jd (ne_some (by omega))) (ne_some (by omega)), put_heap l9⟩
    · exact ((hfr b cs ty hb hk).grown g9 (ne_some (by omega))).grown (put_grown _ _ _) (ne_some (by omega))
  have hJ0 : J 0 w6 := by rw [hJ]; exact ⟨E6, h22.ext e26, h4.ext e26, hbo.ext (e5.trans e6), hd6, hl6⟩
  refine callE_c Tryz.call247 (by rfl) (sh247_ok _ _ _ _ _ ?_)
  unfold sh247
  refine ⟨⟨?_⟩⟩
  have e7 := ext_alloc w6 (.cells #[.func (.yield (d + 1)) #[] #[]] 317)
  have h7 := blk_alloc w6 #[.func (.yield (d + 1)) #[] #[]] 317
  have n7 : d + 1 < w6.heap.size := (Array.getElem?_eq_some_iff.1 hl6).1
  generalize w6.heap.size = b7 at *
  generalize w6.alloc (.cells #[.func (.yield (d + 1)) #[] #[]] 317) = w7 at *
  have n8 : b7 < w7.heap.size := h7.lt
  refine do_st (blk_alloc w7 _ _) (i := 0) (add_blk _ _) (by simp) fun w8 h8 g8 => ?_
  have e8 : Ext w7 w8 := (ext_alloc w7 _).st g8 (Nat.le_refl _)
  refine ⟨_, _, _, h8.cell (i := 0) rfl rfl, _, (hbt6.ext (e7.trans e8)).cell (i := 0) rfl rfl, ?_⟩
  have hM : MayB J (d + 1) w8 (fun _ => True) (.func 251) #[] #[] := by
    intro n w' key K _ _ _ _ hK
    refine do_call Tryz.call251 (sh251_ok _ ?_)
    unfold sh251
    exact hK _ (ext_refl _)
  refine do_onS (J := J) (d := d + 1) (c := c) (by omega) (by omega) hJd hJe hJx hJo hY t ht ha hk (fun _ _ => trivial) hM (hJx _ _ _ hJ0 (e7.trans e8)) (h7.ext e8) h8 fun w9 hj9 _ => retS_ret ⟨_, rfl, ?_⟩
  rw [hJ] at hj9
  obtain ⟨E9, j2, j4, _, jd, jl⟩ := hj9
  refine rf_done jl (by rw [hst]; simp) hpe fun ob => ?_
  have gp := put_grown w9 (d + 1) ob
  have E10 := E9.put (l := d + 1) (by omega) ob
  have j2 := j2.grown gp (ne_some (by omega))
  have j4 := j4.grown gp (ne_some (by omega))
  have jd := heap_grown gp jd (ne_some (by omega))
  generalize w9.putObj (d + 1) ob = w10 at *
  have dr := ext_drew w10
  refine ⟨⟨fun w' => Blk w' b2 #[.int .i64 (IntKind.wrap .i64 ((0 + t.size : Nat) : Int))] 3 ∧ Blk w' b4 #[.int .i64 0] 36, ⟨j2.ext dr, j4.ext dr⟩, _, fun w' q => q.1.cell (i := 0) rfl rfl, _, fun w' q => q.2.cell (i := 0) rfl rfl, ?_⟩⟩
  refine do_st (j2.ext dr) (i := 0) (add_blk _ _) (by simp) fun w11 h11' g11 => ⟨⟨h11', (j4.ext dr).grown g11 (ne_some (by omega))⟩, ?_⟩
  refine do_st ((j4.ext dr).grown g11 (ne_some (by omega))) (i := 0) (add_blk _ _) (by simp) fun w12 h12 g12 => ?_
  have jd12 := heap_grown g12 (heap_grown g11 (dr.heap jd) (ne_some (by omega))) (ne_some (by omega))
  rw [hd] at jd12
  refine ⟨jd12, ?_⟩
  have gp2 := put_grown w12 d (.deferred none)
  rw [hd] at gp2
  refine ⟨_, ((h11'.grown g12 (ne_some (by omega))).grown gp2 (ne_some (by omega))).cell (i := 0) rfl rfl, _, (h12.grown gp2 (ne_some (by omega))).cell (i := 0) rfl rfl, ?_⟩
  refine h _ _ ?_
  have E12 := ((E10.trans dr).st g11 (by omega)).st g12 (by omega)
  exact E12.st gp2 (by omega)
/-! ### the ends -/
end Go.Proofs.YtlddfgfmkapoiaaGreat

namespace Go.Proofs.YtlddfgfmkapoiaaGreat
open Go Go.Sh Go.RowKit

/-! ### trees of rows -/
def bldC (c : Int) (l : List It) : Tr :=
  if h : 0 < l.length then joinC c (bldC c (l.take (l.length / 2))) (l[l.length / 2]'(by omega)) (bldC c (l.drop (l.length / 2 + 1))) else .nil
termination_by l.length
decreasing_by
  · simp only [List.length_take]; omega
  · simp only [List.length_drop]; omega
theorem bldC_nil (c : Int) : bldC c [] = .nil := by rw [bldC]; rfl
theorem bldC_eq {c : Int} {l : List It} (h : 0 < l.length) : bldC c l = joinC c (bldC c (l.take (l.length / 2))) (l[l.length / 2]'(by omega)) (bldC c (l.drop (l.length / 2 + 1))) := by
  rw [bldC, dif_pos h]
theorem bldC_okn {c : Int} (hs : isS c = true) : ∀ (n : Nat) (l : List It), l.length ≤ n → OkM c (bldC c l) ∧ itsC c (bldC c l) = l.map (itC c)
  | 0, l, h => by
    have : l = [] := List.eq_nil_of_length_eq_zero (by omega)
    subst this
    rw [bldC_nil]
    exact ⟨OkM.nil hs, rfl⟩
  | n + 1, l, h => by
    by_cases h0 : 0 < l.length
    · rw [bldC_eq h0]
      have a := bldC_okn hs n (l.take (l.length / 2)) (by simp only [List.length_take]; omega)
      have b := bldC_okn hs n (l.drop (l.length / 2 + 1)) (by simp only [List.length_drop]; omega)
      have j := joinC_ok a.1.1 b.1.1 (l[l.length / 2]'(by omega))
      refine ⟨j.1, ?_⟩
      rw [j.2, a.2, b.2, ← List.map_cons, ← List.map_append, ← List.drop_eq_getElem_cons, List.take_append_drop]
    · have : l = [] := List.eq_nil_of_length_eq_zero (by omega)
      subst this
      rw [bldC_nil]
      exact ⟨OkM.nil hs, rfl⟩
theorem bldC_ok {c : Int} (hs : isS c = true) (l : List It) : OkM c (bldC c l) ∧ itsC c (bldC c l) = l.map (itC c) := bldC_okn hs l.length l (Nat.le_refl _)
theorem bldC_size {c : Int} (hs : isS c = true) (l : List It) : (bldC c l).size = l.length := by rw [← itsC_len c, (bldC_ok hs l).2, List.length_map]
/-! ### numbers that are drawn -/
/-- what a key is drawn, of numbers -/
def mixK (key : Int) : Int := U (mixB (BitVec.ofInt 64 key + 0x9e3779b97f4a7c15#64))
def headD (ds : List Int) (key : Int) : Int := ds.headD (mixK key)
def drawL : List Int → List Pr → List It
  | _, [] => []
  | ds, x :: t => (x.1, x.2, headD ds x.1) :: drawL ds.tail t
theorem drawL_len : ∀ (ds : List Int) (l : List Pr), (drawL ds l).length = l.length
  | _, [] => rfl
  | ds, x :: t => by simp [drawL, drawL_len ds.tail t]
theorem drawL_snoc : ∀ (ds : List Int) (l : List Pr) (x : Pr), drawL ds (l ++ [x]) = drawL ds l ++ [(x.1, x.2, headD (ds.drop l.length) x.1)]
  | ds, [], x => by simp [drawL]
  | ds, y :: t, x => by
    show _ :: drawL ds.tail (t ++ [x]) = _
    rw [drawL_snoc]
    simp only [drawL, List.cons_append, List.length_cons]
    cases ds with
    | nil => simp
    | cons d ds => simp
def zeroL (l : List Pr) : List It := l.map fun x => (x.1, x.2, 0)
def tagL (c : Int) (ds : List Int) (l : List Pr) : List It := if c = 4 then drawL ds l else zeroL l
def restL (c : Int) (ds : List Int) (l : List Pr) : List Int := if c = 4 then ds.drop l.length else ds
theorem tagL_len (c : Int) (ds : List Int) (l : List Pr) : (tagL c ds l).length = l.length := by
  unfold tagL; split
  · exact drawL_len _ _
  · simp [zeroL]
theorem tagL_nil (c : Int) (ds : List Int) : tagL c ds [] = [] := by unfold tagL; split <;> rfl
theorem tagL_snoc (c : Int) (ds : List Int) (l : List Pr) (x : Pr) : tagL c ds (l ++ [x]) = tagL c ds l ++ [(x.1, x.2, if c = 4 then headD (restL c ds l) x.1 else 0)] := by
  unfold tagL restL; split
  · exact drawL_snoc _ _ _
  · simp [zeroL]
theorem tagL_take {c : Int} {ds : List Int} {l : List Pr} {i : Nat} (hi : i < l.length) : tagL c ds (l.take (i + 1)) = tagL c ds (l.take i) ++ [(l[i].1, l[i].2, if c = 4 then headD (restL c ds (l.take i)) l[i].1 else 0)] := by
  rw [show l.take (i + 1) = l.take i ++ [l[i]] from (List.take_append_getElem hi).symm, tagL_snoc]
theorem restL_take {c : Int} {ds : List Int} {l : List Pr} {i : Nat} (hi : i < l.length) : restL c ds (l.take (i + 1)) = if c = 4 then (restL c ds (l.take i)).tail else restL c ds (l.take i) := by
  unfold restL; split
  · rw [List.length_take, List.length_take, Nat.min_eq_left (by omega), Nat.min_eq_left (by omega), List.tail_drop]
  · rfl
abbrev InU (l : List Int) : Prop := ∀ x ∈ l, 0 ≤ x ∧ x < 18446744073709551616
theorem InU.tail {ds : List Int} (h : InU ds) : InU ds.tail := fun x hx => h x (List.mem_of_mem_tail hx)
theorem InU.drop {ds : List Int} (h : InU ds) (k : Nat) : InU (ds.drop k) := fun x hx => h x (List.mem_of_mem_drop hx)
theorem drawL_prs : ∀ (ds : List Int) (l : List Pr), (drawL ds l).map (fun x => (x.1, x.2.1)) = l
  | _, [] => rfl
  | ds, x :: t => by simp [drawL, drawL_prs ds.tail t]
theorem tagL_prs (c : Int) (ds : List Int) (l : List Pr) : (tagL c ds l).map (fun x => (x.1, x.2.1)) = l := by
  unfold tagL; split
  · exact drawL_prs ds l
  · unfold zeroL
    rw [List.map_map]
    have : l.map ((fun x : It => (x.1, x.2.1)) ∘ fun x : Pr => (x.1, x.2, 0)) = l.map id := List.map_congr_left fun x _ => rfl
    rw [this, List.map_id]
theorem tagL_fix {c : Int} {ds : List Int} {l : List Pr} : (tagL c ds l).map (itC c) = tagL c ds l := by
  unfold tagL; split
  · have : (drawL ds l).map (itC c) = (drawL ds l).map id := List.map_congr_left fun x _ => by unfold itC; rw [if_pos (by assumption)]; rfl
    rw [this, List.map_id]
  · have : (zeroL l).map (itC c) = (zeroL l).map id := List.map_congr_left fun x hx => by
      obtain ⟨y, _, rfl⟩ := List.mem_map.1 hx
      unfold itC; rw [if_neg (by assumption)]; rfl
    rw [this, List.map_id]
theorem bldC_its {c : Int} {ds : List Int} {l : List Pr} (hs : isS c = true) : itsC c (bldC c (tagL c ds l)) = tagL c ds l := by rw [(bldC_ok hs _).2, tagL_fix]
/-! ### the frame -/
/-- all blocks that were there are as they were, but for some -/
def Gd (S : List Nat) (w w' : World) : Prop := w'.os = w.os ∧ w'.tape = w.tape ∧ w'.output = w.output ∧ w.heap.size ≤ w'.heap.size ∧ ∀ k, k < w.heap.size → k ∉ S → w'.heap[k]? = w.heap[k]?
theorem gd_of {S : List Nat} {w w' : World} (e : Ext w w') : Gd S w w' := ⟨e.os, e.tape, e.output, e.size, fun k hk _ => e.block k hk⟩
theorem gd_gs {S : List Nat} {b : Nat} {w w' : World} (g : Gs b w w') (hb : b ∈ S) : Gd S w w' := ⟨g.os, g.tape, g.output, World.grownBy.size g, fun k hk hn => g.block k hk (ne_some fun e => hn (by rw [e]; exact hb))⟩
theorem gd_refl (S : List Nat) (w : World) : Gd S w w := ⟨rfl, rfl, rfl, Nat.le_refl _, fun _ _ _ => rfl⟩
theorem Gd.size {S : List Nat} {w w' : World} (g : Gd S w w') : w.heap.size ≤ w'.heap.size := g.2.2.2.1
theorem Gd.trans {S : List Nat} {x y z : World} (g : Gd S x y) (k : Gd S y z) : Gd S x z :=
  ⟨k.1.trans g.1, k.2.1.trans g.2.1, k.2.2.1.trans g.2.2.1, Nat.le_trans g.size k.size, fun i hi hn => (k.2.2.2.2 i (Nat.lt_of_lt_of_le hi g.size) hn).trans (g.2.2.2.2 i hi hn)⟩
theorem Gd.mono {S T : List Nat} {x y : World} (g : Gd S x y) (h : ∀ k ∈ S, k ∈ T) : Gd T x y := ⟨g.1, g.2.1, g.2.2.1, g.2.2.2.1, fun i hi hn => g.2.2.2.2 i hi fun q => hn (h i q)⟩
theorem Gd.st {S : List Nat} {k : Nat} {w0 w1 w2 : World} (g : Gd S w0 w1) (q : w1.grownBy w2 (some k)) (hk : w0.heap.size ≤ k ∨ k ∈ S) : Gd S w0 w2 :=
  ⟨q.os.trans g.1, q.tape.trans g.2.1, q.output.trans g.2.2.1, Nat.le_trans g.size (World.grownBy.size q), fun i hi hn => (q.block i (Nat.lt_of_lt_of_le hi g.size) (ne_some fun e => by
    rcases hk with hk | hk
    · omega
    · exact hn (by rw [e]; exact hk))).trans (g.2.2.2.2 i hi hn)⟩
theorem Ext.gd {S : List Nat} {w w1 w2 : World} (e : Ext w w1) (g : Gd S w1 w2) (h : ∀ k ∈ S, w.heap.size ≤ k) : Ext w w2 :=
  ⟨g.1.trans e.os, g.2.1.trans e.tape, g.2.2.1.trans e.output, Nat.le_trans e.size g.size, fun i hi => (g.2.2.2.2 i (Nat.lt_of_lt_of_le hi e.size) fun q => by have := h i q; omega).trans (e.block i hi)⟩
theorem _root_.Go.Sh.Blk.gd {S : List Nat} {k : Nat} {w w' : World} {cs : Array Value} {ty : TypeId} (h : Blk w k cs ty) (g : Gd S w w') (hk : k ∉ S) : Blk w' k cs ty := by
  have := g.2.2.2.2 k h.lt hk
  unfold Blk at h ⊢
  rw [this]; exact h
theorem IsSch.gd {S : List Nat} {c : Int} {b : Nat} {w w' : World} (h : IsSch c b w) (g : Gd S w w') (hb : b ∉ S) : IsSch c b w' := by
  obtain ⟨hss, ⟨j, h⟩ | ⟨j, h⟩⟩ := h
  · exact ⟨hss, .inl ⟨j, h.gd g hb⟩⟩
  · exact ⟨hss, .inr ⟨j, h.gd g hb⟩⟩
/-- what is changed is no node -/
def Oth (S : List Nat) (w : World) : Prop := ∀ k ∈ S, ∀ cs, ¬ Blk w k cs 249
theorem oth_blk {w : World} {k : Nat} {cs : Array Value} {t : TypeId} (h : Blk w k cs t) (ht : t ≠ 249) : ∀ cs', ¬ Blk w k cs' 249 := fun _ h' => ht (blk_fun h h')
theorem _root_.Go.Sh.IsT.gd {S : List Nat} {w w' : World} {p : Option Addr} {t : Tr} (h : IsN w p t) (o : Oth S w) (g : Gd S w w') : IsN w' p t := by
  induction t generalizing p with
  | nil => exact h
  | node l k v gg r ihl ihr =>
    obtain ⟨b', pl, pr, hp, hb, hl, hr⟩ := h
    exact ⟨b', pl, pr, hp, hb.gd g (fun hm => o b' hm _ hb), ihl hl, ihr hr⟩
theorem IsSch.oth {c : Int} {b : Nat} {w : World} (h : IsSch c b w) : ∀ cs, ¬ Blk w b cs 249 := by
  rcases h.2 with ⟨j, h⟩ | ⟨j, h⟩
  · exact oth_blk h (by decide)
  · exact oth_blk h (by decide)
theorem heap_gd {S : List Nat} {k : Nat} {w w' : World} {o : Obj} (h : w.heap[k]? = some o) (g : Gd S w w') (hk : k ∉ S) : w'.heap[k]? = some o := by
  rw [g.2.2.2.2 k (Array.getElem?_eq_some_iff.1 h).1 hk]; exact h
theorem cell_gd {S : List Nat} {p : Addr} {v : Value} {w w' : World} (h : w.cell? p = some v) (g : Gd S w w') (hk : p.block ∉ S) : w'.cell? p = some v := by
  have := g.2.2.2.2 p.block (World.block_lt_of_cell? w p h) hk
  have e : w'.cell? p = w.cell? p := by unfold World.cell?; rw [this]
  rw [e]; exact h
theorem cs_gd {S : List Nat} {q : Option Addr} {vs : List Value} {w w' : World} (h : Cs w q vs) (g : Gd S w w') (hk : ∀ a, q = some a → a.block ∉ S) : Cs w' q vs := fun i v hv => by
  obtain ⟨a, ha, hc⟩ := h i v hv
  exact ⟨a, ha, cell_gd hc g (by rw [add_block]; exact hk a ha)⟩
/-- a row of one's own, that is none of what is changed -/
theorem row_gd {S : List Nat} {w w' : World} {base ty s n : Nat} {v : Value} {xs : List Value} (h : w.ownsRow base ty s v n xs) (g : Gd S w w') (hb : ∀ k ∈ S, k < base) : w'.ownsRow base ty s v n xs := by
  refine ⟨h.1, ?_⟩
  rcases h.2 with q | ⟨b, cap, cur, hv, hbb, hblk, rest⟩
  · exact .inl q
  · refine .inr ⟨b, cap, cur, hv, hbb, ?_, rest⟩
    have hlt : b < w.heap.size := (World.ownsRow.lt h b (by rw [hv]; rfl)).2
    rw [g.2.2.2.2 b hlt fun hm => by have := hb b hm; omega]
    exact hblk
end Go.Proofs.YtlddfgfmkapoiaaGreat

namespace Go.Proofs.YtlddfgfmkapoiaaGreat
open Go Go.Sh Go.RowKit

abbrev u64s (l : List Int) : List Value := l.flatMap fun x => [.int .u64 x]
theorem u64_len (x : Int) : ([.int .u64 x] : List Value).length = 1 := rfl
theorem u64s_length (l : List Int) : (u64s l).length = l.length := by rw [flat_length u64_len]; omega
theorem cs_u64_nil {w : World} {q : Option Addr} {l : List Int} (h : Cs w q (u64s l)) (hq : q = none) : l = [] := by
  cases l with
  | nil => rfl
  | cons x xs => obtain ⟨a, ha, _⟩ := h 0 (.int .u64 x) rfl; rw [hq] at ha; cases ha
theorem mixOf_eq (key : Int) : IntKind.wrap .u64 (IntKind.wrap .u64 key + 11400714819323198485) = U (BitVec.ofInt 64 key + 0x9e3779b97f4a7c15#64) := by
  rw [wrap_U key, show (11400714819323198485 : Int) = U 0x9e3779b97f4a7c15#64 from rfl, add_U]
theorem c_mixof {key : Int} {w : World} {R : Ending → World → Prop} (h : ∀ w', Ext w w' → R (.returned (.int .u64 (mixK key))) w') : Calls Tryz.prog 83 #[.int .i64 key] w R := by
  refine sh83_ok _ ?_
  unfold sh83
  rw [mixOf_eq]
  exact do_call Tryz.call122 (c_mix fun w1 e1 => retS_ret ⟨_, rfl, h _ e1⟩)
theorem c_r1of {key : Int} {w : World} {R : Ending → World → Prop} (h : R (.returned (.int .u64 (mixK key))) w) : Calls Tryz.prog 186 #[.int .i64 key] w R := by
  refine sh186_ok _ ?_
  unfold sh186
  rw [mixOf_eq]
  exact do_call Tryz.call131 (c_rmix (retS_ret ⟨_, rfl, h⟩))
theorem c_scode {c : Int} {b : Nat} {w : World} {R : Ending → World → Prop} (hs : IsSch c b w) (h : R (.returned (.int .u8 c)) w) : Calls Tryz.prog 184 #[.pointer (some (blk b))] w R := by
  refine sh184_ok _ ?_
  unfold sh184
  refine ifB_f rfl ⟨_, rfl, ?_⟩
  rcases hs.2 with ⟨j, hb⟩ | ⟨j, hb⟩
  · exact ⟨_, hb.cell (i := 0) (add_blk _ _) rfl, h⟩
  · exact ⟨_, hb.cell (i := 0) (add_blk _ _) rfl, h⟩
/-- all but the first number -/
theorem sl_tail {w : World} {q : Option Addr} {n c : Nat} {l : List Int} {K : Option Addr → Nat → Nat → Prop} (hl : Cs w q (u64s l)) (hn : l.length = n) (hnc : n ≤ c) (h0 : 0 < n)
    (k : ∀ p, (∀ w', Cs w' q (u64s l) → Cs w' p (u64s l.tail)) → (∀ a, p = some a → ∃ a0, q = some a0 ∧ a.block = a0.block) → K p (n - 1) (c - 1)) : doSl q c 1 1 (n : Int) K := by
  refine ⟨by omega, by omega, by omega, ?_⟩
  have e : (n : Int).toNat - (1 : Int).toNat = n - 1 := by omega
  rw [e]
  refine k _ (fun w' hl' => ?_) fun a ha => ?_
  · have ht : u64s l.tail = (u64s l).drop 1 := by
      cases l with
      | nil => rfl
      | cons x t => rfl
    rw [ht]
    split
    · rename_i hc
      have hc : c = 1 := hc
      rw [List.drop_of_length_le (by rw [u64s_length]; omega)]; exact cs_nil _ _
    · cases q with
      | none =>
        have := cs_u64_nil hl rfl
        subst this; exact cs_nil _ _
      | some ad => exact hl'.drop _
  · split at ha
    · exact ⟨a, ha, rfl⟩
    · cases q with
      | none => cases ha
      | some ad =>
        simp only [Option.map_some, Option.some.injEq] at ha
        exact ⟨ad, rfl, by rw [← ha, add_block]⟩
/-! ### draws -/
abbrev drN (bp br : Nat) : Value := .func (.func 171) #[] #[.pointer (some (blk br)), .pointer (some (blk bp))]
abbrev drL (br : Nat) : Value := .func (.func 170) #[] #[.pointer (some (blk br))]
/-- draws in memory; all of it lies ahead of N -/
structure IsDr (bd bp br N : Nat) (ds : List Int) (w : World) : Prop where
  ex : ∃ q n c, ds.length = n ∧ n ≤ c ∧ Cs w q (u64s ds) ∧ (∀ a, q = some a → a.block < N ∧ a.block ≠ bd ∧ a.block ≠ br ∧ ∃ cs, Blk w a.block cs 75) ∧ Blk w bd #[.slice q n c, drN bp br, drL br] 145 ∧ Blk w br #[.slice q n c] 23
  p : Blk w bp #[.pointer (some (blk bd))] 31
  lt : bd < N ∧ bp < N ∧ br < N
  ne : bp ≠ bd ∧ bp ≠ br ∧ bd ≠ br
theorem IsDr.gd {bd bp br N : Nat} {ds : List Int} {S : List Nat} {w w' : World} (h : IsDr bd bp br N ds w) (g : Gd S w w') (hS : ∀ k ∈ S, N ≤ k) : IsDr bd bp br N ds w' := by
  obtain ⟨⟨q, n, c, h1, h2, h3, h4, h5, h6⟩, h7, h8, h9⟩ := h
  have no {k : Nat} (hk : k < N) : k ∉ S := fun hm => by have := hS k hm; omega
  exact ⟨⟨q, n, c, h1, h2, cs_gd h3 g fun a ha => no (h4 a ha).1, fun a ha => ⟨(h4 a ha).1, (h4 a ha).2.1, (h4 a ha).2.2.1, (h4 a ha).2.2.2.imp fun _ hb => hb.gd g (no (h4 a ha).1)⟩, h5.gd g (no h8.1), h6.gd g (no h8.2.2)⟩, h7.gd g (no h8.2.1), h8, h9⟩
theorem IsDr.gs {bd bp br N b : Nat} {c : Int} {ds : List Int} {w w' : World} (h : IsDr bd bp br N ds w) (hs : IsSch c b w) (g : Gs b w w') : IsDr bd bp br N ds w' := by
  obtain ⟨⟨q, n, c, h1, h2, h3, h4, h5, h6⟩, h7, h8, h9⟩ := h
  have G := gd_gs (S := [b]) g (by simp)
  have n5 := hs.ne h5 (by decide)
  have n6 := hs.ne h6 (by decide)
  have n7 := hs.ne h7 (by decide)
  have n4 {a : Addr} (ha : q = some a) : a.block ≠ b := by
    obtain ⟨cs, hb⟩ := (h4 a ha).2.2.2
    exact hs.ne hb (by decide)
  exact ⟨⟨q, n, c, h1, h2, cs_gd h3 G fun a ha => by simp [n4 ha], fun a ha => ⟨(h4 a ha).1, (h4 a ha).2.1, (h4 a ha).2.2.1, (h4 a ha).2.2.2.imp fun _ hb => hb.gs g (n4 ha)⟩, h5.gs g n5, h6.gs g n6⟩, h7.gs g n7, h8, h9⟩
/-- draws, or none -/
def IsD (p : Option Addr) : Option (Nat × Nat × Nat × Nat) → List Int → World → Prop
  | none, ds, _ => p = none ∧ ds = []
  | some (bd, bp, br, N), ds, w => p = some (blk bd) ∧ IsDr bd bp br N ds w
def blksD : Option (Nat × Nat × Nat × Nat) → List Nat
  | none => []
  | some (bd, _, br, _) => [bd, br]
def topD : Option (Nat × Nat × Nat × Nat) → Nat
  | none => 0
  | some (_, _, _, N) => N
theorem IsD.gd {p : Option Addr} {D : Option (Nat × Nat × Nat × Nat)} {ds : List Int} {S : List Nat} {w w' : World} (h : IsD p D ds w) (g : Gd S w w') (hS : ∀ k ∈ S, topD D ≤ k) : IsD p D ds w' := by
  cases D with
  | none => exact h
  | some D => exact ⟨h.1, h.2.gd g hS⟩
theorem IsD.ext {p : Option Addr} {D : Option (Nat × Nat × Nat × Nat)} {ds : List Int} {w w' : World} (h : IsD p D ds w) (e : Ext w w') : IsD p D ds w' := h.gd (gd_of (S := []) e) fun k hk => by cases hk
theorem IsD.gs {p : Option Addr} {D : Option (Nat × Nat × Nat × Nat)} {ds : List Int} {b : Nat} {c : Int} {w w' : World} (h : IsD p D ds w) (hs : IsSch c b w) (g : Gs b w w') : IsD p D ds w' := by
  cases D with
  | none => exact h
  | some D => exact ⟨h.1, h.2.gs hs g⟩
theorem IsD.lt {p : Option Addr} {D : Option (Nat × Nat × Nat × Nat)} {ds : List Int} {w : World} (h : IsD p D ds w) : ∀ k ∈ blksD D, k < w.heap.size ∧ k < topD D := by
  cases D with
  | none => intro k hk; cases hk
  | some D =>
    obtain ⟨⟨q, n, c, h1, h2, h3, h4, h5, h6⟩, h7, h8, h9⟩ := h.2
    intro k hk
    simp only [blksD, List.mem_cons, List.not_mem_nil, or_false] at hk
    rcases hk with rfl | rfl
    · exact ⟨h5.lt, h8.1⟩
    · exact ⟨h6.lt, h8.2.2⟩
theorem IsD.oth {p : Option Addr} {D : Option (Nat × Nat × Nat × Nat)} {ds : List Int} {w : World} (h : IsD p D ds w) : Oth (blksD D) w := by
  cases D with
  | none => intro k hk; cases hk
  | some D =>
    obtain ⟨⟨q, n, c, h1, h2, h3, h4, h5, h6⟩, h7, h8, h9⟩ := h.2
    intro k hk
    simp only [blksD, List.mem_cons, List.not_mem_nil, or_false] at hk
    rcases hk with rfl | rfl
    · exact oth_blk h5 (by decide)
    · exact oth_blk h6 (by decide)
theorem IsD.sch {p : Option Addr} {D : Option (Nat × Nat × Nat × Nat)} {ds : List Int} {c : Int} {b : Nat} {w : World} (h : IsD p D ds w) (hs : IsSch c b w) : b ∉ blksD D := by
  cases D with
  | none => intro hk; cases hk
  | some D =>
    obtain ⟨⟨q, n, c, h1, h2, h3, h4, h5, h6⟩, h7, h8, h9⟩ := h.2
    intro hk
    simp only [blksD, List.mem_cons, List.not_mem_nil, or_false] at hk
    rcases hk with e | e
    · exact hs.ne h5 (by decide) e.symm
    · exact hs.ne h6 (by decide) e.symm
/-- the next number -/
theorem do_dnext {bd bp br N : Nat} {ds : List Int} {w : World} {R : Ending → World → Prop} (hd : IsDr bd bp br N ds w) (h0 : ds = [] → R (.returned (.tuple #[.int .u64 0, .bool false])) w)
    (h1 : ∀ x t w', ds = x :: t → Gd [bd, br] w w' → IsDr bd bp br N t w' → R (.returned (.tuple #[.int .u64 x, .bool true])) w') : doCall Tryz.prog (drN bp br) #[] w R := by
  refine do_callc Tryz.call171 (by rfl) (sh171_ok _ _ ?_)
  unfold sh171
  obtain ⟨⟨q, n, c, e1, e2, e3, e4, e5, e6⟩, e7, e8, e9⟩ := hd
  refine ⟨_, _, _, e6.cell (i := 0) rfl rfl, ?_⟩
  cases ds with
  | nil =>
    have : n = 0 := e1.symm
    subst this
    exact ifB_t rfl (h0 rfl)
  | cons x t =>
    have hn : 0 < n := by rw [← e1]; simp
    refine ifB_f (by simp; omega) ⟨_, _, _, e6.cell (i := 0) rfl rfl, ?_⟩
    refine ix_flat u64_len (by omega) e3 e1 (k := 0) rfl hn fun a r _ => ⟨x, by have := r 0 (.int .u64 x) rfl; rwa [add_zero'] at this, _, _, _, e6.cell (i := 0) rfl rfl, ?_⟩
    refine sl_tail e3 e1 e2 hn fun p hp hpb => ?_
    refine do_st e6 (i := 0) (add_blk _ _) (by simp) fun w1 k1 g1 => ?_
    have k1 : Blk w1 br #[.slice p (n - 1) (c - 1)] 23 := k1
    refine ⟨_, (e7.grown g1 (ne_some e9.2.1)).cell (i := 0) rfl rfl, _, _, _, k1.cell (i := 0) rfl rfl, _, rfl, ?_⟩
    refine do_st (e5.grown g1 (ne_some e9.2.2)) (i := 0) (by rw [Sh.add_add, add_blk]) (by simp) fun w2 k2 g2 => ?_
    have k2 : Blk w2 bd #[.slice p (n - 1) (c - 1), drN bp br, drL br] 145 := k2
    have G : Gd [bd, br] w w2 := ((gd_refl _ w).st g1 (.inr (by simp))).st g2 (.inr (by simp))
    have hpb' : ∀ a, p = some a → a.block < N ∧ a.block ≠ bd ∧ a.block ≠ br ∧ ∃ cs, Blk w2 a.block cs 75 := fun a ha => by
      obtain ⟨a0, h0, hb⟩ := hpb a ha
      have k := e4 a0 h0
      rw [hb]
      exact ⟨k.1, k.2.1, k.2.2.1, k.2.2.2.imp fun _ hx => hx.gd G (by simp [k.2.1, k.2.2.1])⟩
    refine h1 x t w2 rfl G ⟨⟨p, n - 1, c - 1, by simp at e1 ⊢; omega, by omega, ?_, hpb', k2, k1.grown g2 (ne_some (Ne.symm e9.2.2))⟩, (e7.grown g1 (ne_some e9.2.1)).grown g2 (ne_some e9.1), e8, e9⟩
    refine hp w2 (cs_gd e3 G fun a ha => ?_)
    have := e4 a ha
    simp only [List.mem_cons, List.not_mem_nil, or_false]
    omega
theorem c_dnext {p : Option Addr} {D : Option (Nat × Nat × Nat × Nat)} {ds : List Int} {key : Int} {w : World} {R : Ending → World → Prop} (hd : IsD p D ds w)
    (h : ∀ w', Gd (blksD D) w w' → IsD p D ds.tail w' → R (.returned (.int .u64 (headD ds key))) w') : Calls Tryz.prog 185 #[.pointer p, .int .i64 key] w R := by
  refine sh185_ok _ _ ?_
  unfold sh185
  intro K4
  have hK : ds = [] → K4 w := fun e => do_call Tryz.call83 (c_mixof fun w1 e1 => retS_ret ⟨_, rfl, by
    have := h w1 (gd_of e1) (by rw [e]; rw [e] at hd; exact hd.ext e1)
    rw [e] at this; exact this⟩)
  cases D with
  | none =>
    obtain ⟨rfl, e⟩ := hd
    exact ifB_f rfl (hK e)
  | some D =>
    obtain ⟨bd, bp, br, N⟩ := D
    obtain ⟨rfl, hd⟩ := hd
    obtain ⟨q, n, c, e1, e2, e3, e4, e5, e6⟩ := hd.ex
    refine ifB_t rfl ⟨_, rfl, _, _, _, e5.cell (i := 1) (add_blk _ _) rfl, ?_⟩
    refine do_dnext hd (fun e => retS_ret ⟨_, _, rfl, ifB_f rfl (hK e)⟩) fun x t w1 e g h1 => retS_ret ⟨_, _, rfl, ifB_t rfl ?_⟩
    subst e
    exact h w1 g ⟨rfl, h1⟩
/-! ### the document's -/
structure IsRd (b M N : Nat) (ds : List Int) (w : World) : Prop where
  ex : ∃ q n c, ds.length = n ∧ n ≤ c ∧ Cs w q (u64s ds) ∧ (∀ a, q = some a → M ≤ a.block ∧ a.block < N ∧ a.block ≠ b) ∧ Blk w b #[.slice q n c] 128
  lt : M ≤ b ∧ b < N
theorem IsRd.gd {b M N : Nat} {ds : List Int} {S : List Nat} {w w' : World} (h : IsRd b M N ds w) (g : Gd S w w') (hS : ∀ k ∈ S, N ≤ k ∨ k < M) : IsRd b M N ds w' := by
  obtain ⟨⟨q, n, c, h1, h2, h3, h4, h5⟩, h6⟩ := h
  refine ⟨⟨q, n, c, h1, h2, cs_gd h3 g fun a ha hm => ?_, h4, h5.gd g fun hm => ?_⟩, h6⟩
  · have := h4 a ha
    have := hS _ hm
    omega
  · have := hS _ hm
    omega
theorem IsRd.ext {b M N : Nat} {ds : List Int} {w w' : World} (h : IsRd b M N ds w) (e : Ext w w') : IsRd b M N ds w' := h.gd (gd_of (S := []) e) fun k hk => by cases hk
end Go.Proofs.YtlddfgfmkapoiaaGreat

namespace Go.Proofs.YtlddfgfmkapoiaaGreat
open Go Go.Sh Go.RowKit

abbrev onB (b5 b7 : Nat) : Value := .func (.func 168) #[] #[.pointer (some (blk b5)), .pointer (some (blk b7))]
structure CapsB (w : World) (b5 b7 b : Nat) : Prop where
  s : Blk w b5 #[.pointer (some (blk b))] 25
  on : Blk w b7 #[onB b5 b7] 232
  ne : b5 ≠ b ∧ b7 ≠ b
theorem CapsB.gs {w w' : World} {b5 b7 b : Nat} (h : CapsB w b5 b7 b) (g : Gs b w w') : CapsB w' b5 b7 b := ⟨h.s.gs g h.ne.1, h.on.gs g h.ne.2, h.ne⟩
theorem half_eq {n : Nat} (h : n ≤ 1000000000000) : IntKind.wrap .i64 (Int.tdiv ((n : Nat) : Int) 2) = ((n / 2 : Nat) : Int) := by
  rw [Int.tdiv_eq_ediv_of_nonneg (by omega), wrap_of (by omega) (by omega)]; omega
set_option maxRecDepth 20000 in
theorem c_items1 {c : Int} {b b5 b7 : Nat} : ∀ (N : Nat) (l : List It) {q : Option Addr} {n cp : Nat} {w : World} {R : Ending → World → Prop} (_hN : l.length ≤ N) (_hc : CapsB w b5 b7 b) (_hs : IsSch c b w) (_hl : ∀ w', Gs b w w' → Cs w' q (its l)) (_hn : l.length = n) (_hnc : n ≤ cp) (_hB : n ≤ 1000000)
    (_h : ∀ q' w', Gs b w w' → IsSch c b w' → IsN w' q' (bldC c l) → R (.returned (.pointer q')) w'), doCall Tryz.prog (onB b5 b7) #[.slice q n cp] w R
  | N, l, q, n, cp, w, R, hN, hc, hs, hl, hn, hnc, hB, h => by
    refine do_callc Tryz.call168 (by rfl) (sh168_ok _ _ _ _ _ ?_)
    unfold sh168
    by_cases h0 : n = 0
    · have : l = [] := List.eq_nil_of_length_eq_zero (by omega)
      subst this
      subst h0
      exact ifB_t rfl (h none w (gs_refl _ _) hs (by rw [bldC_nil]; rfl))
    · refine ifB_f (by simp; omega) ⟨by decide, ?_⟩
      have hpos : 0 < l.length := by omega
      rw [half_eq (by omega)]
      have e2 : IntKind.wrap .i64 (((n / 2 : Nat) : Int) + 1) = ((n / 2 + 1 : Nat) : Int) := by rw [wrap_of (by omega) (by omega)]; omega
      rw [e2]
      have d := ext_drew w
      have hC0 : CapsB w.drew b5 b7 b ∧ Gs b w w.drew := ⟨hc.gs (gs_of d), gs_of d⟩
      have hlt : n / 2 < l.length := by omega
      have hbx := bldC_eq (c := c) hpos
      simp only [hn] at hbx
      rw [hbx] at h
      refine ⟨⟨fun w' => CapsB w' b5 b7 b ∧ Gs b w w', hC0, _, fun w' k => k.1.s.cell (i := 0) rfl rfl, _, _, _, fun w' k => k.1.on.cell (i := 0) rfl rfl, ?_⟩⟩
      refine sl_flat ecI_len (by omega) (hl _ hC0.2) hn hnc (a := 0) (b := n / 2) rfl rfl (by omega) (by omega) fun p1 hp1 => ?_
      refine ix_flatC ecI_len (by omega) (C := fun w' => CapsB w' b5 b7 b ∧ Gs b w w') (fun w' k => hl w' k.2) hC0 hn (k := n / 2) rfl (by omega) fun a r => ⟨(l[n / 2]).1, fun w' k => r w' k 0 _ rfl, (l[n / 2]).2.1, fun w' k => r w' k 1 _ rfl, (l[n / 2]).2.2, fun w' k => r w' k 2 _ rfl, _, _, _, fun w' k => k.1.on.cell (i := 0) rfl rfl, ?_⟩
      refine sl_flat ecI_len (by omega) (hl _ hC0.2) hn hnc (a := n / 2 + 1) (b := n) rfl rfl (by omega) (Nat.le_refl _) fun p2 hp2 => ?_
      have lA : (l.take (n / 2)).length = n / 2 := by rw [List.length_take]; omega
      have lB : (l.drop (n / 2 + 1)).length = n - (n / 2 + 1) := by rw [List.length_drop]; omega
      have tA : (l.take (n / 2)).drop 0 = l.take (n / 2) := rfl
      have tB : (l.take n).drop (n / 2 + 1) = l.drop (n / 2 + 1) := by rw [List.take_of_length_le (by omega)]
      rw [tA] at hp1
      rw [tB] at hp2
      have gd := gs_of (b := b) d
      refine c_items1 (N - 1) (l.take (n / 2)) (by omega) hC0.1 (hs.ext d) (fun w' g => hp1 w' (hl w' (gd.trans g))) (by omega) (by omega) (by omega) fun q1 w1 g1 hs1 h1 => retS_ret ⟨_, rfl, ⟨hC0.1.gs g1, gd.trans g1⟩, ?_⟩
      have G1 := gd.trans g1
      refine c_items1 (N - 1) (l.drop (n / 2 + 1)) (by omega) (hC0.1.gs g1) hs1 (fun w' g => hp2 w' (hl w' (G1.trans g))) (by omega) (by omega) (by omega) fun q2 w2 g2 hs2 h2 => retS_ret ⟨_, rfl, ⟨(hC0.1.gs g1).gs g2, G1.trans g2⟩, ?_⟩
      have s1 := bldC_ok hs.1 (l.take (n / 2))
      have s2 := bldC_ok hs.1 (l.drop (n / 2 + 1))
      have z1 := bldC_size hs.1 (l.take (n / 2))
      have z2 := bldC_size hs.1 (l.drop (n / 2 + 1))
      refine do_call Tryz.call106 (c_sjoin hs2 (h1.gs hs1 g2) h2 s1.1.1 s2.1.1 (by simp only [BIG]; omega) fun q3 w3 g3 hs3 h3 => retS_ret ⟨_, rfl, ⟨((hC0.1.gs g1).gs g2).gs g3, (G1.trans g2).trans g3⟩, ?_⟩)
      exact h _ _ ((G1.trans g2).trans g3) hs3 h3
  termination_by _ l => l.length
  decreasing_by all_goals omega
theorem c_bitems {c : Int} {b : Nat} {l : List It} {q : Option Addr} {n cp : Nat} {w : World} {R : Ending → World → Prop} (hs : IsSch c b w) (hl : ∀ w', Gs b w w' → Cs w' q (its l)) (hn : l.length = n) (hnc : n ≤ cp) (hB : n ≤ 1000000)
    (h : ∀ q' w', Gs b w w' → IsSch c b w' → IsN w' q' (bldC c l) → R (.returned (.pointer q')) w') : Calls Tryz.prog 93 #[.pointer (some (blk b)), .slice q n cp] w R := by
  refine sh93_ok _ _ _ _ ?_
  unfold sh93
  refine ⟨⟨?_⟩⟩
  have hlt := hs.lt
  have e0 := ext_alloc w (.cells #[.pointer (some (blk b))] 25)
  have h5 := blk_alloc w #[.pointer (some (blk b))] 25
  have n5 : w.heap.size ≠ b := by omega
  have l5 := h5.lt
  have k5 : w.heap.size ≤ w.heap.size := Nat.le_refl _
  generalize hb5 : w.heap.size = b5 at h5 n5 l5 k5 ⊢
  generalize w.alloc (.cells #[.pointer (some (blk b))] 25) = w1 at *
  have e1 := ext_alloc w1 (.cells #[.nilFunc] 232)
  refine do_st (blk_alloc w1 _ _) (i := 0) (add_blk _ _) (by simp) fun w2 h7 g2 => ?_
  have h7 : Blk w2 w1.heap.size #[onB b5 w1.heap.size] 232 := h7
  have e2 : Ext w1 w2 := e1.st g2 (Nat.le_refl _)
  have E2 := e0.trans e2
  refine ⟨_, _, _, h7.cell (i := 0) rfl rfl, ?_⟩
  exact c_items1 l.length l (Nat.le_refl _) ⟨h5.ext e2, h7, n5, by omega⟩ (hs.ext E2) (fun w' g => hl w' ((gs_of E2).trans g)) hn hnc hB fun q' w' g hs' h' => retS_ret ⟨_, rfl, h q' w' ((gs_of E2).trans g) hs' h'⟩
end Go.Proofs.YtlddfgfmkapoiaaGreat

