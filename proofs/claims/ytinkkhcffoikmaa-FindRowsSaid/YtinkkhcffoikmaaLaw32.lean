/-
  RankTells.
-/
import Derived.Test.YtinkkhcffoikmaaRank2
import Derived.Test.YtinkkhcffoikmaaL3
namespace Go.Proofs.Ytinkkhcffoikmaa
open Go Go.Sh Go.RowKit

abbrev AllB (t : BT) : Prop := ∀ x ∈ t.beads, In x.key
theorem AllB.tr {t : BT} (h : AllB t) : AllK t.tr := fun x hx => by
  obtain ⟨b, hb, rfl⟩ := BT.tr_mem hx
  exact h b hb
theorem AllB.node {x : Bd} {L R : BT} (h : AllB (.node x L R)) : In x.key ∧ AllB L ∧ AllB R :=
  ⟨h _ (by simp [BT.beads]), fun y hy => h _ (by simp [BT.beads, hy]), fun y hy => h _ (by simp [BT.beads, hy])⟩
set_option maxRecDepth 20000 in
theorem c_r32rank {o key : Int} (hk : In key) : ∀ (t : BT) {q : Option Addr} {n c : Nat} {w : World} {R : Ending → World → Prop} (_hl : Cs w q (bds t.beads)) (_hn : t.size = n) (_hnc : n ≤ c) (_hw : t.wf = true) (_hm : n ≤ 5000) (_hA : AllB t)
    (_h : ∀ w', Ext w w' → R (.returned (.tuple #[.int .i64 (rankR o t.tr key : Nat), .bool (hasK o t.tr key)])) w'), Calls Try.prog 18 #[.int .u8 o, .slice q n c, .int .i64 key] w R
  | .nil, q, n, c, w, R, hl, hn, hnc, hw, hm, hA, h => by
    refine sh18_ok _ _ _ _ _ ?_
    unfold sh18
    have : n = 0 := by rw [← hn]; rfl
    subst this
    have hr := h w (ext_refl w)
    refine ifB_t rfl ?_
    unfold rankR hasK at hr
    cases ho : isO o <;> (rw [ho] at hr; exact hr)
  | .node x L Rt, q, n, c, w, R, hl, hn, hnc, hw, hm, hA, h => by
    refine sh18_ok _ _ _ _ _ ?_
    unfold sh18
    have hsz := BT.size_node x L Rt
    obtain ⟨_, _, w2f, w3f⟩ := BT.wf_node hw
    obtain ⟨hxk, hAL, hAR⟩ := hA.node
    refine ifB_f (by simp; omega) ?_
    refine do_call Try.call75 (c_ris (retS_ret ⟨_, rfl, ?_⟩))
    cases ho : isO o
    · have hr := h w (ext_refl w)
      unfold rankR hasK at hr
      rw [ho] at hr
      exact ifB_t rfl hr
    refine ifB_f rfl ?_
    refine do_call Try.call70 (c_parts hl hn hnc hw hm fun p1 c1 p2 c2 w1 e1 hp h1 h2 => retS_ret ⟨_, _, _, _, _, _, _, _, _, _, _, _, _, rfl, ⟨?_⟩⟩)
    refine do_st7 (blk_alloc w1 _ _) fun w2 hb2 g2 => ?_
    have e2 : Ext w1 w2 := (ext_alloc w1 _).st g2 (Nat.le_refl _)
    have E2 := e1.trans e2
    have hcs := hp w2 (hl.ext E2)
    refine ⟨_, hb2.cell (i := 0) (add_blk _ _) rfl, do_call Try.call41 (c_rcompare hk hxk (retS_ret ⟨_, rfl, ?_⟩))⟩
    have hr := fun w' => h w'
    simp only [rankR, hasK, ho, cond_true, BT.tr, rankN, hasN, BT.tr_size] at hr
    rcases cmpI_vals o key x.key with hv | hv | hv <;> rw [hv] at hr ⊢
    · refine ifB_f (by decide) (ifB_t (by decide) ?_)
      refine do_call Try.call18 (c_r32rank hk L hcs.1 rfl h1 w2f (by omega) hAL fun w3 e3 => retS_ret ⟨_, _, rfl, ?_⟩)
      have := hr w3 (E2.trans e3)
      simp only [rankR, hasK, ho, cond_true] 
      exact this
    · exact ifB_t (by decide) (hr w2 E2)
    · refine ifB_f (by decide) (ifB_f (by decide) ?_)
      refine do_call Try.call18 (c_r32rank hk Rt hcs.2 rfl h2 w3f (by omega) hAR fun w3 e3 => retS_ret ⟨_, _, rfl, ?_⟩)
      have hrl := rankN_le o key Rt.tr
      rw [BT.tr_size] at hrl
      simp only [rankR, hasK, ho, cond_true]
      rw [wrap_of (x := (L.size : Int) + 1) (by omega) (by omega), wrap_of (by omega) (by omega), show ((L.size : Int) + 1 + (rankN o key Rt.tr : Int)) = ((L.size + 1 + rankN o key Rt.tr : Nat) : Int) by omega]
      exact hr w3 (E2.trans e3)
theorem c_r32select {t : BT} {q : Option Addr} {n c : Nat} {m : Int} {w : World} {R : Ending → World → Prop} (hl : Cs w q (bds t.beads)) (hn : t.size = n) (hnc : n ≤ c) (hw : t.wf = true) (hm : n ≤ 5000)
    (h : ∀ w', Ext w w' → R (.returned (.tuple #[agP (selR t.tr m), .int .i64 (selE t.tr m)])) w') : Calls Try.prog 21 #[.slice q n c, .int .i64 m] w R := by
  refine sh21_ok _ _ _ _ ?_
  unfold sh21
  refine ⟨?_⟩
  have e1 := ext_alloc w (.cells #[.int .i64 0, .int .i64 0] 38)
  have hb := blk_alloc w #[.int .i64 0, .int .i64 0] 38
  generalize hb0 : w.heap.size = b at *
  generalize w.alloc (.cells #[.int .i64 0, .int .i64 0] 38) = w1 at *
  have hno : ∀ {w' : World}, Ext w w' → Blk w' b #[.int .i64 0, .int .i64 0] 38 → ¬ (0 ≤ m ∧ m < (t.tr.size : Int)) →
      doSt ((blk b).add 0) (.int .i64 0) w' (fun w10 => doSt ((blk b).add 1) (.int .i64 0) w10 (fun w11 => ∃ (x12 : Int), World.cell? w11 ((blk b).add 0) = some (.int .i64 x12) ∧ (
        ∃ (x13 : Int), World.cell? w11 ((blk b).add 1) = some (.int .i64 x13) ∧ (R (.returned (.tuple #[.agg #[.int .i64 x12, .int .i64 x13], .int .i64 320])) w11)))) := by
    intro w' e' hb' hn
    refine do_st2 hb' fun w2 h2 g2 => ⟨_, h2.cell (i := 0) rfl rfl, _, h2.cell (i := 1) rfl rfl, ?_⟩
    have hr := h w2 (e'.st g2 (by omega))
    unfold selR selE at hr
    rw [if_neg hn, if_neg hn] at hr
    exact hr
  refine do_call Try.call79 (c_pairs t (hl.ext e1) hn hnc hw hm fun p n' c' w2 ho e2 => retS_ret ⟨_, _, _, rfl, ?_⟩)
  have hn' := ownP_len ho
  rw [Tr.pairs_length] at hn'
  refine ifB_intro (fun h0 => hno (e1.trans e2) (hb.ext e2) (by have := of_decide_eq_true h0; omega)) fun h0 => ?_
  have h0 : 0 ≤ m := by have := of_decide_eq_false h0; omega
  refine ifB_intro (fun h1 => hno (e1.trans e2) (hb.ext e2) (by have := of_decide_eq_true h1; omega)) fun h1 => ?_
  have h1 : m < (t.tr.size : Int) := by have := of_decide_eq_false h1; omega
  have hlt : m.toNat < n' := by omega
  refine ix_pr (ownP_cs ho) (by rw [Tr.pairs_length]; exact hn') (k := m.toNat) (by omega) hlt fun a r1 r2 _ => ⟨_, r1, _, r2, ?_⟩
  refine do_st2 (hb.ext e2) fun w3 h3 g3 => ⟨_, h3.cell (i := 0) rfl rfl, _, h3.cell (i := 1) rfl rfl, ?_⟩
  have hr := h w3 ((e1.trans e2).st g3 (by omega))
  unfold selR selE at hr
  rw [if_pos ⟨h0, h1⟩, if_pos ⟨h0, h1⟩, getD_of (by rw [Tr.pairs_length]; omega)] at hr
  exact hr
theorem c_r9same {l r : List Pr} {q q' : Option Addr} {n c n' c' : Nat} {w : World} {R : Ending → World → Prop} (hl : Cs w q (prs l)) (hn : l.length = n) (hr : Cs w q' (prs r)) (hn' : r.length = n') (hm : n ≤ 1000000000000)
    (h : ∀ w', Ext w w' → R (.returned (.bool (decide (l = r)))) w') : Calls Try.prog 22 #[.slice q n c, .slice q' n' c'] w R := by
  refine sh22_ok _ _ _ _ _ _ ?_
  unfold sh22
  refine ifB_intro (fun hne => ?_) fun heq => ?_
  · have hne : l ≠ r := fun e => by subst e; simp [← hn, ← hn'] at hne
    have := h w (ext_refl w)
    rw [decide_eq_false hne] at this
    exact this
  have heq : n = n' := by simp at heq; omega
  subst heq
  refine ⟨fun vs w' => ∃ k : Nat, vs = [.int .i64 k] ∧ k ≤ n ∧ Ext w w' ∧ l.take k = r.take k, fun vs _ => n - (intOf (vs.getD 0 undef)).toNat, ⟨0, rfl, by omega, ext_refl w, by simp⟩, ?_⟩
  rintro i _ w2 ⟨k, hv, hkn, E, hlo⟩
  simp only [List.cons.injEq, Value.int.injEq, true_and, and_true] at hv
  subst hv
  refine ifB_intro (fun hlt => ?_) fun hge => ?_
  · have hlt : k < n := by have := of_decide_eq_true hlt; omega
    refine ⟨⟨fun w' => Ext w2 w', ext_drew _, ?_⟩⟩
    refine ix_prC (fun w' e => (hl.ext E).ext e) (ext_refl _) hn rfl hlt fun a r1 r2 => ⟨_, r1, _, r2, ?_⟩
    refine ix_prC (fun w' e => (hr.ext E).ext e) (ext_refl _) hn' rfl hlt fun a r3 r4 => ⟨_, r3, _, r4, ?_⟩
    refine ifB_intro (fun h1 => ?_) fun h1 => ?_
    · have hne : l ≠ r := fun e => by subst e; simp at h1
      have := h w2.drew E.drew
      rw [decide_eq_false hne] at this
      exact this
    · have h1 : l[k] = r[k] := by simp at h1; exact Prod.ext h1.1 h1.2
      refine ⟨⟨k + 1, ?_, by omega, E.drew, ?_⟩, ?_⟩
      · rw [wrap_succ hlt (by omega)]
      · rw [← List.take_append_getElem (by omega), ← List.take_append_getElem (by omega), hlo, h1]
      · rw [wrap_succ hlt (by omega)]; simp [intOf]; omega
  · have hge : k = n := by have := of_decide_eq_false hge; omega
    subst hge
    rw [List.take_of_length_le (by omega), List.take_of_length_le (by omega)] at hlo
    have := h w2 E
    rw [decide_eq_true hlo] at this
    exact this
def alT : Tr := .node (.node .nil 1 10 0 .nil) 3 30 0 .nil
theorem alT_all : AllK alT := by
  intro x hx
  simp [alT, Tr.pairs] at hx
  rcases hx with rfl | rfl <;> exact ⟨by decide, by decide⟩
set_option maxRecDepth 20000 in
theorem c_alive32 {w : World} {R : Ending → World → Prop} (h : ∀ w', Ext w w' → R (.returned (.bool true)) w') : Calls Try.prog 14 #[] w R := by
  refine sh14_ok ?_
  unfold sh14
  refine do_call Try.call69 (c_new (l := .nil) (r := .nil) rfl rfl (by decide) fun b1 w1 e1 h1 _ => retS_ret ⟨_, rfl, ?_⟩)
  refine do_call Try.call69 (c_new (r := .nil) h1 rfl (by decide) fun b2 w2 e2 h2 _ => retS_ret ⟨_, rfl, ?_⟩)
  have h2 : IsN w2 (some (blk b2)) alT := h2
  have hs : alT.size ≤ 4611686018427387903 := by decide
  refine do_call Try.call17 (c_rank h2 ⟨by decide, by decide⟩ alT_all hs fun w3 e3 => retS_ret ⟨_, _, rfl, ?_⟩)
  refine do_call Try.call17 (c_rank (h2.ext e3) ⟨by decide, by decide⟩ alT_all hs fun w4 e4 => retS_ret ⟨_, _, rfl, ?_⟩)
  refine do_call Try.call17 (c_rank (h2.ext (e3.trans e4)) ⟨by decide, by decide⟩ alT_all hs fun w5 e5 => retS_ret ⟨_, _, rfl, ?_⟩)
  have E5 := (e3.trans e4).trans e5
  refine do_call Try.call20 (c_select (h2.ext E5) hs fun w6 e6 => retS_ret ⟨_, _, _, rfl, ⟨?_⟩⟩)
  refine do_st2 (blk_alloc w6 _ _) fun w7 h7 g7 => ?_
  have e7 : Ext w6 w7 := (ext_alloc w6 _).st g7 (Nat.le_refl _)
  have E7 := E5.trans (e6.trans e7)
  refine do_call Try.call20 (c_select (h2.ext E7) hs fun w8 e8 => retS_ret ⟨_, _, _, rfl, ⟨?_⟩⟩)
  refine do_st2 (blk_alloc w8 _ _) fun w9 h9 g9 => ?_
  have e9 : Ext w8 w9 := (ext_alloc w8 _).st g9 (Nat.le_refl _)
  have e79 := e8.trans e9
  refine do_call Try.call20 (c_select (t := .nil) (w := w9) rfl (by decide) fun w10 e10 => retS_ret ⟨_, _, _, rfl, ⟨?_⟩⟩)
  refine do_st2 (blk_alloc w10 _ _) fun w11 h11 g11 => ?_
  have e11 : Ext w10 w11 := (ext_alloc w10 _).st g11 (Nat.le_refl _)
  have h7' := h7.ext ((e79.trans e10).trans e11)
  have p1 : rankR 1 alT 1 = 0 := by decide
  have p2 : hasK 1 alT 1 = true := by decide
  have p3 : rankR 1 alT 2 = 1 := by decide
  have p4 : hasK 1 alT 2 = false := by decide
  have p5 : rankR 1 alT 9 = 2 := by decide
  have p6 : hasK 1 alT 9 = false := by decide
  have p7 : selR alT 1 = (3, 30) := by decide
  have p8 : selE alT 1 = 0 := by decide
  have p9 : selE alT 2 = 320 := by decide
  have p10 : selE .nil 0 = 320 := by decide
  rw [p7] at h7'
  rw [p1, p2, p3, p4, p5, p6, p8, p9, p10]
  refine ifB_t rfl (ifB_t rfl (ifB_t rfl (ifB_t rfl (ifB_t rfl (ifB_t rfl ⟨_, h7'.cell (i := 0) (add_blk _ _) rfl, _, h7'.cell (i := 1) (add_blk _ _) rfl, ifB_t rfl (ifB_t rfl (ifB_t rfl ?_))⟩)))))
  exact h _ ((e1.trans e2).trans (E7.trans ((e79.trans e10).trans e11)))
set_option maxRecDepth 20000 in
theorem c_rankTells {l : List Bd} {o : Int} {keys places : List Int} {q qk qp : Option Addr} {n c nk ck np cp : Nat} {w : World} {R : Ending → World → Prop} (hl : Cs w q (bds l)) (hn : l.length = n) (hnc : n ≤ c) (hI : ∀ x ∈ l, In x.key)
    (hk : Cs w qk (ints keys)) (hkn : keys.length = nk) (hkI : ∀ k ∈ keys, In k) (hp : Cs w qp (ints places)) (hpn : places.length = np)
    (h : ∀ w', Ext w w' → R (.returned (.bool true)) w') : Calls Try.prog 3 #[.slice q n c, .int .u8 o, .slice qk nk ck, .slice qp np cp] w R := by
  refine sh3_ok _ _ _ _ _ _ _ _ _ _ ?_
  unfold sh3
  have hal : ∀ {w' : World}, Ext w w' → doCall Try.prog (.func (.func 14) #[] #[]) #[] w' (retS (fun v11 w12 => ∃ (x10 : Bool), v11 = (.bool x10 : Value) ∧ (R (.returned (.bool x10)) w12)) (fun ch w => Kfn R ch [] w)) :=
    fun E => do_call Try.call14 (c_alive32 fun w2 e2 => retS_ret ⟨_, rfl, h _ (E.trans e2)⟩)
  refine do_call Try.call13 (c_long hl hn fun b hb => retS_ret ⟨_, rfl, ?_⟩)
  rcases hb with rfl | ⟨rfl, hn400, t, hw, rfl⟩
  · exact ifB_t rfl (hal (ext_refl w))
  refine ifB_f rfl (ifB_intro (fun _ => hal (ext_refl w)) fun hk50 => ifB_intro (fun _ => hal (ext_refl w)) fun hp50 => ?_)
  have hk50 : nk ≤ 50 := by have := of_decide_eq_false hk50; omega
  have hp50 : np ≤ 50 := by have := of_decide_eq_false hp50; omega
  have hn' : t.size = n := hn
  have hts : t.tr.size ≤ 4611686018427387903 := by rw [BT.tr_size]; omega
  have hA : AllK t.tr := AllB.tr hI
  refine do_call Try.call15 (c_make t hl hn hnc hw (by omega) fun pt w1 e1 ht => retS_ret ⟨_, rfl, ?_⟩)
  refine do_call Try.call16 (c_ranks ht hA hts (hk.ext e1) hkn (by omega) hkI fun p2 c2 w2 ho2 e2 => retS_ret ⟨_, _, _, rfl, ?_⟩)
  have E2 := e1.trans e2
  refine ifB_f (by simp) ?_
  have hno : ∀ (z : Int), (z != z) = false := fun z => by simp
  have hbo : ∀ (z : Bool), (!(z == z)) = false := fun z => by simp
  refine ⟨fun vs w' => ∃ k : Nat, vs = [.int .i64 k] ∧ k ≤ nk ∧ Ext w2 w', fun vs _ => nk - (intOf (vs.getD 0 undef)).toNat, ⟨0, rfl, by omega, ext_refl w2⟩, ?_⟩
  rintro i _ w3 ⟨k, hv, hkk, e3⟩
  simp only [List.cons.injEq, Value.int.injEq, true_and, and_true] at hv
  subst hv
  have E3 := E2.trans e3
  refine ifB_intro (fun hlt => ?_) fun hge => ?_
  · have hlt : k < nk := by have := of_decide_eq_true hlt; omega
    refine ix_int (hk.ext E3) hkn (by omega) (by omega) fun a ha hc => ⟨_, hc, ?_⟩
    rw [Int.toNat_natCast, List.getD_eq_getElem?_getD, List.getElem?_eq_getElem (by omega), Option.getD_some]
    have hkI' := hkI _ (List.getElem_mem (show k < keys.length by omega))
    refine do_call Try.call17 (c_rank ((ht.ext e2).ext e3) hkI' hA hts fun w4 e4 => retS_ret ⟨_, _, rfl, ?_⟩)
    have E4 := E3.trans e4
    refine ix_int (hk.ext E4) hkn (by omega) (by omega) fun a ha hc => ⟨_, hc, ?_⟩
    rw [Int.toNat_natCast, List.getD_eq_getElem?_getD, List.getElem?_eq_getElem (by omega), Option.getD_some]
    refine do_call Try.call18 (c_r32rank hkI' t (hl.ext E4) hn hnc hw (by omega) hI fun w5 e5 => retS_ret ⟨_, _, rfl, ?_⟩)
    have e35 := (e3.trans e4).trans e5
    refine ifB_f (hno _) (ifB_f (hbo _) ?_)
    refine ix_int (Cs.of_row (e35.row ho2)) (by simpa using hkn) (by omega) (by omega) fun a ha hc => ⟨_, hc, ?_⟩
    rw [Int.toNat_natCast, List.getD_eq_getElem?_getD, List.getElem?_map, List.getElem?_eq_getElem (by omega), Option.map_some, Option.getD_some]
    refine ifB_f (hno _) ⟨⟨k + 1, by rw [wrap_succ hlt (by omega)], by omega, e35⟩, ?_⟩
    rw [wrap_succ hlt (by omega)]; simp [intOf]; omega
  refine do_call Try.call19 (c_many ((ht.ext e2).ext e3) hts (hp.ext E3) hpn (by omega) fun p4 n4 c4 w4 ho4 e4 => retS_ret ⟨_, _, _, _, rfl, ?_⟩)
  have E4 := E3.trans e4
  -- the first error, of the first places
  obtain ⟨first, hfirst⟩ : ∃ first : List Int → Int, first = fun l => if l.all (fun n => selE t.tr n == 0) then 0 else 320 := ⟨_, rfl⟩
  refine ⟨fun vs w' => ∃ (k n' c' : Nat) (p : Option Addr), vs = [.int .i64 (first (places.take k)), .slice p n' c', .int .i64 k] ∧ k ≤ np ∧ n' = k ∧ Ext w4 w' ∧ OwnP w' w4.heap.size p n' c' ((places.take k).map (selR t.tr)), fun vs _ => np - (intOf (vs.getD 2 undef)).toNat,
    ⟨0, 0, 0, none, by rw [hfirst]; rfl, by omega, rfl, ext_refl w4, ownP_nil _ _⟩, ?_⟩
  rintro f5 p5 n5 c5 i5 _ w5 ⟨k, n', c', p, hv, hkk, hnk, e5, ho5⟩
  simp only [List.cons.injEq, Value.slice.injEq, Value.int.injEq, true_and, and_true] at hv
  obtain ⟨rfl, ⟨rfl, rfl, rfl⟩, rfl⟩ := hv
  have hnk := hnk.symm
  subst hnk
  have E5 := E4.trans e5
  refine ifB_intro (fun hlt => ?_) fun hge => ?_
  · have hlt : k < np := by have := of_decide_eq_true hlt; omega
    have htk : places.take (k + 1) = places.take k ++ [places[k]'(by omega)] := (List.take_append_getElem (by omega)).symm
    refine ix_int (hp.ext E5) hpn (by omega) (by omega) fun a ha hc => ⟨_, hc, ?_⟩
    rw [Int.toNat_natCast, List.getD_eq_getElem?_getD, List.getElem?_eq_getElem (by omega), Option.getD_some]
    refine do_call Try.call20 (c_select ((((ht.ext e2).ext e3).ext e4).ext e5) hts fun w6 e6 => retS_ret ⟨_, _, _, rfl, ⟨?_⟩⟩)
    refine do_st2 (blk_alloc w6 _ _) fun w7 h7 g7 => ?_
    have e7 : Ext w5 w7 := e6.trans ((ext_alloc w6 _).st g7 (Nat.le_refl _))
    have E7 := E5.trans e7
    refine ix_int (hp.ext E7) hpn (by omega) (by omega) fun a ha hc => ⟨_, hc, ?_⟩
    rw [Int.toNat_natCast, List.getD_eq_getElem?_getD, List.getElem?_eq_getElem (by omega), Option.getD_some]
    refine do_call Try.call21 (c_r32select (hl.ext E7) hn hnc hw (by omega) fun w8 e8 => retS_ret ⟨_, _, _, rfl, ⟨?_⟩⟩)
    refine do_st2 (blk_alloc w8 _ _) fun w9 h9 g9 => ?_
    have e9 : Ext w7 w9 := e8.trans ((ext_alloc w8 _).st g9 (Nat.le_refl _))
    have h7' := h7.ext e9
    have hpo : ∀ (y z : Int), (!((y == y) && ((z == z) && true))) = false := fun y z => by simp
    refine ⟨_, h7'.cell (i := 0) (add_blk _ _) rfl, _, h7'.cell (i := 1) (add_blk _ _) rfl, _, h9.cell (i := 0) (add_blk _ _) rfl, _, h9.cell (i := 1) (add_blk _ _) rfl, ifB_f (hpo _ _) (ifB_f (hno _) ?_)⟩
    refine ifB_intro (fun hz => ?_) fun hz => ?_
    · have hz : first (places.take k) = 0 := by simpa using hz
      have hf : selE t.tr (places[k]'(by omega)) = first (places.take (k + 1)) := by
        rw [htk, hfirst]
        rw [hfirst] at hz
        have hall : (places.take k).all (fun n => selE t.tr n == 0) = true := by
          cases h0 : (places.take k).all (fun n => selE t.tr n == 0)
          · simp only [h0] at hz; cases hz
          · rfl
        simp only [List.all_append, hall, Bool.true_and, List.all_cons, List.all_nil, Bool.and_true]
        unfold selE
        split <;> rfl
      refine ⟨_, h9.cell (i := 0) (add_blk _ _) rfl, _, h9.cell (i := 1) (add_blk _ _) rfl, ⟨?_⟩⟩
      have e10 := ext_alloc w9 (.cells #[.int .i64 (selR t.tr (places[k]'(by omega))).1, .int .i64 (selR t.tr (places[k]'(by omega))).2] 38)
      have e510 := (e7.trans e9).trans e10
      have ho10 := row_to ho5 e510 (Nat.le_refl _)
      refine do_app elP ho10 (m := 1) (cs_alloc w9 _ _) (by simp) (by simp [Value.oneCell']) (by simp only [maxLen]; omega) (by omega) (Nat.le_trans e5.size e510.size) fun p' c' w11 h11 g11 => retS_ret ⟨_, _, _, rfl, ?_⟩
      refine ⟨⟨k + 1, k + 1, c', p', ?_, by omega, rfl, ext_own ho10 (e5.trans e510) g11 (Nat.le_refl _), ?_⟩, ?_⟩
      · rw [wrap_succ hlt (by omega), hf]
      · rw [htk, List.map_append]; unfold OwnP; rw [prs_append]; exact h11
      · rw [wrap_succ hlt (by omega)]; simp [intOf]; omega
    · have hz : ¬ first (places.take k) = 0 := by simpa using hz
      have hf : first (places.take k) = first (places.take (k + 1)) := by
        rw [htk, hfirst]
        rw [hfirst] at hz
        have hall : (places.take k).all (fun n => selE t.tr n == 0) = false := by
          cases h0 : (places.take k).all (fun n => selE t.tr n == 0)
          · rfl
          · simp only [h0] at hz; exact absurd rfl hz
        simp only [List.all_append, hall, Bool.false_and]
      refine ⟨_, h9.cell (i := 0) (add_blk _ _) rfl, _, h9.cell (i := 1) (add_blk _ _) rfl, ⟨?_⟩⟩
      have e10 := ext_alloc w9 (.cells #[.int .i64 (selR t.tr (places[k]'(by omega))).1, .int .i64 (selR t.tr (places[k]'(by omega))).2] 38)
      have e510 := (e7.trans e9).trans e10
      have ho10 := row_to ho5 e510 (Nat.le_refl _)
      refine do_app elP ho10 (m := 1) (cs_alloc w9 _ _) (by simp) (by simp [Value.oneCell']) (by simp only [maxLen]; omega) (by omega) (Nat.le_trans e5.size e510.size) fun p' c' w11 h11 g11 => retS_ret ⟨_, _, _, rfl, ?_⟩
      refine ⟨⟨k + 1, k + 1, c', p', ?_, by omega, rfl, ext_own ho10 (e5.trans e510) g11 (Nat.le_refl _), ?_⟩, ?_⟩
      · rw [wrap_succ hlt (by omega), hf]
      · rw [htk, List.map_append]; unfold OwnP; rw [prs_append]; exact h11
      · rw [wrap_succ hlt (by omega)]; simp [intOf]; omega
  have hge : k = np := by have := of_decide_eq_false hge; omega
  rw [List.take_of_length_le (by omega)] at ho5 ⊢
  have hme : manyE t.tr places = first places := by rw [hfirst]; rfl
  have hn4 := ownP_len ho4
  have hml : (manyR t.tr places).length ≤ 50 := by
    unfold manyR
    split
    · simp; omega
    · simp
  have hsame : ∀ {qw : Option Addr} {nw cw : Nat} {l' : List Pr}, Cs w5 qw (prs l') → l'.length = nw → manyR t.tr places = l' → _ := fun {qw nw cw l'} h1 h2 h3 =>
    (show ifB ((manyE t.tr places : Int) == first places) (doCall Try.prog (.func (.func 22) #[] #[]) #[.slice p4 n4 c4, .slice qw nw cw] w5 (retS (fun v112 w113 => ∃ (x111 : Bool), v112 = (.bool x111 : Value) ∧ (ifB x111 (
        doCall Try.prog (.func (.func 14) #[] #[]) #[] w113 (retS (fun v115 w116 => ∃ (x114 : Bool), v115 = (.bool x114 : Value) ∧ (R (.returned (.bool x114)) w116)) (fun ch w => Kfn R ch [] w))) (
        R (.returned (.bool false)) w113))) (fun ch w => Kfn R ch [] w))) (R (.returned (.bool false)) w5) by
      refine ifB_t (by rw [hme]; simp) ?_
      refine do_call Try.call22 (c_r9same ((ownP_cs ho4).ext e5) hn4 h1 h2 (by omega) fun w6 e6 => retS_ret ⟨_, rfl, ifB_t (by simp [h3]) (hal (E5.trans e6))⟩))
  refine ifB_intro (fun hz => ?_) fun hz => ?_
  · refine hsame (l' := []) (cs_nil _ _) rfl ?_
    have hz : ¬ first places = 0 := by simpa using hz
    rw [hfirst] at hz
    unfold manyR
    split
    · rename_i hall; simp only [hall] at hz; exact absurd rfl hz
    · rfl
  · refine hsame (l' := places.map (selR t.tr)) (ownP_cs ho5) (by simp; omega) ?_
    have hz : first places = 0 := by simpa using hz
    rw [hfirst] at hz
    unfold manyR
    split
    · rfl
    · rename_i hall; simp only [hall] at hz; cases hz
end Go.Proofs.Ytinkkhcffoikmaa
