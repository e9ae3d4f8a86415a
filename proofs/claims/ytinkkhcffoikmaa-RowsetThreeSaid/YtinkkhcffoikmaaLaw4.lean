/-
  What the statements of layer 4 come to: RowEnds, RowTells.
-/
import Derived.Test.YtinkkhcffoikmaaRow4
import Derived.Test.YtinkkhcffoikmaaL7
import Derived.Test.YtinkkhcffoikmaaL8
namespace Go.Proofs.Ytinkkhcffoikmaa
open Go Go.Sh Go.RowKit

theorem in_nat (n : Nat) (h : n ≤ 1000) : In (n : Int) := ⟨by omega, by omega⟩
theorem cs2 {w : World} {b : Nat} {u v x y : Int} {t : TypeId} (h : Blk w b #[.int .i64 u, .int .i64 v, .int .i64 x, .int .i64 y] t) : Cs w (some (blk b)) (prs [(u, v), (x, y)]) := fun i v hv => by
  refine ⟨_, rfl, ?_⟩
  rw [add_blk]
  match i, hv with
  | 0, hv => cases hv; exact h.cell rfl rfl
  | 1, hv => cases hv; exact h.cell rfl rfl
  | 2, hv => cases hv; exact h.cell rfl rfl
  | 3, hv => cases hv; exact h.cell rfl rfl
  | i + 4, hv => simp at hv
abbrev alL : List Pr := [(1, 10), (3, 30)]
theorem alI : InP alL := by
  intro x hx
  simp at hx
  rcases hx with rfl | rfl <;> exact ⟨⟨by decide, by decide⟩, ⟨by decide, by decide⟩⟩
theorem alI' : InP [(3, 30), (1, 10)] := by
  intro x hx
  simp at hx
  rcases hx with rfl | rfl <;> exact ⟨⟨by decide, by decide⟩, ⟨by decide, by decide⟩⟩
set_option maxRecDepth 100000 in
theorem c_alive4 {w : World} {R : Ending → World → Prop} (h : ∀ w', Ext w w' → R (.returned (.bool true)) w') : Calls Try.prog 37 #[] w R := by
  refine sh37_ok ?_
  unfold sh37
  refine ⟨?_⟩
  have e1 := ext_alloc w (.cells #[.int .i64 1, .int .i64 10, .int .i64 3, .int .i64 30] 38)
  have hb := blk_alloc w #[.int .i64 1, .int .i64 10, .int .i64 3, .int .i64 30] 38
  generalize w.heap.size = b at *
  generalize w.alloc (.cells #[.int .i64 1, .int .i64 10, .int .i64 3, .int .i64 30] 38) = w1 at *
  have hl : Cs w1 (some (blk b)) (prs alL) := cs2 hb
  refine do_call Try.call25 (c_rowfind hl rfl (by decide) alI ⟨by decide, by decide⟩ fun w2 e2 => retS_ret ⟨_, _, rfl, ?_⟩)
  have E2 := e1.trans e2
  refine do_call Try.call39 (c_put (x := (3, 5)) (hl.ext e2) rfl (by decide) alI ⟨by decide, by decide⟩ fun q3 n3 c3 w3 o3 e3 => retS_ret ⟨_, _, _, _, rfl, ?_⟩)
  have hl3 := (hl.ext e2).ext e3
  refine do_call Try.call38 (c_drop hl3 rfl (by decide) alI ⟨by decide, by decide⟩ fun q4 n4 c4 w4 o4 e4 => retS_ret ⟨_, _, _, _, rfl, ?_⟩)
  have hl4 := hl3.ext e4
  refine do_call Try.call30 (c_rowfloor hl4 rfl (by decide) alI ⟨by decide, by decide⟩ fun w5 e5 => retS_ret ⟨_, _, _, rfl, ⟨?_⟩⟩)
  have hl5 := hl4.ext e5
  refine do_st2 (blk_alloc w5 _ _) fun w6 h6 g6 => ?_
  have e6 : Ext w5 w6 := (ext_alloc w5 _).st g6 (Nat.le_refl _)
  have hl6 := hl5.ext e6
  refine do_call Try.call32 (c_rowceil hl6 rfl (by decide) alI ⟨by decide, by decide⟩ fun w7 e7 => retS_ret ⟨_, _, _, rfl, ⟨?_⟩⟩)
  have hl7 := hl6.ext e7
  refine do_st2 (blk_alloc w7 _ _) fun w8 h8 g8 => ?_
  have e8 : Ext w7 w8 := (ext_alloc w7 _).st g8 (Nat.le_refl _)
  have hl8 := hl7.ext e8
  have hf8 := (h6.ext e7).ext e8
  have E8 : Ext w w8 := ((((((E2.trans e3).trans e4).trans e5).trans e6).trans e7).trans e8)
  have o38 := row_to o3 ((((e4.trans e5).trans e6).trans e7).trans e8) (Nat.le_refl _)
  have o48 := row_to o4 (((e5.trans e6).trans e7).trans e8) (Nat.le_refl _)
  have p1 : posR 1 alL 2 = 1 := by decide
  have p2 : hasR 1 alL 2 = false := by decide
  have p3 : putR 1 3 alL (3, 5) = [(1, 10), (3, 35)] := by decide
  have p4 : putE 1 3 alL = 0 := by decide
  have p5 : dropR 1 alL 1 = [(3, 30)] := by decide
  have p6 : hasR 1 alL 1 = true := by decide
  have p7 : floorR 1 alL 2 = (1, 10) := by decide
  have p8 : isFloorR 1 alL 2 = true := by decide
  have p9 : isCeilR 1 alL 4 = false := by decide
  have p10 : mayR 2 [(3, 30), (1, 10)] = true := by decide
  have p11 : mayR 1 [(3, 30), (1, 10)] = false := by decide
  rw [p3] at o38
  rw [p5] at o48
  rw [p7] at hf8
  have hn3 := ownP_len o38
  have hn4 := ownP_len o48
  clear e1 e2 e3 e4 e5 e6 e7 e8 h6 h8 g6 g8 hl3 hl4 hl5 hl6 hl7 E2 o3 o4
  refine ⟨⟨fun w' => Ext w8 w', ext_drew _, ?_⟩⟩
  rw [p1, p2, p4, p6, p8, p9]
  refine ifB_t rfl (ifB_t rfl ⟨?_⟩)
  have e9 : Ext w8 (w8.drew.alloc (.cells #[.int .i64 1, .int .i64 10, .int .i64 3, .int .i64 35] 38)) := (ext_drew w8).alloc _
  refine ⟨e9, do_call Try.call50 (c_r4same ((ownP_cs o38).ext e9) hn3 (cs2 (blk_alloc w8.drew _ _)) rfl (by rw [← hn3]; decide) fun w10 e10 => retS_ret ⟨_, rfl, e9.trans e10, ?_⟩)⟩
  have E10 := e9.trans e10
  refine ifB_t (by rfl) (ifB_t rfl ?_)
  refine sl_pr (w := w10) (a := 1) (b := 2) (hl8.ext E10) rfl (Nat.le_refl 2) rfl rfl (by decide) (by decide) fun q1 hq1 _ => ?_
  refine do_call Try.call50 (c_r4same ((ownP_cs o48).ext E10) hn4 hq1 rfl (by rw [← hn4]; decide) fun w11 e11 => retS_ret ⟨_, rfl, E10.trans e11, ?_⟩)
  have E11 := E10.trans e11
  refine ifB_t (by rfl) (ifB_t rfl ?_)
  have hC : ∀ w', Ext w8 w' → Cs w' (some (blk b)) (prs alL) := fun w' e => hl8.ext e
  refine ⟨_, fun w' e => (hf8.ext e).cell (i := 0) (by rw [add_blk]) rfl, _, fun w' e => (hf8.ext e).cell (i := 1) (by rw [add_blk]) rfl, ?_⟩
  refine ix_prC hC (ext_refl _) rfl (k := 0) rfl (by decide) fun a r1 r2 => ⟨_, r1, _, r2, ?_⟩
  refine ifB_t (by rfl) (ifB_t rfl (ifB_t rfl ?_))
  refine ix_prC hC (ext_refl _) rfl (k := 1) rfl (by decide) fun a r1 r2 => ⟨_, r1, _, r2, ?_⟩
  refine ix_prC hC (ext_refl _) rfl (k := 0) rfl (by decide) fun a r1 r2 => ⟨_, r1, _, r2, ⟨?_⟩⟩
  have e12 := E11.trans (ext_alloc w11 (.cells #[.int .i64 3, .int .i64 30, .int .i64 1, .int .i64 10] 38))
  refine ⟨e12, do_call Try.call40 (c_may (l := [(3, 30), (1, 10)]) (cs2 (blk_alloc w11 _ _)) rfl (by decide) alI' fun w13 e13 => retS_ret ⟨_, rfl, e12.trans e13, ?_⟩)⟩
  have E13 := e12.trans e13
  rw [p10]
  refine ifB_t rfl ?_
  refine ix_prC hC (ext_refl _) rfl (k := 1) rfl (by decide) fun a r1 r2 => ⟨_, r1, _, r2, ?_⟩
  refine ix_prC hC (ext_refl _) rfl (k := 0) rfl (by decide) fun a r1 r2 => ⟨_, r1, _, r2, ⟨?_⟩⟩
  have e14 := E13.trans (ext_alloc w13 (.cells #[.int .i64 3, .int .i64 30, .int .i64 1, .int .i64 10] 38))
  refine ⟨e14, do_call Try.call40 (c_may (l := [(3, 30), (1, 10)]) (cs2 (blk_alloc w13 _ _)) rfl (by decide) alI' fun w15 e15 => retS_ret ⟨_, rfl, e14.trans e15, ?_⟩)⟩
  rw [p11]
  exact h _ (E8.trans (e14.trans e15))
theorem c_own4 {l : List Pr} {q : Option Addr} {n c : Nat} {w : World} {R : Ending → World → Prop} (hl : Cs w q (prs l)) (hn : l.length = n) (hm : n ≤ 1000000000000)
    (h : ∀ p c' w', OwnP w' w.heap.size p n c' l → Ext w w' → R (.returned (.slice p n c')) w') : Calls Try.prog 42 #[.slice q n c] w R := by
  refine sh42_ok _ _ _ ?_
  unfold sh42
  refine do_app elP (ownP_nil w w.heap.size) hl (by simp [hn]) prs_one (by simp only [maxLen]; omega) (by omega) (Nat.le_refl _) fun p c' w' h1 h2 => retS_ret ⟨_, _, _, rfl, ?_⟩
  simp only [Nat.zero_add, prs_nil, List.nil_append] at h1 ⊢
  exact h p c' w' h1 ((ext_refl w).grown h2 (by simp [Value.ownBlock]))
set_option maxRecDepth 100000 in
theorem c_rowTells {o p : Int} {l : List Pr} {x : Pr} {q : Option Addr} {n c : Nat} {w : World} {R : Ending → World → Prop} (hl : Cs w q (prs l)) (hn : l.length = n) (hnc : n ≤ c) (hI : InP l) (hx : In x.1)
    (h : ∀ w', Ext w w' → R (.returned (.bool true)) w') : Calls Try.prog 8 #[.int .u8 o, .int .u8 p, .slice q n c, agP x] w R := by
  refine sh8_ok _ _ _ _ _ _ _ ?_
  unfold sh8
  refine ⟨?_⟩
  have e1 := ext_alloc w (.cells #[.int .i64 x.1, .int .i64 x.2] 38)
  have hb := blk_alloc w #[.int .i64 x.1, .int .i64 x.2] 38
  generalize w.heap.size = b at *
  generalize w.alloc (.cells #[.int .i64 x.1, .int .i64 x.2] 38) = w1 at *
  refine ifB_intro (fun _ => do_call Try.call37 (c_alive4 fun w2 e2 => retS_ret ⟨_, rfl, h _ (e1.trans e2)⟩)) fun hle => ?_
  have hn200 : n ≤ 200 := by have := of_decide_eq_false hle; omega
  have hm : n ≤ 1000000000000 := by omega
  have hm' : n ≤ 4611686018427387903 := by omega
  have hl1 := hl.ext e1
  refine do_call Try.call42 (c_own4 hl1 hn hm fun q2 c2 w2 o2 e2 => retS_ret ⟨_, _, _, rfl, ?_⟩)
  have E2 := e1.trans e2
  have hl2 := hl.ext E2
  have hr2 := ownP_cs o2
  have hb2 := hb.ext e2
  refine ⟨_, hb2.cell (i := 0) (by rw [add_blk]) rfl, do_call Try.call25 (c_rowfind hr2 hn hm' hI hx fun w3 e3 => retS_ret ⟨_, _, rfl, ?_⟩)⟩
  have hb3 := hb2.ext e3
  have hl3 := hl2.ext e3
  have hr3 := hr2.ext e3
  refine ⟨_, hb3.cell (i := 0) (by rw [add_blk]) rfl, do_call Try.call43 (c_r4find hl3 hn hm hI hx fun w4 e4 => retS_ret ⟨_, _, rfl, ?_⟩)⟩
  have hb4 := hb3.ext e4
  have hl4 := hl3.ext e4
  have hr4 := hr3.ext e4
  refine ⟨_, hb4.cell (i := 0) (by rw [add_blk]) rfl, do_call Try.call28 (c_rowget hr4 hn hm' hI hx fun w5 e5 => retS_ret ⟨_, _, rfl, ?_⟩)⟩
  have hb5 := hb4.ext e5
  have hl5 := hl4.ext e5
  have hr5 := hr4.ext e5
  refine ⟨_, hb5.cell (i := 0) (by rw [add_blk]) rfl, do_call Try.call44 (c_r4get hl5 hn hm hI hx fun w6 e6 => retS_ret ⟨_, _, rfl, ?_⟩)⟩
  have hb6 := hb5.ext e6
  have hl6 := hl5.ext e6
  have hr6 := hr5.ext e6
  refine ⟨_, hb6.cell (i := 0) (by rw [add_blk]) rfl, _, hb6.cell (i := 1) (by rw [add_blk]) rfl, do_call Try.call39 (c_put hr6 hn hm hI hx fun qa na ca w7 oa e7 => retS_ret ⟨_, _, _, _, rfl, ?_⟩)⟩
  have hb7 := hb6.ext e7
  have hl7 := hl6.ext e7
  have hr7 := hr6.ext e7
  refine ⟨_, hb7.cell (i := 0) (by rw [add_blk]) rfl, _, hb7.cell (i := 1) (by rw [add_blk]) rfl, do_call Try.call45 (c_r4put hl7 hn hnc hm hI hx fun qb nb cb w8 ob e8 => retS_ret ⟨_, _, _, _, rfl, ?_⟩)⟩
  have hb8 := hb7.ext e8
  have hl8 := hl7.ext e8
  have hr8 := hr7.ext e8
  refine ⟨_, hb8.cell (i := 0) (by rw [add_blk]) rfl, do_call Try.call38 (c_drop hr8 hn hm hI hx fun qc nc cc w9 oc e9 => retS_ret ⟨_, _, _, _, rfl, ?_⟩)⟩
  have hb9 := hb8.ext e9
  have hl9 := hl8.ext e9
  have hr9 := hr8.ext e9
  refine ⟨_, hb9.cell (i := 0) (by rw [add_blk]) rfl, do_call Try.call46 (c_r4drop hl9 hn hm hI fun qd nd cd w10 od e10 => retS_ret ⟨_, _, _, _, rfl, ?_⟩)⟩
  have hb10 := hb9.ext e10
  have hl10 := hl9.ext e10
  have hr10 := hr9.ext e10
  refine ⟨_, hb10.cell (i := 0) (by rw [add_blk]) rfl, do_call Try.call30 (c_rowfloor hr10 hn hm' hI hx fun w11 e11 => retS_ret ⟨_, _, _, rfl, ⟨?_⟩⟩)⟩
  refine do_st2 (blk_alloc w11 _ _) fun w12 hy12 g12 => ?_
  have e12 : Ext w10 w12 := e11.trans ((ext_alloc w11 _).st g12 (Nat.le_refl _))
  have hb12 := hb10.ext e12
  have hl12 := hl10.ext e12
  have hr12 := hr10.ext e12
  refine ⟨_, hb12.cell (i := 0) (by rw [add_blk]) rfl, do_call Try.call47 (c_r4floor hl12 hn hm hI hx fun w13 e13 => retS_ret ⟨_, _, _, rfl, ⟨?_⟩⟩)⟩
  refine do_st2 (blk_alloc w13 _ _) fun w14 hz14 g14 => ?_
  have e14 : Ext w12 w14 := e13.trans ((ext_alloc w13 _).st g14 (Nat.le_refl _))
  have hb14 := hb12.ext e14
  have hl14 := hl12.ext e14
  have hr14 := hr12.ext e14
  have hy14 := hy12.ext e14
  refine ⟨_, hb14.cell (i := 0) (by rw [add_blk]) rfl, do_call Try.call32 (c_rowceil hr14 hn hm' hI hx fun w15 e15 => retS_ret ⟨_, _, _, rfl, ⟨?_⟩⟩)⟩
  refine do_st2 (blk_alloc w15 _ _) fun w16 hs16 g16 => ?_
  have e16 : Ext w14 w16 := e15.trans ((ext_alloc w15 _).st g16 (Nat.le_refl _))
  have hb16 := hb14.ext e16
  have hl16 := hl14.ext e16
  have hr16 := hr14.ext e16
  refine ⟨_, hb16.cell (i := 0) (by rw [add_blk]) rfl, do_call Try.call48 (c_r4ceil hl16 hn hm hI hx fun w17 e17 => retS_ret ⟨_, _, _, rfl, ⟨?_⟩⟩)⟩
  refine do_st2 (blk_alloc w17 _ _) fun w18 ht18 g18 => ?_
  have e18 : Ext w16 w18 := e17.trans ((ext_alloc w17 _).st g18 (Nat.le_refl _))
  have hl18 := hl16.ext e18
  have hr18 := hr16.ext e18
  have hy18 := (hy14.ext e16).ext e18
  have hz18 := (hz14.ext e16).ext e18
  have hs18 := hs16.ext e18
  have eab : Ext w8 w18 := (((((e9.trans e10).trans e12).trans e14).trans e16).trans e18)
  have ecd : Ext w10 w18 := ((e12.trans e14).trans e16).trans e18
  have oa18 := row_to oa (e8.trans eab) (Nat.le_refl _)
  have ob18 := row_to ob eab (Nat.le_refl _)
  have oc18 := row_to oc (e10.trans ecd) (Nat.le_refl _)
  have od18 := row_to od ecd (Nat.le_refl _)
  have E18 : Ext w w18 := ((((((E2.trans e3).trans e4).trans e5).trans e6).trans e7).trans e8).trans eab
  clear e1 e2 e3 e4 e5 e6 e7 e8 e9 e10 e11 e12 e13 e14 e15 e16 e17 e18 hb hb2 hb3 hb4 hb5 hb6 hb7 hb8 hb9 hb10 hb12 hb14 hb16 hl hl1 hl2 hl3 hl4 hl5 hl6 hl7 hl8 hl9 hl10 hl12 hl14 hl16 hr2 hr3 hr4 hr5 hr6 hr7 hr8 hr9 hr10 hr12 hr14 hr16 hy12 hy14 hz14 hs16 g12 g14 g16 g18 eab ecd oa ob oc od E2 o2
  have hno : ∀ (z : Int), (z != z) = false := fun z => by simp
  have hbo : ∀ (z : Bool), (!(z == z)) = false := fun z => by simp
  have hpo : ∀ (y z : Int), (!((y == y) && ((z == z) && true))) = false := fun y z => by simp
  refine ifB_f (hno _) (ifB_f (hbo _) (ifB_f (hno _) (ifB_f (hbo _) (ifB_f (hno _) (ifB_f (hbo _) ?_)))))
  refine ⟨_, hy18.cell (i := 0) (by rw [add_blk]) rfl, _, hy18.cell (i := 1) (by rw [add_blk]) rfl, _, hz18.cell (i := 0) (by rw [add_blk]) rfl, _, hz18.cell (i := 1) (by rw [add_blk]) rfl, ifB_f (hpo _ _) (ifB_f (hbo _) ?_)⟩
  refine ⟨_, hs18.cell (i := 0) (by rw [add_blk]) rfl, _, hs18.cell (i := 1) (by rw [add_blk]) rfl, _, ht18.cell (i := 0) (by rw [add_blk]) rfl, _, ht18.cell (i := 1) (by rw [add_blk]) rfl, ifB_f (hpo _ _) (ifB_f (hbo _) ?_)⟩
  refine do_call Try.call40 (c_may hr18 hn (by omega) hI fun w19 e19 => retS_ret ⟨_, rfl, ?_⟩)
  refine do_call Try.call49 (c_r4may (hl18.ext e19) hn hm hI fun w20 e20 => retS_ret ⟨_, rfl, ?_⟩)
  have E20 := e19.trans e20
  refine ifB_t (by simp) ?_
  have hput : (putR o p l x).length ≤ 1000000000000 := by
    unfold putR
    cases mayR o l && may p
    · simp
    · cases hasR o l x.1
      · simp; omega
      · simp; omega
  have hdrop : (dropR o l x.1).length ≤ 1000000000000 := by
    unfold dropR
    cases mayR o l
    · simp
    · cases hasR o l x.1
      · simp; omega
      · simp; omega
  refine do_call Try.call50 (c_r4same ((ownP_cs oa18).ext E20) (ownP_len oa18) ((ownP_cs ob18).ext E20) (ownP_len ob18) (by rw [← ownP_len oa18]; exact hput) fun w21 e21 => retS_ret ⟨_, rfl, ifB_t (by simp) ?_⟩)
  have E21 := E20.trans e21
  refine do_call Try.call50 (c_r4same ((ownP_cs oc18).ext E21) (ownP_len oc18) ((ownP_cs od18).ext E21) (ownP_len od18) (by rw [← ownP_len oc18]; exact hdrop) fun w22 e22 => retS_ret ⟨_, rfl, ifB_t (by simp) ?_⟩)
  have E22 := E21.trans e22
  refine do_call Try.call51 (c_rowsum (hr18.ext E22) hn hm fun w23 e23 => retS_ret ⟨_, rfl, ?_⟩)
  have E23 := E22.trans e23
  refine do_call Try.call52 (c_r4sum (hl18.ext E23) hn hm (retS_ret ⟨_, rfl, ifB_t (by simp) ?_⟩))
  refine do_call Try.call50 (c_r4same (hr18.ext E23) hn (hl18.ext E23) hn hm fun w24 e24 => retS_ret ⟨_, rfl, ifB_t (by simp) ?_⟩)
  refine do_call Try.call37 (c_alive4 fun w25 e25 => retS_ret ⟨_, rfl, h _ ?_⟩)
  exact ((E18.trans E23).trans e24).trans e25
theorem pos_at {o : Int} {l : List Pr} (hm : mayR o l = true) {i : Nat} (hi : i < l.length) : posR o l l[i].1 = i ∧ hasR o l l[i].1 = true ∧ getR o l l[i].1 = l[i].2 := by
  have h1 : posR o l l[i].1 = i := by unfold posR; rw [hm]; exact idx_of_mem (mayR_chain hm) hi
  have h2 : hasR o l l[i].1 = true := (hasR_iff hm).2 ⟨i, hi, rfl⟩
  refine ⟨h1, h2, ?_⟩
  unfold getR
  rw [h1, h2, getD_of hi]; rfl
theorem floor_le {o key : Int} {l : List Pr} (hm : mayR o l = true) (h : isFloorR o l key = true) : cmpI o (floorR o l key).1 key ≤ 0 := by
  unfold floorR
  cases hh : hasR o l key
  · have hp : 0 < posR o l key := by simpa [isFloorR, hh] using h
    have hpx : posR o l key = idxR o l key := by unfold posR; rw [hm]; rfl
    simp only [cond_false]
    rw [if_neg (by omega)]
    have := idxR_lt (o := o) (l := l) (key := key) (i := posR o l key - 1) (by omega)
    obtain ⟨h1, h2⟩ := this
    rw [getD_of h1]; omega
  · have hlt := hasR_lt hh
    simp only [cond_true]
    rw [getD_of hlt, hasR_key hh, cmpI_self]; omega
theorem ceil_le {o key : Int} {l : List Pr} (h : isCeilR o l key = true) : cmpI o key (ceilR o l key).1 ≤ 0 := by
  have hm : mayR o l = true := by simp [isCeilR] at h; exact h.1
  have hp : posR o l key < l.length := by simp [isCeilR] at h; exact h.2
  have hpx : posR o l key = idxR o l key := by unfold posR; rw [hm]; rfl
  unfold ceilR
  rw [hm, getD_of hp]
  have := idxR_ge (o := o) (l := l) (key := key) (by omega)
  simp only [← hpx] at this
  simp only [cond_true]
  rcases Int.lt_or_le 0 (cmpI o l[posR o l key].1 key) with h1 | h1
  · have := cmpI_pos h1; omega
  · rcases Int.lt_or_le 0 (cmpI o key l[posR o l key].1) with h2 | h2
    · have := cmpI_pos h2; omega
    · omega
set_option maxRecDepth 100000 in
theorem c_rowEnds {o : Int} {l : List Pr} {key : Int} {q : Option Addr} {n c : Nat} {w : World} {R : Ending → World → Prop} (hl : Cs w q (prs l)) (hn : l.length = n) (hI : InP l) (hx : In key)
    (h : ∀ w', Ext w w' → R (.returned (.bool true)) w') : Calls Try.prog 7 #[.int .u8 o, .slice q n c, .int .i64 key] w R := by
  refine sh7_ok _ _ _ _ _ ?_
  unfold sh7
  refine ⟨fun vs w' => ∃ b, vs = [.bool b] ∧ Ext w w' ∧ (b = true ∨ (b = false ∧ n ≤ 200 ∧ mayR o l = true)), ?_, ?_⟩
  rotate_left
  · refine ifB_intro (fun _ => ⟨true, rfl, ext_refl w, .inl rfl⟩) fun hle => ?_
    have hle : n ≤ 200 := by have := of_decide_eq_false hle; omega
    refine do_call Try.call40 (c_may hl hn (by omega) hI fun w1 e1 => retS_ret ⟨_, rfl, _, rfl, e1, ?_⟩)
    cases hm : mayR o l
    · exact .inl rfl
    · exact .inr ⟨rfl, hle, rfl⟩
  rintro b _ w1 ⟨b', hv, E1, hb⟩
  simp only [List.cons.injEq, Value.bool.injEq, and_true] at hv
  subst hv
  have hal : ∀ {w' : World}, Ext w w' → doCall Try.prog (.func (.func 37) #[] #[]) #[] w' (retS (fun v11 w12 => ∃ (x10 : Bool), v11 = (.bool x10 : Value) ∧ (R (.returned (.bool x10)) w12)) (fun ch w => Kfn R ch [] w)) :=
    fun E => do_call Try.call37 (c_alive4 fun w2 e2 => retS_ret ⟨_, rfl, h _ (E.trans e2)⟩)
  rcases hb with rfl | ⟨rfl, hn200, hm⟩
  · exact ifB_t rfl (hal E1)
  refine ifB_f rfl ?_
  have hm63 : n ≤ 4611686018427387903 := by omega
  have hpx : posR o l key = idxR o l key := by unfold posR; rw [hm]; rfl
  have hple := posR_le o l key
  have hno : ∀ (z : Int), (z != z) = false := fun z => by simp
  have hbo : ∀ (z : Bool), (!(z == z)) = false := fun z => by simp
  have hpo : ∀ (y z : Int), (!((y == y) && ((z == z) && true))) = false := fun y z => by simp
  refine ⟨fun vs w' => ∃ k : Nat, vs = [.int .i64 k] ∧ k ≤ n ∧ Ext w w', fun vs _ => n - (intOf (vs.getD 0 undef)).toNat, ⟨0, rfl, by omega, E1⟩, ?_⟩
  rintro i _ w2 ⟨k, hv, hkn, E2⟩
  simp only [List.cons.injEq, Value.int.injEq, true_and, and_true] at hv
  subst hv
  refine ifB_intro (fun hlt => ?_) fun hge => ?_
  · have hlt : k < n := by have := of_decide_eq_true hlt; omega
    obtain ⟨p1, p2, p3⟩ := pos_at hm (i := k) (by omega)
    refine ix_pr (hl.ext E2) hn rfl hlt fun a r1 _ _ => ⟨_, r1, ?_⟩
    refine do_call Try.call25 (c_rowfind (hl.ext E2) hn hm63 hI (hI _ (List.getElem_mem _)).1 fun w3 e3 => retS_ret ⟨_, _, rfl, ?_⟩)
    have E3 := E2.trans e3
    refine ix_pr (hl.ext E3) hn rfl hlt fun a r1 _ _ => ⟨_, r1, ?_⟩
    refine do_call Try.call28 (c_rowget (hl.ext E3) hn hm63 hI (hI _ (List.getElem_mem _)).1 fun w4 e4 => retS_ret ⟨_, _, rfl, ?_⟩)
    have E4 := E3.trans e4
    rw [p1, p2, p3]
    refine ⟨fun vs w' => vs = [.bool false] ∧ Ext w w', ?_, ?_⟩
    · rintro b _ w5 ⟨hv, E5⟩
      simp only [List.cons.injEq, Value.bool.injEq, and_true] at hv
      subst hv
      refine ifB_f rfl ⟨⟨k + 1, by rw [wrap_succ hlt (by omega)], by omega, E5⟩, ?_⟩
      rw [wrap_succ hlt (by omega)]; simp [intOf]; omega
    · refine ifB_f (hno _) (ifB_f rfl ?_)
      refine ix_pr (hl.ext E4) hn rfl hlt fun a _ r2 _ => ⟨_, r2, ifB_f (hno _) ⟨rfl, E4⟩⟩
  refine do_call Try.call25 (c_rowfind (hl.ext E2) hn hm63 hI hx fun w3 e3 => retS_ret ⟨_, _, rfl, ?_⟩)
  have E3 := E2.trans e3
  refine ⟨fun vs w' => vs = [.bool false] ∧ Ext w w', ?_, ?_⟩
  rotate_left
  · refine ifB_f (decide_eq_false (by omega)) ⟨?_, E3⟩
    rw [decide_eq_false (by omega)]
  rintro b _ w4 ⟨hv, E4⟩
  simp only [List.cons.injEq, Value.bool.injEq, and_true] at hv
  subst hv
  refine ifB_f rfl ?_
  refine do_call Try.call30 (c_rowfloor (hl.ext E4) hn hm63 hI hx fun w5 e5 => retS_ret ⟨_, _, _, rfl, ⟨?_⟩⟩)
  refine do_st2 (blk_alloc w5 _ _) fun w6 ha6 g6 => ?_
  have e6 : Ext w4 w6 := e5.trans ((ext_alloc w5 _).st g6 (Nat.le_refl _))
  have E6 := E4.trans e6
  refine do_call Try.call32 (c_rowceil (hl.ext E6) hn hm63 hI hx fun w7 e7 => retS_ret ⟨_, _, _, rfl, ⟨?_⟩⟩)
  refine do_st2 (blk_alloc w7 _ _) fun w8 hb8 g8 => ?_
  have e8 : Ext w6 w8 := e7.trans ((ext_alloc w7 _).st g8 (Nat.le_refl _))
  have E8 := E6.trans e8
  have ha8 := ha6.ext e8
  clear e3 e5 e6 e7 e8 ha6 g6 g8 E2 E3 E4 E6
  refine ⟨fun vs w' => vs = [.bool false] ∧ Ext w8 w', ?_, ?_⟩
  rotate_left
  · have hg : isCeilR o l key = decide (((posR o l key : Nat) : Int) < ((n : Nat) : Int)) := by
      unfold isCeilR
      rw [hm, hn, Bool.true_and]
      by_cases h1 : posR o l key < n
      · rw [decide_eq_true h1, decide_eq_true (by omega)]
      · rw [decide_eq_false h1, decide_eq_false (by omega)]
    refine ifB_intro (fun hp => ?_) fun hp => ?_
    · have hp : 0 < posR o l key := by have := of_decide_eq_true hp; omega
      have hf : isFloorR o l key = true := by simp [isFloorR, hp]
      refine ifB_f (by rw [hf]; rfl) ⟨?_, ext_refl _⟩
      rw [hg, hbo]
    · have hp : posR o l key = 0 := by have := of_decide_eq_false hp; omega
      have hf : isFloorR o l key = hasR o l key := by simp [isFloorR, hp]
      refine ifB_f (by rw [hf, hbo]) ⟨?_, ext_refl _⟩
      rw [hg, hbo]
  rintro b _ w9 ⟨hv, e9⟩
  simp only [List.cons.injEq, Value.bool.injEq, and_true] at hv
  subst hv
  refine ifB_f rfl ?_
  have ha9 := ha8.ext e9
  have hb9 := hb8.ext e9
  have E9 := E8.trans e9
  refine ⟨fun vs w' => vs = [.bool false] ∧ Ext w9 w', ?_, ?_⟩
  · rintro b _ w10 ⟨hv, e10⟩
    simp only [List.cons.injEq, Value.bool.injEq, and_true] at hv
    subst hv
    refine ifB_f rfl ?_
    have E10 := E9.trans e10
    have ha10 := ha9.ext e10
    have hb10 := hb9.ext e10
    have hxI : In (ceilR o l key).1 := by
      unfold ceilR
      rw [hm]
      rcases Nat.lt_or_ge (posR o l key) l.length with h1 | h1
      · rw [getD_of h1]; exact (hI _ (List.getElem_mem _)).1
      · simp [List.getElem?_eq_none h1]; exact ⟨by decide, by decide⟩
    have hfI : In (floorR o l key).1 := by
      have hz : ∀ i, In (l.getD i (0, 0)).1 := fun i => by
        rcases Nat.lt_or_ge i l.length with h1 | h1
        · rw [getD_of h1]; exact (hI _ (List.getElem_mem _)).1
        · simp [List.getElem?_eq_none h1]; exact ⟨by decide, by decide⟩
      unfold floorR
      cases hasR o l key
      · simp only [cond_false]
        split
        · exact ⟨by decide, by decide⟩
        · exact hz _
      · exact hz _
    refine ifB_intro (fun hf => ?_) fun hf => ?_
    · refine ifB_intro (fun hg => ?_) fun hg => ?_
      · exact hal E10
      · have hg : isCeilR o l key = true := by simpa using hg
        refine ⟨_, hb10.cell (i := 0) (by rw [add_blk]) rfl, do_call Try.call41 (c_rcompare hx hxI (retS_ret ⟨_, rfl, ifB_t (decide_eq_true (ceil_le hg)) (hal E10)⟩))⟩
    · have hf : isFloorR o l key = true := by simpa using hf
      refine ⟨_, ha10.cell (i := 0) (by rw [add_blk]) rfl, do_call Try.call41 (c_rcompare hfI hx (retS_ret ⟨_, rfl, ifB_t (decide_eq_true (floor_le hm hf)) ?_⟩))⟩
      refine ifB_intro (fun hg => ?_) fun hg => ?_
      · exact hal E10
      · have hg : isCeilR o l key = true := by simpa using hg
        refine ⟨_, hb10.cell (i := 0) (by rw [add_blk]) rfl, do_call Try.call41 (c_rcompare hx hxI (retS_ret ⟨_, rfl, ifB_t (decide_eq_true (ceil_le hg)) (hal E10)⟩))⟩
  refine ⟨⟨fun w' => Ext w9 w', ext_drew _, ?_⟩⟩
  have hA0 : ∀ w', Ext w9 w' → w'.cell? ((blk w5.heap.size).add 0) = some (.int .i64 (floorR o l key).1) := fun w' e => (ha9.ext e).cell (i := 0) (by rw [add_blk]) rfl
  have hA1 : ∀ w', Ext w9 w' → w'.cell? ((blk w5.heap.size).add 1) = some (.int .i64 (floorR o l key).2) := fun w' e => (ha9.ext e).cell (i := 1) (by rw [add_blk]) rfl
  have hB0 : ∀ w', Ext w9 w' → w'.cell? ((blk w7.heap.size).add 0) = some (.int .i64 (ceilR o l key).1) := fun w' e => (hb9.ext e).cell (i := 0) (by rw [add_blk]) rfl
  have hB1 : ∀ w', Ext w9 w' → w'.cell? ((blk w7.heap.size).add 1) = some (.int .i64 (ceilR o l key).2) := fun w' e => (hb9.ext e).cell (i := 1) (by rw [add_blk]) rfl
  have hC : ∀ w', Ext w9 w' → Cs w' q (prs l) := fun w' e => (hl.ext E9).ext e
  -- the last of the three
  have hlast : ifB (isFloorR o l key) (ifB (!hasR o l key) (∃ (x109 : Int), (∀ w, Ext w9 w → World.cell? w ((blk w5.heap.size).add 0) = some (.int .i64 x109)) ∧ (
      ∃ (x110 : Int), (∀ w, Ext w9 w → World.cell? w ((blk w5.heap.size).add 1) = some (.int .i64 x110)) ∧ (
      doIx q n 2 (IntKind.wrap .i64 ((posR o l key : Nat) - 1 : Int)) (fun a111 => ∃ (x112 : Int), (∀ w, Ext w9 w → World.cell? w (a111.add 0) = some (.int .i64 x112)) ∧ (
      ∃ (x113 : Int), (∀ w, Ext w9 w → World.cell? w (a111.add 1) = some (.int .i64 x113)) ∧ (
      [Value.bool (!(((x109 : Int) == x112) && (((x110 : Int) == x113) && true)))] = [.bool false] ∧ Ext w9 w9.drew)))))) ([Value.bool false] = [.bool false] ∧ Ext w9 w9.drew)) ([Value.bool false] = [.bool false] ∧ Ext w9 w9.drew) := by
    refine ifB_intro (fun hf => ?_) fun _ => ⟨rfl, ext_drew _⟩
    refine ifB_intro (fun hh => ?_) fun _ => ⟨rfl, ext_drew _⟩
    have hh : hasR o l key = false := by simpa using hh
    have hp : 0 < posR o l key := by simpa [isFloorR, hh] using hf
    have e : IntKind.wrap .i64 ((posR o l key : Nat) - 1 : Int) = ((posR o l key - 1 : Nat) : Int) := by rw [wrap_of (by omega) (by omega)]; omega
    refine ⟨_, hA0, _, hA1, ix_prC hC (ext_refl _) hn e (by omega) fun a r1 r2 => ⟨_, r1, _, r2, ?_, ext_drew _⟩⟩
    have hfl : floorR o l key = l[posR o l key - 1]'(by omega) := by unfold floorR; rw [hh]; simp only [cond_false]; rw [if_neg (by omega), getD_of (by omega)]
    rw [hfl, hpo]
  have hsecond : ∀ (X : Prop), X → ifB (hasR o l key) (∃ (x104 : Int), (∀ w, Ext w9 w → World.cell? w ((blk w5.heap.size).add 0) = some (.int .i64 x104)) ∧ (∃ (x105 : Int), (∀ w, Ext w9 w → World.cell? w ((blk w5.heap.size).add 1) = some (.int .i64 x105)) ∧ (
      ∃ (x106 : Int), (∀ w, Ext w9 w → World.cell? w ((blk w7.heap.size).add 0) = some (.int .i64 x106)) ∧ (∃ (x107 : Int), (∀ w, Ext w9 w → World.cell? w ((blk w7.heap.size).add 1) = some (.int .i64 x107)) ∧ (
      ifB (!(((x104 : Int) == x106) && (((x105 : Int) == x107) && true))) ([Value.bool true] = [.bool false] ∧ Ext w9 w9.drew) (
      ∃ (x108 : Int), (∀ w, Ext w9 w → World.cell? w ((blk w7.heap.size).add 0) = some (.int .i64 x108)) ∧ (ifB ((x108 : Int) != key) ([Value.bool true] = [.bool false] ∧ Ext w9 w9.drew) X))))))) X := fun X hX => by
    refine ifB_intro (fun hh => ?_) fun _ => hX
    have hlt := hasR_lt hh
    have e1 : floorR o l key = l[posR o l key] := by unfold floorR; rw [hh]; simp only [cond_true]; exact getD_of hlt
    have e2 : ceilR o l key = l[posR o l key] := by unfold ceilR; rw [hm]; simp only [cond_true]; exact getD_of hlt
    refine ⟨_, hA0, _, hA1, _, hB0, _, hB1, ifB_f ?_ ⟨_, hB0, ifB_f ?_ hX⟩⟩
    · rw [e1, e2, hpo]
    · rw [e2, hasR_key hh, hno]
  refine ifB_intro (fun hg => ?_) fun hg => ?_
  · have hp : posR o l key < l.length := by simp [isCeilR] at hg; exact hg.2
    have e2 : ceilR o l key = l[posR o l key] := by unfold ceilR; rw [hm]; simp only [cond_true]; exact getD_of hp
    refine ⟨_, hB0, _, hB1, ix_prC hC (ext_refl _) hn rfl (by omega) fun a r1 r2 => ⟨_, r1, _, r2, ifB_f ?_ (hsecond _ hlast)⟩⟩
    rw [e2, hpo]
  · exact hsecond _ hlast
end Go.Proofs.Ytinkkhcffoikmaa
