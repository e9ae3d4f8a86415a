/-
  RowsetThree, RowsetTells, RowsetCut: the walks.
-/
import Derived.Test.YtinkkhcffoikmaaLaw5
import Derived.Test.YtinkkhcffoikmaaL10
import Derived.Test.YtinkkhcffoikmaaL11
import Derived.Test.YtinkkhcffoikmaaL12
namespace Go.Proofs.Ytinkkhcffoikmaa
open Go Go.Sh Go.RowKit

set_option maxRecDepth 100000 in
set_option maxHeartbeats 1600000 in
theorem c_rowsetThree {o p : Int} {a b c : List Pr} {qa qb qc : Option Addr} {na ca nb cb nc cc : Nat} {w : World} {R : Ending → World → Prop} (ho : 0 ≤ o ∧ o < 256) (hp : 0 ≤ p ∧ p < 256) (hA : Rs w qa na ca a) (hB : Rs w qb nb cb b) (hC : Rs w qc nc cc c) (hIa : InP a) (hIb : InP b) (hIc : InP c)
    (h : ∀ w', Ext w w' → R (.returned (.bool true)) w') : Calls Try.prog 10 #[.int .u8 o, .int .u8 p, .slice qa na ca, .slice qb nb cb, .slice qc nc cc] w R := by
  refine sh10_ok _ _ _ _ _ _ _ _ _ _ _ ?_
  unfold sh10
  refine ifB_intro (fun _ => do_call Try.call53 (c_alive5 fun w1 e1 => retS_ret ⟨_, rfl, h _ e1⟩)) fun h1 => ?_
  refine ifB_intro (fun _ => do_call Try.call53 (c_alive5 fun w1 e1 => retS_ret ⟨_, rfl, h _ e1⟩)) fun h2 => ?_
  refine ifB_intro (fun _ => do_call Try.call53 (c_alive5 fun w1 e1 => retS_ret ⟨_, rfl, h _ e1⟩)) fun h3 => ?_
  have h1 : na ≤ 100 := by have := of_decide_eq_false h1; omega
  have h2 : nb ≤ 100 := by have := of_decide_eq_false h2; omega
  have h3 : nc ≤ 100 := by have := of_decide_eq_false h3; omega
  obtain ⟨o', ho1, ho'⟩ := ord_of ho.1
  obtain ⟨p', hp1, hp'⟩ := pol_of hp.1
  rw [ho1, hp1]
  refine ⟨by decide, by decide, ?_⟩
  refine do_call Try.call54 (c_sorted5 ho' hA hB hC (by omega) (by omega) (by omega) hIa hIb hIc fun px nx cx py ny cy pz nz cz w1 hx hy hz lx ly lz e1 => retS_ret ⟨_, _, _, _, _, _, _, _, _, _, rfl, ?_⟩)
  refine ifB_f rfl ?_
  have rx := sortR ho' hIa
  have ry := sortR ho' hIb
  have rz := sortR ho' hIc
  generalize sortL o' 2 a = x at *
  generalize sortL o' 2 b = y at *
  generalize sortL o' 2 c = z at *
  clear hA hB hC
  have hT := three (p := p') hp' rx.may ry.may rz.may rx.inp ry.inp rz.inp
  have lx' := hx.len
  have ly' := hy.len
  have lz' := hz.len
  have k1 := someL_len o' p' wU x y
  have k2 := someL_len o' p' wU y z
  have k3 := someL_len o' p' wM x y
  have k4 := someL_len o' p' wM y z
  have k5 := someL_len o' p' wU (someL o' p' wU x y) z
  have k6 := someL_len o' p' wM (someL o' p' wM x y) z
  have k7 := someL_len o' 3 wU x y
  refine do_call Try.call55 (s_un hx hy (by omega) rx ry hp' fun pu nu cu w2 gu e2 => retS_ret ⟨_, _, _, _, rfl, ?_⟩)
  have lu := gu.len
  refine do_call Try.call55 (s_un gu (hz.ext e2) (by omega) (rx.some ry) rz hp' fun pU nU cU w3 gU e3 => retS_ret ⟨_, _, _, _, rfl, ?_⟩)
  have E3 := e2.trans e3
  refine do_call Try.call55 (s_un (hy.ext E3) (hz.ext E3) (by omega) ry rz hp' fun pv nv cv w4 gv e4 => retS_ret ⟨_, _, _, _, rfl, ?_⟩)
  have lv := gv.len
  have E4 := E3.trans e4
  refine do_call Try.call55 (s_un (hx.ext E4) gv (by omega) rx (ry.some rz) hp' fun pV nV cV w5 gV e5 => retS_ret ⟨_, _, _, _, rfl, ?_⟩)
  have E5 := E4.trans e5
  refine do_call Try.call56 (s_me (hx.ext E5) (hy.ext E5) (by omega) rx ry hp' fun pm nm cm w6 gm e6 => retS_ret ⟨_, _, _, _, rfl, ?_⟩)
  have lm := gm.len
  have E6 := E5.trans e6
  refine do_call Try.call56 (s_me gm (hz.ext E6) (by omega) (rx.some ry) rz hp' fun pM nM cM w7 gM e7 => retS_ret ⟨_, _, _, _, rfl, ?_⟩)
  have E7 := E6.trans e7
  refine do_call Try.call56 (s_me (hy.ext E7) (hz.ext E7) (by omega) ry rz hp' fun pn nn cn w8 gn e8 => retS_ret ⟨_, _, _, _, rfl, ?_⟩)
  have ln := gn.len
  have E8 := E7.trans e8
  refine do_call Try.call56 (s_me (hx.ext E8) gn (by omega) rx (ry.some rz) hp' fun pN nN cN w9 gN e9 => retS_ret ⟨_, _, _, _, rfl, ?_⟩)
  have E9 := E8.trans e9
  refine do_call Try.call55 (s_un (hx.ext E9) (hy.ext E9) (by omega) rx ry may3 fun ps ns cs wa gs ea => retS_ret ⟨_, _, _, _, rfl, ?_⟩)
  have Ea := E9.trans ea
  refine do_call Try.call55 (s_un (hy.ext Ea) (hx.ext Ea) (by omega) ry rx may3 fun pt nt ct wb gt eb => retS_ret ⟨_, _, _, _, rfl, ?_⟩)
  have Eb := Ea.trans eb
  refine do_call Try.call42 (c_own4 (hx.ext Eb).cs hx.len (by omega) fun po co wc oo ec => retS_ret ⟨_, _, _, rfl, ?_⟩)
  have Ec := Eb.trans ec
  refine do_app elP oo (m := ny) (hy.ext Ec).cs (by rw [prs_length]; omega) prs_one (by simp only [maxLen]; omega) (by omega) ec.size fun pd cd wd od gd => retS_ret ⟨_, _, _, rfl, ?_⟩
  have ed : Ext wb wd := ec.grown gd (fun k hk => (World.ownsRow.lt oo k hk).1)
  refine do_app elP od (m := nz) ((hz.ext Eb).ext ed).cs (by rw [prs_length]; omega) prs_one (by simp only [maxLen]; omega) (by omega) ed.size fun pe ce we oe ge => retS_ret ⟨_, _, _, rfl, ?_⟩
  have ee : Ext wb we := ed.grown ge (fun k hk => (World.ownsRow.lt od k hk).1)
  rw [← prs_append, ← prs_append] at oe
  have hIxyz : InP ((x ++ y) ++ z) := fun e he => by
    rcases List.mem_append.1 he with he | he
    · rcases List.mem_append.1 he with he | he
      · exact rx.inp e he
      · exact ry.inp e he
    · exact rz.inp e he
  have hxyz : Rs we pe (nx + ny + nz) ce ((x ++ y) ++ z) := ⟨Cs.of_row oe, by simp; omega, row_cap oe⟩
  refine do_call Try.call59 (s_sort hxyz (by omega) hIxyz ho' hp' fun pk nk ck wf gk lk ef => retS_ret ⟨_, _, _, _, rfl, ?_⟩)
  have Ef := ee.trans ef
  refine ifB_f rfl (ifB_f rfl (ifB_f rfl (ifB_f rfl (ifB_f rfl (ifB_f rfl (ifB_f rfl ?_))))))
  have gU := gU.ext ((e4.trans e5).trans (e6.trans (e7.trans (e8.trans (e9.trans (ea.trans (eb.trans Ef)))))))
  have gV := gV.ext (e6.trans (e7.trans (e8.trans (e9.trans (ea.trans (eb.trans Ef))))))
  have gM := gM.ext (e8.trans (e9.trans (ea.trans (eb.trans Ef))))
  have gN := gN.ext (ea.trans (eb.trans Ef))
  have gs := gs.ext (eb.trans Ef)
  have gt := gt.ext Ef
  have lU := gU.len
  have lM := gM.len
  have ls := gs.len
  have lk' := gk.len
  have EE := (e1.trans Eb).trans Ef
  clear e1 e2 e3 e4 e5 e6 e7 e8 e9 ea eb ec ed ee ef E3 E4 E5 E6 E7 E8 E9 Ea Eb Ec Ef
  refine do_call Try.call50 (s_same gU gV (by omega) hT.1 fun wA eA => retS_ret ⟨_, rfl, ifB_t rfl ?_⟩)
  refine do_call Try.call50 (s_same (gM.ext eA) (gN.ext eA) (by omega) hT.2.1 fun wB eB => retS_ret ⟨_, rfl, ifB_t rfl ?_⟩)
  have EB := eA.trans eB
  refine do_call Try.call50 (s_same (gs.ext EB) (gt.ext EB) (by omega) hT.2.2.1 fun wC eC => retS_ret ⟨_, rfl, ifB_t rfl ?_⟩)
  have EC := EB.trans eC
  refine do_call Try.call50 (s_same (gk.ext EC) (gU.ext EC) (by omega) hT.2.2.2 fun wD eD => retS_ret ⟨_, rfl, ifB_t rfl ?_⟩)
  exact do_call Try.call53 (c_alive5 fun wE eE => retS_ret ⟨_, rfl, h _ (((EE.trans EC).trans eD).trans eE)⟩)
theorem bne_self' (x : Int) : (x != x) = false := by simp
theorem beq_self' (x : Int) : (x == x) = true := by simp
theorem setE_sort (o p : Int) (a b : List Pr) : setE o p a b = cond (mayR o a && mayR o b && may p) 0 2 := rfl
theorem r5un_len {o p : Int} {a b : List Pr} (hIa : InP a) (hIb : InP b) : (r5un o p a b).length ≤ a.length + b.length := by rw [← un_eq hIa hIb]; exact setL_len _ _ _ _ _
set_option maxRecDepth 100000 in
set_option maxHeartbeats 1600000 in
theorem c_rowsetTells {o p lo hi : Int} {a b : List Pr} {qa qb : Option Addr} {na ca nb cb : Nat} {w : World} {R : Ending → World → Prop} (hA : Rs w qa na ca a) (hB : Rs w qb nb cb b) (hIa : InP a) (hIb : InP b) (hlo : In lo) (hhi : In hi)
    (h : ∀ w', Ext w w' → R (.returned (.bool true)) w') : Calls Try.prog 11 #[.int .u8 o, .int .u8 p, .slice qa na ca, .slice qb nb cb, .int .i64 lo, .int .i64 hi] w R := by
  refine sh11_ok _ _ _ _ _ _ _ _ _ _ ?_
  unfold sh11
  refine ifB_intro (fun _ => do_call Try.call53 (c_alive5 fun w1 e1 => retS_ret ⟨_, rfl, h _ e1⟩)) fun h1 => ?_
  refine ifB_intro (fun _ => do_call Try.call53 (c_alive5 fun w1 e1 => retS_ret ⟨_, rfl, h _ e1⟩)) fun h2 => ?_
  have h1 : na ≤ 150 := by have := of_decide_eq_false h1; omega
  have h2 : nb ≤ 150 := by have := of_decide_eq_false h2; omega
  have la := hA.len
  have lb := hB.len
  refine do_call Try.call42 (c_own4 hA.cs la (by omega) fun px cx w1 ox e1 => retS_ret ⟨_, _, _, rfl, ?_⟩)
  refine do_call Try.call42 (c_own4 (hB.ext e1).cs lb (by omega) fun py cy w2 oy e2 => retS_ret ⟨_, _, _, rfl, ?_⟩)
  have hX := (Rs.of ox).ext e2
  have hY := Rs.of oy
  have E2 := e1.trans e2
  have hA := hA.ext E2
  have hB := hB.ext E2
  clear ox oy
  -- sorted
  refine do_call Try.call59 (c_rsort hX.cs la (by omega) hIa fun p1 n1 c1 w3 g1 e3 => retS_ret ⟨_, _, _, _, rfl, ?_⟩)
  refine do_call Try.call23 (c_r5sort (hA.ext e3).cs la (by omega) hIa fun p2 n2 c2 w4 g2 e4 => retS_ret ⟨_, _, _, _, rfl, ?_⟩)
  have E4 := e3.trans e4
  have b1 : n1 ≤ 1000000 := by
    have := ownP_len g1
    cases hq : (isO o && may p) <;> rw [hq] at this
    · simp at this; omega
    · have hq' : isO o = true ∧ may p = true := by simpa using hq
      have := (sortL_may (p := p) hq'.1 hq'.2 hIa).2.2
      simp only [cond_true] at *; omega
  refine do_call Try.call50 (s_same ((Rs.of g1).ext e4) (Rs.of g2) b1 rfl fun w5 e5 => retS_ret ⟨_, rfl, ifB_f rfl (ifB_f (bne_self' _) ?_)⟩)
  have E5 := E4.trans e5
  clear g1 g2
  -- together
  refine do_call Try.call55 (c_un (hX.ext E5).cs la hX.cap (hY.ext E5).cs lb hY.cap (by omega) hIa hIb fun p1 n1 c1 w6 g1 e6 => retS_ret ⟨_, _, _, _, rfl, ?_⟩)
  have E6 := E5.trans e6
  refine do_call Try.call60 (c_r5un (hA.ext E6).cs la (by omega) hIa (hB.ext E6).cs lb (by omega) hIb fun p2 n2 c2 w7 g2 e7 => retS_ret ⟨_, _, _, _, rfl, ?_⟩)
  have E7 := E6.trans e7
  have b1 : n1 ≤ 1000000 := by have := ownP_len g1; have := setL_len o p wU a b; omega
  refine do_call Try.call50 (s_same ((Rs.of g1).ext e7) (Rs.of g2) b1 (un_eq hIa hIb) fun w8 e8 => retS_ret ⟨_, rfl, ifB_f rfl (ifB_f (bne_self' _) ?_)⟩)
  have E8 := E7.trans e8
  clear g1 g2
  -- both
  refine do_call Try.call56 (c_me (hX.ext E8).cs la hX.cap (hY.ext E8).cs lb hY.cap (by omega) hIa hIb fun p1 n1 c1 w9 g1 e9 => retS_ret ⟨_, _, _, _, rfl, ?_⟩)
  have E9 := E8.trans e9
  refine do_call Try.call61 (c_r5me (hA.ext E9).cs la (by omega) hIa (hB.ext E9).cs lb (by omega) hIb fun p2 n2 c2 w10 g2 e10 => retS_ret ⟨_, _, _, _, rfl, ?_⟩)
  have E10 := E9.trans e10
  have b1 : n1 ≤ 1000000 := by have := ownP_len g1; have := setL_len o p wM a b; omega
  refine do_call Try.call50 (s_same ((Rs.of g1).ext e10) (Rs.of g2) b1 (me_eq hIa hIb) fun w11 e11 => retS_ret ⟨_, rfl, ifB_f rfl (ifB_f (bne_self' _) ?_)⟩)
  have E11 := E10.trans e11
  clear g1 g2
  -- the one without the other one
  refine do_call Try.call57 (c_le (hX.ext E11).cs la hX.cap (hY.ext E11).cs lb hY.cap (by omega) hIa hIb fun p1 n1 c1 w12 g1 e12 => retS_ret ⟨_, _, _, _, rfl, ?_⟩)
  have E12 := E11.trans e12
  refine do_call Try.call62 (c_r5le (hA.ext E12).cs la (by omega) hIa (hB.ext E12).cs lb (by omega) hIb fun p2 n2 c2 w13 g2 e13 => retS_ret ⟨_, _, _, _, rfl, ?_⟩)
  have E13 := E12.trans e13
  have b1 : n1 ≤ 1000000 := by have := ownP_len g1; have := setL_len o 1 wL a b; omega
  refine do_call Try.call50 (s_same ((Rs.of g1).ext e13) (Rs.of g2) b1 (le_eq hIa hIb) fun w14 e14 => retS_ret ⟨_, rfl, ifB_f rfl (ifB_f (bne_self' _) ?_)⟩)
  have E14 := E13.trans e14
  clear g1 g2
  -- apart
  refine do_call Try.call58 (c_ap (hX.ext E14).cs la hX.cap (hY.ext E14).cs lb hY.cap (by omega) hIa hIb fun p1 n1 c1 w15 g1 e15 => retS_ret ⟨_, _, _, _, rfl, ?_⟩)
  have E15 := E14.trans e15
  refine do_call Try.call63 (c_r5ap (hA.ext E15).cs la (by omega) hIa (hB.ext E15).cs lb (by omega) hIb fun p2 n2 c2 w16 g2 e16 => retS_ret ⟨_, _, _, _, rfl, ?_⟩)
  have E16 := E15.trans e16
  have b1 : n1 ≤ 1000000 := by have := ownP_len g1; have := setL_len o 1 wA a b; omega
  refine do_call Try.call50 (s_same ((Rs.of g1).ext e16) (Rs.of g2) b1 (ap_eq hIa hIb) fun w17 e17 => retS_ret ⟨_, rfl, ifB_f rfl (ifB_f (bne_self' _) ?_)⟩)
  have E17 := E16.trans e17
  clear g1 g2
  -- between
  have hrg := rg_eq (o := o) (lo := lo) (hi := hi) hIa
  refine do_call Try.call64 (c_range hlo hhi (hX.ext E17).cs la hX.cap (by omega) hIa fun p1 n1 c1 w18 g1 e18 => retS_ret ⟨_, _, _, _, rfl, ?_⟩)
  have E18 := E17.trans e18
  refine do_call Try.call65 (c_r5rg hlo hhi (hA.ext E18).cs la (by omega) hIa fun p2 n2 c2 w19 g2 e19 => retS_ret ⟨_, _, _, _, rfl, ?_⟩)
  have E19 := E18.trans e19
  have b1 : n1 ≤ 1000000 := by have := ownP_len g1; have := setL_len o 1 (wR o lo hi) a []; simp at this; omega
  -- cut
  refine do_call Try.call66 (c_cut (hX.ext E19).cs la hX.cap (by omega) hIa hlo fun p3 n3 c3 p4 n4 c4 w20 k1 k2 k3 k4 k5 k6 e20 => retS_ret ⟨_, _, _, _, _, _, _, _, rfl, ?_⟩)
  have E20 := E19.trans e20
  refine do_call Try.call67 (c_r5cut hlo (hA.ext E20).cs la (by omega) hIa fun p5 n5 c5 p6 n6 c6 w21 g3 e21 => retS_ret ⟨_, _, _, _, _, _, _, _, rfl, ?_⟩)
  have E21 := E20.trans e21
  have eA := ca_eq (o := o) (a := a) (key := lo)
  have eB := cb_eq (o := o) (a := a) (key := lo) hIa hlo
  have l3 : (cutA o a lo).length ≤ a.length := by
    unfold cutA; cases mayR o a
    · exact Nat.zero_le _
    · rw [cond_true, List.length_take]; omega
  have l4 : (cutB o a lo).length ≤ a.length := by
    unfold cutB; cases mayR o a
    · exact Nat.zero_le _
    · rw [cond_true, List.length_drop]; omega
  refine do_call Try.call50 (s_same ((Rs.of g1).ext ((e19.trans e20).trans e21)) ((Rs.of g2).ext (e20.trans e21)) b1 hrg.1 fun w22 e22 => retS_ret ⟨_, rfl, ifB_t rfl ?_⟩)
  rw [hrg.2]
  refine ifB_t (beq_self' _) ?_
  have hk : Rs w20 p3 n3 c3 (cutA o a lo) := ⟨k1, k2, k3⟩
  have hk' : Rs w20 p4 n4 c4 (cutB o a lo) := ⟨k4, k5, k6⟩
  refine do_call Try.call50 (s_same (hk.ext (e21.trans e22)) ((Rs.of g3.1).ext e22) (by omega) eA fun w23 e23 => retS_ret ⟨_, rfl, ifB_t rfl (ifB_t (beq_self' _) (ifB_t (by simp) ?_))⟩)
  have E23 := e22.trans e23
  refine do_call Try.call50 (s_same (hk'.ext (e21.trans E23)) ((Rs.of g3.2.1).ext E23) (by omega) eB fun w24 e24 => retS_ret ⟨_, rfl, ifB_t rfl ?_⟩)
  have E24 := E21.trans (E23.trans e24)
  refine do_call Try.call50 (s_same (hX.ext E24) (hA.ext E24) (by omega) rfl fun w25 e25 => retS_ret ⟨_, rfl, ifB_t rfl ?_⟩)
  have E25 := E24.trans e25
  refine do_call Try.call50 (s_same (hY.ext E25) (hB.ext E25) (by omega) rfl fun w26 e26 => retS_ret ⟨_, rfl, ifB_t rfl ?_⟩)
  exact do_call Try.call53 (c_alive5 fun wE eE => retS_ret ⟨_, rfl, h _ (((E2.trans E25).trans e26).trans eE)⟩)
end Go.Proofs.Ytinkkhcffoikmaa
