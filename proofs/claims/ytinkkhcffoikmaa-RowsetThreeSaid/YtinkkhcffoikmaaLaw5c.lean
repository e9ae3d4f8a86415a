/-
  RowsetCut: the walk.
-/
import Derived.Test.YtinkkhcffoikmaaLaw5b
namespace Go.Proofs.Ytinkkhcffoikmaa
open Go Go.Sh Go.RowKit

set_option maxRecDepth 100000 in
set_option maxHeartbeats 1600000 in
theorem c_rowsetCut {o lo hi : Int} {a : List Pr} {qa : Option Addr} {na ca : Nat} {w : World} {R : Ending → World → Prop} (ho : 0 ≤ o ∧ o < 256) (hA : Rs w qa na ca a) (hIa : InP a) (hlo : In lo) (hhi : In hi)
    (h : ∀ w', Ext w w' → R (.returned (.bool true)) w') : Calls Try.prog 12 #[.int .u8 o, .slice qa na ca, .int .i64 lo, .int .i64 hi] w R := by
  refine sh12_ok _ _ _ _ _ _ ?_
  unfold sh12
  refine ifB_intro (fun _ => do_call Try.call53 (c_alive5 fun w1 e1 => retS_ret ⟨_, rfl, h _ e1⟩)) fun h1 => ?_
  have h1 : na ≤ 150 := by have := of_decide_eq_false h1; omega
  obtain ⟨o', ho1, ho'⟩ := ord_of ho.1
  rw [ho1]
  refine ⟨by decide, ?_⟩
  refine do_call Try.call54 (c_sorted5 (b := []) (c := []) ho' hA ⟨cs_nil _ _, rfl, Nat.le_refl _⟩ ⟨cs_nil _ _, rfl, Nat.le_refl _⟩ (by omega) (by omega) (by omega) hIa (fun x hx => by cases hx) (fun x hx => by cases hx) fun px nx cx py ny cy pz nz cz w1 hx hy hz lx ly lz e1 => retS_ret ⟨_, _, _, _, _, _, _, _, _, _, rfl, ?_⟩)
  refine ifB_f rfl ?_
  have rx := sortR ho' hIa
  generalize sortL o' 2 a = x at *
  clear hA hy hz ly lz
  have lx' := hx.len
  have hwhole := cut_whole (key := lo) rx.may
  have hrange := cut_range (lo := lo) rx.may rx.inp hhi
  have hmd := mid_drop (key := lo) rx.may
  have hrg := rg_eq (o := o') (lo := lo) (hi := hi) rx.inp
  have hlw := congrArg List.length hwhole
  simp only [List.length_append] at hlw
  refine do_call Try.call66 (c_cut hx.cs hx.len hx.cap (by omega) rx.inp hlo fun pA nA cA pB nB cB w2 g1 g2 g3 g4 g5 g6 e2 => retS_ret ⟨_, _, _, _, _, _, _, _, rfl, ?_⟩)
  have hB : Rs w2 pB nB cB (cutB o' x lo) := ⟨g4, g5, g6⟩
  have hx := hx.ext e2
  have E2 := e1.trans e2
  refine do_call Try.call42 (c_own4 g1 g2 (by omega) fun pw cw w3 ow e3 => retS_ret ⟨_, _, _, rfl, ?_⟩)
  intro K41
  have hK : ∀ (p4 : Option Addr) (n4 c4 : Nat) (w4 : World), Ext w2 w4 → OwnP w4 w2.heap.size p4 n4 c4 (cutA o' x lo ++ midL o' x lo) → K41 p4 n4 c4 w4 := by
    intro p4 n4 c4 w4 e4 h4
    have l4 := ownP_len h4
    simp only [List.length_append] at l4
    refine sl_pr (w := w4) (a := nA) (b := n4) (ownP_cs h4) (ownP_len h4) (row_cap h4) rfl rfl (by omega) (Nat.le_refl _) fun p5 h5 _ => ?_
    rw [List.take_of_length_le (by simp; omega), ← g2, List.drop_left] at h5
    refine do_call Try.call42 (c_own4 h5 (by omega) (by omega) fun p6 c6 w6 h6 e6 => retS_ret ⟨_, _, _, rfl, ?_⟩)
    have E6 := e4.trans e6
    have h46 := row_to h4 e6 (Nat.le_refl _)
    refine do_app elP h46 (m := nB) (hB.ext E6).cs (by rw [prs_length]; omega) prs_one (by simp only [maxLen]; omega) (by omega) E6.size fun p7 c7 w7 h7 g7 => retS_ret ⟨_, _, _, rfl, ?_⟩
    rw [← prs_append, hwhole] at h7
    have e7 : Ext w2 w7 := ext_own h46 E6 g7 (Nat.le_refl _)
    have hsz := (World.ownsRow.lt h4)
    have h67 : OwnP w7 w4.heap.size p6 (n4 - nA) c6 (midL o' x lo) := World.ownsRow.kept h6 g7 (by
      cases hq : (Value.slice p6 (n4 - nA) c6).ownBlock with
      | none => exact .inl rfl
      | some k =>
        right; intro e'
        have k1 := (World.ownsRow.lt h6 k hq).1
        have k2 := (hsz k e'.symm).2
        omega)
    have hx7 := hx.ext e7
    refine do_call Try.call50 (s_same (Rs.of h7) hx7 (by omega) rfl fun w8 e8 => retS_ret ⟨_, rfl, ifB_f rfl ?_⟩)
    have E8 := e7.trans e8
    refine do_app elP (row_to h67 e8 (Nat.le_refl _)) (m := nB) (hB.ext E8).cs (by rw [prs_length]; omega) prs_one (by simp only [maxLen]; omega) (by omega) (by have := e6.size; have := g7.size; have := e8.size; omega) fun p9 c9 w9 h9 g9 => retS_ret ⟨_, _, _, rfl, ?_⟩
    have e9 : Ext w2 w9 := ext_own (row_to h67 e8 (Nat.le_refl _)) E8 g9 e4.size
    rw [← prs_append] at h9
    have hcap9 := row_cap h9
    have hr9 : Rs w9 p9 (n4 - nA + nB) c9 (midL o' x lo ++ cutB o' x lo) := ⟨Cs.of_row h9, by simp; omega, row_cap h9⟩
    rw [hmd] at hr9
    rw [hmd] at hrange
    have hdr := drop_row rx.may (posR o' x lo)
    have hId : InP (x.drop (posR o' x lo)) := fun z hz => rx.inp z (List.mem_of_mem_drop hz)
    have lrange := congrArg List.length hrange
    simp only [List.length_append] at lrange
    have lr9 := hr9.len
    refine do_call Try.call66 (c_cut hr9.cs hr9.len hr9.cap (by omega) hId hhi fun pC nC cC pD nD cD w10 k1 k2 k3 k4 k5 k6 e10 => retS_ret ⟨_, _, _, _, _, _, _, _, rfl, ?_⟩)
    intro K77
    have hK77 : ∀ (pE : Option Addr) (nE cE : Nat) (w11 : World), Ext w10 w11 → Rs w11 pE nE cE (r5rg o' x lo hi) → K77 pE nE cE w11 := by
      intro pE nE cE w11 e11 hE
      have E11 := e9.trans (e10.trans e11)
      refine do_call Try.call64 (c_range hlo hhi (hx.ext E11).cs hx.len hx.cap (by omega) rx.inp fun pF nF cF w12 h12 e12 => retS_ret ⟨_, _, _, _, rfl, ?_⟩)
      rw [hrg.1] at h12
      rw [hrg.2, rx.may]
      refine ifB_t rfl ?_
      have l12 := ownP_len h12
      have lfm : (r5rg o' x lo hi).length ≤ x.length := by unfold r5rg; rw [rx.may]; exact fm_len _ _
      refine do_call Try.call50 (s_same (Rs.of h12) (hE.ext e12) (by omega) rfl fun w13 e13 => retS_ret ⟨_, rfl, ifB_t rfl ?_⟩)
      exact do_call Try.call53 (c_alive5 fun wE eE => retS_ret ⟨_, rfl, h _ ((((E2.trans E11).trans e12).trans e13).trans eE)⟩)
    have hC : Rs w10 pC nC cC (cutA o' (x.drop (posR o' x lo)) hi) := ⟨k1, k2, k3⟩
    have lC : (cutA o' (x.drop (posR o' x lo)) hi).length ≤ x.length := by unfold cutA; rw [hdr, cond_true, List.length_take, List.length_drop]; omega
    refine ifB_intro (fun hh => ?_) fun hh => ?_
    · refine do_call Try.call42 (c_own4 k1 k2 (by omega) fun pG cG w11 oG e11 => retS_ret ⟨_, _, _, rfl, ?_⟩)
      refine do_app1 oG (by omega) e11.size ?_
      intro q2 c2 w12 h12 hx12 g12 _
      refine ⟨_, _, _, rfl, hK77 _ _ _ _ (hx12 _ e11 (Nat.le_refl _)) ?_⟩
      have : midL o' (x.drop (posR o' x lo)) hi = [(hi, getR o' (x.drop (posR o' x lo)) hi)] := by unfold midL; rw [if_pos hh]
      rw [this] at hrange
      rw [← hrange]
      exact Rs.of h12
    · refine hK77 _ _ _ _ (ext_refl _) ?_
      have : midL o' (x.drop (posR o' x lo)) hi = [] := by unfold midL; rw [if_neg (by rw [hh]; simp)]
      rw [this, List.append_nil] at hrange
      rw [← hrange]; exact hC
  refine ifB_intro (fun hh => ?_) fun hh => ?_
  · have hmid : midL o' x lo = [(lo, getR o' x lo)] := by unfold midL; rw [if_pos hh]
    refine do_app1 ow (by omega) e3.size ?_
    intro q2 c2 w12 h12 hx12 g12 _
    exact ⟨_, _, _, rfl, hK _ _ _ _ (hx12 _ e3 (Nat.le_refl _)) (by rw [hmid]; exact h12)⟩
  · have hmid : midL o' x lo = [] := by unfold midL; rw [if_neg (by rw [hh]; simp)]
    exact hK _ _ _ _ e3 (by rw [hmid, List.append_nil]; exact ow)
end Go.Proofs.Ytinkkhcffoikmaa
