/-
  SpanSums.
-/
import Derived.Test.YtbaoihmffobneaaGreatLaw33b
namespace Go.Proofs.YtbaoihmffobneaaGreat
open Go Go.Sh Go.RowKit

section
variable {o lo hi : Int} {p : Option Addr} {w : World} {R : Ending → World → Prop}
theorem c_count_no (hlo : In lo) (hhi : In hi) (hne : wrongE o lo hi ≠ 0) (h : ∀ w', Ext w w' → R (.returned (.tuple #[.int .i64 0, .int .i64 (wrongE o lo hi)])) w') : Calls Tryz.prog 38 #[.int .u8 o, .pointer p, .int .i64 lo, .int .i64 hi] w R := by
  refine sh38_ok _ _ _ _ ?_
  unfold sh38
  refine do_call Tryz.call86 (sh86_ok _ _ _ _ _ _ _ ?_)
  unfold sh86
  exact do_call Tryz.call115 (c_swrong hlo hhi fun w1 e1 => retS_ret ⟨_, rfl, ifB_t (by simp [hne]) (retS_ret ⟨_, _, rfl, h _ e1⟩)⟩)
theorem c_spsum_no (hlo : In lo) (hhi : In hi) (hne : wrongE o lo hi ≠ 0) (h : ∀ w', Ext w w' → R (.returned (.tuple #[.int .i64 0, .int .i64 (wrongE o lo hi)])) w') : Calls Tryz.prog 39 #[.int .u8 o, .pointer p, .int .i64 lo, .int .i64 hi] w R := by
  refine sh39_ok _ _ _ _ ?_
  unfold sh39
  refine do_call Tryz.call87 (sh87_ok _ _ _ _ _ _ _ ?_)
  unfold sh87
  exact do_call Tryz.call115 (c_swrong hlo hhi fun w1 e1 => retS_ret ⟨_, rfl, ifB_t (by simp [hne]) (retS_ret ⟨_, _, rfl, h _ e1⟩)⟩)
end
theorem its4 (t : Tr) : itsC 4 t = itT t := by
  unfold itsC
  have : (itT t).map (itC 4) = (itT t).map id := List.map_congr_left fun x _ => by unfold itC; rw [if_pos rfl]; rfl
  rw [this, List.map_id]
set_option maxHeartbeats 1600000 in
set_option maxRecDepth 20000 in
theorem c_spanSums {o lo hi : Int} {l : List Bd} {q : Option Addr} {n c : Nat} {w : World} {R : Ending → World → Prop} (hlo : In lo) (hhi : In hi) (hl : Cs w q (bds l)) (hn : l.length = n) (hnc : n ≤ c) (hF : ∀ t : BT, l = t.beads → FitB t)
    (h : ∀ w', Ext w w' → R (.returned (.bool true)) w') : Calls Tryz.prog 5 #[.int .u8 o, .slice q n c, .int .i64 lo, .int .i64 hi] w R := by
  refine sh5_ok _ _ _ _ _ _ ?_
  unfold sh5
  intro K8 K53
  have hidle : ∀ w2, Ext w w2 → K53 true w2 := by
    intro w2 e2
    simp -zeta -zetaHave only [K53]
    refine ifB_t rfl ?_
    intro K56
    exact do_call Tryz.call29 (c_nothing33 hlo hhi fun w3 e3 => retS_ret ⟨_, rfl, ifB_t rfl (do_call Tryz.call30 (c_alive33 fun w4 e4 => retS_ret ⟨_, rfl, h w4 ((e2.trans e3).trans e4)⟩))⟩)
  refine do_call Tryz.call35 (c_long hl hn fun b hb => retS_ret ⟨_, rfl, ?_⟩)
  rcases hb with rfl | ⟨rfl, hn4, t, hw, ht⟩
  · exact ifB_t rfl (hidle w (ext_refl w))
  have hfit := hF t ht
  subst ht
  have hts : t.size = n := hn
  have htr := BT.tr_size t
  have hil := itsC_len 4 t.tr
  have hK8 : ∀ w2, Ext w w2 → (wrongE o lo hi = 0 → asc o (itsC 4 t.tr)) → K8 w2 := by
    intro w2 e2 hasc
    simp -zeta -zetaHave only [K8]
    refine do_call Tryz.call15 (c_make t (hl.ext e2) hts hnc hw (by omega) fun p w3 e3 hp => retS_ret ⟨_, rfl, ?_⟩)
    have E3 := e2.trans e3
    by_cases hwr : wrongE o lo hi = 0
    · have ha := hasc hwr
      refine do_call Tryz.call38 (c_count (c := 4) hlo hhi hp ha hfit.inK (by omega) fun w4 e4 => retS_ret ⟨_, _, rfl, ?_⟩)
      refine do_call Tryz.call39 (c_spsum (c := 4) hlo hhi (hp.ext e4) ha hfit.inK fun w5 e5 => retS_ret ⟨_, _, rfl, ?_⟩)
      have E5 := (E3.trans e4).trans e5
      refine do_call Tryz.call33 (c_rwrong33 hlo hhi (retS_ret ⟨_, rfl, ?_⟩))
      rw [hwr]
      refine ifB_f rfl ?_
      refine do_call Tryz.call40 (c_r20items t (hl.ext E5) hts hnc hw (by omega) fun p6 n6 c6 w6 h6 e6 => retS_ret ⟨_, _, _, rfl, ?_⟩)
      rw [← its4] at h6
      have hn6 := ownI_len h6
      refine do_call Tryz.call34 (c_rparts33 hlo hhi (ownI_cs h6) hn6 (by omega) (hfit.inI 4) fun p1 n1 c1 p2 n2 c2 w7 T7 e7 => retS_ret ⟨_, _, _, _, _, _, rfl, ?_⟩)
      have hn1 := ownI_len T7.1
      have hle : (inL o lo hi (itsC 4 t.tr)).length ≤ (itsC 4 t.tr).length := List.length_filter_le _ _
      intro K44
      refine ifB_t rfl (ifB_t rfl (ifB_t (by simp [hn1]) ?_))
      refine do_call Tryz.call41 (c_rsum33 (ownI_cs T7.1) hn1 (by omega) (retS_ret ⟨_, rfl, ifB_t (by simp) ?_⟩))
      exact do_call Tryz.call30 (c_alive33 fun w8 e8 => retS_ret ⟨_, rfl, h w8 (((E5.trans e6).trans e7).trans e8)⟩)
    · refine do_call Tryz.call38 (c_count_no hlo hhi hwr fun w4 e4 => retS_ret ⟨_, _, rfl, ?_⟩)
      refine do_call Tryz.call39 (c_spsum_no hlo hhi hwr fun w5 e5 => retS_ret ⟨_, _, rfl, ?_⟩)
      have E5 := (E3.trans e4).trans e5
      refine do_call Tryz.call33 (c_rwrong33 hlo hhi (retS_ret ⟨_, rfl, ?_⟩))
      refine ifB_t (by simp [hwr]) ?_
      intro K25
      exact ifB_t rfl (ifB_t rfl (ifB_t (by simp) (ifB_t (by simp) (do_call Tryz.call30 (c_alive33 fun w8 e8 => retS_ret ⟨_, rfl, h w8 (E5.trans e8)⟩)))))
  refine ifB_f rfl (do_call Tryz.call36 (c_r2may (retS_ret ⟨_, rfl, ?_⟩)))
  cases ho : isO o with
  | false => exact ifB_f rfl (hK8 w (ext_refl w) fun h0 => absurd (wrongE_ok h0).1 (by simp [ho]))
  | true =>
    refine ifB_t rfl (do_call Tryz.call37 (sh37_ok _ _ _ _ ?_))
    unfold sh37
    refine do_call Tryz.call85 (c_pairs t hl hts hnc hw (by omega) fun p2 n2 c2 w2 h2 e2 => retS_ret ⟨_, _, _, rfl, ?_⟩)
    have hn2 := ownP_len h2
    have hpl := t.tr.pairs_length
    refine do_call Tryz.call84 (c_rises (ownP_cs h2) hn2 (by omega) hfit.inP fun w3 e3 => retS_ret ⟨_, rfl, retS_ret ⟨_, rfl, ?_⟩⟩)
    have E3 := e2.trans e3
    cases hch : chain o t.tr.pairs with
    | false => exact hidle _ E3
    | true =>
      simp -zeta -zetaHave only [K53]
      exact ifB_f rfl (hK8 _ E3 fun _ => asc_of hch)
end Go.Proofs.YtbaoihmffobneaaGreat
