/-
  SpanTells, SpanSums.
-/
import Derived.Test.YtbaoihmffobneaaGreatLaw33
import Derived.Test.YtbaoihmffobneaaGreatLaw28
import Derived.Test.YtbaoihmffobneaaGreatL4
import Derived.Test.YtbaoihmffobneaaGreatL5
namespace Go.Proofs.YtbaoihmffobneaaGreat
open Go Go.Sh Go.RowKit

def al33 (m : Nat) : List It := (List.range m).map fun (i : Nat) => (((i : Int) + 1, 10 * ((i : Int) + 1), 0) : It)
set_option maxHeartbeats 1600000 in
set_option maxRecDepth 20000 in
theorem c_alive33 {w : World} {R : Ending → World → Prop} (h : ∀ w', Ext w w' → R (.returned (.bool true)) w') : Calls Tryz.prog 30 #[] w R := by
  refine sh30_ok ?_
  unfold sh30
  refine do_call Tryz.call9 (c_l22of (fun h0 => by cases h0) fun _ b w1 e1 hbw hs1 => retS_ret ⟨_, _, rfl, ifB_f rfl ?_⟩)
  have hb : w.heap.size ≤ b := by omega
  refine ⟨fun vs w' => ∃ (m : Nat) (p : Option Addr) (T : Tr), vs = [.pointer p, .int .i64 ((m : Int) + 1)] ∧ m ≤ 4 ∧ Ext w w' ∧ IsSch 1 b w' ∧ IsN w' p T ∧ OkM 1 T ∧ itsC 1 T = al33 m, fun vs _ => 5 - (intOf (vs.getD 1 undef)).toNat,
    ⟨0, none, .nil, rfl, by omega, e1, hs1, rfl, .nil rfl, rfl⟩, ?_⟩
  rintro t_ k_ _ w2 ⟨m, p, T, hv, hm, E, hs, hT, ok, hit⟩
  simp only [List.cons.injEq, Value.pointer.injEq, Value.int.injEq, true_and, and_true] at hv
  obtain ⟨rfl, rfl⟩ := hv
  have hsz : T.size = m := by rw [← itsC_len 1 T, hit]; simp [al33]
  refine ifB_intro (fun hlt => ?_) fun hge => ?_
  · have hlt : m < 4 := by have := of_decide_eq_true hlt; omega
    have hw10 : IntKind.wrap .i64 (10 * ((m : Int) + 1)) = 10 * ((m : Int) + 1) := wrap_of (by omega) (by omega)
    rw [hw10]
    refine do_call Tryz.call62 (c_sjoin hs hT (r := .nil) rfl ok.1 (.nil rfl) (by simp only [Tr.size, BIG]; omega) fun q w3 g3 hs3 h3 => retS_ret ⟨_, rfl, ?_⟩)
    have j := joinC_ok ok.1 (.nil (c := 1) rfl) (((m : Int) + 1, 10 * ((m : Int) + 1), 0) : It)
    refine ⟨⟨m + 1, q, _, ?_, by omega, Ext.gs E g3 hb, hs3, h3, j.1, ?_⟩, ?_⟩
    · rw [wrap_of (by omega) (by omega)]; simp
    · rw [j.2, hit]
      simp [al33, List.range_succ, itC, itsC_nil]
    · rw [wrap_of (by omega) (by omega)]; simp [intOf]; omega
  · have hge : m = 4 := by have := of_decide_eq_false hge; omega
    subst hge
    have hit : itsC 1 T = [(1, 10, 0), (2, 20, 0), (3, 30, 0), (4, 40, 0)] := hit
    have hU : OkU 1 1 T := ⟨ok, by rw [hit]; decide, (inK_its (c := 1)).2 (by rw [hit]; intro x hx; simp at hx; rcases hx with rfl | rfl | rfl | rfl <;> exact ⟨by decide, by decide⟩)⟩
    have i2 : In 2 := ⟨by decide, by decide⟩
    have i3 : In 3 := ⟨by decide, by decide⟩
    have i5 : In 5 := ⟨by decide, by decide⟩
    have i9 : In 9 := ⟨by decide, by decide⟩
    have w23 : wrongE 1 2 3 = 0 := by decide
    have w32 : wrongE 1 3 2 = 330 := by decide
    have w59 : wrongE 1 5 9 = 0 := by decide
    have n23 : inL 1 2 3 (itsC 1 T) = [(2, 20, 0), (3, 30, 0)] := by rw [hit]; decide
    have n59 : inL 1 5 9 (itsC 1 T) = [] := by rw [hit]; decide
    refine do_call Tryz.call38 (c_count (c := 1) i2 i3 hT hU.asc hU.k (by omega) fun w3 e3 => retS_ret ⟨_, _, rfl, ?_⟩)
    refine do_call Tryz.call39 (c_spsum (c := 1) i2 i3 (hT.ext e3) hU.asc hU.k fun w4 e4 => retS_ret ⟨_, _, rfl, ?_⟩)
    refine do_call Tryz.call38 (c_count (c := 1) i3 i2 (hT.ext (e3.trans e4)) hU.asc hU.k (by omega) fun w5 e5 => retS_ret ⟨_, _, rfl, ?_⟩)
    have e35 := (e3.trans e4).trans e5
    refine do_call Tryz.call38 (c_count (c := 1) i5 i9 (hT.ext e35) hU.asc hU.k (by omega) fun w6 e6 => retS_ret ⟨_, _, rfl, ?_⟩)
    have e36 := e35.trans e6
    refine do_call Tryz.call31 (c_range w23 i2 i3 (hs.ext e36) (hT.ext e36) hU (by simp only [BIG]; omega) fun q w7 g7 hs7 h7 => retS_ret ⟨_, _, rfl, ?_⟩)
    have E7 := Ext.gs (E.trans e36) g7 hb
    intro K36
    rw [w23, w32, w59, n23, n59]
    refine ifB_t rfl (ifB_t rfl (ifB_t (by decide) (ifB_t rfl (ifB_t rfl (ifB_t rfl (ifB_t rfl ?_))))))
    have hr := (rangeC_ok (lo := 2) (hi := 3) hU).2
    have sr : (rangeC 1 1 2 3 T).size = 2 := by rw [← itsC_len 1, hr, n23]; rfl
    refine do_call Tryz.call80 (c_tsize h7 fun w8 e8 => retS_ret ⟨_, rfl, ?_⟩)
    refine ifB_t (by rw [sr]; rfl) (h _ (E7.trans e8))
set_option maxHeartbeats 1600000 in
set_option maxRecDepth 20000 in
theorem c_nothing33 {o lo hi : Int} (hlo : In lo) (hhi : In hi) {w : World} {R : Ending → World → Prop} (h : ∀ w', Ext w w' → R (.returned (.bool true)) w') : Calls Tryz.prog 29 #[.int .u8 o, .int .i64 lo, .int .i64 hi] w R := by
  refine sh29_ok _ _ _ ?_
  unfold sh29
  refine do_call Tryz.call9 (c_l22of (fun h0 => by cases h0) fun _ b w1 e1 hbw hs1 => retS_ret ⟨_, _, rfl, ?_⟩)
  have hb : w.heap.size ≤ b := by omega
  have i1 : In 1 := ⟨by decide, by decide⟩
  refine do_call Tryz.call60 (c_new (l := .nil) (r := .nil) (k := lo) rfl rfl (by decide) fun bn w2 e2 h2 _ => retS_ret ⟨_, rfl, ?_⟩)
  have hU : OkU 4 o (.node .nil lo 1 1 .nil) := ⟨⟨.inr (.inr (.inr ⟨rfl, trivial, trivial, rfl, rfl⟩)), fun q => absurd q (by decide)⟩, by show List.Pairwise _ [lo]; simp, trivial, hlo, trivial⟩
  have hsz : (Tr.node .nil lo 1 1 .nil).size = 1 := rfl
  refine do_call Tryz.call31 (c_range_no i1 i1 (.inl rfl) fun w3 e3 => retS_ret ⟨_, _, rfl, ?_⟩)
  refine do_call Tryz.call32 (c_without_no i1 i1 (.inl rfl) fun w4 e4 => retS_ret ⟨_, _, rfl, ?_⟩)
  have e24 := e3.trans e4
  have hs4 := hs1.ext (e2.trans e24)
  have h4 := h2.ext e24
  have E4 := e1.trans (e2.trans e24)
  intro K21
  refine ifB_f rfl (ifB_f rfl (ifB_f rfl ?_))
  simp -zeta -zetaHave only [K21]
  refine ifB_f rfl ?_
  refine do_call Tryz.call33 (c_rwrong33 hlo hhi (retS_ret ⟨_, rfl, ?_⟩))
  by_cases hw : wrongE o lo hi = 0
  · refine do_call Tryz.call31 (c_range hw hlo hhi hs4 h4 hU (by rw [hsz]; decide) fun q5 w5 g5 hs5 _ => retS_ret ⟨_, _, rfl, ?_⟩)
    have h5 := h4.gs hs4 g5
    refine do_call Tryz.call32 (c_without hw hlo hhi hs5 h5 hU (by rw [hsz]; decide) fun q6 w6 g6 hs6 _ => retS_ret ⟨_, _, rfl, ?_⟩)
    have h6 := h5.gs hs5 g6
    have E6 := Ext.gs E4 (g5.trans g6) hb
    refine do_call Tryz.call38 (c_count (c := 4) hlo hhi h6 hU.asc hU.k (by rw [hsz]; decide) fun w7 e7 => retS_ret ⟨_, _, rfl, ?_⟩)
    refine do_call Tryz.call39 (c_spsum (c := 4) hlo hhi (h6.ext e7) hU.asc hU.k fun w8 e8 => retS_ret ⟨_, _, rfl, ?_⟩)
    intro K43
    rw [hw]
    refine ifB_f rfl (ifB_f rfl (ifB_f rfl ?_))
    simp -zeta -zetaHave only [K43]
    refine ifB_f rfl ?_
    intro K46
    exact ifB_t (by rw [hw]; rfl) (h _ (E6.trans (e7.trans e8)))
  · refine do_call Tryz.call31 (c_range_no hlo hhi (.inr hw) fun w5 e5 => retS_ret ⟨_, _, rfl, ?_⟩)
    refine do_call Tryz.call32 (c_without_no hlo hhi (.inr hw) fun w6 e6 => retS_ret ⟨_, _, rfl, ?_⟩)
    have e46 := e5.trans e6
    refine do_call Tryz.call38 (c_count (c := 4) hlo hhi (h4.ext e46) hU.asc hU.k (by rw [hsz]; decide) fun w7 e7 => retS_ret ⟨_, _, rfl, ?_⟩)
    refine do_call Tryz.call39 (c_spsum (c := 4) hlo hhi (h4.ext (e46.trans e7)) hU.asc hU.k fun w8 e8 => retS_ret ⟨_, _, rfl, ?_⟩)
    rw [if_neg hw, if_neg hw]
    intro K43
    refine ifB_f (by simp) (ifB_f (by simp) (ifB_f (by simp) ?_))
    simp -zeta -zetaHave only [K43]
    refine ifB_f (by simp) ?_
    intro K46
    exact ifB_f (by simp [hw]) (ifB_t rfl (ifB_t rfl (ifB_t rfl (h _ (E4.trans ((e46.trans e7).trans e8))))))
set_option maxHeartbeats 1600000 in
set_option maxRecDepth 20000 in
theorem c_spanTells {code o lo hi : Int} {l : List Bd} {q : Option Addr} {n c : Nat} {w : World} {R : Ending → World → Prop} (hlo : In lo) (hhi : In hi) (hl : Cs w q (bds l)) (hn : l.length = n) (hnc : n ≤ c) (hF : ∀ t : BT, l = t.beads → FitB t)
    (h : ∀ w', Ext w w' → R (.returned (.bool true)) w') : Calls Tryz.prog 4 #[.int .u8 code, .int .u8 o, .slice q n c, .int .i64 lo, .int .i64 hi] w R := by
  refine sh4_ok _ _ _ _ _ _ _ ?_
  unfold sh4
  have hidle : ∀ w2, Ext w w2 → doCall Tryz.prog (.func (.func 12) #[] #[]) #[.int .u8 code] w2 (retS (fun v18 w19 => ∃ (x17 : Bool), v18 = (.bool x17 : Value) ∧ (
 ifB (isS code == x17) (
 doCall Tryz.prog (.func (.func 29) #[] #[]) #[.int .u8 o, .int .i64 lo, .int .i64 hi] w19 (retS (fun v21 w22 => ∃ (x20 : Bool), v21 = (.bool x20 : Value) ∧ (
 ifB x20 (
 doCall Tryz.prog (.func (.func 30) #[] #[]) #[] w22 (retS (fun v24 w25 => ∃ (x23 : Bool), v24 = (.bool x23 : Value) ∧ (
 R (.returned (.bool x23)) w25)) (fun ch w => Kfn R ch [] w))) (
 R (.returned (.bool false)) w22))) (fun ch w => Kfn R ch [] w))) (
 R (.returned (.bool false)) w19))) (fun ch w => Kfn R ch [] w)) := fun w2 e2 =>
    do_call Tryz.call12 (c_r22is (retS_ret ⟨_, rfl, ifB_t (by simp) (do_call Tryz.call29 (c_nothing33 hlo hhi fun w3 e3 => retS_ret ⟨_, rfl, ifB_t rfl (do_call Tryz.call30 (c_alive33 fun w4 e4 => retS_ret ⟨_, rfl, h w4 ((e2.trans e3).trans e4)⟩))⟩))⟩))
  have hend : ∀ w2, Ext w w2 → doCall Tryz.prog (.func (.func 29) #[] #[]) #[.int .u8 o, .int .i64 lo, .int .i64 hi] w2 (retS (fun v21 w22 => ∃ (x20 : Bool), v21 = (.bool x20 : Value) ∧ (
 ifB x20 (
 doCall Tryz.prog (.func (.func 30) #[] #[]) #[] w22 (retS (fun v24 w25 => ∃ (x23 : Bool), v24 = (.bool x23 : Value) ∧ (
 R (.returned (.bool x23)) w25)) (fun ch w => Kfn R ch [] w))) (
 R (.returned (.bool false)) w22))) (fun ch w => Kfn R ch [] w)) := fun w2 e2 =>
    do_call Tryz.call29 (c_nothing33 hlo hhi fun w3 e3 => retS_ret ⟨_, rfl, ifB_t rfl (do_call Tryz.call30 (c_alive33 fun w4 e4 => retS_ret ⟨_, rfl, h w4 ((e2.trans e3).trans e4)⟩))⟩)
  refine do_call Tryz.call9 (c_l22of (fun h0 => retS_ret ⟨_, _, rfl, ?_⟩) fun hs b w1 e1 hbw hs1 => retS_ret ⟨_, _, rfl, ?_⟩)
  · intro K14
    rw [h0] at hidle
    refine do_call Tryz.call28 (c_long24 (code := code) (o := o) hl hn hnc hF fun bb w2 e2 hbb => retS_ret ⟨_, rfl, ?_⟩)
    cases bb with
    | true => exact ifB_t rfl (ifB_t rfl (hidle w2 e2))
    | false => exact ifB_f rfl (ifB_t rfl (hidle w2 e2))
  · intro K14
    rw [hs] at hidle
    have hb : w.heap.size ≤ b := by omega
    refine do_call Tryz.call28 (c_long24 (code := code) (o := o) (hl.ext e1) hn hnc hF fun bb w2 e2 hbb => retS_ret ⟨_, rfl, ?_⟩)
    rcases hbb with rfl | ⟨rfl, _, ho, hn4, t, hw, rfl, hfit, hok, hch⟩
    · exact ifB_t rfl (ifB_t rfl (hidle w2 (e1.trans e2)))
    · refine ifB_f rfl (ifB_f rfl ?_)
      have hts : t.size = n := hn
      have E2 := e1.trans e2
      have hs2 := hs1.ext e2
      have htr := BT.tr_size t
      have hU : OkU code o t.tr := ⟨hok, asc_of hch, hfit.inK⟩
      have hil := itsC_len code t.tr
      have tg := hfit.tagI code
      refine do_call Tryz.call15 (c_make t (hl.ext E2) hts hnc hw (by omega) fun p w3 e3 hp => retS_ret ⟨_, rfl, ?_⟩)
      have E3 := E2.trans e3
      have hs3 := hs2.ext e3
      by_cases hwr : wrongE o lo hi = 0
      · have A := rangeC_ok (lo := lo) (hi := hi) hU
        have B := withoutC_ok (lo := lo) (hi := hi) hU
        refine do_call Tryz.call31 (c_range hwr hlo hhi hs3 hp hU (by simp only [BIG]; omega) fun qa w4 g4 hs4 ha4 => retS_ret ⟨_, _, rfl, ?_⟩)
        have hp4 := hp.gs hs3 g4
        refine do_call Tryz.call32 (c_without hwr hlo hhi hs4 hp4 hU (by omega) fun qb w5 g5 hs5 hb5 => retS_ret ⟨_, _, rfl, ?_⟩)
        have hp5 := hp4.gs hs4 g5
        have ha5 := ha4.gs hs4 g5
        have E5 := Ext.gs E3 (g4.trans g5) hb
        refine do_call Tryz.call33 (c_rwrong33 hlo hhi (retS_ret ⟨_, rfl, ?_⟩))
        rw [hwr]
        refine ifB_f rfl ?_
        refine do_call Tryz.call16 (c_r22items (cd := code) (hl.ext E5) hts hnc hw (by omega) fun p6 n6 c6 w6 h6 e6 => retS_ret ⟨_, _, _, rfl, ?_⟩)
        have hn6 := ownI_len h6
        refine do_call Tryz.call34 (c_rparts33 hlo hhi (ownI_cs h6) hn6 (by omega) (hfit.inI code) fun p1 n1 c1 p2 n2 c2 w7 T7 e7 => retS_ret ⟨_, _, _, _, _, _, rfl, ?_⟩)
        have e57 := e6.trans e7
        intro K65
        refine ifB_t rfl (ifB_t rfl ?_)
        have fx : ∀ s : Tr, (itsC code s).map (itC code) = itsC code s := fun s => by
          have : (itsC code s).map (itC code) = (itsC code s).map id := List.map_congr_left fun x hx => its_fix hx
          rw [this, List.map_id]
        have sA : (rangeC code o lo hi t.tr).size ≤ 2000 := by
          have : (inL o lo hi (itsC code t.tr)).length ≤ (itsC code t.tr).length := List.length_filter_le _ _
          rw [← itsC_len code, A.2]; omega
        have sB : (withoutC code o lo hi t.tr).size ≤ 2000 := by
          have : (outL o lo hi (itsC code t.tr)).length ≤ (itsC code t.tr).length := List.length_filter_le _ _
          rw [← itsC_len code, B.2]; omega
        refine do_call Tryz.call22 (c_has A.1 (by rw [A.2]; exact fun x hx => tg x (List.mem_filter.1 hx).1) (by rw [← A.2]; exact fx _) (ha5.ext e57) sA (ownI_cs T7.1) (ownI_len T7.1) fun w8 e8 => retS_ret ⟨_, rfl, ifB_t rfl ?_⟩)
        have e58 := e57.trans e8
        refine do_call Tryz.call22 (c_has B.1 (by rw [B.2]; exact fun x hx => tg x (List.mem_filter.1 hx).1) (by rw [← B.2]; exact fx _) (hb5.ext e58) sB ((ownI_cs T7.2.1).ext e8) (ownI_len T7.2.1) fun w9 e9 => retS_ret ⟨_, rfl, ifB_t rfl ?_⟩)
        have e59 := e58.trans e9
        refine do_call Tryz.call27 (c_r9of t (hl.ext (E5.trans e59)) hts hnc hw (by omega) fun p10 n10 c10 w10 h10 e10 => retS_ret ⟨_, _, _, rfl, ?_⟩)
        rw [← btT_of_wf hw] at h10
        have hn10 := ownB_len h10
        have e510 := e59.trans e10
        refine do_call Tryz.call26 (c_is (hp5.ext e510) (by omega) (ownB_cs h10) (by rw [← hn10]; exact (btT_size _).symm) fun w11 e11 => retS_ret ⟨_, rfl, ifB_t rfl ?_⟩)
        exact hend w11 ((E5.trans e510).trans e11)
      · refine do_call Tryz.call31 (c_range_no hlo hhi (.inr hwr) fun w4 e4 => retS_ret ⟨_, _, rfl, ?_⟩)
        refine do_call Tryz.call32 (c_without_no hlo hhi (.inr hwr) fun w5 e5 => retS_ret ⟨_, _, rfl, ?_⟩)
        have E5 := (E3.trans e4).trans e5
        refine do_call Tryz.call33 (c_rwrong33 hlo hhi (retS_ret ⟨_, rfl, ?_⟩))
        refine ifB_t (by simp [hwr]) ?_
        intro K43
        exact ifB_t rfl (ifB_t rfl (ifB_t (by simp) (ifB_t (by simp) (hend w5 E5))))
end Go.Proofs.YtbaoihmffobneaaGreat
