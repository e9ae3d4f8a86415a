/-
  span: Range, Without; the document's answers of layer 33.
-/
import Derived.Test.YtbaoihmffobneaaGreatSpanB
namespace Go.Proofs.YtbaoihmffobneaaGreat
open Go Go.Sh Go.RowKit

section
variable {c o lo hi : Int} {b : Nat} {t : Tr} {p : Option Addr} {w : World} {R : Ending → World → Prop}
set_option maxRecDepth 20000 in
theorem c_spparts (hw : wrongE o lo hi = 0) (hlo : In lo) (hhi : In hi) (hs : IsSch c b w) (ht : IsN w p t) (hu : OkU c o t) (hB : t.size + 10 ≤ BIG)
    (h : ∀ ql qm qr w', Gs b w w' → IsSch c b w' → IsN w' ql (aheadC c o lo false t) → IsN w' qm (rangeC c o lo hi t) → IsN w' qr (behindC c o hi false (midC c o lo t)) → R (.returned (.tuple #[.pointer ql, .pointer qm, .pointer qr, .int .i64 0])) w') :
    Calls Tryz.prog 81 #[.pointer (some (blk b)), .int .u8 o, .pointer p, .int .i64 lo, .int .i64 hi] w R := by
  refine sh81_ok _ _ _ _ _ ?_
  unfold sh81
  have ho := (wrongE_ok hw).1
  have M := midC_ok (lo := lo) hu
  refine ifB_f rfl (do_call Tryz.call115 (c_swrong hlo hhi fun w1 e1 => retS_ret ⟨_, rfl, ?_⟩))
  rw [hw]
  have hs1 := hs.ext e1
  have ht1 := ht.ext e1
  refine ifB_f rfl (do_call Tryz.call116 (c_ahead ho hlo hs1 ht1 hu.ok.1 hu.k (by omega) fun ql w2 g2 hs2 hl2 => retS_ret ⟨_, _, rfl, ?_⟩))
  have ht2 := ht1.gs hs1 g2
  refine do_call Tryz.call117 (c_behind ho hlo hs2 ht2 hu.ok.1 hu.k (by omega) fun qm w3 g3 hs3 hm3 => retS_ret ⟨_, _, rfl, ?_⟩)
  have hm3 : IsN w3 qm (midC c o lo t) := hm3
  have hl3 := hl2.gs hs2 g3
  have hB2 : (midC c o lo t).size + 8 ≤ BIG := by have := M.2.2; omega
  refine do_call Tryz.call117 (c_behind ho hhi hs3 hm3 M.1.ok.1 M.1.k hB2 fun qr w4 g4 hs4 hr4 => retS_ret ⟨_, _, rfl, ?_⟩)
  have hm4 := hm3.gs hs3 g4
  have hl4 := hl3.gs hs3 g4
  refine do_call Tryz.call116 (c_ahead ho hhi hs4 hm4 M.1.ok.1 M.1.k (by omega) fun qx w5 g5 hs5 hx5 => retS_ret ⟨_, _, rfl, ?_⟩)
  exact h _ _ _ _ ((((gs_of e1).trans g2).trans g3).trans (g4.trans g5)) hs5 (hl4.gs hs4 g5) hx5 (hr4.gs hs4 g5)
theorem c_spparts_no {sp : Option Addr} (hlo : In lo) (hhi : In hi) (hne : sp = none ∨ wrongE o lo hi ≠ 0)
    (h : ∀ w', Ext w w' → R (.returned (.tuple #[.pointer none, .pointer none, .pointer none, .int .i64 (if sp.isNone = true then 2 else wrongE o lo hi)])) w') : Calls Tryz.prog 81 #[.pointer sp, .int .u8 o, .pointer p, .int .i64 lo, .int .i64 hi] w R := by
  refine sh81_ok _ _ _ _ _ ?_
  unfold sh81
  cases sp with
  | none => exact ifB_t rfl (h _ (ext_refl _))
  | some a =>
    have hne : wrongE o lo hi ≠ 0 := by rcases hne with hne | hne; (cases hne); exact hne
    refine ifB_f rfl (do_call Tryz.call115 (c_swrong hlo hhi fun w1 e1 => retS_ret ⟨_, rfl, ifB_t (by simp [hne]) (h _ e1)⟩))
theorem c_range (hw : wrongE o lo hi = 0) (hlo : In lo) (hhi : In hi) (hs : IsSch c b w) (ht : IsN w p t) (hu : OkU c o t) (hB : t.size + 10 ≤ BIG)
    (h : ∀ q w', Gs b w w' → IsSch c b w' → IsN w' q (rangeC c o lo hi t) → R (.returned (.tuple #[.pointer q, .int .i64 0])) w') : Calls Tryz.prog 31 #[.pointer (some (blk b)), .int .u8 o, .pointer p, .int .i64 lo, .int .i64 hi] w R := by
  refine sh31_ok _ _ _ _ _ ?_
  unfold sh31
  exact do_call Tryz.call81 (c_spparts hw hlo hhi hs ht hu hB fun ql qm qr w1 g1 hs1 _ hm _ => retS_ret ⟨_, _, _, _, rfl, h _ _ g1 hs1 hm⟩)
theorem c_range_no {sp : Option Addr} (hlo : In lo) (hhi : In hi) (hne : sp = none ∨ wrongE o lo hi ≠ 0)
    (h : ∀ w', Ext w w' → R (.returned (.tuple #[.pointer none, .int .i64 (if sp.isNone = true then 2 else wrongE o lo hi)])) w') : Calls Tryz.prog 31 #[.pointer sp, .int .u8 o, .pointer p, .int .i64 lo, .int .i64 hi] w R := by
  refine sh31_ok _ _ _ _ _ ?_
  unfold sh31
  exact do_call Tryz.call81 (c_spparts_no hlo hhi hne fun w1 e1 => retS_ret ⟨_, _, _, _, rfl, h _ e1⟩)
theorem c_without (hw : wrongE o lo hi = 0) (hlo : In lo) (hhi : In hi) (hs : IsSch c b w) (ht : IsN w p t) (hu : OkU c o t) (hB : t.size + 10 ≤ 1000000)
    (h : ∀ q w', Gs b w w' → IsSch c b w' → IsN w' q (withoutC c o lo hi t) → R (.returned (.tuple #[.pointer q, .int .i64 0])) w') : Calls Tryz.prog 32 #[.pointer (some (blk b)), .int .u8 o, .pointer p, .int .i64 lo, .int .i64 hi] w R := by
  refine sh32_ok _ _ _ _ _ ?_
  unfold sh32
  have M := midC_ok (lo := lo) hu
  have A := aheadC_ok (key := lo) (wth := false) hu.ok.1 hu.asc
  have B := behindC_ok (key := hi) (wth := false) M.1.ok.1 M.1.asc
  have sA : (aheadC c o lo false t).size ≤ t.size := by
    rw [← itsC_len c, A.2, ← itsC_len c t]
    show (ltF o lo (itsC c t) ++ []).length ≤ _
    rw [List.append_nil]; exact List.length_filter_le _ _
  have sB : (behindC c o hi false (midC c o lo t)).size ≤ t.size := by
    refine Nat.le_trans ?_ M.2.2
    rw [← itsC_len c, B.2, ← itsC_len c (midC c o lo t)]
    show ([] ++ gtF o hi (itsC c (midC c o lo t))).length ≤ _
    rw [List.nil_append]; exact List.length_filter_le _ _
  refine do_call Tryz.call81 (c_spparts hw hlo hhi hs ht hu (by simp only [BIG]; omega) fun ql qm qr w1 g1 hs1 hl _ hr => retS_ret ⟨_, _, _, _, rfl, ifB_f rfl ?_⟩)
  exact do_call Tryz.call63 (c_join2 hs1 hl hr A.1.1 B.1.1 (by simp only [BIG]; omega) fun q2 w2 g2 hs2 h2 => retS_ret ⟨_, rfl, h _ _ (g1.trans g2) hs2 h2⟩)
theorem c_without_no {sp : Option Addr} (hlo : In lo) (hhi : In hi) (hne : sp = none ∨ wrongE o lo hi ≠ 0)
    (h : ∀ w', Ext w w' → R (.returned (.tuple #[.pointer none, .int .i64 (if sp.isNone = true then 2 else wrongE o lo hi)])) w') : Calls Tryz.prog 32 #[.pointer sp, .int .u8 o, .pointer p, .int .i64 lo, .int .i64 hi] w R := by
  refine sh32_ok _ _ _ _ _ ?_
  unfold sh32
  refine do_call Tryz.call81 (c_spparts_no hlo hhi hne fun w1 e1 => retS_ret ⟨_, _, _, _, rfl, ifB_t ?_ (h _ e1)⟩)
  cases sp with
  | none => rfl
  | some a =>
    have hne : wrongE o lo hi ≠ 0 := by rcases hne with hne | hne; (cases hne); exact hne
    simp [hne]
end
set_option maxRecDepth 20000 in
theorem c_rparts33 {o lo hi : Int} {l : List It} {q : Option Addr} {n c : Nat} (hlo : In lo) (hhi : In hi) {w : World} {R : Ending → World → Prop} (hl : Cs w q (its l)) (hn : l.length = n) (hm : n ≤ 1000000) (hI : InI l)
    (h : ∀ p1 n1 c1 p2 n2 c2 w', TwoI w' w.heap.size p1 n1 c1 (inL o lo hi l) p2 n2 c2 (outL o lo hi l) → Ext w w' → R (.returned (.tuple #[.slice p1 n1 c1, .slice p2 n2 c2])) w') :
    Calls Tryz.prog 34 #[.int .u8 o, .slice q n c, .int .i64 lo, .int .i64 hi] w R := by
  refine sh34_ok _ _ _ _ _ _ ?_
  unfold sh34
  refine ⟨fun vs w' => ∃ (i n1 c1 n2 c2 : Nat) (p1 p2 : Option Addr), vs = [.slice p1 n1 c1, .slice p2 n2 c2, .int .i64 i] ∧ i ≤ n ∧ Ext w w' ∧ TwoI w' w.heap.size p1 n1 c1 (inL o lo hi (l.take i)) p2 n2 c2 (outL o lo hi (l.take i)), fun vs _ => n - (intOf (vs.getD 2 undef)).toNat,
    ⟨0, 0, 0, 0, 0, none, none, rfl, by omega, ext_refl _, ownI_nil _ _, ownI_nil _ _, .inl rfl⟩, ?_⟩
  rintro a_p a_n a_c b_p b_n b_c i_ _ w2 ⟨i, n1, c1, n2, c2, p1, p2, hv, hi', E2, T⟩
  simp only [List.cons.injEq, Value.slice.injEq, Value.int.injEq, true_and, and_true] at hv
  obtain ⟨⟨v1, v2, v3⟩, ⟨v4, v5, v6⟩, v7⟩ := hv
  have v1 := v1.symm; subst v1
  have v2 := v2.symm; subst v2
  have v3 := v3.symm; subst v3
  have v4 := v4.symm; subst v4
  have v5 := v5.symm; subst v5
  have v6 := v6.symm; subst v6
  have v7 := v7.symm; subst v7
  refine ifB_intro (fun hlt => ?_) fun hge => ?_
  · have hlt : i < n := by have := of_decide_eq_true hlt; omega
    have hil : i < l.length := by omega
    intro K25 K28
    have hlen1 := ownI_len T.1
    have hlen2 := ownI_len T.2.1
    have hle1 : (inL o lo hi (l.take i)).length ≤ i := Nat.le_trans (List.length_filter_le _ _) (by rw [List.length_take]; omega)
    have hle2 : (outL o lo hi (l.take i)).length ≤ i := Nat.le_trans (List.length_filter_le _ _) (by rw [List.length_take]; omega)
    have ein : inL o lo hi (l.take (i + 1)) = inL o lo hi (l.take i) ++ (if inB o lo hi l[i] = true then [l[i]] else []) := take_filt hil
    have eout : outL o lo hi (l.take (i + 1)) = outL o lo hi (l.take i) ++ (if (!inB o lo hi l[i]) = true then [l[i]] else []) := take_filt hil
    have hK25 : ∀ p3 n3 c3 p4 n4 c4 w5, Ext w w5 → TwoI w5 w.heap.size p3 n3 c3 (inL o lo hi (l.take (i + 1))) p4 n4 c4 (outL o lo hi (l.take (i + 1))) → K25 p3 n3 c3 p4 n4 c4 w5 := by
      intro p3 n3 c3 p4 n4 c4 w5 E5 T5
      refine ⟨⟨i + 1, n3, c3, n4, c4, p3, p4, by rw [wrap_succ hlt (by omega)], by omega, E5, T5⟩, ?_⟩
      rw [wrap_succ hlt (by omega)]; simp [intOf]; omega
    have hK28 : ∀ x, x = inB o lo hi l[i] → K28 x w2 := by
      intro x hx
      subst hx
      cases hb : inB o lo hi l[i] with
      | true =>
        rw [hb] at ein eout
        refine ifB_t rfl ?_
        refine ix_flat ecI_len (by omega) (hl.ext E2) hn rfl hlt fun a r _ => ⟨_, r 0 _ rfl, _, r 1 _ rfl, _, r 2 _ rfl, ?_⟩
        refine do_app1I T.1 (by omega) E2.size fun q5 c5 w5 h5 k5 g5 hor => ⟨_, _, _, rfl, hK25 _ _ _ _ _ _ _ (k5 w E2 (Nat.le_refl _)) ?_⟩
        rw [ein, eout]
        have := T.grow h5 g5 hor
        simpa using this
      | false =>
        rw [hb] at ein eout
        refine ifB_f rfl ?_
        refine ix_flat ecI_len (by omega) (hl.ext E2) hn rfl hlt fun a r _ => ⟨_, r 0 _ rfl, _, r 1 _ rfl, _, r 2 _ rfl, ?_⟩
        refine do_app1I T.2.1 (by omega) E2.size fun q5 c5 w5 h5 k5 g5 hor => ⟨_, _, _, rfl, hK25 _ _ _ _ _ _ _ (k5 w E2 (Nat.le_refl _)) ?_⟩
        rw [ein, eout]
        have := (T.swap.grow h5 g5 hor).swap
        simpa using this
    have ix := hI l[i] (List.getElem_mem _)
    refine ix_flat ecI_len (by omega) (hl.ext E2) hn rfl hlt fun a r _ => ⟨_, r 0 _ rfl, ?_⟩
    refine do_call Tryz.call82 (c_rcompare ix hlo (retS_ret ⟨_, rfl, ?_⟩))
    refine ifB_intro (fun h1 => ?_) fun h1 => ?_
    · have h1 : 0 ≤ cmpI o l[i].1 lo := of_decide_eq_true h1
      refine ix_flat ecI_len (by omega) (hl.ext E2) hn rfl hlt fun a r _ => ⟨_, r 0 _ rfl, ?_⟩
      refine do_call Tryz.call82 (c_rcompare ix hhi (retS_ret ⟨_, rfl, hK28 _ ?_⟩))
      unfold inB
      rw [decide_eq_true h1, Bool.true_and]
    · have h1 : ¬ 0 ≤ cmpI o l[i].1 lo := of_decide_eq_false h1
      refine hK28 _ ?_
      unfold inB
      rw [decide_eq_false h1]; rfl
  · have hge : i = n := by have := of_decide_eq_false hge; omega
    rw [List.take_of_length_le (by omega)] at T
    exact h _ _ _ _ _ _ _ T E2
theorem c_rsum33 {l : List It} {q : Option Addr} {n c : Nat} {w : World} {R : Ending → World → Prop} (hl : Cs w q (its l)) (hn : l.length = n) (hm : n ≤ 1000000) (h : R (.returned (.int .i64 (IntKind.wrap .i64 (totI (fun x => x.2.1) l)))) w) :
    Calls Tryz.prog 41 #[.slice q n c] w R := by
  refine sh41_ok _ _ _ ?_
  unfold sh41
  refine ⟨fun vs w' => ∃ i : Nat, vs = [.int .i64 (IntKind.wrap .i64 (totI (fun x => x.2.1) (l.take i))), .int .i64 i] ∧ i ≤ n ∧ w' = w, fun vs _ => n - (intOf (vs.getD 1 undef)).toNat, ⟨0, rfl, by omega, rfl⟩, ?_⟩
  rintro s_ i_ _ w2 ⟨i, hv, hi, rfl⟩
  simp only [List.cons.injEq, Value.int.injEq, true_and, and_true] at hv
  obtain ⟨rfl, v2⟩ := hv
  subst v2
  refine ifB_intro (fun hlt => ?_) fun hge => ?_
  · have hlt : i < n := by have := of_decide_eq_true hlt; omega
    refine ix_flat ecI_len (by omega) hl hn rfl hlt fun a r _ => ⟨_, r 1 _ rfl, ⟨i + 1, ?_, by omega, rfl⟩, ?_⟩
    · rw [wrap_succ hlt (by omega), wrap_add, ← List.take_append_getElem (by omega), totI_app, totI_cons]
      simp [totI]
    · rw [wrap_succ hlt (by omega)]; simp [intOf]; omega
  · have hge : i = n := by have := of_decide_eq_false hge; omega
    rw [List.take_of_length_le (by omega)]
    exact h
end Go.Proofs.YtbaoihmffobneaaGreat
