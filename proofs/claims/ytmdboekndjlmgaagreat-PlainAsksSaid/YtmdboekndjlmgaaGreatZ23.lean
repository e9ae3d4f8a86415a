/-
  Whether two ops are the same, whether an op may be: what Check does.
-/
import Derived.Test.YtmdboekndjlmgaaGreatZ22

set_option maxRecDepth 100000
set_option maxHeartbeats 6400000
namespace Go.Proofs.YtmdboekndjlmgaaGreat
open Go Go.Sh Go.RowKit

theorem ix_intC {C : World → Prop} {p : OA} {n : Nat} {l : List Int} {K : Addr → Prop} (h : ∀ w, C w → Cs w p (ints l)) {w0 : World} (hw : C w0) (hn : l.length = n) {k : Nat} (h1 : k < n)
    (c : ∀ a : Addr, (∀ w, C w → w.cell? a = some (.int .i64 (l[k]'(by omega)))) → K a) : doIx p n 1 (k : Int) K := by
  obtain ⟨a, ha, _⟩ := (h w0 hw).int (i := k) (by omega)
  refine ⟨a, ha, by omega, by omega, c _ fun w hC => ?_⟩
  obtain ⟨a', ha', hc⟩ := (h w hC).int (i := k) (by omega)
  rw [ha] at ha'; cases ha'
  rw [Int.toNat_natCast, Nat.mul_one]; exact hc
theorem take_eq {α : Type} {l m : List α} {k : Nat} (hl : k < l.length) (hm : k < m.length) (h : l.take k = m.take k) (he : l[k] = m[k]) : l.take (k + 1) = m.take (k + 1) := by
  rw [← List.take_append_getElem hl, ← List.take_append_getElem hm, h, he]
theorem c_osame {x y : POp} {pv kv pv' kv' : Value} {w : World} {R : EW} (hx : OpRd w x pv kv) (hy : OpRd w y pv' kv') (hP : x.pairs.length ≤ 5000) (hK : x.keys.length ≤ 5000)
    (h1 : ∀ w', Ext w w' → x = y → R (.returned (.bool true)) w') (h0 : ∀ w', Ext w w' → x ≠ y → R (.returned (.bool false)) w') : Calls Tryz.prog 117 #[opV x pv kv, opV y pv' kv'] w R := by
  obtain ⟨a, c, rfl, hac, hcs, hab⟩ := hx.p
  obtain ⟨q, c', rfl, hqc, hqs, hqb⟩ := hx.k
  obtain ⟨d, e, rfl, hde, hds, hdb⟩ := hy.p
  obtain ⟨r, e', rfl, hre, hrs, hrb⟩ := hy.k
  refine sh117_ok _ _ _ _ _ _ _ _ _ _ _ _ _ _ _ _ _ _ _ _ _ _ _ _ _ _ _ _ _ _ _ _ _ _ _ _ _ _ ?_
  unfold sh117
  refine ⟨⟨?_⟩⟩
  have e1 := ext_alloc w (.cells #[.int .u8 x.op, .int .i64 x.a, .int .i64 x.b, .int .i64 x.key, .int .i64 x.val, .int .i64 x.lo, .int .i64 x.hi, .int .i64 x.n, .int .u8 x.pol, .int .u8 x.pk, .int .i64 x.pa, .int .i64 x.pb, .bool x.pnot, .slice a x.pairs.length c, .slice q x.keys.length c'] 30)
  have X1 : OpAt _ _ x (.slice a x.pairs.length c) (.slice q x.keys.length c') := blk_alloc w #[.int .u8 x.op, .int .i64 x.a, .int .i64 x.b, .int .i64 x.key, .int .i64 x.val, .int .i64 x.lo, .int .i64 x.hi, .int .i64 x.n, .int .u8 x.pol, .int .u8 x.pk, .int .i64 x.pa, .int .i64 x.pb, .bool x.pnot, .slice a x.pairs.length c, .slice q x.keys.length c'] 30
  generalize w.alloc (.cells #[.int .u8 x.op, .int .i64 x.a, .int .i64 x.b, .int .i64 x.key, .int .i64 x.val, .int .i64 x.lo, .int .i64 x.hi, .int .i64 x.n, .int .u8 x.pol, .int .u8 x.pk, .int .i64 x.pa, .int .i64 x.pb, .bool x.pnot, .slice a x.pairs.length c, .slice q x.keys.length c'] 30) = w1 at *
  generalize w.heap.size = xb at X1 ⊢
  have e2 := ext_alloc w1 (.cells #[.int .u8 y.op, .int .i64 y.a, .int .i64 y.b, .int .i64 y.key, .int .i64 y.val, .int .i64 y.lo, .int .i64 y.hi, .int .i64 y.n, .int .u8 y.pol, .int .u8 y.pk, .int .i64 y.pa, .int .i64 y.pb, .bool y.pnot, .slice d y.pairs.length e, .slice r y.keys.length e'] 30)
  have Y2 : OpAt _ _ y (.slice d y.pairs.length e) (.slice r y.keys.length e') := blk_alloc w1 #[.int .u8 y.op, .int .i64 y.a, .int .i64 y.b, .int .i64 y.key, .int .i64 y.val, .int .i64 y.lo, .int .i64 y.hi, .int .i64 y.n, .int .u8 y.pol, .int .u8 y.pk, .int .i64 y.pa, .int .i64 y.pb, .bool y.pnot, .slice d y.pairs.length e, .slice r y.keys.length e'] 30
  generalize w1.alloc (.cells #[.int .u8 y.op, .int .i64 y.a, .int .i64 y.b, .int .i64 y.key, .int .i64 y.val, .int .i64 y.lo, .int .i64 y.hi, .int .i64 y.n, .int .u8 y.pol, .int .u8 y.pk, .int .i64 y.pa, .int .i64 y.pb, .bool y.pnot, .slice d y.pairs.length e, .slice r y.keys.length e'] 30) = w2 at *
  generalize w1.heap.size = yb at Y2 ⊢
  have X2 : OpAt w2 xb x (.slice a x.pairs.length c) (.slice q x.keys.length c') := Blk.ext X1 e2
  have E2 := e1.trans e2
  have hcs2 := hcs.ext E2
  have hqs2 := hqs.ext E2
  have hds2 := hds.ext E2
  have hrs2 := hrs.ext E2
  intro K45
  refine ⟨_, _, _, X2.cell (i := 13) rfl rfl, _, _, _, Y2.cell (i := 13) rfl rfl, ifB_intro (fun z => h0 _ E2 fun e => by rw [e] at z; simp at z) fun zp => ⟨_, _, _, X2.cell (i := 14) rfl rfl, _, _, _, Y2.cell (i := 14) rfl rfl, ?_⟩⟩
  have zp : x.pairs.length = y.pairs.length := by
    have zp : ((x.pairs.length : Nat) : Int) = ((y.pairs.length : Nat) : Int) := by simpa using zp
    omega
  refine ifB_intro (fun z => h0 _ E2 fun e => by rw [e] at z; simp at z) fun zk => ?_
  have zk : x.keys.length = y.keys.length := by
    have zk : ((x.keys.length : Nat) : Int) = ((y.keys.length : Nat) : Int) := by simpa using zk
    omega
  refine ⟨_, _, _, X2.cell (i := 13) rfl rfl, ?_⟩
  refine ⟨fun vs w' => ∃ k : Nat, vs = [.int .i64 (k : Int)] ∧ k ≤ x.pairs.length ∧ Ext w2 w' ∧ x.pairs.take k = y.pairs.take k, fun vs _ => match vs with | [.int _ i] => x.pairs.length - i.toNat | _ => 0, ⟨0, rfl, Nat.zero_le _, ext_refl _, rfl⟩, ?_⟩
  rintro _ _ w3 ⟨k, hvs, hk, e3, ht⟩
  simp only [List.cons.injEq, Value.int.injEq, true_and, and_true] at hvs
  subst hvs
  refine ifB_intro (fun z => ?_) fun z => ?_
  · have z : k < x.pairs.length := by have := of_decide_eq_true z; omega
    refine ⟨?_⟩
    have e4 := e3.trans (ext_drew w3)
    refine ⟨fun w' => Ext w2 w', e4, _, _, _, fun w' e => (X2.ext e).cell (i := 13) rfl rfl, ?_⟩
    refine ix_prC (l := x.pairs) (fun w' e => hcs2.ext e) e4 rfl rfl z fun ad r1 r2 => ⟨_, r1, _, r2, _, _, _, fun w' e => (Y2.ext e).cell (i := 13) rfl rfl, ?_⟩
    refine ix_prC (l := y.pairs) (fun w' e => hds2.ext e) e4 rfl rfl (by omega) fun ad r3 r4 => ⟨_, r3, _, r4, ifB_intro (fun zz => h0 _ (E2.trans e4) fun e => ?_) fun zz => ?_⟩
    · subst e; simp at zz
    · have he : x.pairs[k] = y.pairs[k]'(by omega) := by
        simp only [Bool.and_true, Bool.not_eq_false', Bool.and_eq_true, beq_iff_eq] at zz
        exact Prod.ext zz.1 zz.2
      rw [wrap_succ (n := 5000) (by omega) (by omega)]
      refine ⟨⟨k + 1, rfl, by omega, e4, take_eq z (by omega) ht he⟩, ?_⟩
      show x.pairs.length - ((k + 1 : Nat) : Int).toNat < x.pairs.length - (k : Int).toNat
      omega
  · have z : k = x.pairs.length := by have := of_decide_eq_false z; omega
    have hpe : x.pairs = y.pairs := by rwa [List.take_of_length_le (by omega), List.take_of_length_le (by omega)] at ht
    clear ht
    refine ⟨_, _, _, (X2.ext e3).cell (i := 14) rfl rfl, ?_⟩
    refine ⟨fun vs w' => ∃ k : Nat, vs = [.int .i64 (k : Int)] ∧ k ≤ x.keys.length ∧ Ext w2 w' ∧ x.keys.take k = y.keys.take k, fun vs _ => match vs with | [.int _ i] => x.keys.length - i.toNat | _ => 0, ⟨0, rfl, Nat.zero_le _, e3, rfl⟩, ?_⟩
    rintro _ _ w4 ⟨k', hvs, hk', e4, ht⟩
    simp only [List.cons.injEq, Value.int.injEq, true_and, and_true] at hvs
    subst hvs
    refine ifB_intro (fun z => ?_) fun z => ?_
    · have z : k' < x.keys.length := by have := of_decide_eq_true z; omega
      refine ⟨?_⟩
      have e5 := e4.trans (ext_drew w4)
      refine ⟨fun w' => Ext w2 w', e5, _, _, _, fun w' e => (X2.ext e).cell (i := 14) rfl rfl, ?_⟩
      refine ix_intC (l := x.keys) (fun w' e => hqs2.ext e) e5 rfl z fun ad r1 => ⟨_, r1, _, _, _, fun w' e => (Y2.ext e).cell (i := 14) rfl rfl, ?_⟩
      refine ix_intC (l := y.keys) (fun w' e => hrs2.ext e) e5 rfl (by omega) fun ad r3 => ⟨_, r3, ifB_intro (fun zz => h0 _ (E2.trans e5) fun e => ?_) fun zz => ?_⟩
      · subst e; simp at zz
      · have he : x.keys[k'] = y.keys[k']'(by omega) := by simpa using zz
        rw [wrap_succ (n := 5000) (by omega) (by omega)]
        refine ⟨⟨k' + 1, rfl, by omega, e5, take_eq z (by omega) ht he⟩, ?_⟩
        show x.keys.length - ((k' + 1 : Nat) : Int).toNat < x.keys.length - (k' : Int).toNat
        omega
    · have z : k' = x.keys.length := by have := of_decide_eq_false z; omega
      have hke : x.keys = y.keys := by rwa [List.take_of_length_le (by omega), List.take_of_length_le (by omega)] at ht
      have X4 : OpAt w4 xb x (.slice a x.pairs.length c) (.slice q x.keys.length c') := Blk.ext X2 e4
      have Y4 : OpAt w4 yb y (.slice d y.pairs.length e) (.slice r y.keys.length e') := Blk.ext Y2 e4
      have E4 := E2.trans e4
      intro K90
      refine ⟨_, X4.cell (i := 0) rfl rfl, _, Y4.cell (i := 0) rfl rfl, ifB_intro (fun z0 => ?_) fun z => h0 _ E4 fun e => by rw [e] at z; simp at z⟩
      refine ⟨_, X4.cell (i := 1) rfl rfl, _, Y4.cell (i := 1) rfl rfl, ifB_intro (fun z1 => ?_) fun z => h0 _ E4 fun e => by rw [e] at z; simp at z⟩
      refine ⟨_, X4.cell (i := 2) rfl rfl, _, Y4.cell (i := 2) rfl rfl, ifB_intro (fun z2 => ?_) fun z => h0 _ E4 fun e => by rw [e] at z; simp at z⟩
      refine ⟨_, X4.cell (i := 3) rfl rfl, _, Y4.cell (i := 3) rfl rfl, ifB_intro (fun z3 => ?_) fun z => h0 _ E4 fun e => by rw [e] at z; simp at z⟩
      refine ⟨_, X4.cell (i := 4) rfl rfl, _, Y4.cell (i := 4) rfl rfl, ifB_intro (fun z4 => ?_) fun z => h0 _ E4 fun e => by rw [e] at z; simp at z⟩
      refine ⟨_, X4.cell (i := 5) rfl rfl, _, Y4.cell (i := 5) rfl rfl, ifB_intro (fun z5 => ?_) fun z => h0 _ E4 fun e => by rw [e] at z; simp at z⟩
      refine ⟨_, X4.cell (i := 6) rfl rfl, _, Y4.cell (i := 6) rfl rfl, ifB_intro (fun z6 => ?_) fun z => h0 _ E4 fun e => by rw [e] at z; simp at z⟩
      refine ⟨_, X4.cell (i := 7) rfl rfl, _, Y4.cell (i := 7) rfl rfl, ifB_intro (fun z7 => ?_) fun z => h0 _ E4 fun e => by rw [e] at z; simp at z⟩
      refine ⟨_, X4.cell (i := 8) rfl rfl, _, Y4.cell (i := 8) rfl rfl, ifB_intro (fun z8 => ?_) fun z => h0 _ E4 fun e => by rw [e] at z; simp at z⟩
      refine ⟨_, X4.cell (i := 9) rfl rfl, _, X4.cell (i := 10) rfl rfl, _, X4.cell (i := 11) rfl rfl, _, X4.cell (i := 12) rfl rfl, _, Y4.cell (i := 9) rfl rfl, _, Y4.cell (i := 10) rfl rfl, _, Y4.cell (i := 11) rfl rfl, _, Y4.cell (i := 12) rfl rfl, ?_⟩
      show R (.returned (.bool ((x.pk == y.pk) && ((x.pa == y.pa) && ((x.pb == y.pb) && ((x.pnot == y.pnot) && true)))))) w4
      cases hb : ((x.pk == y.pk) && ((x.pa == y.pa) && ((x.pb == y.pb) && ((x.pnot == y.pnot) && true))))
      · exact h0 _ E4 fun e => by rw [e] at hb; simp at hb
      · simp only [Bool.and_true, Bool.and_eq_true, beq_iff_eq] at hb
        simp only [beq_iff_eq] at z0 z1 z2 z3 z4 z5 z6 z7 z8
        exact h1 _ E4 (POp.ext' z0 z1 z2 z3 z4 z5 z6 z7 z8 hb.1 hb.2.1 hb.2.2.1 hb.2.2.2 hpe hke)
theorem may_fold (p : Int) : may p = polMay p := rfl
theorem hasP_pol (d : Int) : hasP .pol d = (d == 1 || d == 8 || d == 9 || d == 10 || d == 14) := by
  unfold hasP partsOf
  by_cases h1 : d = 1
  · subst h1; rfl
  by_cases h2 : d = 8
  · subst h2; rfl
  by_cases h3 : d = 9
  · subst h3; rfl
  by_cases h4 : d = 10
  · subst h4; rfl
  by_cases h5 : d = 14
  · subst h5; rfl
  rw [show (d == 1 || d == 8 || d == 9 || d == 10 || d == 14) = false by simp [h1, h2, h3, h4, h5]]
  simp only [h1, h2, h3, h4, h5, if_false, or_self, decide_eq_false_iff_not]
  intro h
  repeat' split at h
  all_goals simp at h
theorem hasP_pred (d : Int) : hasP .pred d = (d == 13) := by
  unfold hasP partsOf
  by_cases h1 : d = 13
  · subst h1; rfl
  rw [show (d == 13) = false by simp [h1]]
  simp only [h1, if_false, decide_eq_false_iff_not]
  intro h
  repeat' split at h
  all_goals simp at h
theorem c_check {x : POp} {pv kv : Value} {w : World} {R : EW} (hx : InO x) (hr : OpRd w x pv kv) (hP : x.pairs.length ≤ 5000) (hK : x.keys.length ≤ 5000)
    (h : ∀ w', Ext w w' → R (.returned (.int .i64 (if mayO x = true then 0 else 2))) w') : Calls Tryz.prog 81 #[opV x pv kv] w R := by
  have hr0 := hr
  obtain ⟨a, c, rfl, hac, hcs, hab⟩ := hr.p
  obtain ⟨q, c', rfl, hqc, hqs, hqb⟩ := hr.k
  refine sh81_ok _ _ _ _ _ _ _ _ _ _ _ _ _ _ _ _ _ _ _ ?_
  unfold sh81
  refine ⟨?_⟩
  have e1 := ext_alloc w (.cells #[.int .u8 x.op, .int .i64 x.a, .int .i64 x.b, .int .i64 x.key, .int .i64 x.val, .int .i64 x.lo, .int .i64 x.hi, .int .i64 x.n, .int .u8 x.pol, .int .u8 x.pk, .int .i64 x.pa, .int .i64 x.pb, .bool x.pnot, .slice a x.pairs.length c, .slice q x.keys.length c'] 30)
  have X1 : OpAt _ _ x (.slice a x.pairs.length c) (.slice q x.keys.length c') := blk_alloc w #[.int .u8 x.op, .int .i64 x.a, .int .i64 x.b, .int .i64 x.key, .int .i64 x.val, .int .i64 x.lo, .int .i64 x.hi, .int .i64 x.n, .int .u8 x.pol, .int .u8 x.pk, .int .i64 x.pa, .int .i64 x.pb, .bool x.pnot, .slice a x.pairs.length c, .slice q x.keys.length c'] 30
  generalize w.alloc (.cells #[.int .u8 x.op, .int .i64 x.a, .int .i64 x.b, .int .i64 x.key, .int .i64 x.val, .int .i64 x.lo, .int .i64 x.hi, .int .i64 x.n, .int .u8 x.pol, .int .u8 x.pk, .int .i64 x.pa, .int .i64 x.pb, .bool x.pnot, .slice a x.pairs.length c, .slice q x.keys.length c'] 30) = w1 at *
  have xlt := X1.lt
  generalize hxb : w.heap.size = xb at *
  rw [← checkO_may hx] at h
  refine ⟨_, X1.cell (i := 0) rfl rfl, _, X1.cell (i := 1) rfl rfl, _, X1.cell (i := 2) rfl rfl, _, X1.cell (i := 3) rfl rfl, _, X1.cell (i := 4) rfl rfl, _, X1.cell (i := 5) rfl rfl, _, X1.cell (i := 6) rfl rfl, _, X1.cell (i := 7) rfl rfl, _, X1.cell (i := 8) rfl rfl, _, X1.cell (i := 9) rfl rfl, _, X1.cell (i := 10) rfl rfl, _, X1.cell (i := 11) rfl rfl, _, X1.cell (i := 12) rfl rfl, _, _, _, X1.cell (i := 13) rfl rfl, _, _, _, X1.cell (i := 14) rfl rfl, ?_⟩
  have R2 : ∀ w', Ext w w' → checkO x = false → R (.returned (.int .i64 2)) w' := fun w' e hc => by
    have := h w' e
    rwa [hc, if_neg (by simp)] at this
  have R0 : ∀ w', Ext w w' → checkO x = true → R (.returned (.int .i64 0)) w' := fun w' e hc => by
    have := h w' e
    rwa [hc, if_pos rfl] at this
  refine do_call Tryz.call116 (c_copied hx (hr0.ext e1) hP hK (fun y pv' kv' w2 hc e2 hy => ?_) fun y p n0 c0 q0 m0 d0 w2 hc e2 => ?_)
  · obtain ⟨p, c0, rfl, _⟩ := hy.p
    obtain ⟨q0, d0, rfl, _⟩ := hy.k
    refine retS_ret ⟨_, _, _, _, _, _, _, _, _, _, _, _, _, _, _, _, _, _, _, _, rfl, ⟨?_⟩⟩
    have e3 := ext_alloc w2 (.cells #[.int .u8 0, .int .i64 0, .int .i64 0, .int .i64 0, .int .i64 0, .int .i64 0, .int .i64 0, .int .i64 0, .int .u8 0, .int .u8 0, .int .i64 0, .int .i64 0, .bool false, .slice none 0 0, .slice none 0 0] 30)
    refine st15 (blk_alloc w2 #[.int .u8 0, .int .i64 0, .int .i64 0, .int .i64 0, .int .i64 0, .int .i64 0, .int .i64 0, .int .i64 0, .int .u8 0, .int .u8 0, .int .i64 0, .int .i64 0, .bool false, .slice none 0 0, .slice none 0 0] 30) fun w4 h4 g4 => ?_
    have e4 : Ext w2 w4 := e3.st g4 (Nat.le_refl _)
    have Y4 : OpAt w4 w2.heap.size y (.slice p y.pairs.length c0) (.slice q0 y.keys.length d0) := h4
    have X4 : OpAt w4 xb x (.slice a x.pairs.length c) (.slice q x.keys.length c') := Blk.ext X1 (e2.trans e4)
    have E4 := (e1.trans e2).trans e4
    have hr4 := hr0.ext E4
    have hy4 := hy.ext e4
    have hchk : checkO x = (decide (1 ≤ x.op ∧ x.op ≤ 22) && sameO x y && (!hasP .pol x.op || polMay x.pol) && (!hasP .pred x.op || predMay x.pk x.pa x.pb)) := by unfold checkO; rw [hc]
    generalize w2.heap.size = yb at *
    intro K82
    have fin : ∀ pol : Bool, pol = hasP .pol x.op → K82 pol w4 := by
      intro pol hpol
      refine ifB_f rfl ⟨_, X4.cell (i := 0) rfl rfl, ifB_intro (fun z => R2 _ E4 ?_) fun z1 => ⟨_, X4.cell (i := 0) rfl rfl, ifB_intro (fun z => R2 _ E4 ?_) fun z2 => ?_⟩⟩
      · have z := of_decide_eq_true z
        rw [hchk, show decide (1 ≤ x.op ∧ x.op ≤ 22) = false by simp; omega]; rfl
      · have z := of_decide_eq_true z
        rw [hchk, show decide (1 ≤ x.op ∧ x.op ≤ 22) = false by simp; omega]; rfl
      have z1 := of_decide_eq_false z1
      have z2 := of_decide_eq_false z2
      rw [show decide (1 ≤ x.op ∧ x.op ≤ 22) = true by simp; omega, Bool.true_and] at hchk
      refine ⟨_, X4.cell (i := 0) rfl rfl, _, X4.cell (i := 1) rfl rfl, _, X4.cell (i := 2) rfl rfl, _, X4.cell (i := 3) rfl rfl, _, X4.cell (i := 4) rfl rfl, _, X4.cell (i := 5) rfl rfl, _, X4.cell (i := 6) rfl rfl, _, X4.cell (i := 7) rfl rfl, _, X4.cell (i := 8) rfl rfl, _, X4.cell (i := 9) rfl rfl, _, X4.cell (i := 10) rfl rfl, _, X4.cell (i := 11) rfl rfl, _, X4.cell (i := 12) rfl rfl, _, _, _, X4.cell (i := 13) rfl rfl, _, _, _, X4.cell (i := 14) rfl rfl, _, Y4.cell (i := 0) rfl rfl, _, Y4.cell (i := 1) rfl rfl, _, Y4.cell (i := 2) rfl rfl, _, Y4.cell (i := 3) rfl rfl, _, Y4.cell (i := 4) rfl rfl, _, Y4.cell (i := 5) rfl rfl, _, Y4.cell (i := 6) rfl rfl, _, Y4.cell (i := 7) rfl rfl, _, Y4.cell (i := 8) rfl rfl, _, Y4.cell (i := 9) rfl rfl, _, Y4.cell (i := 10) rfl rfl, _, Y4.cell (i := 11) rfl rfl, _, Y4.cell (i := 12) rfl rfl, _, _, _, Y4.cell (i := 13) rfl rfl, _, _, _, Y4.cell (i := 14) rfl rfl, do_call Tryz.call117 (c_osame hr4 hy4 hP hK (fun w5 e5 he => retS_ret ⟨true, rfl, ifB_f rfl ?_⟩) fun w5 e5 hne => retS_ret ⟨false, rfl, ifB_t rfl (R2 _ (E4.trans e5) ?_)⟩)⟩
      · rw [show sameO x y = true from sameO_iff.2 he, Bool.true_and, ← hpol] at hchk
        have X5 : OpAt w5 xb x (.slice a x.pairs.length c) (.slice q x.keys.length c') := Blk.ext X4 e5
        cases pol
        · rw [show (!false || polMay x.pol) = true from rfl, Bool.true_and] at hchk
          refine ifB_f rfl ⟨_, (Blk.ext X5 (ext_refl _)).cell (i := 0) rfl rfl, ifB_intro (fun z13 => ⟨_, (Blk.ext X5 (ext_refl _)).cell (i := 9) rfl rfl, _, (Blk.ext X5 (ext_refl _)).cell (i := 10) rfl rfl, _, (Blk.ext X5 (ext_refl _)).cell (i := 11) rfl rfl, _, (Blk.ext X5 (ext_refl _)).cell (i := 12) rfl rfl, do_call Tryz.call119 (c_smay hx.pa hx.pb fun w8 e8 => retS_ret ⟨_, rfl, ?_⟩)⟩) fun z13 => ?_⟩
          · rw [hasP_pred, z13] at hchk
            cases hpm : predMay x.pk x.pa x.pb
            · exact ifB_t rfl (R2 _ ((E4.trans e5).trans e8) (by rw [hchk, hpm]; rfl))
            · exact ifB_f rfl (R0 _ ((E4.trans e5).trans e8) (by rw [hchk, hpm]; rfl))
          · exact R0 _ (E4.trans e5) (by rw [hchk, hasP_pred, z13]; rfl)
        · rw [show (!true || polMay x.pol) = polMay x.pol from rfl] at hchk
          refine ifB_t rfl ⟨_, X5.cell (i := 8) rfl rfl, do_call Tryz.call118 (c_fmay fun w6 e6 => retS_ret ⟨_, rfl, ?_⟩)⟩
          rw [may_fold]
          cases hpp : polMay x.pol
          · exact ifB_t rfl (R2 _ ((E4.trans e5).trans e6) (by rw [hchk, hpp]; rfl))
          rw [hpp, Bool.true_and] at hchk
          refine ifB_f rfl ⟨_, (Blk.ext X5 e6).cell (i := 0) rfl rfl, ifB_intro (fun z13 => ⟨_, (Blk.ext X5 e6).cell (i := 9) rfl rfl, _, (Blk.ext X5 e6).cell (i := 10) rfl rfl, _, (Blk.ext X5 e6).cell (i := 11) rfl rfl, _, (Blk.ext X5 e6).cell (i := 12) rfl rfl, do_call Tryz.call119 (c_smay hx.pa hx.pb fun w8 e8 => retS_ret ⟨_, rfl, ?_⟩)⟩) fun z13 => ?_⟩
          · rw [hasP_pred, z13] at hchk
            cases hpm : predMay x.pk x.pa x.pb
            · exact ifB_t rfl (R2 _ (((E4.trans e5).trans e6).trans e8) (by rw [hchk, hpm]; rfl))
            · exact ifB_f rfl (R0 _ (((E4.trans e5).trans e6).trans e8) (by rw [hchk, hpm]; rfl))
          · exact R0 _ ((E4.trans e5).trans e6) (by rw [hchk, hasP_pred, z13]; rfl)
      · rw [hchk]
        cases hs : sameO x y
        · rfl
        · exact absurd (sameO_iff.1 hs) hne
    have hp := hasP_pol x.op
    refine ⟨_, X4.cell (i := 0) rfl rfl, ifB_intro (fun z => fin true (by rw [hp, z]; rfl)) fun z1 => ⟨_, X4.cell (i := 0) rfl rfl, ifB_intro (fun z => fin true (by rw [hp, z1, z]; rfl)) fun z2 => ⟨_, X4.cell (i := 0) rfl rfl, ifB_intro (fun z => fin true (by rw [hp, z1, z2, z]; rfl)) fun z3 =>
      ⟨_, X4.cell (i := 0) rfl rfl, ifB_intro (fun z => fin true (by rw [hp, z1, z2, z3, z]; rfl)) fun z4 => ⟨_, X4.cell (i := 0) rfl rfl, fin _ (by rw [hp, z1, z2, z3, z4]; rfl)⟩⟩⟩⟩⟩
  · refine retS_ret ⟨_, _, _, _, _, _, _, _, _, _, _, _, _, _, _, _, _, _, _, _, rfl, ⟨?_⟩⟩
    have e3 := ext_alloc w2 (.cells #[.int .u8 0, .int .i64 0, .int .i64 0, .int .i64 0, .int .i64 0, .int .i64 0, .int .i64 0, .int .i64 0, .int .u8 0, .int .u8 0, .int .i64 0, .int .i64 0, .bool false, .slice none 0 0, .slice none 0 0] 30)
    refine st15 (blk_alloc w2 #[.int .u8 0, .int .i64 0, .int .i64 0, .int .i64 0, .int .i64 0, .int .i64 0, .int .i64 0, .int .i64 0, .int .u8 0, .int .u8 0, .int .i64 0, .int .i64 0, .bool false, .slice none 0 0, .slice none 0 0] 30) fun w4 h4 g4 => ?_
    have e4 : Ext w2 w4 := e3.st g4 (Nat.le_refl _)
    have X4 : OpAt w4 xb x (.slice a x.pairs.length c) (.slice q x.keys.length c') := Blk.ext X1 (e2.trans e4)
    have bad := R2 w4 ((e1.trans e2).trans e4) (by unfold checkO; rw [hc])
    intro K82
    have fin : ∀ pol, K82 pol w4 := fun pol => ifB_t rfl bad
    exact ⟨_, X4.cell (i := 0) rfl rfl, ifB_intro (fun z => fin _) fun z1 => ⟨_, X4.cell (i := 0) rfl rfl, ifB_intro (fun z => fin _) fun z2 => ⟨_, X4.cell (i := 0) rfl rfl, ifB_intro (fun z => fin _) fun z3 =>
      ⟨_, X4.cell (i := 0) rfl rfl, ifB_intro (fun z => fin _) fun z4 => ⟨_, X4.cell (i := 0) rfl rfl, fin _⟩⟩⟩⟩⟩
end Go.Proofs.YtmdboekndjlmgaaGreat

namespace Go.Proofs.YtmdboekndjlmgaaGreat
open Go Go.Sh Go.RowKit

theorem cmpI_self (o a : Int) : cmpI o a a = 0 := by unfold cmpI; split <;> simp
theorem cmpI_pos {o a b : Int} (h : 0 < cmpI o a b) : cmpI o b a < 0 := by
  unfold cmpI at *
  split at h
  · rename_i ho
    rw [if_pos ho]
    split at h
    · omega
    · split at h
      · rw [if_pos (by omega)]; omega
      · omega
  · omega
theorem cmpI_eq {o a b : Int} (ho : isO o = true) (ha : In a) (hb : In b) (h : cmpI o a b = 0) : a = b := by
  have ho' : 1 ≤ o ∧ o ≤ 7 := by simpa [isO] using ho
  unfold cmpI at h
  rw [if_pos ho'] at h
  split at h
  · omega
  · split at h
    · omega
    · exact codeI_inj (o := o) ha hb (by omega)
theorem mayR_o {o : Int} {l : List Pr} (h : mayR o l = true) : isO o = true := by simp [mayR] at h; exact h.1
theorem idx_of_mem {o : Int} {l : List Pr} (hc : chain o l = true) {i : Nat} (hi : i < l.length) : idxR o l l[i].1 = i :=
  idxR_eq (by omega) (fun j hj hji => chain_lt hc hji hi) fun _ => by rw [cmpI_self]; omega
theorem hasR_iff {o : Int} {l : List Pr} {key : Int} (hm : mayR o l = true) : hasR o l key = true ↔ ∃ i, ∃ h : i < l.length, l[i].1 = key := by
  constructor
  · intro h; exact ⟨_, hasR_lt h, hasR_key h⟩
  · rintro ⟨i, hi, rfl⟩
    have := idx_of_mem (mayR_chain hm) hi
    unfold hasR
    rw [hm, this, List.getElem?_eq_getElem hi]
    simp
theorem c_r4same {l r : List Pr} {q q' : OA} {n c n' c' : Nat} {w : World} {R : EW} (hl : Cs w q (prs l)) (hn : l.length = n) (hr : Cs w q' (prs r)) (hn' : r.length = n') (hm : n ≤ 1000000000000)
    (h : ∀ w', Ext w w' → R (.returned (.bool (decide (l = r)))) w') : Calls Tryz.prog 8 #[.slice q n c, .slice q' n' c'] w R := by
  refine sh8_ok _ _ _ _ _ _ ?_
  unfold sh8
  refine ifB_intro (fun hne => ?_) fun heq => ?_
  · have hne : l ≠ r := fun e => by subst e; simp [← hn, ← hn'] at hne
    have := h w (ext_refl w)
    rw [decide_eq_false hne] at this
    exact this
  have heq : n = n' := by simp at heq; omega
  subst heq
  refine ⟨fun vs w' => ∃ k : Nat, vs = [.int .i64 k] ∧ k ≤ n ∧ Ext w w' ∧ l.take k = r.take k, fun vs _ => n - (intOf (vs.getD 0 undef)).toNat, ⟨0, rfl, by omega, ext_refl w, by simp⟩, ?_⟩
  rintro i _ w2 ⟨k, hv, hkn, E, hlo⟩
  simp only [List.cons.injEq, Value.int.injEq, true_and, and_true] at hv
  subst hv
  refine ifB_intro (fun hlt => ?_) fun hge => ?_
  · have hlt : k < n := by have := of_decide_eq_true hlt; omega
    refine ⟨⟨fun w' => Ext w2 w', ext_drew _, ?_⟩⟩
    refine ix_prC (fun w' e => (hl.ext E).ext e) (ext_refl _) hn rfl hlt fun a r1 r2 => ⟨_, r1, _, r2, ?_⟩
    refine ix_prC (fun w' e => (hr.ext E).ext e) (ext_refl _) hn' rfl hlt fun a r3 r4 => ⟨_, r3, _, r4, ?_⟩
    refine ifB_intro (fun h1 => ?_) fun h1 => ?_
    · have hne : l ≠ r := fun e => by subst e; simp at h1
      have := h w2.drew E.drew
      rw [decide_eq_false hne] at this
      exact this
    · have h1 : l[k] = r[k] := by simp at h1; exact Prod.ext h1.1 h1.2
      refine ⟨⟨k + 1, ?_, by omega, E.drew, ?_⟩, ?_⟩
      · rw [wrap_succ hlt (by omega)]
      · rw [← List.take_append_getElem (by omega), ← List.take_append_getElem (by omega), hlo, h1]
      · rw [wrap_succ hlt (by omega)]; simp [intOf]; omega
  · have hge : k = n := by have := of_decide_eq_false hge; omega
    subst hge
    rw [List.take_of_length_le (by omega), List.take_of_length_le (by omega)] at hlo
    have := h w2 E
    rw [decide_eq_true hlo] at this
    exact this
theorem key_ne {o : Int} {l : List Pr} (hc : chain o l = true) {i j : Nat} (hi : i < l.length) (hj : j < l.length) (h : l[i].1 = l[j].1) : i = j := by
  rcases Nat.lt_trichotomy i j with h1 | h1 | h1
  · have := chain_lt hc h1 hj; rw [h, cmpI_self] at this; omega
  · exact h1
  · have := chain_lt hc h1 hi; rw [h, cmpI_self] at this; omega
theorem filter_not {l : List Pr} {key : Int} (h : ∀ i (h : i < l.length), l[i].1 ≠ key) : l.filter (fun x => !(x.1 == key)) = l := by
  rw [List.filter_eq_self]
  intro x hx
  obtain ⟨i, hi, rfl⟩ := List.getElem_of_mem hx
  simpa using h i hi
theorem drop_filter {o : Int} {l : List Pr} {key : Int} (hm : mayR o l = true) : dropR o l key = l.filter (fun x => !(x.1 == key)) := by
  unfold dropR
  rw [hm]
  cases hh : hasR o l key
  · refine (filter_not fun i hi e => ?_).symm
    have := (hasR_iff hm).2 ⟨i, hi, e⟩
    rw [hh] at this; cases this
  · have hlt := hasR_lt hh
    have hk := hasR_key hh
    have hc := mayR_chain hm
    obtain ⟨i, hi⟩ : ∃ i, i = posR o l key := ⟨_, rfl⟩
    simp only [← hi] at hlt hk ⊢
    have e : l = l.take i ++ (l[i] :: l.drop (i + 1)) := by rw [← List.drop_eq_getElem_cons hlt, List.take_append_drop]
    have h1 : (l.take i).filter (fun x => !(x.1 == key)) = l.take i := filter_not fun j hj e => by
      simp only [List.length_take] at hj
      simp only [List.getElem_take] at e
      have := key_ne hc (i := j) (j := i) (by omega) hlt (by rw [e, hk])
      omega
    have h2 : (l.drop (i + 1)).filter (fun x => !(x.1 == key)) = l.drop (i + 1) := filter_not fun j hj e => by
      simp only [List.length_drop] at hj
      simp only [List.getElem_drop] at e
      have := key_ne hc (i := i + 1 + j) (j := i) (by omega) hlt (by rw [e, hk])
      omega
    simp only [cond_true]
    conv => rhs; rw [e]
    rw [List.filter_append, List.filter_cons_of_neg (by simp [hk]), h1, h2]
end Go.Proofs.YtmdboekndjlmgaaGreat

namespace Go.Proofs.YtmdboekndjlmgaaGreat
open Go Go.Sh Go.RowKit

theorem pos_at {o : Int} {l : List Pr} (hm : mayR o l = true) {i : Nat} (hi : i < l.length) : posR o l l[i].1 = i ∧ hasR o l l[i].1 = true ∧ getR o l l[i].1 = l[i].2 := by
  have h1 : posR o l l[i].1 = i := by unfold posR; rw [hm]; exact idx_of_mem (mayR_chain hm) hi
  have h2 : hasR o l l[i].1 = true := (hasR_iff hm).2 ⟨i, hi, rfl⟩
  refine ⟨h1, h2, ?_⟩
  unfold getR
  rw [h1, h2, getD_of hi]; rfl
end Go.Proofs.YtmdboekndjlmgaaGreat

namespace Go.Proofs.YtmdboekndjlmgaaGreat
open Go Go.Sh Go.RowKit

theorem wrap_in (x : Int) : In (IntKind.wrap .i64 x) := by
  simp only [IntKind.wrap, IntKind.signed, IntKind.bits, In]
  simp
  omega
abbrev ltO (o : Int) (a b : Int) : Prop := cmpI o a b < 0
theorem chain_pw {o : Int} : ∀ {l : List Pr}, chain o l = true ↔ (l.map (·.1)).Pairwise (ltO o)
  | [] => by simp [chain]
  | [a] => by simp [chain]
  | a :: b :: l => by
    rw [chain_cons, Bool.and_eq_true, decide_eq_true_eq, chain_pw (l := b :: l)]
    simp only [List.map_cons, List.pairwise_cons, List.mem_cons, List.mem_map, forall_eq_or_imp]
    constructor
    · rintro ⟨h1, h2, h3⟩
      exact ⟨⟨h1, fun x hx => cmpI_trans h1 (h2 x hx)⟩, h2, h3⟩
    · rintro ⟨⟨h1, _⟩, h2, h3⟩
      exact ⟨h1, h2, h3⟩
theorem mayR_iff {o : Int} {l : List Pr} : mayR o l = true ↔ isO o = true ∧ (l.map (·.1)).Pairwise (ltO o) := by
  unfold mayR; rw [Bool.and_eq_true, chain_pw]
theorem mem_get {o : Int} {l : List Pr} (hm : mayR o l = true) {key v : Int} (h : (key, v) ∈ l) : hasR o l key = true ∧ getR o l key = v := by
  obtain ⟨i, hi, e⟩ := List.getElem_of_mem h
  have := pos_at hm hi
  rw [e] at this
  exact ⟨this.2.1, this.2.2⟩
theorem has_mem {o : Int} {l : List Pr} {key : Int} (h : hasR o l key = true) : (key, getR o l key) ∈ l := by
  have hlt := hasR_lt h
  have hk := hasR_key h
  have : getR o l key = (l[posR o l key]'hlt).2 := by unfold getR; rw [h, getD_of hlt]; rfl
  rw [this]
  have hm := List.getElem_mem hlt
  rw [show (l[posR o l key]'hlt) = (key, (l[posR o l key]'hlt).2) from Prod.ext hk rfl] at hm
  exact hm
theorem get_none {o : Int} {l : List Pr} {key : Int} (h : hasR o l key = false) : getR o l key = 0 := by unfold getR; rw [h]; rfl
theorem same_at {o : Int} {l r : List Pr} (hl : mayR o l = true) (hr : mayR o r = true) {key : Int} (h : ∀ v, (key, v) ∈ l ↔ (key, v) ∈ r) : hasR o l key = hasR o r key ∧ getR o l key = getR o r key := by
  cases hh : hasR o l key
  · cases hh' : hasR o r key
    · exact ⟨rfl, by rw [get_none hh, get_none hh']⟩
    · have := (mem_get hl ((h _).2 (has_mem hh'))).1
      rw [hh] at this; cases this
  · have := mem_get hr ((h _).1 (has_mem hh))
    exact ⟨this.1.symm, this.2.symm⟩
theorem drop_may {o key : Int} {l : List Pr} (hm : mayR o l = true) : mayR o (dropR o l key) = true := by
  rw [drop_filter hm, mayR_iff]
  have := mayR_iff.1 hm
  exact ⟨this.1, this.2.sublist (List.filter_sublist.map _)⟩
theorem drop_in {o key : Int} {l : List Pr} (hm : mayR o l = true) (hI : InP l) : InP (dropR o l key) := fun x hx => by
  rw [drop_filter hm, List.mem_filter] at hx
  exact hI x hx.1
theorem put_miss {o p : Int} {l : List Pr} {x : Pr} (hm : mayR o l = true) (hp : may p = true) (hh : hasR o l x.1 = false) : putR o p l x = l.take (posR o l x.1) ++ x :: l.drop (posR o l x.1) := by
  unfold putR; rw [hm, hp, hh]; rfl
theorem put_hit {o p : Int} {l : List Pr} {x : Pr} (hm : mayR o l = true) (hp : may p = true) (hh : hasR o l x.1 = true) : putR o p l x = l.set (posR o l x.1) (x.1, comb p (getR o l x.1) x.2) := by
  unfold putR getR; rw [hm, hp, hh]; rfl
theorem put_may {o p : Int} {l : List Pr} {x : Pr} (hm : mayR o l = true) (hp : may p = true) (hI : InP l) (hx : In x.1) : mayR o (putR o p l x) = true := by
  have hpw := mayR_iff.1 hm
  cases hh : hasR o l x.1
  · rw [put_miss hm hp hh, mayR_iff]
    refine ⟨hpw.1, ?_⟩
    have hpx : posR o l x.1 = idxR o l x.1 := by unfold posR; rw [hm]; rfl
    have hsplit := hpw.2
    rw [← List.take_append_drop (posR o l x.1) l, List.map_append, List.pairwise_append] at hsplit
    rw [List.map_append, List.map_cons, List.pairwise_append, List.pairwise_cons]
    have hlo : ∀ a ∈ (l.take (posR o l x.1)).map (·.1), ltO o a x.1 := fun a ha => by
      simp only [List.mem_map] at ha
      obtain ⟨y, hy, rfl⟩ := ha
      obtain ⟨i, hi, rfl⟩ := List.getElem_of_mem hy
      rw [List.length_take] at hi
      rw [List.getElem_take]
      exact (idxR_lt (o := o) (l := l) (key := x.1) (i := i) (by omega)).2
    have hhi : ∀ b ∈ (l.drop (posR o l x.1)).map (·.1), ltO o x.1 b := fun b hb => by
      simp only [List.mem_map] at hb
      obtain ⟨y, hy, rfl⟩ := hb
      obtain ⟨i, hi, rfl⟩ := List.getElem_of_mem hy
      rw [List.length_drop] at hi
      rw [List.getElem_drop]
      have hlt : idxR o l x.1 < l.length := by omega
      have hge := idxR_ge (o := o) (l := l) (key := x.1) hlt
      have hne : cmpI o l[idxR o l x.1].1 x.1 ≠ 0 := fun h0 => by
        have := (hasR_iff hm).2 ⟨_, hlt, cmpI_eq hpw.1 (hI _ (List.getElem_mem hlt)).1 hx h0⟩
        rw [hh] at this; cases this
      have h1 : cmpI o x.1 l[idxR o l x.1].1 < 0 := cmpI_pos (by omega)
      simp only [hpx]
      rcases Nat.eq_zero_or_pos i with h0 | h0
      · subst h0; exact h1
      · exact cmpI_trans h1 (chain_lt (mayR_chain hm) (i := idxR o l x.1) (j := idxR o l x.1 + i) (by omega) (by omega))
    refine ⟨hsplit.1, ⟨hhi, hsplit.2.1⟩, fun a ha b hb => ?_⟩
    rcases List.mem_cons.1 hb with rfl | hb
    · exact hlo a ha
    · exact hsplit.2.2 a ha b hb
  · rw [put_hit hm hp hh, mayR_iff]
    refine ⟨hpw.1, ?_⟩
    have hlt := hasR_lt hh
    have hk := hasR_key hh
    have : (l.set (posR o l x.1) (x.1, comb p (getR o l x.1) x.2)).map (·.1) = l.map (·.1) := by
      refine List.ext_getElem (by simp) fun i h1 h2 => ?_
      simp only [List.getElem_map, List.getElem_set]
      split
      · rename_i e; subst e; exact hk.symm
      · rfl
    rw [this]; exact hpw.2
theorem put_len {o p : Int} {l : List Pr} {x : Pr} (hm : mayR o l = true) (hp : may p = true) : (putR o p l x).length = if hasR o l x.1 then l.length else l.length + 1 := by
  cases hh : hasR o l x.1
  · rw [put_miss hm hp hh]
    have := posR_le o l x.1
    simp; omega
  · rw [put_hit hm hp hh]; simp
theorem put_mem {o p : Int} {l : List Pr} {x : Pr} (hm : mayR o l = true) (hp : may p = true) (y : Pr) : y ∈ putR o p l x → y = (x.1, if hasR o l x.1 then comb p (getR o l x.1) x.2 else x.2) ∨ y ∈ l := by
  intro hy
  cases hh : hasR o l x.1
  · rw [put_miss hm hp hh] at hy
    rcases List.mem_append.1 hy with h | h
    · exact .inr (List.mem_of_mem_take h)
    · rcases List.mem_cons.1 h with h | h
      · exact .inl h
      · exact .inr (List.mem_of_mem_drop h)
  · rw [put_hit hm hp hh] at hy
    rcases List.mem_or_eq_of_mem_set hy with h | h
    · exact .inr h
    · exact .inl h
theorem put_key {o p : Int} {l : List Pr} {x : Pr} (hm : mayR o l = true) (hp : may p = true) (hI : InP l) (hx : In x.1) :
    hasR o (putR o p l x) x.1 = true ∧ getR o (putR o p l x) x.1 = if hasR o l x.1 then comb p (getR o l x.1) x.2 else x.2 := by
  refine mem_get (put_may hm hp hI hx) ?_
  cases hh : hasR o l x.1
  · rw [put_miss hm hp hh]; simp
  · rw [put_hit hm hp hh]
    have hlt := hasR_lt hh
    exact List.mem_of_getElem (i := posR o l x.1) (h := by simpa using hlt) (by simp)
theorem put_other {o p key : Int} {l : List Pr} {x : Pr} (hm : mayR o l = true) (hp : may p = true) (hI : InP l) (hx : In x.1) (hne : key ≠ x.1) : hasR o (putR o p l x) key = hasR o l key ∧ getR o (putR o p l x) key = getR o l key := by
  refine same_at (put_may hm hp hI hx) hm fun v => ?_
  constructor
  · intro h
    rcases put_mem hm hp _ h with h | h
    · exact absurd (congrArg Prod.fst h) hne
    · exact h
  · intro h
    cases hh : hasR o l x.1
    · rw [put_miss hm hp hh]
      rw [← List.take_append_drop (posR o l x.1) l] at h
      rcases List.mem_append.1 h with h | h
      · exact List.mem_append_left _ h
      · exact List.mem_append_right _ (List.mem_cons_of_mem _ h)
    · rw [put_hit hm hp hh]
      have hlt := hasR_lt hh
      have hk := hasR_key hh
      obtain ⟨i, hi, e⟩ := List.getElem_of_mem h
      have hii : posR o l x.1 ≠ i := fun e' => by
        subst e'
        rw [e] at hk
        exact hne hk
      refine List.mem_of_getElem (i := i) (h := by simpa using hi) ?_
      rw [List.getElem_set_ne hii]; exact e
theorem put_in {o p : Int} {l : List Pr} {x : Pr} (hm : mayR o l = true) (hp : may p = true) (hI : InP l) (hx : In x.1 ∧ In x.2) : InP (putR o p l x) := fun y hy => by
  rcases put_mem hm hp _ hy with rfl | h
  · refine ⟨hx.1, ?_⟩
    show In (if hasR o l x.1 then comb p (getR o l x.1) x.2 else x.2)
    split
    · rename_i hh
      have hg := (hI _ (has_mem hh)).2
      unfold comb
      split
      · exact hg
      · split
        · exact hx.2
        · exact wrap_in _
    · exact hx.2
  · exact hI _ h
theorem ord_of {o : Int} (h0 : 0 ≤ o) : ∃ o', IntKind.wrap .u8 (1 + (Int.tmod o 7)) = o' ∧ isO o' = true := by
  refine ⟨_, rfl, ?_⟩
  have e : Int.tmod o 7 = o % 7 := Int.tmod_eq_emod_of_nonneg h0
  have e2 : IntKind.wrap .u8 (1 + o % 7) = 1 + o % 7 := by
    simp only [IntKind.wrap, IntKind.signed, IntKind.bits]
    simp
    omega
  rw [e, e2]
  simp [isO]
  omega
structure Keeps (o key : Int) (w w' : World) (k : Nat) (p : OA) (n c : Nat) (val : Int) (has : Bool) : Prop where
  ext : Ext w w'
  row : ∃ r, OwnP w' w.heap.size p n c r ∧ mayR o r = true ∧ InP r ∧ hasR o r key = has ∧ (has = true → getR o r key = val)
  len : n ≤ k
theorem Keeps.to {o key : Int} {w w' w'' : World} {k : Nat} {p : OA} {n c : Nat} {val : Int} {has : Bool} (h : Keeps o key w w' k p n c val has) (e : Ext w' w'') : Keeps o key w w'' k p n c val has := by
  obtain ⟨r, h1, h2⟩ := h.row
  exact ⟨h.ext.trans e, ⟨r, row_to h1 e (Nat.le_refl _), h2⟩, h.len⟩
end Go.Proofs.YtmdboekndjlmgaaGreat

namespace Go.Proofs.YtmdboekndjlmgaaGreat
open Go Go.Sh Go.RowKit

theorem cmp_lt {o a b : Int} (ho : isO o = true) : cmpI o a b < 0 ↔ codeI o a < codeI o b := by
  have ho' : 1 ≤ o ∧ o ≤ 7 := by simpa [isO] using ho
  unfold cmpI
  rw [if_pos ho']
  split
  · exact ⟨fun _ => by assumption, fun _ => by omega⟩
  · split <;> omega
abbrev Srt (o : Int) (l : List Pr) : Prop := l.Pairwise fun a b => codeI o a.1 ≤ codeI o b.1
def Stab (M L : List Pr) : Prop := ∀ k : Int, M.filter (fun x => x.1 == k) = L.filter (fun x => x.1 == k)
theorem Stab.refl (L : List Pr) : Stab L L := fun _ => rfl
theorem Stab.trans {A B C : List Pr} (h : Stab A B) (k : Stab B C) : Stab A C := fun i => (h i).trans (k i)
theorem Stab.app {A B C D : List Pr} (h : Stab A B) (k : Stab C D) : Stab (A ++ C) (B ++ D) := fun i => by rw [List.filter_append, List.filter_append, h i, k i]
theorem Stab.mem {A B : List Pr} (h : Stab A B) (x : Pr) : x ∈ A ↔ x ∈ B := by
  have : ∀ C : List Pr, x ∈ C ↔ x ∈ C.filter (fun y => y.1 == x.1) := fun C => by simp [List.mem_filter]
  rw [this A, this B, h x.1]
theorem filter_none' {p : Pr → Bool} {l : List Pr} (h : ∀ x ∈ l, p x = false) : l.filter p = [] := by
  rw [List.filter_eq_nil_iff]; intro x hx; simp [h x hx]
theorem stab_swap {o : Int} {A B : List Pr} (h : ∀ a ∈ A, ∀ b ∈ B, codeI o b.1 < codeI o a.1) : Stab (B ++ A) (A ++ B) := fun k => by
  rw [List.filter_append, List.filter_append]
  by_cases hk : ∃ a ∈ A, a.1 = k
  · obtain ⟨a, ha, rfl⟩ := hk
    rw [filter_none' (l := B) fun b hb => by
      have := h a ha b hb
      cases hq : (b.1 == a.1)
      · rfl
      · have e : b.1 = a.1 := by simpa using hq
        rw [e] at this; omega]
    simp
  · rw [filter_none' (l := A) fun a ha => by
      cases hq : (a.1 == k)
      · rfl
      · exact absurd ⟨a, ha, by simpa using hq⟩ hk]
    simp
theorem srt_app {o : Int} {A B : List Pr} : Srt o (A ++ B) ↔ Srt o A ∧ Srt o B ∧ ∀ a ∈ A, ∀ b ∈ B, codeI o a.1 ≤ codeI o b.1 := List.pairwise_append
theorem srt_get {o : Int} {l : List Pr} (h : Srt o l) {i j : Nat} (hij : i ≤ j) (hj : j < l.length) : codeI o l[i].1 ≤ codeI o l[j].1 := by
  rcases Nat.lt_or_ge i j with h1 | h1
  · exact List.pairwise_iff_getElem.1 h i j (by omega) hj h1
  · have : i = j := by omega
    subst this; exact Int.le_refl _
theorem set_mid {α : Type} {U V : List α} {x y : α} {i : Nat} (hi : i = U.length) : (U ++ x :: V).set i y = U ++ y :: V := by
  subst hi
  rw [List.set_append_right _ _ (Nat.le_refl _), Nat.sub_self]; rfl
theorem own_st {l : List Pr} {p : OA} {n c base k : Nat} {w : World} (ho : OwnP w base p n c l) (hk : k < n) {a : Addr} (ha : ∃ b, p = some b ∧ a = b.add (k * 2)) {u v : Int} {K : World → Prop}
    (h : ∀ w', OwnP w' base p n c (l.set k (u, v)) → w.grownBy w' (Value.slice p n c).ownBlock → K w') : doSt (a.add 0) (.int .i64 u) w fun w1 => doSt (a.add 1) (.int .i64 v) w1 K := by
  obtain ⟨b, hb, rfl⟩ := ha
  have hl := ownP_len ho
  rcases ownP_open ho with ⟨hp, hn0, _⟩ | ⟨g, cur, hp, hbg, hg, _, hcm, hcl, hct⟩
  · omega
  subst hp; cases hb
  rw [add_zero', add_add]
  have ea : (⟨g, 0, none⟩ : Addr).add (k * 2) = ⟨g, k * 2, none⟩ := add_blk g _
  have eb : (⟨g, 0, none⟩ : Addr).add (k * 2 + 1) = ⟨g, k * 2 + 1, none⟩ := add_blk g _
  rw [ea, eb]
  have hs := ho.stored (k * 2) (.int .i64 u)
  rw [prs_set1 (by omega)] at hs
  refine ⟨⟨_, by rw [ho.cellAt _ (by omega)]; exact List.getElem?_eq_getElem (by simp; omega)⟩, ho.frozenAt _, ?_⟩
  have ho1 : OwnP (w.setCell ⟨g, k * 2, none⟩ (.int .i64 u)) base (some ⟨g, 0, none⟩) n c (l.set k (u, (l[k]'(by omega)).2)) := hs.1
  have hs1 := ho1.stored (k * 2 + 1) (.int .i64 v)
  rw [prs_set2 (by simp; omega)] at hs1
  refine ⟨⟨_, by rw [ho1.cellAt _ (by omega)]; exact List.getElem?_eq_getElem (by simp; omega)⟩, ho1.frozenAt _, h _ ?_ (grown_trans hs.2 hs1.2)⟩
  have := hs1.1
  simp only [List.getElem_set_self, List.set_set] at this
  exact this
theorem do_swap {l : List Pr} {p : OA} {n c B : Nat} {w : World} (ho : OwnP w B p n c l) {iX iY : Int} {x y : Nat} (hX : iX = (x : Int)) (hY : iY = (y : Int)) (hx : x < n) (hy : y < n) {K : World → Prop}
    (k : ∀ w', OwnP w' B p n c ((l.set x (l[y]'(by rw [ownP_len ho]; exact hy))).set y (l[x]'(by rw [ownP_len ho]; exact hx))) → w.grownBy w' (Value.slice p n c).ownBlock → K w') :
    doDr w (fun w16 => ∃ (C15 : World → Prop), C15 w16 ∧ (doIx p n 2 iY (fun a17 => ∃ (x18 : Int), (∀ w, C15 w → w.cell? (a17.add 0) = some (.int .i64 x18)) ∧ (∃ (x19 : Int), (∀ w, C15 w → w.cell? (a17.add 1) = some (.int .i64 x19)) ∧ (
      doIx p n 2 iX (fun a20 => ∃ (x21 : Int), (∀ w, C15 w → w.cell? (a20.add 0) = some (.int .i64 x21)) ∧ (∃ (x22 : Int), (∀ w, C15 w → w.cell? (a20.add 1) = some (.int .i64 x22)) ∧ (
      doIx p n 2 iX (fun a23 => doSt (a23.add 0) (.int .i64 x18) w16 (fun w24 => doSt (a23.add 1) (.int .i64 x19) w24 (fun w25 =>
      doIx p n 2 iY (fun a26 => doSt (a26.add 0) (.int .i64 x21) w25 (fun w27 => doSt (a26.add 1) (.int .i64 x22) w27 K))))))))))))) := by
  have hl := ownP_len ho
  have ho1 : OwnP w.drew B p n c l := row_to ho (ext_drew w) (Nat.le_refl _)
  refine ⟨⟨fun w' => w' = w.drew, rfl, ?_⟩⟩
  have hC : ∀ w', w' = w.drew → Cs w' p (prs l) := fun w' e => by subst e; exact ownP_cs ho1
  refine ix_prC hC rfl hl hY hy fun a r1 r2 => ⟨_, r1, _, r2, ?_⟩
  refine ix_prC hC rfl hl hX hx fun a r3 r4 => ⟨_, r3, _, r4, ?_⟩
  refine ix_pr (ownP_cs ho1) hl hX hx fun a _ _ ha => ?_
  refine own_st ho1 hx ha fun w2 ho2 g2 => ?_
  refine ix_pr (ownP_cs ho2) (by simp [hl]) hY hy fun a _ _ ha => ?_
  refine own_st ho2 hy ha fun w3 ho3 g3 => ?_
  exact k w3 ho3 (grown_trans (grown_trans (grown_drew w _) g2) g3)
theorem swap_lists {U V W : List Pr} {a b : Pr} {x y : Nat} (hx : x = U.length) (hy : y = U.length + 1 + V.length) :
    ∀ (h1 : x < (U ++ a :: (V ++ b :: W)).length) (h2 : y < (U ++ a :: (V ++ b :: W)).length), ((U ++ a :: (V ++ b :: W)).set x (U ++ a :: (V ++ b :: W))[y]).set y (U ++ a :: (V ++ b :: W))[x] = U ++ b :: (V ++ a :: W) ∧
      ((U ++ a :: (V ++ b :: W)).set y (U ++ a :: (V ++ b :: W))[x]).set x (U ++ a :: (V ++ b :: W))[y] = U ++ b :: (V ++ a :: W) := by
  intro h1 h2
  have e1 : (U ++ a :: (V ++ b :: W))[x] = a := by
    subst hx; simp
  have e2 : (U ++ a :: (V ++ b :: W))[y] = b := by
    subst hy
    rw [List.getElem_append_right (by omega)]
    simp only [show U.length + 1 + V.length - U.length = V.length + 1 by omega, List.getElem_cons_succ]
    rw [List.getElem_append_right (Nat.le_refl _)]
    simp
  have e3 : ∀ (a b c : Pr), (U ++ a :: (V ++ b :: W)).set y c = U ++ a :: (V ++ c :: W) := fun a b c => by
    have := set_mid (U := U ++ a :: V) (V := W) (x := b) (y := c) (i := y) (by simp; omega)
    simpa using this
  have e4 : ∀ (a b c : Pr), (U ++ a :: (V ++ b :: W)).set x c = U ++ c :: (V ++ b :: W) := fun a b c => set_mid hx
  rw [e1, e2]
  exact ⟨by rw [e4, e3], by rw [e3, e4]⟩
structure Rw (w0 : World) (B : Nat) (p : OA) (n c : Nat) (w : World) (l : List Pr) : Prop where
  own : OwnP w B p n c l
  ext : Ext w0 w
  keys : ∀ x ∈ l, In x.1
theorem Rw.len {w0 : World} {B : Nat} {p : OA} {n c : Nat} {w : World} {l : List Pr} (h : Rw w0 B p n c w l) : l.length = n := ownP_len h.own
def Cmp (o : Int) (w0 : World) (f : Fn) (fx fc : Array Value) : Prop := ∀ (x y : Pr), In x.1 → In y.1 → ∀ w, Ext w0 w → ∀ R : EW, (∀ w', Ext w w' → R (.returned (.int .i64 (cmpI o x.1 y.1))) w') → doCall Tryz.prog (.func f fx fc) #[agP x, agP y] w R
theorem c_swapRange {w0 : World} {B : Nat} {p : OA} {n c : Nat} {f : Fn} {fx fc : Array Value} (hB : w0.heap.size ≤ B) (hm : n ≤ 1000000000000) {L A M Bq S : List Pr} {a b k : Nat} {w : World} {R : EW}
    (hw : Rw w0 B p n c w (L ++ (A ++ (M ++ (Bq ++ S))))) (hA : A.length = k) (hBq : Bq.length = k) (ha : a = L.length) (hb : b = L.length + k + M.length)
    (h : ∀ w', Rw w0 B p n c w' (L ++ (Bq ++ (M ++ (A ++ S)))) → R (.returned (.tuple #[])) w') :
    Calls Tryz.prog 210 #[.slice p n c, .int .i64 (a : Nat), .int .i64 (b : Nat), .int .i64 (k : Nat), .func f fx fc] w R := by
  refine sh210_ok _ _ _ _ _ _ _ _ _ ?_
  unfold sh210
  have hlen := hw.len
  simp only [List.length_append] at hlen
  refine ⟨fun vs w' => ∃ t : Nat, vs = [.int .i64 t] ∧ t ≤ k ∧ Rw w0 B p n c w' (L ++ ((Bq.take t ++ A.drop t) ++ (M ++ ((A.take t ++ Bq.drop t) ++ S)))), fun vs _ => k - (intOf (vs.getD 0 undef)).toNat, ⟨0, rfl, by omega, by simpa using hw⟩, ?_⟩
  rintro i _ w1 ⟨t, hv, htk, hr⟩
  simp only [List.cons.injEq, Value.int.injEq, true_and, and_true] at hv
  subst hv
  refine ifB_intro (fun hlt => ?_) fun hge => ?_
  · have hlt : t < k := by have := of_decide_eq_true hlt; omega
    have hAt : A.drop t = (A[t]'(by omega)) :: A.drop (t + 1) := List.drop_eq_getElem_cons (by omega)
    have hBt : Bq.drop t = (Bq[t]'(by omega)) :: Bq.drop (t + 1) := List.drop_eq_getElem_cons (by omega)
    have el : L ++ ((Bq.take t ++ A.drop t) ++ (M ++ ((A.take t ++ Bq.drop t) ++ S))) = (L ++ Bq.take t) ++ (A[t]'(by omega)) :: ((A.drop (t + 1) ++ (M ++ A.take t)) ++ (Bq[t]'(by omega)) :: (Bq.drop (t + 1) ++ S)) := by
      rw [hAt, hBt]; simp only [List.append_assoc, List.cons_append]
    rw [el] at hr
    have hx : a + t = (L ++ Bq.take t).length := by simp; omega
    have hy : b + t = (L ++ Bq.take t).length + 1 + (A.drop (t + 1) ++ (M ++ A.take t)).length := by simp; omega
    have e1 : IntKind.wrap .i64 ((a : Int) + (t : Int)) = ((a + t : Nat) : Int) := by rw [wrap_of (by omega) (by omega)]; omega
    have e2 : IntKind.wrap .i64 ((b : Int) + (t : Int)) = ((b + t : Nat) : Int) := by rw [wrap_of (by omega) (by omega)]; omega
    have hlen1 := hr.len
    refine do_swap hr.own e1 e2 (by omega) (by omega) fun w2 ho2 g2 => ?_
    rw [(swap_lists hx hy (by omega) (by omega)).1] at ho2
    refine ⟨⟨t + 1, by rw [wrap_succ hlt (by omega)], by omega, ⟨?_, ext_own hr.own hr.ext g2 hB, fun x hx => hr.keys x ?_⟩⟩, ?_⟩
    · have : L ++ ((Bq.take (t + 1) ++ A.drop (t + 1)) ++ (M ++ ((A.take (t + 1) ++ Bq.drop (t + 1)) ++ S))) = (L ++ Bq.take t) ++ (Bq[t]'(by omega)) :: ((A.drop (t + 1) ++ (M ++ A.take t)) ++ (A[t]'(by omega)) :: (Bq.drop (t + 1) ++ S)) := by
        rw [show Bq.take (t + 1) = Bq.take t ++ [Bq[t]'(by omega)] from (List.take_append_getElem (by omega)).symm, show A.take (t + 1) = A.take t ++ [A[t]'(by omega)] from (List.take_append_getElem (by omega)).symm]
        simp only [List.append_assoc, List.cons_append, List.nil_append]
      rw [this]; exact ho2
    · rw [show Bq.take (t + 1) = Bq.take t ++ [Bq[t]'(by omega)] from (List.take_append_getElem (by omega)).symm, show A.take (t + 1) = A.take t ++ [A[t]'(by omega)] from (List.take_append_getElem (by omega)).symm] at hx
      simp only [List.mem_append, List.mem_cons, List.not_mem_nil, or_false] at hx ⊢
      rcases hx with h | ((h | h) | h) | h | ((h | h) | h) | h <;> simp [h]
    · rw [wrap_succ hlt (by omega)]; simp [intOf]; omega
  · have hge : t = k := by have := of_decide_eq_false hge; omega
    subst hge
    rw [List.take_of_length_le (by omega), List.take_of_length_le (by omega), List.drop_of_length_le (by omega), List.drop_of_length_le (by omega)] at hr
    exact h w1 (by simpa using hr)
theorem c_rotate {w0 : World} {B : Nat} {p : OA} {n c : Nat} {f : Fn} {fx fc : Array Value} (hB : w0.heap.size ≤ B) (hm : n ≤ 1000000000000) {L U V S : List Pr} {a m b : Nat} {w : World} {R : EW}
    (hw : Rw w0 B p n c w (L ++ (U ++ (V ++ S)))) (ha : a = L.length) (hmm : m = L.length + U.length) (hb : b = L.length + U.length + V.length) (hU : 0 < U.length) (hV : 0 < V.length)
    (h : ∀ w', Rw w0 B p n c w' (L ++ (V ++ (U ++ S))) → R (.returned (.tuple #[])) w') :
    Calls Tryz.prog 208 #[.slice p n c, .int .i64 (a : Nat), .int .i64 (m : Nat), .int .i64 (b : Nat), .func f fx fc] w R := by
  refine sh208_ok _ _ _ _ _ _ _ _ _ ?_
  unfold sh208
  have hlen := hw.len
  simp only [List.length_append] at hlen
  refine ⟨fun vs w' => ∃ (l u v s : List Pr), vs = [.int .i64 (u.length : Nat), .int .i64 (v.length : Nat)] ∧ Rw w0 B p n c w' (l ++ (u ++ (v ++ s))) ∧ 0 < u.length ∧ 0 < v.length ∧ m = l.length + u.length ∧ l ++ (v ++ (u ++ s)) = L ++ (V ++ (U ++ S)),
    fun vs _ => (intOf (vs.getD 0 undef)).toNat + (intOf (vs.getD 1 undef)).toNat, ⟨L, U, V, S, ?_, hw, hU, hV, hmm, rfl⟩, ?_⟩
  · rw [wrap_of (by omega) (by omega), wrap_of (by omega) (by omega), show (m : Int) - (a : Int) = (U.length : Int) by omega, show (b : Int) - (m : Int) = (V.length : Int) by omega]
  rintro i j _ w1 ⟨l, u, v, s, hv, hr, hu, hvv, hml, hfin⟩
  simp only [List.cons.injEq, Value.int.injEq, true_and, and_true] at hv
  obtain ⟨rfl, rfl⟩ := hv
  have hlen1 := hr.len
  simp only [List.length_append] at hlen1
  have e1 : IntKind.wrap .i64 ((m : Int) - (u.length : Int)) = ((m - u.length : Nat) : Int) := by rw [wrap_of (by omega) (by omega)]; omega
  refine ifB_intro (fun hne => ?_) fun heq => ?_
  · have hne : u.length ≠ v.length := by intro e; rw [e] at hne; simp at hne
    refine ifB_intro (fun hgt => ?_) fun hle => ?_
    · have hgt : v.length < u.length := by have := of_decide_eq_true hgt; omega
      rw [e1]
      have hsp : l ++ (u ++ (v ++ s)) = l ++ (u.take v.length ++ (u.drop v.length ++ (v ++ s))) := by rw [← List.append_assoc (u.take _), List.take_append_drop]
      rw [hsp] at hr
      refine do_call Tryz.call210 (c_swapRange hB hm hr (k := v.length) (by simp; omega) rfl (by omega) (by simp; omega) fun w2 hr2 => retS_ret ⟨rfl, ⟨l ++ v, u.drop v.length, u.take v.length, s, ?_, ?_, ?_, ?_, ?_, ?_⟩, ?_⟩)
      · rw [wrap_of (by omega) (by omega), List.length_drop, List.length_take, show ((u.length : Int) - (v.length : Int)) = ((u.length - v.length : Nat) : Int) by omega, show min v.length u.length = v.length by omega]
      · simpa using hr2
      · simp; omega
      · simp; omega
      · simp; omega
      · rw [← hfin]; simp only [List.append_assoc]; rw [← List.append_assoc (u.take _) (u.drop _), List.take_append_drop]
      · rw [wrap_of (by omega) (by omega)]; simp [intOf]; omega
    · have hle : u.length < v.length := by have := of_decide_eq_false hle; omega
      have e2 : IntKind.wrap .i64 (IntKind.wrap .i64 ((m : Int) + (v.length : Int)) - (u.length : Int)) = ((m + v.length - u.length : Nat) : Int) := by
        rw [wrap_of (x := (m : Int) + (v.length : Int)) (by omega) (by omega), wrap_of (by omega) (by omega)]; omega
      rw [e1, e2]
      have hsp : l ++ (u ++ (v ++ s)) = l ++ (u ++ (v.take (v.length - u.length) ++ (v.drop (v.length - u.length) ++ s))) := by rw [← List.append_assoc (v.take _), List.take_append_drop]
      rw [hsp] at hr
      refine do_call Tryz.call210 (c_swapRange hB hm hr (k := u.length) rfl (by simp; omega) (by omega) (by simp; omega) fun w2 hr2 => retS_ret ⟨rfl, ⟨l, v.drop (v.length - u.length), v.take (v.length - u.length), u ++ s, ?_, ?_, ?_, ?_, ?_, ?_⟩, ?_⟩)
      · rw [wrap_of (by omega) (by omega), List.length_drop, List.length_take, show ((v.length : Int) - (u.length : Int)) = ((v.length - u.length : Nat) : Int) by omega, show min (v.length - u.length) v.length = v.length - u.length by omega, show v.length - (v.length - u.length) = u.length by omega]
      · exact hr2
      · simp; omega
      · simp; omega
      · simp; omega
      · rw [← hfin, ← List.append_assoc (v.take _) (v.drop _), List.take_append_drop]
      · rw [wrap_of (by omega) (by omega)]; simp [intOf]; omega
  · have heq : u.length = v.length := by simp at heq; omega
    rw [e1]
    have hsp : l ++ (u ++ (v ++ s)) = l ++ (u ++ ([] ++ (v ++ s))) := rfl
    rw [hsp] at hr
    refine do_call Tryz.call210 (c_swapRange hB hm hr (k := u.length) rfl heq.symm (by omega) (by simp; omega) fun w2 hr2 => retS_ret ⟨rfl, h w2 ?_⟩)
    rw [← hfin]; exact hr2
end Go.Proofs.YtmdboekndjlmgaaGreat

