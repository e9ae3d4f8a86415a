/-
  Whether two ops are the same, whether an op may be: what Check does.
-/
import Derived.Test.YtmkpkmdnapccgaaGreatDoorZ18
import Derived.Lib.ItoaLen
import Derived.Lib.Join
import Derived.Lib.SplitLaws
import Derived.Test.YtmkpkmdnapccgaaGreatDoorShf
import Derived.Lib.LaidTab

set_option maxRecDepth 100000
set_option maxHeartbeats 6400000
namespace Go.Proofs.YtmkpkmdnapccgaaGreatDoor
open Go Go.Sh Go.RowKit

theorem ix_intC {C : World → Prop} {p : OA} {n : Nat} {l : List Int} {K : Addr → Prop} (h : ∀ w, C w → Cs w p (ints l)) {w0 : World} (hw : C w0) (hn : l.length = n) {k : Nat} (h1 : k < n)
    (c : ∀ a : Addr, (∀ w, C w → w.cell? a = some (.int .i64 (l[k]'(by omega)))) → K a) : doIx p n 1 (k : Int) K := by
  obtain ⟨a, ha, _⟩ := (h w0 hw).int (i := k) (by omega)
  refine ⟨a, ha, by omega, by omega, c _ fun w hC => ?_⟩
  obtain ⟨a', ha', hc⟩ := (h w hC).int (i := k) (by omega)
  rw [ha] at ha'; cases ha'
  rw [Int.toNat_natCast, Nat.mul_one]; exact hc
theorem take_eq {α : Type} {l m : List α} {k : Nat} (hl : k < l.length) (hm : k < m.length) (h : l.take k = m.take k) (he : l[k] = m[k]) : l.take (k + 1) = m.take (k + 1) := by
  rw [← List.take_append_getElem hl, ← List.take_append_getElem hm, h, he]
theorem c_osame {x y : POp} {pv kv pv' kv' : Value} {w : World} {R : EW} (hx : OpRd w x pv kv) (hy : OpRd w y pv' kv') (hP : x.pairs.length ≤ 5000) (hK : x.keys.length ≤ 5000)
    (h1 : ∀ w', Ext w w' → x = y → R (.returned (.bool true)) w') (h0 : ∀ w', Ext w w' → x ≠ y → R (.returned (.bool false)) w') : Calls Tryz.prog 26 #[opV x pv kv, opV y pv' kv'] w R := by
  obtain ⟨a, c, rfl, hac, hcs, hab⟩ := hx.p
  obtain ⟨q, c', rfl, hqc, hqs, hqb⟩ := hx.k
  obtain ⟨d, e, rfl, hde, hds, hdb⟩ := hy.p
  obtain ⟨r, e', rfl, hre, hrs, hrb⟩ := hy.k
  refine sh26_ok _ _ _ _ _ _ _ _ _ _ _ _ _ _ _ _ _ _ _ _ _ _ _ _ _ _ _ _ _ _ _ _ _ _ _ _ _ _ ?_
  unfold sh26
  refine ⟨⟨?_⟩⟩
  have e1 := ext_alloc w (.cells #[.int .u8 x.op, .int .i64 x.a, .int .i64 x.b, .int .i64 x.key, .int .i64 x.val, .int .i64 x.lo, .int .i64 x.hi, .int .i64 x.n, .int .u8 x.pol, .int .u8 x.pk, .int .i64 x.pa, .int .i64 x.pb, .bool x.pnot, .slice a x.pairs.length c, .slice q x.keys.length c'] 37)
  have X1 : OpAt _ _ x (.slice a x.pairs.length c) (.slice q x.keys.length c') := blk_alloc w #[.int .u8 x.op, .int .i64 x.a, .int .i64 x.b, .int .i64 x.key, .int .i64 x.val, .int .i64 x.lo, .int .i64 x.hi, .int .i64 x.n, .int .u8 x.pol, .int .u8 x.pk, .int .i64 x.pa, .int .i64 x.pb, .bool x.pnot, .slice a x.pairs.length c, .slice q x.keys.length c'] 37
  generalize w.alloc (.cells #[.int .u8 x.op, .int .i64 x.a, .int .i64 x.b, .int .i64 x.key, .int .i64 x.val, .int .i64 x.lo, .int .i64 x.hi, .int .i64 x.n, .int .u8 x.pol, .int .u8 x.pk, .int .i64 x.pa, .int .i64 x.pb, .bool x.pnot, .slice a x.pairs.length c, .slice q x.keys.length c'] 37) = w1 at *
  generalize w.heap.size = xb at X1 ⊢
  have e2 := ext_alloc w1 (.cells #[.int .u8 y.op, .int .i64 y.a, .int .i64 y.b, .int .i64 y.key, .int .i64 y.val, .int .i64 y.lo, .int .i64 y.hi, .int .i64 y.n, .int .u8 y.pol, .int .u8 y.pk, .int .i64 y.pa, .int .i64 y.pb, .bool y.pnot, .slice d y.pairs.length e, .slice r y.keys.length e'] 37)
  have Y2 : OpAt _ _ y (.slice d y.pairs.length e) (.slice r y.keys.length e') := blk_alloc w1 #[.int .u8 y.op, .int .i64 y.a, .int .i64 y.b, .int .i64 y.key, .int .i64 y.val, .int .i64 y.lo, .int .i64 y.hi, .int .i64 y.n, .int .u8 y.pol, .int .u8 y.pk, .int .i64 y.pa, .int .i64 y.pb, .bool y.pnot, .slice d y.pairs.length e, .slice r y.keys.length e'] 37
  generalize w1.alloc (.cells #[.int .u8 y.op, .int .i64 y.a, .int .i64 y.b, .int .i64 y.key, .int .i64 y.val, .int .i64 y.lo, .int .i64 y.hi, .int .i64 y.n, .int .u8 y.pol, .int .u8 y.pk, .int .i64 y.pa, .int .i64 y.pb, .bool y.pnot, .slice d y.pairs.length e, .slice r y.keys.length e'] 37) = w2 at *
  generalize w1.heap.size = yb at Y2 ⊢
  have X2 : OpAt w2 xb x (.slice a x.pairs.length c) (.slice q x.keys.length c') := Blk.ext X1 e2
  have E2 := e1.trans e2
  have hcs2 := hcs.ext E2
  have hqs2 := hqs.ext E2
  have hds2 := hds.ext E2
  have hrs2 := hrs.ext E2
  intro K45
  refine ⟨_, _, _, X2.cell (i := 13) rfl rfl, _, _, _, Y2.cell (i := 13) rfl rfl, ifB_intro (fun z => h0 _ E2 fun e => by rw [e] at z; simp at z) fun zp => ⟨_, _, _, X2.cell (i := 14) rfl rfl, _, _, _, Y2.cell (i := 14) rfl rfl, ?_⟩⟩
  have zp : x.pairs.length = y.pairs.length := by
    have zp : ((x.pairs.length : Nat) : Int) = ((y.pairs.length : Nat) : Int) := by simpa using zp
    omega
  refine ifB_intro (fun z => h0 _ E2 fun e => by rw [e] at z; simp at z) fun zk => ?_
  have zk : x.keys.length = y.keys.length := by
    have zk : ((x.keys.length : Nat) : Int) = ((y.keys.length : Nat) : Int) := by simpa using zk
    omega
  refine ⟨_, _, _, X2.cell (i := 13) rfl rfl, ?_⟩
  refine ⟨fun vs w' => ∃ k : Nat, vs = [.int .i64 (k : Int)] ∧ k ≤ x.pairs.length ∧ Ext w2 w' ∧ x.pairs.take k = y.pairs.take k, fun vs _ => match vs with | [.int _ i] => x.pairs.length - i.toNat | _ => 0, ⟨0, rfl, Nat.zero_le _, ext_refl _, rfl⟩, ?_⟩
  rintro _ _ w3 ⟨k, hvs, hk, e3, ht⟩
  simp only [List.cons.injEq, Value.int.injEq, true_and, and_true] at hvs
  subst hvs
  refine ifB_intro (fun z => ?_) fun z => ?_
  · have z : k < x.pairs.length := by have := of_decide_eq_true z; omega
    refine ⟨?_⟩
    have e4 := e3.trans (ext_drew w3)
    refine ⟨fun w' => Ext w2 w', e4, _, _, _, fun w' e => (X2.ext e).cell (i := 13) rfl rfl, ?_⟩
    refine ix_prC (l := x.pairs) (fun w' e => hcs2.ext e) e4 rfl rfl z fun ad r1 r2 => ⟨_, r1, _, r2, _, _, _, fun w' e => (Y2.ext e).cell (i := 13) rfl rfl, ?_⟩
    refine ix_prC (l := y.pairs) (fun w' e => hds2.ext e) e4 rfl rfl (by omega) fun ad r3 r4 => ⟨_, r3, _, r4, ifB_intro (fun zz => h0 _ (E2.trans e4) fun e => ?_) fun zz => ?_⟩
    · subst e; simp at zz
    · have he : x.pairs[k] = y.pairs[k]'(by omega) := by
        simp only [Bool.and_true, Bool.not_eq_false', Bool.and_eq_true, beq_iff_eq] at zz
        exact Prod.ext zz.1 zz.2
      rw [wrap_succ (n := 5000) (by omega) (by omega)]
      refine ⟨⟨k + 1, rfl, by omega, e4, take_eq z (by omega) ht he⟩, ?_⟩
      show x.pairs.length - ((k + 1 : Nat) : Int).toNat < x.pairs.length - (k : Int).toNat
      omega
  · have z : k = x.pairs.length := by have := of_decide_eq_false z; omega
    have hpe : x.pairs = y.pairs := by rwa [List.take_of_length_le (by omega), List.take_of_length_le (by omega)] at ht
    clear ht
    refine ⟨_, _, _, (X2.ext e3).cell (i := 14) rfl rfl, ?_⟩
    refine ⟨fun vs w' => ∃ k : Nat, vs = [.int .i64 (k : Int)] ∧ k ≤ x.keys.length ∧ Ext w2 w' ∧ x.keys.take k = y.keys.take k, fun vs _ => match vs with | [.int _ i] => x.keys.length - i.toNat | _ => 0, ⟨0, rfl, Nat.zero_le _, e3, rfl⟩, ?_⟩
    rintro _ _ w4 ⟨k', hvs, hk', e4, ht⟩
    simp only [List.cons.injEq, Value.int.injEq, true_and, and_true] at hvs
    subst hvs
    refine ifB_intro (fun z => ?_) fun z => ?_
    · have z : k' < x.keys.length := by have := of_decide_eq_true z; omega
      refine ⟨?_⟩
      have e5 := e4.trans (ext_drew w4)
      refine ⟨fun w' => Ext w2 w', e5, _, _, _, fun w' e => (X2.ext e).cell (i := 14) rfl rfl, ?_⟩
      refine ix_intC (l := x.keys) (fun w' e => hqs2.ext e) e5 rfl z fun ad r1 => ⟨_, r1, _, _, _, fun w' e => (Y2.ext e).cell (i := 14) rfl rfl, ?_⟩
      refine ix_intC (l := y.keys) (fun w' e => hrs2.ext e) e5 rfl (by omega) fun ad r3 => ⟨_, r3, ifB_intro (fun zz => h0 _ (E2.trans e5) fun e => ?_) fun zz => ?_⟩
      · subst e; simp at zz
      · have he : x.keys[k'] = y.keys[k']'(by omega) := by simpa using zz
        rw [wrap_succ (n := 5000) (by omega) (by omega)]
        refine ⟨⟨k' + 1, rfl, by omega, e5, take_eq z (by omega) ht he⟩, ?_⟩
        show x.keys.length - ((k' + 1 : Nat) : Int).toNat < x.keys.length - (k' : Int).toNat
        omega
    · have z : k' = x.keys.length := by have := of_decide_eq_false z; omega
      have hke : x.keys = y.keys := by rwa [List.take_of_length_le (by omega), List.take_of_length_le (by omega)] at ht
      have X4 : OpAt w4 xb x (.slice a x.pairs.length c) (.slice q x.keys.length c') := Blk.ext X2 e4
      have Y4 : OpAt w4 yb y (.slice d y.pairs.length e) (.slice r y.keys.length e') := Blk.ext Y2 e4
      have E4 := E2.trans e4
      intro K90
      refine ⟨_, X4.cell (i := 0) rfl rfl, _, Y4.cell (i := 0) rfl rfl, ifB_intro (fun z0 => ?_) fun z => h0 _ E4 fun e => by rw [e] at z; simp at z⟩
      refine ⟨_, X4.cell (i := 1) rfl rfl, _, Y4.cell (i := 1) rfl rfl, ifB_intro (fun z1 => ?_) fun z => h0 _ E4 fun e => by rw [e] at z; simp at z⟩
      refine ⟨_, X4.cell (i := 2) rfl rfl, _, Y4.cell (i := 2) rfl rfl, ifB_intro (fun z2 => ?_) fun z => h0 _ E4 fun e => by rw [e] at z; simp at z⟩
      refine ⟨_, X4.cell (i := 3) rfl rfl, _, Y4.cell (i := 3) rfl rfl, ifB_intro (fun z3 => ?_) fun z => h0 _ E4 fun e => by rw [e] at z; simp at z⟩
      refine ⟨_, X4.cell (i := 4) rfl rfl, _, Y4.cell (i := 4) rfl rfl, ifB_intro (fun z4 => ?_) fun z => h0 _ E4 fun e => by rw [e] at z; simp at z⟩
      refine ⟨_, X4.cell (i := 5) rfl rfl, _, Y4.cell (i := 5) rfl rfl, ifB_intro (fun z5 => ?_) fun z => h0 _ E4 fun e => by rw [e] at z; simp at z⟩
      refine ⟨_, X4.cell (i := 6) rfl rfl, _, Y4.cell (i := 6) rfl rfl, ifB_intro (fun z6 => ?_) fun z => h0 _ E4 fun e => by rw [e] at z; simp at z⟩
      refine ⟨_, X4.cell (i := 7) rfl rfl, _, Y4.cell (i := 7) rfl rfl, ifB_intro (fun z7 => ?_) fun z => h0 _ E4 fun e => by rw [e] at z; simp at z⟩
      refine ⟨_, X4.cell (i := 8) rfl rfl, _, Y4.cell (i := 8) rfl rfl, ifB_intro (fun z8 => ?_) fun z => h0 _ E4 fun e => by rw [e] at z; simp at z⟩
      refine ⟨_, X4.cell (i := 9) rfl rfl, _, X4.cell (i := 10) rfl rfl, _, X4.cell (i := 11) rfl rfl, _, X4.cell (i := 12) rfl rfl, _, Y4.cell (i := 9) rfl rfl, _, Y4.cell (i := 10) rfl rfl, _, Y4.cell (i := 11) rfl rfl, _, Y4.cell (i := 12) rfl rfl, ?_⟩
      show R (.returned (.bool ((x.pk == y.pk) && ((x.pa == y.pa) && ((x.pb == y.pb) && ((x.pnot == y.pnot) && true)))))) w4
      cases hb : ((x.pk == y.pk) && ((x.pa == y.pa) && ((x.pb == y.pb) && ((x.pnot == y.pnot) && true))))
      · exact h0 _ E4 fun e => by rw [e] at hb; simp at hb
      · simp only [Bool.and_true, Bool.and_eq_true, beq_iff_eq] at hb
        simp only [beq_iff_eq] at z0 z1 z2 z3 z4 z5 z6 z7 z8
        exact h1 _ E4 (POp.ext' z0 z1 z2 z3 z4 z5 z6 z7 z8 hb.1 hb.2.1 hb.2.2.1 hb.2.2.2 hpe hke)
theorem may_fold (p : Int) : may p = polMay p := rfl
theorem hasP_pol (d : Int) : hasP .pol d = (d == 1 || d == 8 || d == 9 || d == 10 || d == 14) := by
  unfold hasP partsOf
  by_cases h1 : d = 1
  · subst h1; rfl
  by_cases h2 : d = 8
  · subst h2; rfl
  by_cases h3 : d = 9
  · subst h3; rfl
  by_cases h4 : d = 10
  · subst h4; rfl
  by_cases h5 : d = 14
  · subst h5; rfl
  rw [show (d == 1 || d == 8 || d == 9 || d == 10 || d == 14) = false by simp [h1, h2, h3, h4, h5]]
  simp only [h1, h2, h3, h4, h5, if_false, or_self, decide_eq_false_iff_not]
  intro h
  repeat' split at h
  all_goals simp at h
theorem hasP_pred (d : Int) : hasP .pred d = (d == 13) := by
  unfold hasP partsOf
  by_cases h1 : d = 13
  · subst h1; rfl
  rw [show (d == 13) = false by simp [h1]]
  simp only [h1, if_false, decide_eq_false_iff_not]
  intro h
  repeat' split at h
  all_goals simp at h
theorem c_check {x : POp} {pv kv : Value} {w : World} {R : EW} (hx : InO x) (hr : OpRd w x pv kv) (hP : x.pairs.length ≤ 5000) (hK : x.keys.length ≤ 5000)
    (h : ∀ w', Ext w w' → R (.returned (.int .i64 (if mayO x = true then 0 else 2))) w') : Calls Tryz.prog 13 #[opV x pv kv] w R := by
  have hr0 := hr
  obtain ⟨a, c, rfl, hac, hcs, hab⟩ := hr.p
  obtain ⟨q, c', rfl, hqc, hqs, hqb⟩ := hr.k
  refine sh13_ok _ _ _ _ _ _ _ _ _ _ _ _ _ _ _ _ _ _ _ ?_
  unfold sh13
  refine ⟨?_⟩
  have e1 := ext_alloc w (.cells #[.int .u8 x.op, .int .i64 x.a, .int .i64 x.b, .int .i64 x.key, .int .i64 x.val, .int .i64 x.lo, .int .i64 x.hi, .int .i64 x.n, .int .u8 x.pol, .int .u8 x.pk, .int .i64 x.pa, .int .i64 x.pb, .bool x.pnot, .slice a x.pairs.length c, .slice q x.keys.length c'] 37)
  have X1 : OpAt _ _ x (.slice a x.pairs.length c) (.slice q x.keys.length c') := blk_alloc w #[.int .u8 x.op, .int .i64 x.a, .int .i64 x.b, .int .i64 x.key, .int .i64 x.val, .int .i64 x.lo, .int .i64 x.hi, .int .i64 x.n, .int .u8 x.pol, .int .u8 x.pk, .int .i64 x.pa, .int .i64 x.pb, .bool x.pnot, .slice a x.pairs.length c, .slice q x.keys.length c'] 37
  generalize w.alloc (.cells #[.int .u8 x.op, .int .i64 x.a, .int .i64 x.b, .int .i64 x.key, .int .i64 x.val, .int .i64 x.lo, .int .i64 x.hi, .int .i64 x.n, .int .u8 x.pol, .int .u8 x.pk, .int .i64 x.pa, .int .i64 x.pb, .bool x.pnot, .slice a x.pairs.length c, .slice q x.keys.length c'] 37) = w1 at *
  have xlt := X1.lt
  generalize hxb : w.heap.size = xb at *
  rw [← checkO_may hx] at h
  refine ⟨_, X1.cell (i := 0) rfl rfl, _, X1.cell (i := 1) rfl rfl, _, X1.cell (i := 2) rfl rfl, _, X1.cell (i := 3) rfl rfl, _, X1.cell (i := 4) rfl rfl, _, X1.cell (i := 5) rfl rfl, _, X1.cell (i := 6) rfl rfl, _, X1.cell (i := 7) rfl rfl, _, X1.cell (i := 8) rfl rfl, _, X1.cell (i := 9) rfl rfl, _, X1.cell (i := 10) rfl rfl, _, X1.cell (i := 11) rfl rfl, _, X1.cell (i := 12) rfl rfl, _, _, _, X1.cell (i := 13) rfl rfl, _, _, _, X1.cell (i := 14) rfl rfl, ?_⟩
  have R2 : ∀ w', Ext w w' → checkO x = false → R (.returned (.int .i64 2)) w' := fun w' e hc => by
    have := h w' e
    rwa [hc, if_neg (by simp)] at this
  have R0 : ∀ w', Ext w w' → checkO x = true → R (.returned (.int .i64 0)) w' := fun w' e hc => by
    have := h w' e
    rwa [hc, if_pos rfl] at this
  refine do_call Tryz.call25 (c_copied hx (hr0.ext e1) hP hK (fun y pv' kv' w2 hc e2 hy => ?_) fun y p n0 c0 q0 m0 d0 w2 hc e2 => ?_)
  · obtain ⟨p, c0, rfl, _⟩ := hy.p
    obtain ⟨q0, d0, rfl, _⟩ := hy.k
    refine retS_ret ⟨_, _, _, _, _, _, _, _, _, _, _, _, _, _, _, _, _, _, _, _, rfl, ⟨?_⟩⟩
    have e3 := ext_alloc w2 (.cells #[.int .u8 0, .int .i64 0, .int .i64 0, .int .i64 0, .int .i64 0, .int .i64 0, .int .i64 0, .int .i64 0, .int .u8 0, .int .u8 0, .int .i64 0, .int .i64 0, .bool false, .slice none 0 0, .slice none 0 0] 37)
    refine st15 (blk_alloc w2 #[.int .u8 0, .int .i64 0, .int .i64 0, .int .i64 0, .int .i64 0, .int .i64 0, .int .i64 0, .int .i64 0, .int .u8 0, .int .u8 0, .int .i64 0, .int .i64 0, .bool false, .slice none 0 0, .slice none 0 0] 37) fun w4 h4 g4 => ?_
    have e4 : Ext w2 w4 := e3.st g4 (Nat.le_refl _)
    have Y4 : OpAt w4 w2.heap.size y (.slice p y.pairs.length c0) (.slice q0 y.keys.length d0) := h4
    have X4 : OpAt w4 xb x (.slice a x.pairs.length c) (.slice q x.keys.length c') := Blk.ext X1 (e2.trans e4)
    have E4 := (e1.trans e2).trans e4
    have hr4 := hr0.ext E4
    have hy4 := hy.ext e4
    have hchk : checkO x = (decide (1 ≤ x.op ∧ x.op ≤ 22) && sameO x y && (!hasP .pol x.op || polMay x.pol) && (!hasP .pred x.op || predMay x.pk x.pa x.pb)) := by unfold checkO; rw [hc]
    generalize w2.heap.size = yb at *
    intro K82
    have fin : ∀ pol : Bool, pol = hasP .pol x.op → K82 pol w4 := by
      intro pol hpol
      refine ifB_f rfl ⟨_, X4.cell (i := 0) rfl rfl, ifB_intro (fun z => R2 _ E4 ?_) fun z1 => ⟨_, X4.cell (i := 0) rfl rfl, ifB_intro (fun z => R2 _ E4 ?_) fun z2 => ?_⟩⟩
      · have z := of_decide_eq_true z
        rw [hchk, show decide (1 ≤ x.op ∧ x.op ≤ 22) = false by simp; omega]; rfl
      · have z := of_decide_eq_true z
        rw [hchk, show decide (1 ≤ x.op ∧ x.op ≤ 22) = false by simp; omega]; rfl
      have z1 := of_decide_eq_false z1
      have z2 := of_decide_eq_false z2
      rw [show decide (1 ≤ x.op ∧ x.op ≤ 22) = true by simp; omega, Bool.true_and] at hchk
      refine ⟨_, X4.cell (i := 0) rfl rfl, _, X4.cell (i := 1) rfl rfl, _, X4.cell (i := 2) rfl rfl, _, X4.cell (i := 3) rfl rfl, _, X4.cell (i := 4) rfl rfl, _, X4.cell (i := 5) rfl rfl, _, X4.cell (i := 6) rfl rfl, _, X4.cell (i := 7) rfl rfl, _, X4.cell (i := 8) rfl rfl, _, X4.cell (i := 9) rfl rfl, _, X4.cell (i := 10) rfl rfl, _, X4.cell (i := 11) rfl rfl, _, X4.cell (i := 12) rfl rfl, _, _, _, X4.cell (i := 13) rfl rfl, _, _, _, X4.cell (i := 14) rfl rfl, _, Y4.cell (i := 0) rfl rfl, _, Y4.cell (i := 1) rfl rfl, _, Y4.cell (i := 2) rfl rfl, _, Y4.cell (i := 3) rfl rfl, _, Y4.cell (i := 4) rfl rfl, _, Y4.cell (i := 5) rfl rfl, _, Y4.cell (i := 6) rfl rfl, _, Y4.cell (i := 7) rfl rfl, _, Y4.cell (i := 8) rfl rfl, _, Y4.cell (i := 9) rfl rfl, _, Y4.cell (i := 10) rfl rfl, _, Y4.cell (i := 11) rfl rfl, _, Y4.cell (i := 12) rfl rfl, _, _, _, Y4.cell (i := 13) rfl rfl, _, _, _, Y4.cell (i := 14) rfl rfl, do_call Tryz.call26 (c_osame hr4 hy4 hP hK (fun w5 e5 he => retS_ret ⟨true, rfl, ifB_f rfl ?_⟩) fun w5 e5 hne => retS_ret ⟨false, rfl, ifB_t rfl (R2 _ (E4.trans e5) ?_)⟩)⟩
      · rw [show sameO x y = true from sameO_iff.2 he, Bool.true_and, ← hpol] at hchk
        have X5 : OpAt w5 xb x (.slice a x.pairs.length c) (.slice q x.keys.length c') := Blk.ext X4 e5
        cases pol
        · rw [show (!false || polMay x.pol) = true from rfl, Bool.true_and] at hchk
          refine ifB_f rfl ⟨_, (Blk.ext X5 (ext_refl _)).cell (i := 0) rfl rfl, ifB_intro (fun z13 => ⟨_, (Blk.ext X5 (ext_refl _)).cell (i := 9) rfl rfl, _, (Blk.ext X5 (ext_refl _)).cell (i := 10) rfl rfl, _, (Blk.ext X5 (ext_refl _)).cell (i := 11) rfl rfl, _, (Blk.ext X5 (ext_refl _)).cell (i := 12) rfl rfl, do_call Tryz.call28 (c_smay hx.pa hx.pb fun w8 e8 => retS_ret ⟨_, rfl, ?_⟩)⟩) fun z13 => ?_⟩
          · rw [hasP_pred, z13] at hchk
            cases hpm : predMay x.pk x.pa x.pb
            · exact ifB_t rfl (R2 _ ((E4.trans e5).trans e8) (by rw [hchk, hpm]; rfl))
            · exact ifB_f rfl (R0 _ ((E4.trans e5).trans e8) (by rw [hchk, hpm]; rfl))
          · exact R0 _ (E4.trans e5) (by rw [hchk, hasP_pred, z13]; rfl)
        · rw [show (!true || polMay x.pol) = polMay x.pol from rfl] at hchk
          refine ifB_t rfl ⟨_, X5.cell (i := 8) rfl rfl, do_call Tryz.call27 (c_fmay fun w6 e6 => retS_ret ⟨_, rfl, ?_⟩)⟩
          rw [may_fold]
          cases hpp : polMay x.pol
          · exact ifB_t rfl (R2 _ ((E4.trans e5).trans e6) (by rw [hchk, hpp]; rfl))
          rw [hpp, Bool.true_and] at hchk
          refine ifB_f rfl ⟨_, (Blk.ext X5 e6).cell (i := 0) rfl rfl, ifB_intro (fun z13 => ⟨_, (Blk.ext X5 e6).cell (i := 9) rfl rfl, _, (Blk.ext X5 e6).cell (i := 10) rfl rfl, _, (Blk.ext X5 e6).cell (i := 11) rfl rfl, _, (Blk.ext X5 e6).cell (i := 12) rfl rfl, do_call Tryz.call28 (c_smay hx.pa hx.pb fun w8 e8 => retS_ret ⟨_, rfl, ?_⟩)⟩) fun z13 => ?_⟩
          · rw [hasP_pred, z13] at hchk
            cases hpm : predMay x.pk x.pa x.pb
            · exact ifB_t rfl (R2 _ (((E4.trans e5).trans e6).trans e8) (by rw [hchk, hpm]; rfl))
            · exact ifB_f rfl (R0 _ (((E4.trans e5).trans e6).trans e8) (by rw [hchk, hpm]; rfl))
          · exact R0 _ ((E4.trans e5).trans e6) (by rw [hchk, hasP_pred, z13]; rfl)
      · rw [hchk]
        cases hs : sameO x y
        · rfl
        · exact absurd (sameO_iff.1 hs) hne
    have hp := hasP_pol x.op
    refine ⟨_, X4.cell (i := 0) rfl rfl, ifB_intro (fun z => fin true (by rw [hp, z]; rfl)) fun z1 => ⟨_, X4.cell (i := 0) rfl rfl, ifB_intro (fun z => fin true (by rw [hp, z1, z]; rfl)) fun z2 => ⟨_, X4.cell (i := 0) rfl rfl, ifB_intro (fun z => fin true (by rw [hp, z1, z2, z]; rfl)) fun z3 =>
      ⟨_, X4.cell (i := 0) rfl rfl, ifB_intro (fun z => fin true (by rw [hp, z1, z2, z3, z]; rfl)) fun z4 => ⟨_, X4.cell (i := 0) rfl rfl, fin _ (by rw [hp, z1, z2, z3, z4]; rfl)⟩⟩⟩⟩⟩
  · refine retS_ret ⟨_, _, _, _, _, _, _, _, _, _, _, _, _, _, _, _, _, _, _, _, rfl, ⟨?_⟩⟩
    have e3 := ext_alloc w2 (.cells #[.int .u8 0, .int .i64 0, .int .i64 0, .int .i64 0, .int .i64 0, .int .i64 0, .int .i64 0, .int .i64 0, .int .u8 0, .int .u8 0, .int .i64 0, .int .i64 0, .bool false, .slice none 0 0, .slice none 0 0] 37)
    refine st15 (blk_alloc w2 #[.int .u8 0, .int .i64 0, .int .i64 0, .int .i64 0, .int .i64 0, .int .i64 0, .int .i64 0, .int .i64 0, .int .u8 0, .int .u8 0, .int .i64 0, .int .i64 0, .bool false, .slice none 0 0, .slice none 0 0] 37) fun w4 h4 g4 => ?_
    have e4 : Ext w2 w4 := e3.st g4 (Nat.le_refl _)
    have X4 : OpAt w4 xb x (.slice a x.pairs.length c) (.slice q x.keys.length c') := Blk.ext X1 (e2.trans e4)
    have bad := R2 w4 ((e1.trans e2).trans e4) (by unfold checkO; rw [hc])
    intro K82
    have fin : ∀ pol, K82 pol w4 := fun pol => ifB_t rfl bad
    exact ⟨_, X4.cell (i := 0) rfl rfl, ifB_intro (fun z => fin _) fun z1 => ⟨_, X4.cell (i := 0) rfl rfl, ifB_intro (fun z => fin _) fun z2 => ⟨_, X4.cell (i := 0) rfl rfl, ifB_intro (fun z => fin _) fun z3 =>
      ⟨_, X4.cell (i := 0) rfl rfl, ifB_intro (fun z => fin _) fun z4 => ⟨_, X4.cell (i := 0) rfl rfl, fin _⟩⟩⟩⟩⟩
end Go.Proofs.YtmkpkmdnapccgaaGreatDoor

namespace Go.Proofs.YtmkpkmdnapccgaaGreatDoor
open Go Go.Sh Go.RowKit

theorem c_r4same {l r : List Pr} {q q' : OA} {n c n' c' : Nat} {w : World} {R : EW} (hl : Cs w q (prs l)) (hn : l.length = n) (hr : Cs w q' (prs r)) (hn' : r.length = n') (hm : n ≤ 1000000000000)
    (h : ∀ w', Ext w w' → R (.returned (.bool (decide (l = r)))) w') : Calls Tryz.prog 38 #[.slice q n c, .slice q' n' c'] w R := by
  refine sh38_ok _ _ _ _ _ _ ?_
  unfold sh38
  refine ifB_intro (fun hne => ?_) fun heq => ?_
  · have hne : l ≠ r := fun e => by subst e; simp [← hn, ← hn'] at hne
    have := h w (ext_refl w)
    rw [decide_eq_false hne] at this
    exact this
  have heq : n = n' := by simp at heq; omega
  subst heq
  refine ⟨fun vs w' => ∃ k : Nat, vs = [.int .i64 k] ∧ k ≤ n ∧ Ext w w' ∧ l.take k = r.take k, fun vs _ => n - (intOf (vs.getD 0 undef)).toNat, ⟨0, rfl, by omega, ext_refl w, by simp⟩, ?_⟩
  rintro i _ w2 ⟨k, hv, hkn, E, hlo⟩
  simp only [List.cons.injEq, Value.int.injEq, true_and, and_true] at hv
  subst hv
  refine ifB_intro (fun hlt => ?_) fun hge => ?_
  · have hlt : k < n := by have := of_decide_eq_true hlt; omega
    refine ⟨⟨fun w' => Ext w2 w', ext_drew _, ?_⟩⟩
    refine ix_prC (fun w' e => (hl.ext E).ext e) (ext_refl _) hn rfl hlt fun a r1 r2 => ⟨_, r1, _, r2, ?_⟩
    refine ix_prC (fun w' e => (hr.ext E).ext e) (ext_refl _) hn' rfl hlt fun a r3 r4 => ⟨_, r3, _, r4, ?_⟩
    refine ifB_intro (fun h1 => ?_) fun h1 => ?_
    · have hne : l ≠ r := fun e => by subst e; simp at h1
      have := h w2.drew E.drew
      rw [decide_eq_false hne] at this
      exact this
    · have h1 : l[k] = r[k] := by simp at h1; exact Prod.ext h1.1 h1.2
      refine ⟨⟨k + 1, ?_, by omega, E.drew, ?_⟩, ?_⟩
      · rw [wrap_succ hlt (by omega)]
      · rw [← List.take_append_getElem (by omega), ← List.take_append_getElem (by omega), hlo, h1]
      · rw [wrap_succ hlt (by omega)]; simp [intOf]; omega
  · have hge : k = n := by have := of_decide_eq_false hge; omega
    subst hge
    rw [List.take_of_length_le (by omega), List.take_of_length_le (by omega)] at hlo
    have := h w2 E
    rw [decide_eq_true hlo] at this
    exact this
end Go.Proofs.YtmkpkmdnapccgaaGreatDoor

namespace Go.Proofs.YtmkpkmdnapccgaaGreatDoor
open Go Go.Sh Go.RowKit

abbrev OpE := POp × Value × Value
def opC (e : OpE) : List Value := (opCells e.1 e.2.1 e.2.2).toList
theorem do_al {cs : Array Value} {t : TypeId} {w : World} {K : Nat → World → Prop} (h : ∀ b w', Ext w w' → Blk w' b cs t → w.heap.size ≤ b → K b w') : doAl (.cells cs t) w K := ⟨h _ _ (ext_alloc _ _) (blk_alloc _ _ _) (Nat.le_refl _)⟩
theorem cs_blk {w : World} {b : Nat} {cs : Array Value} {t : TypeId} (h : Blk w b cs t) : Cs w (some (blk b)) cs.toList := fun i v hv => ⟨_, rfl, h.cell (add_blk b i) (by simpa using hv)⟩
def OpIn (w : World) (e : OpE) : Prop := InO e.1 ∧ OpRd w e.1 e.2.1 e.2.2 ∧ e.1.pairs.length ≤ 5000 ∧ e.1.keys.length ≤ 5000
def szO (e : OpE) : Nat := e.1.pairs.length + e.1.keys.length
theorem szO_le : ∀ {l : List OpE}, (∀ e ∈ l, szO e ≤ 35184372088832) → (l.map szO).sum ≤ l.length * 35184372088832
  | [], _ => Nat.zero_le _
  | e :: l, h => by
    have h1 := h e (by simp)
    have h2 := szO_le (l := l) fun x hx => h x (by simp [hx])
    simp only [List.map_cons, List.sum_cons, List.length_cons]
    omega
end Go.Proofs.YtmkpkmdnapccgaaGreatDoor

namespace Go.Proofs.YtmkpkmdnapccgaaGreatDoor
open Go Go.Sh Go.RowKit

def fixP : List Part := [.a, .b, .key, .val, .lo, .hi, .n, .pol, .pred, .pairs, .keys]
theorem fix_parts (d : Int) : fixP.filter (fun p => hasP p d) = partsOf d := by
  unfold hasP
  exact partsOf_cases d (C := fun l => fixP.filter (fun p => decide (p ∈ l)) = l) (by decide) (by decide) (by decide) (by decide) (by decide) (by decide) (by decide) (by decide) (by decide) (by decide) (by decide) (by decide)
theorem filter_flat {α β : Type} (f : α → List β) (q : α → Bool) : ∀ l : List α, (l.filter q).flatMap f = l.flatMap fun p => if q p = true then f p else []
  | [] => rfl
  | x :: l => by
    rw [List.filter_cons, List.flatMap_cons]
    cases h : q x
    · simp only [Bool.false_eq_true, if_false, List.nil_append]; exact filter_flat f q l
    · simp only [if_true, List.flatMap_cons]; rw [filter_flat f q l]
theorem parts_flat {β : Type} (f : Part → List β) (d : Int) : (partsOf d).flatMap f = fixP.flatMap fun p => if hasP p d = true then f p else [] := by
  rw [← fix_parts d]
  exact filter_flat f (fun p => hasP p d) fixP
def wrIf (x : POp) (p : Part) : Bs := if hasP p x.op = true then wrP p x else []
theorem wrB_fix (x : POp) : wrB x = u8 x.op :: fixP.flatMap (wrIf x) := by
  unfold wrB wrs
  rw [parts_flat]; rfl
theorem joinW_cons : ∀ (w : Bs) (ws : List Bs), joinW (w :: ws) = w ++ ws.flatMap fun v => 32 :: v
  | w, [] => by simp [joinW]
  | w, v :: ws => by rw [joinW, joinW_cons v ws, List.flatMap_cons, List.cons_append]
def lnP (x : POp) (p : Part) : Bs := (wrW p x).flatMap fun v => 32 :: v
def lnIf (x : POp) (p : Part) : Bs := if hasP p x.op = true then lnP x p else []
theorem lineO_fix (x : POp) : lineO x = opNames.getD x.op.toNat [] ++ fixP.flatMap (lnIf x) := by
  unfold lineO wordsOf
  rw [joinW_cons, List.flatMap_assoc, parts_flat]; rfl
theorem lnIf_pairs {x : POp} (h : Masked x) : lnIf x .pairs = lnP x .pairs := by
  unfold lnIf hasP
  by_cases hp : Part.pairs ∈ partsOf x.op
  · rw [decide_eq_true hp]; rfl
  · have e : ([] : List (Int × Int)) = x.pairs := h _ hp
    rw [decide_eq_false hp]
    simp only [lnP, wrW, ← e]
    rfl
theorem lnIf_keys {x : POp} (h : Masked x) : lnIf x .keys = lnP x .keys := by
  unfold lnIf hasP
  by_cases hp : Part.keys ∈ partsOf x.op
  · rw [decide_eq_true hp]; rfl
  · have e : ([] : List Int) = x.keys := h _ hp
    rw [decide_eq_false hp]
    simp only [lnP, wrW, ← e]
    rfl

theorem dec_len {v : Int} (h : In v) : (Go.Sh.dec v).length ≤ 21 := Lib.itoa_length_le v h.1 (by have := h.2; omega)
theorem prW_len {p : Int × Int} (h : In p.1 ∧ In p.2) : (prW p).length ≤ 43 := by
  have := dec_len h.1
  have := dec_len h.2
  unfold prW
  rw [List.length_append, List.length_cons]; omega
theorem getD_len {ns : List Bs} {m : Nat} (h : ∀ w ∈ ns, w.length ≤ m) (k : Nat) : (ns.getD k []).length ≤ m := by
  rw [List.getD_eq_getElem?_getD]
  cases hk : ns[k]? with
  | none => simp
  | some w => exact h w (List.mem_of_getElem? hk)
theorem words_len {x : POp} (h : InO x) : ∀ w ∈ wordsOf x, w.length ≤ 43 := by
  have t1 : ∀ w ∈ opNames, w.length ≤ 43 := by decide
  have t2 : ∀ w ∈ polNames, w.length ≤ 43 := by decide
  have t3 : ∀ w ∈ kindNames, w.length ≤ 43 := by decide
  have hd : ∀ {v : Int}, In v → (Go.Sh.dec v).length ≤ 43 := fun hv => Nat.le_trans (dec_len hv) (by omega)
  intro w hw
  rcases List.mem_cons.1 hw with rfl | hw
  · exact getD_len t1 _
  · obtain ⟨p, _, hw⟩ := List.mem_flatMap.1 hw
    cases p <;> simp only [wrW, List.mem_singleton, List.mem_map, List.mem_append] at hw
    case pairs => obtain ⟨p, hp, rfl⟩ := hw; exact prW_len (h.pairs p hp)
    case keys => obtain ⟨p, hp, rfl⟩ := hw; exact hd (h.keys p hp)
    case pol => rw [hw]; exact getD_len t2 _
    case pred =>
      rcases hw with hw | hw | hw
      · split at hw
        · obtain rfl : w = notW := by simpa using hw
          decide
        · simp at hw
      · rw [hw]; exact getD_len t3 _
      · split at hw
        · simp at hw
        · simp only [List.mem_cons, List.not_mem_nil, or_false] at hw
          rcases hw with rfl | rfl
          · exact hd h.pa
          · exact hd h.pb
    case a => rw [hw]; exact hd h.a
    case b => rw [hw]; exact hd h.b
    case n => rw [hw]; exact hd h.n
    case key => rw [hw]; exact hd h.key
    case val => rw [hw]; exact hd h.val
    case lo => rw [hw]; exact hd h.lo
    case hi => rw [hw]; exact hd h.hi
theorem flat_len {α β : Type} {f : α → List β} {m : Nat} : ∀ {l : List α}, (∀ a ∈ l, (f a).length ≤ m) → (l.flatMap f).length ≤ l.length * m
  | [], _ => by simp
  | a :: l, h => by
    have h1 := h a (by simp)
    have h2 := flat_len (f := f) (l := l) fun b hb => h b (by simp [hb])
    rw [List.flatMap_cons, List.length_append, List.length_cons, Nat.succ_mul]; omega
theorem joinW_len {ws : List Bs} (h : ∀ w ∈ ws, w.length ≤ 43) : (joinW ws).length ≤ ws.length * 44 := by
  cases ws with
  | nil => simp [joinW]
  | cons w ws =>
    have h1 := h w (by simp)
    have h2 : (ws.flatMap fun v => 32 :: v).length ≤ ws.length * 44 := flat_len fun v hv => by
      have := h v (by simp [hv])
      simp only [List.length_cons]; omega
    rw [joinW_cons, List.length_append, List.length_cons, Nat.succ_mul]; omega
theorem parts_len (d : Int) : (partsOf d).length ≤ 4 := partsOf_cases d (C := fun l => l.length ≤ 4) (by decide) (by decide) (by decide) (by decide) (by decide) (by decide) (by decide) (by decide) (by decide) (by decide) (by decide) (by decide)
theorem vF_len : ∀ f u : Nat, (vEncF f u).length ≤ 1 + u
  | 0, u => by simp [vEncF]
  | f + 1, u => by
    rw [vEncF]
    split
    · simp
    · have := vF_len f (u / 128)
      rw [List.length_cons]; omega
theorem vlen (n : Nat) : (numE (n : Int)).length ≤ 20 + 2 * n := by
  have := vF_len (zig (n : Int)) (zig (n : Int))
  have h : zig (n : Int) = 2 * n := by unfold zig; rw [codeI3, if_neg (by omega)]; omega
  unfold numE vEnc
  omega
theorem wrP_len {x : POp} (h : InO x) (p : Part) : (wrP p x).length ≤ 32 + 22 * (x.pairs.length + x.keys.length) := by
  have hn : ∀ {v : Int}, In v → (numE v).length ≤ 10 := fun hv => (numE_len hv).2
  cases p
  case pairs =>
    have h1 := flat_len (f := fun p : Int × Int => numE p.1 ++ numE p.2) (m := 20) (l := x.pairs) fun p hp => by
      have h1 := hn (h.pairs p hp).1
      have h2 := hn (h.pairs p hp).2
      rw [List.length_append]; omega
    have h2 : (numE (x.pairs.length : Int)).length ≤ 20 + 2 * x.pairs.length := vlen _
    simp only [wrP, prB, List.length_append]
    omega
  case keys =>
    have h1 := flat_len (f := numE) (m := 10) (l := x.keys) fun v hv => hn (h.keys v hv)
    have h2 : (numE (x.keys.length : Int)).length ≤ 20 + 2 * x.keys.length := vlen _
    simp only [wrP, keyB, List.length_append]
    omega
  case pred =>
    have h1 := hn h.pa
    have h2 := hn h.pb
    simp only [wrP, List.length_append, List.length_cons, List.length_nil]
    omega
  case pol => simp only [wrP, List.length_cons, List.length_nil]; omega
  case a => have := hn h.a; simp only [wrP]; omega
  case b => have := hn h.b; simp only [wrP]; omega
  case n => have := hn h.n; simp only [wrP]; omega
  case key => have := hn h.key; simp only [wrP]; omega
  case val => have := hn h.val; simp only [wrP]; omega
  case lo => have := hn h.lo; simp only [wrP]; omega
  case hi => have := hn h.hi; simp only [wrP]; omega
theorem wrB_len {x : POp} (h : InO x) : (wrB x).length ≤ 129 + 88 * (x.pairs.length + x.keys.length) := by
  have h1 := flat_len (f := fun p => wrP p x) (l := partsOf x.op) fun p _ => wrP_len h p
  have h2 := parts_len x.op
  have h3 : (partsOf x.op).length * (32 + 22 * (x.pairs.length + x.keys.length)) ≤ 4 * (32 + 22 * (x.pairs.length + x.keys.length)) := Nat.mul_le_mul_right _ h2
  unfold wrB wrs
  rw [List.length_cons]
  omega
theorem encO_len : ∀ {l : List OpE}, (∀ e ∈ l, InO e.1) → (encO (l.map (·.1))).length ≤ 129 * l.length + 88 * (l.map szO).sum
  | [], _ => by simp [encO]
  | e :: l, h => by
    have h1 := wrB_len (h e (by simp))
    have h2 := encO_len (l := l) fun x hx => h x (by simp [hx])
    have e3 : encO ((e :: l).map (·.1)) = wrB e.1 ++ encO (l.map (·.1)) := by simp [encO]
    rw [e3, List.length_append]
    simp only [List.map_cons, List.sum_cons, List.length_cons, szO]
    omega
def encR (l : List POp) : Bs × Int := if ∀ x ∈ l, mayO x = true then (encO l, 0) else ([], 2)
def lineR (x : POp) : Bs × Int := if mayO x = true then (lineO x, 0) else ([], 2)
end Go.Proofs.YtmkpkmdnapccgaaGreatDoor

namespace Go.Proofs.YtmkpkmdnapccgaaGreatDoor
open Go Go.Sh Go.RowKit

theorem index_one (b c : UInt8) (l : Bs) : Lib.index (b :: l) [c] = if b = c then 0 else if Lib.index l [c] = -1 then -1 else Lib.index l [c] + 1 := by
  rw [Lib.index]
  have e : List.isPrefixOf [c] (b :: l) = decide (b = c) := by
    simp only [List.isPrefixOf, Bool.and_true]
    by_cases h : b = c
    · subst h; simp
    · rw [decide_eq_false h, beq_eq_false_iff_ne]; exact fun e => h e.symm
  rw [e]
  by_cases h : b = c
  · rw [if_pos h, decide_eq_true h]; rfl
  · rw [if_neg h, decide_eq_false h]
    simp only [Bool.false_eq_true, if_false, beq_iff_eq]
theorem split_eq : ∀ s : Bs, Lib.splitK [32] 0 (s.count 32) s = splitW s
  | [] => rfl
  | b :: l => by
    have ih := split_eq l
    rw [splitW]
    by_cases hb : b = 32
    · subst hb
      rw [if_pos rfl, List.count_cons_self, Lib.splitK, index_one, if_pos rfl, if_neg (by decide)]
      simp only [Int.toNat_zero, Nat.zero_add, List.take_zero, List.length_cons, List.length_nil, List.drop_succ_cons, List.drop_zero]
      rw [ih]
    · rw [if_neg hb, List.count_cons_of_ne (by simpa using hb)]
      cases hk : l.count 32 with
      | zero =>
        rw [hk] at ih
        rw [← ih]; rfl
      | succ k =>
        rw [hk] at ih
        rw [← ih]
        simp only [Lib.splitK]
        rw [index_one, if_neg hb]
        by_cases hi : Lib.index l [32] = -1
        · rw [if_pos hi, hi]; rfl
        · have hg := Lib.index_ge l [32]
          rw [if_neg hi, if_neg (by simp; omega), if_neg (by simpa using hi)]
          rw [show (Lib.index l [32] + 1).toNat = (Lib.index l [32]).toNat + 1 by omega]
          simp only [Nat.add_zero, List.take_succ_cons, List.length_cons, List.length_nil, Nat.zero_add, List.drop_succ_cons]
theorem cut_eq : ∀ s : Bs, Lib.cut s [58] = match cutC s with | some (a, b) => (a, b, true) | none => (s, [], false)
  | [] => by decide
  | b :: l => by
    have ih := cut_eq l
    unfold Lib.cut at ih ⊢
    rw [cutC, index_one]
    by_cases hb : b = 58
    · subst hb
      rw [if_pos rfl, if_pos rfl, if_pos (by decide)]; rfl
    · rw [if_neg hb, if_neg hb]
      have hg := Lib.index_ge l [58]
      by_cases hi : Lib.index l [58] = -1
      · rw [hi] at ih
        rw [if_neg (by decide)] at ih
        rw [if_pos hi, if_neg (by decide)]
        cases hc : cutC l with
        | none => rfl
        | some r => rw [hc] at ih; simp at ih
      · rw [if_pos (by omega)] at ih
        rw [if_neg hi, if_pos (by omega)]
        rw [show (Lib.index l [58] + 1).toNat = (Lib.index l [58]).toNat + 1 by omega]
        cases hc : cutC l with
        | none => rw [hc] at ih; simp at ih
        | some r =>
          rw [hc] at ih
          obtain ⟨x, y⟩ := r
          simp only [Prod.mk.injEq, and_true] at ih
          simp only [Option.map_some, Prod.mk.injEq, and_true]
          refine ⟨by rw [List.take_succ_cons, ih.1], ?_⟩
          show List.drop ((Lib.index l [58]).toNat + 1 + 1) (b :: l) = y
          rw [List.drop_succ_cons]
          exact ih.2
theorem join_eq : ∀ ws : List Bs, Lib.join ws [32] = joinW ws
  | [] => rfl
  | w :: ws => by
    rw [Lib.join_cons, joinW_cons]
    rfl
end Go.Proofs.YtmkpkmdnapccgaaGreatDoor

namespace Go.Proofs.YtmkpkmdnapccgaaGreatDoor
open Go Go.Sh Go.RowKit

def gT : Nat := 0
abbrev Tab (w : World) : Prop := Lib.TabIs Tryz.prog w "internal/strconv.uint64pow10" .u64 Lib.pow10Tab
theorem tab_global : Tryz.prog.globalNamed "internal/strconv.uint64pow10" = some gT := by kernel_rfl
theorem tab_of {w w' : World} (h : Tab w) (e : w'.heap[gT]? = w.heap[gT]?) : Tab w' := by
  unfold Tab Lib.TabIs World.var? at h ⊢
  rw [tab_global] at h ⊢
  simp only [Option.bind_some] at h ⊢
  rw [e]; exact h
theorem tab_lt {w : World} (h : Tab w) : gT < w.heap.size := by
  unfold Tab Lib.TabIs World.var? at h
  rw [tab_global] at h
  simp only [Option.bind_some] at h
  split at h
  · rename_i hh; exact (Array.getElem?_eq_some_iff.1 hh).1
  · cases h
theorem tab_ext {w w' : World} (h : Tab w) (e : Ext w w') : Tab w' := tab_of h (e.block _ (tab_lt h))
theorem ext_grow (w : World) (k : Nat) (os : Array Obj) : Ext w (Sort.grow (w.drewN k) os) := ⟨rfl, rfl, rfl, by simp [Sort.grow, World.drewN], fun j hj => by simp [Sort.grow, World.drewN, Array.getElem?_append, hj]⟩
theorem c_fmt {v : Int} {w : World} {R : EW} (hv : In v) (hT : Tab w) (h : ∀ w', Ext w w' → R (.returned (strB (Go.Sh.dec v))) w') : Calls Tryz.prog 35 #[.int .i64 v, .int .i64 10] w R :=
  (Tryz.strconv_FormatInt_10 v hv.1 (by have := hv.2; omega) w hT).mono fun e w' ⟨he, k, os, hw⟩ => by
    subst he hw
    exact h _ (ext_grow w k os)
theorem c_wdec {v : Int} {w : World} {R : EW} (hv : In v) (hT : Tab w) (h : ∀ w', Ext w w' → R (.returned (strB (Go.Sh.dec v))) w') : Calls Tryz.prog 194 #[.int .i64 v] w R := by
  refine sh194_ok _ ?_
  unfold sh194
  exact do_call Tryz.call35 (c_fmt hv hT fun w1 e1 => retS_ret ⟨_, rfl, h w1 e1⟩)
theorem cat_B (a b : Bs) : (⟨a.toArray⟩ : ByteArray) ++ (⟨b.toArray⟩ : ByteArray) = ⟨(a ++ b).toArray⟩ := by
  apply ByteArray.ext
  simp
theorem do_cat {a b : Bs} {K : ByteArray → Prop} (h : a.length + b.length ≤ 9223372036854775807) (k : K ⟨(a ++ b).toArray⟩) : doCat ⟨a.toArray⟩ ⟨b.toArray⟩ K := ⟨by simpa [ByteArray.size] using h, by rw [cat_B]; exact k⟩

theorem strs_app (a b : List Bs) : strs (a ++ b) = strs a ++ strs b := by simp [strs]
theorem strs_len (a : List Bs) : (strs a).length = a.length := by simp [strs]
theorem strs_one (l : List Bs) : ∀ u ∈ strs l, u.oneCell' = true := fun u hu => by
  simp only [strs, List.mem_map] at hu
  obtain ⟨x, _, rfl⟩ := hu
  rfl
theorem elStr : ElT Tryz.prog 62 9 (.string ⟨#[]⟩) 1 16 := ⟨Tryz.underlying62, ⟨_, Tryz.type9, by kernel_rfl, by kernel_rfl, by kernel_rfl⟩, rfl, by omega⟩
structure WoI (w0 : World) (cb : Nat) (w : World) (s : List Bs) : Prop where
  ex : ∃ p c, Blk w cb #[.slice p s.length c] 64 ∧ w.ownsRow (cb + 1) 9 1 (.slice p s.length c) s.length (strs s)
  gl : w.heap[gT]? = w0.heap[gT]?
  lt : gT < cb
  tab : Tab w0
def WoOwn (cb : Nat) (w : World) (k : Nat) : Prop := OutOwn cb w k ∨ k = gT
theorem WoI.t {w0 : World} {cb : Nat} {w : World} {s : List Bs} (h : WoI w0 cb w s) : Tab w := tab_of h.tab h.gl
theorem wo_lt {w0 : World} {cb : Nat} {w : World} {s : List Bs} {k : Nat} (hI : WoI w0 cb w s) (h : WoOwn cb w k) : k < w.heap.size := by
  obtain ⟨p, c, hb, hr⟩ := hI.ex
  rcases h with h | rfl
  · rcases (out_own hb k).1 h with rfl | h
    · exact hb.lt
    · exact (hr.lt k h).2
  · exact tab_lt hI.t
theorem wo_keep {w0 : World} {cb : Nat} {w w' : World} {s : List Bs} (hI : WoI w0 cb w s) (h : ∀ k, WoOwn cb w k → w'.heap[k]? = w.heap[k]?) : WoI w0 cb w' s ∧ ∀ k, WoOwn cb w' k ↔ WoOwn cb w k := by
  obtain ⟨p, c, hb, hr⟩ := hI.ex
  have hb' : Blk w' cb #[.slice p s.length c] 64 := by unfold Blk; rw [h cb (.inl (.inl rfl))]; exact hb
  exact ⟨⟨⟨p, c, hb', keep_row hr fun b hbb => h b (.inl ((out_own hb b).2 (.inr hbb)))⟩, (h gT (.inr rfl)).trans hI.gl, hI.lt, hI.tab⟩, fun k => by unfold WoOwn; rw [out_own hb', out_own hb]⟩
theorem wo_ext {w0 : World} {cb : Nat} {w w' : World} {s : List Bs} {S : Nat → Prop} (hI : WoI w0 cb w s) (e : Ext w w') : WoI w0 cb w' s ∧ Chg (WoOwn cb) S w w' := by
  have k := wo_keep hI fun k hk => e.block k (wo_lt hI hk)
  exact ⟨k.1, e.os, e.tape, e.output, e.size, fun k hk _ _ => e.block k hk, fun j _ h1 h2 => h1 ((k.2 j).1 h2)⟩
theorem wo_extO {w0 : World} {cb : Nat} {w w' : World} {s : List Bs} (hI : WoI w0 cb w s) (e : Ext w w') {b : Nat} (h : ¬ WoOwn cb w b) : ¬ WoOwn cb w' b := fun hk => h (((wo_keep hI fun k hk => e.block k (wo_lt hI hk)).2 b).1 hk)
theorem wo_app {w0 : World} {cb : Nat} {w : World} {s : List Bs} {p : OA} {n c : Nat} {x : Bs} {nb : Nat} {bs : Array Bool} {Kf : OA → Nat → Nat → World → Prop} {Kp : List PanicEntry → World → Prop} (hb : Blk w cb #[.slice p n c] 64) (hI : WoI w0 cb w s) (hl : s.length ≤ lim + 1000) (hx : Cs w (some (blk nb)) (strs [x]))
    (h : ∀ p' c' w', Blk w' cb #[.slice p n c] 64 → w'.ownsRow (cb + 1) 9 1 (.slice p' (s.length + 1) c') (s.length + 1) (strs (s ++ [x])) → Chg (WoOwn cb) (fun _ => False) w w' →
      (∀ k, (Value.slice p' (s.length + 1) c').ownBlock = some k → OutOwn cb w k ∨ w.heap.size ≤ k) → w'.heap[gT]? = w.heap[gT]? → Kf p' (s.length + 1) c' w') :
    doGo Tryz.prog (.builtin .append #[62, 62] 62 bs) #[.slice p n c, .slice (some (blk nb)) 1 1] w (retS (fun v w' => ∃ a b d, v = (.slice a b d : Value) ∧ Kf a b d w') Kp) := by
  obtain ⟨p0, c0, hb0, hr⟩ := hI.ex
  have e := blk_inj hb hb0
  injection e with e1 e2 e3
  subst e1 e2 e3
  have hlim : lim = 1000000000000 := rfl
  refine do_append' elStr hr hx (by simp [strs]) (strs_one _) (by simp only [maxLen]; omega) (by omega) hb.lt fun p' c' w' h2 g n10 => retS_ret ⟨p', _, c', rfl, ?_⟩
  have hne : some cb ≠ (Value.slice p s.length c).ownBlock := fun e => by have := (hr.lt cb e.symm).1; omega
  have hb' := hb.grown g hne
  have hg : some gT ≠ (Value.slice p s.length c).ownBlock := fun e => by have := (hr.lt gT e.symm).1; have := hI.lt; omega
  refine h p' c' w' hb' (by rw [strs_app]; exact h2) ⟨g.os, g.tape, g.output, g.size, fun k hk ho _ => g.block k hk fun e => ho (.inl ((out_own hb k).2 (.inr e.symm))), fun k _ ho h => ho ?_⟩ (fun k hk => ?_) (g.block gT (tab_lt hI.t) hg)
  · rcases h with h | h
    · exact .inl ((out_own hb k).2 ((out_own hb' k).1 h))
    · exact .inr h
  · rcases n10 k hk with h | h
    · exact .inl ((out_own hb k).2 (.inr h))
    · exact .inr h
theorem wo_put {w0 : World} {cb : Nat} {w w' : World} {s : List Bs} {p p' : OA} {n c c' : Nat} {x : Bs} {K : World → Prop} (hw : WoI w0 cb w s) (hb' : Blk w' cb #[.slice p n c] 64)
    (hr : w'.ownsRow (cb + 1) 9 1 (.slice p' (s.length + 1) c') (s.length + 1) (strs (s ++ [x]))) (hc : Chg (WoOwn cb) (fun _ => False) w w') (hn : ∀ k, (Value.slice p' (s.length + 1) c').ownBlock = some k → OutOwn cb w k ∨ w.heap.size ≤ k) (hg : w'.heap[gT]? = w.heap[gT]?)
    (h : ∀ w'', WoI w0 cb w'' (s ++ [x]) → Chg (WoOwn cb) (fun _ => False) w w'' → K w'') : doSt (((blk cb).add 0).add 0) (.slice p' (s.length + 1) c') w' K := by
  refine do_st hb' (i := 0) rfl (by simp) fun w'' h2 g2 => ?_
  have h2 : Blk w'' cb #[.slice p' (s.length + 1) c'] 64 := h2
  have hr2 := hr.kept g2 (.inr fun e => by have := (hr.lt cb e).1; omega)
  have hT := tab_lt hw.t
  have hne : some gT ≠ some cb := ne_some (by have := hw.lt; omega)
  refine h w'' ⟨⟨p', c', by rw [List.length_append]; exact h2, by rw [List.length_append]; exact hr2⟩, ((g2.block gT (Nat.lt_of_lt_of_le hT hc.size) hne).trans hg).trans hw.gl, hw.lt, hw.tab⟩ ⟨g2.os.trans hc.os, g2.tape.trans hc.tape, g2.output.trans hc.output, Nat.le_trans hc.size g2.size, fun k hk ho hs => ?_, fun k hk ho h => ?_⟩
  · rw [g2.block k (Nat.lt_of_lt_of_le hk hc.size) (fun e => ho (by cases e; exact .inl (.inl rfl))), hc.block k hk ho hs]
  · rcases h with h | h
    · rcases (out_own h2 k).1 h with rfl | h
      · exact ho (.inl (.inl rfl))
      · rcases hn k h with h | h
        · exact ho (.inl h)
        · omega
    · exact ho (.inr h)
theorem wo_push {w0 : World} {cb : Nat} {w : World} {s : List Bs} {p : OA} {n c : Nat} {x : Bs} {nb : Nat} {bs : Array Bool} {C : World → Prop} {R : EW} {ch : EW} (hb : Blk w cb #[.slice p n c] 64) (hI : WoI w0 cb w s) (hl : s.length ≤ lim + 1000) (hx : Blk w nb #[strB x] 9)
    (hC : ∀ w', Blk w' cb #[.slice p n c] 64 → Chg (WoOwn cb) (fun _ => False) w w' → C w') (h : ∀ w', WoI w0 cb w' (s ++ [x]) → Chg (WoOwn cb) (fun _ => False) w w' → R (.returned unitV) w') :
    doGo Tryz.prog (.builtin .append #[62, 62] 62 bs) #[.slice p n c, .slice (some (blk nb)) 1 1] w (retS (fun v w' => ∃ a b d, v = (.slice a b d : Value) ∧ (C w' ∧ ∃ q, some (blk cb) = some q ∧ doSt ((q.add 0).add 0) (.slice a b d) w' fun w'' => R (.returned unitV) w'')) (fun c' w' => ch (.panicked c') w')) :=
  wo_app hb hI hl (cs_blk hx) fun p' c' w' hb' hr' c4 hn hg => ⟨hC w' hb' c4, _, rfl, wo_put hI hb' hr' c4 hn hg fun w'' hI' c5 => h w'' hI' c5⟩
theorem c_wonum {w0 : World} {cb : Nat} {w : World} {s : List Bs} {b i : Nat} {cs : Array Value} {t : TypeId} {v : Int} {R : EW} (hI : WoI w0 cb w s) (hl : s.length ≤ lim) (ho : ¬ WoOwn cb w b) (hb : Blk w b cs t) (hc : cs[i]? = some (.int .i64 v)) (hv : In v)
    (h : ∀ w', WoI w0 cb w' (s ++ [Go.Sh.dec v]) → Chg (WoOwn cb) (fun _ => False) w w' → R (.returned unitV) w') : Calls Tryz.prog 191 #[.pointer (some (blk cb)), .pointer (some ⟨b, i, none⟩)] w R := by
  refine sh191_ok _ _ ?_
  unfold sh191
  refine ⟨?_⟩
  have e1 := ext_drew w
  have hI1 := wo_ext (S := fun _ => False) hI e1
  have hb1 := hb.ext e1
  have ho1 := wo_extO hI e1 ho
  generalize w.drew = w1 at *
  obtain ⟨p, c, hcb, hr⟩ := hI1.1.ex
  refine ⟨fun w' => Blk w' cb #[.slice p s.length c] 64 ∧ Blk w' b cs t, ⟨hcb, hb1⟩, _, rfl, _, _, _, fun w' h' => h'.1.cell (i := 0) rfl rfl, _, rfl, _, fun w' h' => h'.2.cell (i := i) rfl hc, ?_⟩
  refine do_call Tryz.call194 (c_wdec hv hI1.1.t fun w2 e2 => retS_ret ⟨_, rfl, ⟨hcb.ext e2, hb1.ext e2⟩, do_al fun nb w3 e3 hx l3 => ⟨⟨(hcb.ext e2).ext e3, (hb1.ext e2).ext e3⟩, ?_⟩⟩)
  have e23 := e2.trans e3
  have hI3 := wo_ext (S := fun _ => False) hI1.1 e23
  have ho3 := wo_extO hI1.1 e23 ho1
  exact wo_push (hcb.ext e23) hI3.1 (by omega) hx (fun w' hb' c4 => ⟨hb', c4.blk (hb1.ext e23) ho3 fun h => h⟩) fun w4 hI4 c4 => h w4 hI4 ((hI1.2.trans hI3.2).trans c4)
theorem c_wopair {w0 : World} {cb : Nat} {w : World} {s : List Bs} {b : Nat} {t : TypeId} {v : Int × Int} {R : EW} (hI : WoI w0 cb w s) (hl : s.length ≤ lim) (ho : ¬ WoOwn cb w b) (hb : Blk w b #[.int .i64 v.1, .int .i64 v.2] t) (hv : In v.1 ∧ In v.2)
    (h : ∀ w', WoI w0 cb w' (s ++ [prW v]) → Chg (WoOwn cb) (fun _ => False) w w' → R (.returned unitV) w') : Calls Tryz.prog 192 #[.pointer (some (blk cb)), .pointer (some ⟨b, 0, none⟩)] w R := by
  refine sh192_ok _ _ ?_
  unfold sh192
  refine ⟨?_⟩
  have e1 := ext_drew w
  have hI1 := wo_ext (S := fun _ => False) hI e1
  have hb1 := hb.ext e1
  have ho1 := wo_extO hI e1 ho
  generalize w.drew = w1 at *
  obtain ⟨p, c, hcb, hr⟩ := hI1.1.ex
  refine ⟨fun w' => Blk w' cb #[.slice p s.length c] 64 ∧ Blk w' b #[.int .i64 v.1, .int .i64 v.2] t, ⟨hcb, hb1⟩, _, rfl, _, _, _, fun w' h' => h'.1.cell (i := 0) rfl rfl, _, rfl, _, fun w' h' => h'.2.cell (i := 0) rfl rfl, _, rfl, _, fun w' h' => h'.2.cell (i := 1) rfl rfl, ?_⟩
  have l1 := dec_len hv.1
  have l2 := dec_len hv.2
  refine do_call Tryz.call194 (c_wdec hv.1 hI1.1.t fun w2 e2 => retS_ret ⟨_, rfl, ⟨hcb.ext e2, hb1.ext e2⟩, do_cat (b := [58]) (by simp only [List.length_cons, List.length_nil]; omega) ?_⟩)
  refine do_call Tryz.call194 (c_wdec hv.2 (tab_ext hI1.1.t e2) fun w3 e3 => retS_ret ⟨_, rfl, ⟨(hcb.ext e2).ext e3, (hb1.ext e2).ext e3⟩, do_cat (by simp only [List.length_append, List.length_cons, List.length_nil]; omega) ?_⟩)
  refine do_al fun nb w4 e4 hx l4 => ⟨⟨((hcb.ext e2).ext e3).ext e4, ((hb1.ext e2).ext e3).ext e4⟩, ?_⟩
  have e24 := (e2.trans e3).trans e4
  have hI4 := wo_ext (S := fun _ => False) hI1.1 e24
  have ho4 := wo_extO hI1.1 e24 ho1
  refine wo_push (x := prW v) (hcb.ext e24) hI4.1 (by omega) (by unfold prW; rw [show Go.Sh.dec v.1 ++ 58 :: Go.Sh.dec v.2 = (Go.Sh.dec v.1 ++ [58]) ++ Go.Sh.dec v.2 by simp]; exact hx) (fun w' hb' c5 => ⟨hb', c5.blk (hb1.ext e24) ho4 fun h => h⟩) fun w5 hI5 c5 => h w5 hI5 ((hI1.2.trans hI4.2).trans c5)
theorem c_woword {w0 : World} {cb : Nat} {w : World} {s : List Bs} {b i : Nat} {cs : Array Value} {t : TypeId} {v : Int} {names : List Bs} {q : OA} {n cap : Nat} {R : EW} (hI : WoI w0 cb w s) (hl : s.length ≤ lim) (ho : ¬ WoOwn cb w b) (hb : Blk w b cs t) (hc : cs[i]? = some (.int .u8 v)) (hv : 0 ≤ v)
    (hq : Cs w q (strs names)) (hn : names.length = n) (hvn : v.toNat < names.length)
    (h : ∀ w', WoI w0 cb w' (s ++ [names.getD v.toNat []]) → Chg (WoOwn cb) (fun _ => False) w w' → R (.returned unitV) w') : Calls Tryz.prog 193 #[.pointer (some (blk cb)), .pointer (some ⟨b, i, none⟩), .slice q n cap] w R := by
  refine sh193_ok _ _ _ _ _ ?_
  unfold sh193
  refine ⟨?_⟩
  have e1 := ext_drew w
  have hI1 := wo_ext (S := fun _ => False) hI e1
  have hb1 := hb.ext e1
  have hq1 := hq.ext e1
  have ho1 := wo_extO hI e1 ho
  generalize w.drew = w1 at *
  obtain ⟨p, c, hcb, hr⟩ := hI1.1.ex
  have hw : (strs names)[v.toNat]? = some (strB (names.getD v.toNat [])) := by
    simp [strs, List.getD_eq_getElem?_getD, List.getElem?_eq_getElem hvn]
  obtain ⟨a, ha, hca⟩ := hq1 v.toNat _ hw
  refine ⟨fun w' => Blk w' cb #[.slice p s.length c] 64 ∧ Blk w' b cs t ∧ w'.cell? (a.add v.toNat) = some (strB (names.getD v.toNat [])), ⟨hcb, hb1, hca⟩, _, rfl, _, _, _, fun w' h' => h'.1.cell (i := 0) rfl rfl, _, rfl, _, fun w' h' => h'.2.1.cell (i := i) rfl hc, ?_⟩
  refine ⟨a, ha, hv, by omega, ⟨_, fun w' h' => by rw [Nat.mul_one]; exact h'.2.2, ?_⟩⟩
  refine do_al fun nb w3 e3 hx l3 => ⟨⟨hcb.ext e3, hb1.ext e3, e3.cell hca⟩, ?_⟩
  have hI3 := wo_ext (S := fun _ => False) hI1.1 e3
  have ho3 := wo_extO hI1.1 e3 ho1
  have hc3 := e3.cell hca
  refine wo_app (hcb.ext e3) hI3.1 (by omega) (cs_blk hx) fun p' c' w4 hb4 hr4 c4 hn4 hg4 => ⟨fun _ => True, trivial, _, rfl, wo_put hI3.1 hb4 hr4 c4 hn4 hg4 fun w5 hI5 c5 => ⟨fun _ => True, trivial, h w5 hI5 ((hI1.2.trans hI3.2).trans c5)⟩⟩
theorem c_woflag {w0 : World} {cb : Nat} {w : World} {s : List Bs} {b i : Nat} {cs : Array Value} {t : TypeId} {v : Bool} {R : EW} (hI : WoI w0 cb w s) (hl : s.length ≤ lim) (hb : Blk w b cs t) (hc : cs[i]? = some (.bool v))
    (h : ∀ w', WoI w0 cb w' (if v = true then s ++ [notW] else s) → Chg (WoOwn cb) (fun _ => False) w w' → R (.returned unitV) w') : Calls Tryz.prog 189 #[.pointer (some (blk cb)), .pointer (some ⟨b, i, none⟩)] w R := by
  refine sh189_ok _ _ ?_
  unfold sh189
  refine ⟨_, rfl, _, hb.cell rfl hc, ?_⟩
  cases v
  · exact ifB_f rfl (h w hI (.refl _ _ _))
  obtain ⟨p, c, hcb, hr⟩ := hI.ex
  refine ifB_t rfl ⟨_, rfl, _, _, _, hcb.cell (i := 0) rfl rfl, do_al fun nb w3 e3 hx l3 => ?_⟩
  have hI3 := wo_ext (S := fun _ => False) hI e3
  refine wo_app (x := notW) (hcb.ext e3) hI3.1 (by omega) (cs_blk hx) fun p' c' w4 hb4 hr4 c4 hn4 hg4 => ⟨_, rfl, wo_put hI3.1 hb4 hr4 c4 hn4 hg4 fun w5 hI5 c5 => h w5 hI5 (hI3.2.trans c5)⟩
theorem wo_meth (cp x : Value) (w : World) :
    (invoke (.fn (.method "joinery/op.num") #[]) #[.iface 61 cp, x]).run Tryz.prog w = .ok (.enter 191 #[cp, x]) w ∧ (invoke (.fn (.method "joinery/op.flag") #[]) #[.iface 61 cp, x]).run Tryz.prog w = .ok (.enter 189 #[cp, x]) w ∧
    (invoke (.fn (.method "joinery/op.many") #[]) #[.iface 61 cp, x]).run Tryz.prog w = .ok (.enter 190 #[cp, x]) w ∧ (invoke (.fn (.method "joinery/op.pair") #[]) #[.iface 61 cp, x]).run Tryz.prog w = .ok (.enter 192 #[cp, x]) w :=
  ⟨by kernel_rfl, by kernel_rfl, by kernel_rfl, by kernel_rfl⟩
theorem wo_methw (cp x y : Value) (w : World) : (invoke (.fn (.method "joinery/op.word") #[]) #[.iface 61 cp, x, y]).run Tryz.prog w = .ok (.enter 193 #[cp, x, y]) w := by kernel_rfl
theorem wo_ta (cb : Nat) (w : World) : (Instr.typeAssert (.iface 61 (.pointer (some (blk cb)))) 97 61 true).run Tryz.prog w = .ok (.tuple #[.pointer (some (blk cb)), .bool true]) w ∧
    (Instr.typeAssert (.iface 61 (.pointer (some (blk cb)))) 97 85 true).run Tryz.prog w = .ok (.tuple #[.pointer none, .bool false]) w := ⟨by kernel_rfl, by kernel_rfl⟩
theorem wo_nil (cb : Nat) (w : World) : (nilAhead (Tryz.prog.types.size + Made.depth) 61 (.pointer (some (blk cb))) "joinery/op.word").run Tryz.prog w = .ok (some false) w := by kernel_rfl
def WoB (w0 : World) (cb : Nat) : CBase outW where
  I := WoI w0 cb
  own := WoOwn cb
  lt := wo_lt
  keep := wo_keep
  len := List.length
  grow := 1
  numIn := fun hv h => by
    cases h
    exact ⟨hv, by rw [List.length_append]; simp⟩
  wordIn := fun hk h => by
    cases h
    exact ⟨hk, by rw [List.length_append]; simp⟩
  flagIn := fun {f s f' s'} h => by
    cases h
    cases f
    · simp
    · simp
  manyIn := fun {n s n' s'} hn h => by
    cases h
    exact ⟨Nat.le_max_left _ _, by omega⟩
  pairIn := fun hv h => by
    cases h
    exact ⟨hv, by rw [List.length_append]; simp⟩
theorem c_womany {w0 : World} {cb : Nat} {w : World} {s : List Bs} {b i : Nat} {R : EW} (_ : WoI w0 cb w s) (h : R (.returned unitV) w) : Calls Tryz.prog 190 #[.pointer (some (blk cb)), .pointer (some ⟨b, i, none⟩)] w R := by
  refine sh190_ok _ _ ?_
  unfold sh190
  exact h
def WoC (w0 : World) (cb : Nat) : Coder outW 61 (.pointer (some (blk cb))) where
  toCBase := WoB w0 cb
  pre := fun names v => v.toNat < names.length
  nc := nc_iface
  ncw := nc_func (wo_nil cb)
  ta := ⟨some (blk cb), true, none, false, rfl, fun w S h => ⟨_, (wo_ta cb w).1, h⟩, fun w S h => ⟨_, (wo_ta cb w).2, h⟩⟩
  num := fun {w s b i cs t v R} hI hl ho hb hc hv h _ => do_meth (args := #[.pointer (some ⟨b, i, none⟩)]) (wo_meth _ _ w).1 (c_wonum hI hl ho hb hc hv fun w' hI' c' => h v _ w' rfl hI' (by rw [set_self hc]; exact c'.blk hb ho fun h => h) (chg0 c'))
  word := fun {w s b i cs t v names q n cap R} hI hl ho hb hc hv hq hn hcap hp h _ => do_meth (args := #[.pointer (some ⟨b, i, none⟩), .slice q n cap]) (wo_methw _ _ _ w) (c_woword hI hl ho hb hc hv.1 hq hn hp fun w' hI' c' => h v _ w' rfl hI' (by rw [set_self hc]; exact c'.blk hb ho fun h => h) (chg0 c'))
  flag := fun {w s b i cs t v R} hI hl ho hb hc h _ => do_meth (args := #[.pointer (some ⟨b, i, none⟩)]) (wo_meth _ _ w).2.1 (c_woflag hI hl hb hc fun w' hI' c' => h v _ w' rfl hI' (by rw [set_self hc]; exact c'.blk hb ho fun h => h) (chg0 c'))
  flagD := fun h => by cases h
  many := fun {w s b t v R} hI hl ho hb hv h _ => do_meth (args := #[.pointer (some ⟨b, 0, none⟩)]) (wo_meth _ _ w).2.2.1 (c_womany hI (h v _ w rfl hI hb (.refl _ _ _)))
  pair := fun {w s b t v R} hI hl ho hb hv h _ => do_meth (args := #[.pointer (some ⟨b, 0, none⟩)]) (wo_meth _ _ w).2.2.2 (c_wopair hI hl ho hb hv fun w' hI' c' => h v _ w' rfl hI' (c'.blk hb ho fun h => h) (chg0 c'))
end Go.Proofs.YtmkpkmdnapccgaaGreatDoor

namespace Go.Proofs.YtmkpkmdnapccgaaGreatDoor
open Go Go.Sh Go.RowKit

def pv (w : Bs) : Int := match Lib.parseIntB 64 w with
  | .ok v => v
  | .range => Lib.intSat 64 w
  | _ => 0
theorem pv_in (w : Bs) : In (pv w) := by
  unfold pv
  cases h : Lib.parseIntB 64 w with
  | ok v =>
    have := Lib.parseIntB_bounds h
    rw [show 2 ^ (64 - 1) = 9223372036854775808 from rfl] at this
    simp only
    unfold In
    omega
  | range =>
    simp only
    unfold Lib.intSat In
    split <;> simp
  | _ => simp [In]
def parseR (s : Bs) : POp × Int := match parseO s with
  | some x => (x, 0)
  | none => (.zero, 7)
end Go.Proofs.YtmkpkmdnapccgaaGreatDoor

