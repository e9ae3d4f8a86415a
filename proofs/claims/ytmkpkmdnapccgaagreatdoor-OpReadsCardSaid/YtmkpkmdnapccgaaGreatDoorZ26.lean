/-
  An op's line, by the document.
-/
import Derived.Test.YtmkpkmdnapccgaaGreatDoorZ25
import Derived.Test.YtmkpkmdnapccgaaGreatDoorZ16
import Derived.Test.YtmkpkmdnapccgaaGreatDoorZ14
import Derived.Test.YtmkpkmdnapccgaaGreatDoorZ03
import Derived.Deep.Slices
import Derived.Deep.Fields
import Derived.ChangeSame
import Derived.Lib.SmallJoins
import Derived.Test.YtmkpkmdnapccgaaGreatDoorZ20
import Derived.SizedLaws
import Derived.Test.YtmkpkmdnapccgaaGreatDoorZ21

set_option maxRecDepth 100000
set_option maxHeartbeats 6400000
namespace Go.Proofs.YtmkpkmdnapccgaaGreatDoor
open Go Go.Sh Go.RowKit

def lnPred (k a b : Int) (f : Bool) : Bs := ((if f = true then (32 :: notW) else []) ++ (32 :: kindNames.getD k.toNat [])) ++ (if k = 1 then [] else (32 :: Go.Sh.dec a) ++ (32 :: Go.Sh.dec b))
theorem lnP_pred (x : POp) : lnP x .pred = lnPred x.pk x.pa x.pb x.pnot := by
  unfold lnP lnPred wrW
  by_cases hf : x.pnot = true <;> by_cases h : x.pk = 1 <;> simp [h, hf]
theorem lnP_pairs (x : POp) : lnP x .pairs = x.pairs.flatMap fun p => 32 :: prW p := by
  unfold lnP wrW
  rw [List.flatMap_map]
theorem lnP_keys (x : POp) : lnP x .keys = x.keys.flatMap fun v => 32 :: Go.Sh.dec v := by
  unfold lnP wrW
  rw [List.flatMap_map]
theorem c_r37pred {k a b : Int} {f : Bool} {w : World} {R : EW} (hT : Tab w) (hk : 0 ≤ k ∧ k < 256) (ha : In a) (hb : In b) (h : ∀ w', Ext w w' → R (.returned (strB (lnPred k a b f))) w') :
    Calls Tryz.prog 34 #[.agg #[.int .u8 k, .int .i64 a, .int .i64 b, .bool f]] w R := by
  refine sh34_ok _ _ _ _ ?_
  unfold sh34
  refine do_al fun pb w1 e1 P1 l1 => ?_
  intro K9
  have h1 := dec_len ha
  have h2 := dec_len hb
  have h3 : (kindNames.getD k.toNat []).length ≤ 43 := getD_len (by decide) _
  have go : ∀ s : Bs, s.length ≤ 10 → s = (if f = true then (32 :: notW) else []) → K9 ⟨s.toArray⟩ w1 := fun s hsl hs => by
    refine do_cat (b := [32]) (by simp only [List.length_cons, List.length_nil]; omega) ⟨_, P1.cell (i := 0) rfl rfl, do_call Tryz.call61 (c_r37kind hk.1 hk.2 fun w2 e2 => retS_ret ⟨_, rfl, do_cat (by simp only [List.length_append, List.length_cons, List.length_nil]; omega) ⟨_, (P1.ext e2).cell (i := 0) rfl rfl, ?_⟩⟩)⟩
    refine ifB_intro (fun z => ?_) fun z => ?_
    · have z : k = 1 := by simpa using z
      have := h w2 (e1.trans e2)
      unfold lnPred at this
      rw [if_pos z, List.append_nil, ← hs] at this
      simpa using this
    · have z : k ≠ 1 := by simpa using z
      refine ⟨?_⟩
      have E := (e1.trans e2).trans (ext_drew w2)
      have P3 := (P1.ext e2).ext (ext_drew w2)
      generalize w2.drew = w3 at *
      refine ⟨fun w' => Ext w3 w', ext_refl _, _, fun w' e => (P3.ext e).cell (i := 1) rfl rfl, _, fun w' e => (P3.ext e).cell (i := 2) rfl rfl, do_call Tryz.call32 (c_r37dec ha (tab_ext hT E) fun w4 e4 => retS_ret ⟨_, rfl, e4, do_cat (by simp only [List.length_append, List.length_cons, List.length_nil]; omega) (do_call Tryz.call32 (c_r37dec hb (tab_ext hT (E.trans e4)) fun w5 e5 => retS_ret ⟨_, rfl, e4.trans e5, do_cat (by simp only [List.length_append, List.length_cons, List.length_nil]; omega) ?_⟩))⟩)⟩
      have := h w5 ((E.trans e4).trans e5)
      unfold lnPred at this
      rw [if_neg z, ← hs] at this
      simpa using this
  refine ⟨_, P1.cell (i := 3) rfl rfl, ?_⟩
  cases f
  · exact ifB_f rfl (go [] (by simp) rfl)
  · exact ifB_t rfl (go (32 :: notW) (by decide) rfl)
theorem line_len {x : POp} (hx : InO x) (hm : mayO x = true) : (lineO x).length ≤ 1000000 := by
  have hM := mayO_iff.1 hm
  have h1 := joinW_len (words_len hx)
  have h2 : ((partsOf x.op).flatMap fun p => wrW p x).length ≤ (partsOf x.op).length * 5000 := flat_len fun p _ => by
    have := hM.pairs
    have := hM.keys
    cases p <;> simp only [wrW, List.length_append, List.length_cons, List.length_nil, List.length_map] <;> first | omega | (split <;> split <;> simp only [List.length_cons, List.length_nil] <;> omega)
  have h3 := parts_len x.op
  have h4 : (wordsOf x).length = ((partsOf x.op).flatMap fun p => wrW p x).length + 1 := by simp [wordsOf]
  have h5 : (partsOf x.op).length * 5000 ≤ 4 * 5000 := Nat.mul_le_mul_right _ h3
  unfold lineO
  omega
theorem c_r37line {x : POp} {pv kv : Value} {w : World} {R : EW} (hT0 : Tab w) (hx : InO x) (hr : OpRd w x pv kv)
    (h : ∀ w', Ext w w' → R (.returned (.tuple #[strB (lineR x).1, .int .i64 (lineR x).2])) w') : Calls Tryz.prog 15 #[opV x pv kv] w R := by
  obtain ⟨a, c, rfl, hac, hcs, hab⟩ := hr.p
  obtain ⟨q, c', rfl, hqc, hqs, hqb⟩ := hr.k
  refine sh15_ok _ _ _ _ _ _ _ _ _ _ _ _ _ _ _ _ _ _ _ ?_
  unfold sh15
  refine do_al fun xb w1 e1 X1 l1 => ⟨_, X1.cell (i := 0) rfl rfl, _, X1.cell (i := 1) rfl rfl, _, X1.cell (i := 2) rfl rfl, _, X1.cell (i := 3) rfl rfl, _, X1.cell (i := 4) rfl rfl, _, X1.cell (i := 5) rfl rfl, _, X1.cell (i := 6) rfl rfl, _, X1.cell (i := 7) rfl rfl, _, X1.cell (i := 8) rfl rfl, _, X1.cell (i := 9) rfl rfl, _, X1.cell (i := 10) rfl rfl, _, X1.cell (i := 11) rfl rfl, _, X1.cell (i := 12) rfl rfl, _, _, _, X1.cell (i := 13) rfl rfl, _, _, _, X1.cell (i := 14) rfl rfl, do_call Tryz.call16 (c_r37may fun w2 e2 => retS_ret ⟨_, rfl, ?_⟩)⟩
  by_cases hm : mayO x = true
  case neg =>
    have := h w2 (e1.trans e2)
    unfold lineR at this
    rw [if_neg hm] at this
    exact ifB_t (by simpa using hm) this
  have hR : lineR x = (lineO x, 0) := by unfold lineR; rw [if_pos hm]
  rw [hR] at h
  have hM := mayO_iff.1 hm
  have hT := line_len hx hm
  refine ifB_f (by rw [hm]; rfl) ⟨_, (X1.ext e2).cell (i := 0) rfl rfl, do_call Tryz.call30 (c_r37of fun w2' e2' => retS_ret ⟨_, _, _, _, _, _, _, _, _, _, _, _, rfl, do_al fun nb w3 e3 N3 l3 => st11 N3 fun w4 N4 g4 => ?_⟩)⟩
  have s1 := X1.lt
  have s2 := e2.size
  have s2' := e2'.size
  have E4 : Ext w w4 := (((e1.trans e2).trans e2').trans e3).st g4 (by have := e1.size; omega)
  have X4 : Blk w4 xb (opCells x (.slice a x.pairs.length c) (.slice q x.keys.length c')) 37 := Blk.grown (((X1.ext e2).ext e2').ext e3) g4 (ne_some (by omega))
  have hcs4 := hcs.ext E4
  have hqs4 := hqs.ext E4
  have hT4 : ∀ {w'}, Ext w4 w' → Tab w' := fun e => tab_ext hT0 (E4.trans e)
  have k11 : ∀ (s : Bs) (w' : World), Ext w4 w' → s ++ lnP x .keys = lineO x → sh15k11 R [.pointer (some (blk xb)), strB s] w' := fun s w' E hs => ⟨_, _, rfl, by
    unfold sh15b11
    rw [lnP_keys] at hs
    have hL := app_len (r := []) (by rw [List.append_nil]; exact hs) hT
    refine ⟨fun vs w' => ∃ k : Nat, vs = [strB (s ++ (x.keys.take k).flatMap fun v => 32 :: Go.Sh.dec v), .int .i64 (k : Int)] ∧ k ≤ x.keys.length ∧ Ext w4 w', fun vs _ => match vs with | [_, .int _ i] => x.keys.length - i.toNat | _ => 0, ⟨0, by simp, Nat.zero_le _, E⟩, ?_⟩
    rintro s9 i9 _ w5 ⟨k, hvs, hk, e5⟩
    simp only [List.cons.injEq, Value.int.injEq, Value.string.injEq, true_and, and_true] at hvs
    obtain ⟨rfl, rfl⟩ := hvs
    refine ⟨_, _, _, (X4.ext e5).cell (i := 14) rfl rfl, ifB_intro (fun z => ?_) fun z => ?_⟩
    · have z : k < x.keys.length := by have := of_decide_eq_true z; omega
      have hki : In x.keys[k] := hx.keys _ (List.getElem_mem z)
      have hk1 : ((x.keys.take (k + 1)).flatMap fun v => 32 :: Go.Sh.dec v) = ((x.keys.take k).flatMap fun v => 32 :: Go.Sh.dec v) ++ (32 :: Go.Sh.dec x.keys[k]) := by
        rw [← List.take_append_getElem z, List.flatMap_append]
        simp only [List.flatMap_cons, List.flatMap_nil, List.append_nil]
      have hb1 : ((x.keys.take k).flatMap fun v => 32 :: Go.Sh.dec v).length ≤ (x.keys.take k).length * 22 := flat_len fun v hv => by
        have := dec_len (hx.keys v (List.mem_of_mem_take hv))
        rw [List.length_cons]; omega
      rw [List.length_take] at hb1
      have hd1 := dec_len hki
      have hKK := hM.keys
      refine ⟨_, _, _, (X4.ext e5).cell (i := 14) rfl rfl, ix_int (hqs4.ext e5) rfl (by omega) (by omega) fun a9 _ hc9 => ⟨_, hc9, ?_⟩⟩
      rw [Int.toNat_natCast, List.getD_eq_getElem?_getD, List.getElem?_eq_getElem z, Option.getD_some]
      refine do_call Tryz.call32 (c_r37dec hki (hT4 e5) fun w6 e6 => retS_ret ⟨_, rfl, do_cat (by
        simp only [List.length_append, List.length_cons] at hL ⊢
        omega) ?_⟩)
      rw [wrap_succ z (by omega), List.append_assoc, ← hk1]
      refine ⟨⟨k + 1, rfl, by omega, e5.trans e6⟩, ?_⟩
      show x.keys.length - ((k + 1 : Nat) : Int).toNat < x.keys.length - (k : Int).toNat
      omega
    · have z : k = x.keys.length := by have := of_decide_eq_false z; omega
      rw [z, List.take_length, hs]
      exact h w5 (E4.trans e5)⟩
  have k10 : ∀ (s : Bs) (w' : World), Ext w4 w' → s ++ (fixP.drop 9).flatMap (lnIf x) = lineO x → sh15k10 R [.pointer (some (blk xb)), strB s] w' := fun s w' E hs => ⟨_, _, rfl, by
    have hs' := pstep (p := .keys) (i := 10) rfl (pstep (p := .pairs) (i := 9) rfl hs)
    rw [show (fixP.drop (10 + 1)).flatMap (lnIf x) = [] from rfl, List.append_nil, lnIf_pairs hM.masked, lnIf_keys hM.masked, lnP_pairs] at hs'
    unfold sh15b10
    have hL := app_len hs' hT
    refine ⟨fun vs w' => ∃ k : Nat, vs = [strB (s ++ (x.pairs.take k).flatMap fun p => 32 :: prW p), .int .i64 (k : Int)] ∧ k ≤ x.pairs.length ∧ Ext w4 w', fun vs _ => match vs with | [_, .int _ i] => x.pairs.length - i.toNat | _ => 0, ⟨0, by simp, Nat.zero_le _, E⟩, ?_⟩
    rintro s9 i9 _ w5 ⟨k, hvs, hk, e5⟩
    simp only [List.cons.injEq, Value.int.injEq, Value.string.injEq, true_and, and_true] at hvs
    obtain ⟨rfl, rfl⟩ := hvs
    refine ⟨_, _, _, (X4.ext e5).cell (i := 13) rfl rfl, ifB_intro (fun z => ?_) fun z => ?_⟩
    · have z : k < x.pairs.length := by have := of_decide_eq_true z; omega
      have hki := hx.pairs _ (List.getElem_mem z)
      have hk1 : ((x.pairs.take (k + 1)).flatMap fun p => 32 :: prW p) = ((x.pairs.take k).flatMap fun p => 32 :: prW p) ++ (32 :: prW x.pairs[k]) := by
        rw [← List.take_append_getElem z, List.flatMap_append]
        simp only [List.flatMap_cons, List.flatMap_nil, List.append_nil]
      have hb1 : ((x.pairs.take k).flatMap fun p => 32 :: prW p).length ≤ (x.pairs.take k).length * 44 := flat_len fun p hp => by
        have := prW_len (hx.pairs p (List.mem_of_mem_take hp))
        rw [List.length_cons]; omega
      rw [List.length_take] at hb1
      have hd1 := dec_len hki.1
      have hd2 := dec_len hki.2
      have hPP := hM.pairs
      refine ⟨?_⟩
      have e6 := e5.trans (ext_drew w5)
      generalize w5.drew = w6 at *
      refine ⟨fun w' => Ext w4 w', e6, _, _, _, fun w' e => (X4.ext e).cell (i := 13) rfl rfl, ?_⟩
      refine ix_prC (l := x.pairs) (fun w' e => hcs4.ext e) e6 rfl rfl z fun ad r1 r2 => ⟨_, r1, _, _, _, fun w' e => (X4.ext e).cell (i := 13) rfl rfl, ?_⟩
      refine ix_prC (l := x.pairs) (fun w' e => hcs4.ext e) e6 rfl rfl z fun ad' r3 r4 => ⟨_, r4, ?_⟩
      refine do_call Tryz.call32 (c_r37dec hki.1 (hT4 e6) fun w7 e7 => retS_ret ⟨_, rfl, e6.trans e7, do_cat (by
        simp only [List.length_append, List.length_cons] at hL ⊢
        omega) (do_cat (b := [58]) (by
        simp only [List.length_append, List.length_cons, List.length_nil] at hL ⊢
        omega) ?_)⟩)
      refine do_call Tryz.call35 (c_fmt hki.2 (hT4 (e6.trans e7)) fun w8 e8 => retS_ret ⟨_, rfl, (e6.trans e7).trans e8, do_cat (by
        simp only [List.length_append, List.length_cons, List.length_nil] at hL ⊢
        omega) ?_⟩)
      rw [wrap_succ z (by omega)]
      refine ⟨⟨k + 1, ?_, by omega, (e6.trans e7).trans e8⟩, ?_⟩
      · rw [hk1]
        unfold prW
        simp
      · show x.pairs.length - ((k + 1 : Nat) : Int).toNat < x.pairs.length - (k : Int).toNat
        omega
    · have z : k = x.pairs.length := by have := of_decide_eq_false z; omega
      exact k11 _ w5 e5 (by rw [z, List.take_length]; exact hs')⟩
  have k9 : ∀ (s : Bs) (w' : World), Ext w4 w' → s ++ (fixP.drop 8).flatMap (lnIf x) = lineO x → sh15k9 R [.pointer (some (blk xb)), .pointer (some (blk nb)), strB s] w' := fun s w' E hs => ⟨_, _, _, rfl, by
    have hs' := pstep (p := .pred) (i := 8) rfl hs
    unfold sh15b9
    refine ⟨_, (N4.ext E).cell (i := 8) rfl rfl, ifB_intro (fun z => ?_) fun z => ?_⟩
    · have hw : lnIf x .pred = lnPred x.pk x.pa x.pb x.pnot := (if_pos z).trans (lnP_pred x)
      rw [hw] at hs'
      have hL := app_len hs' hT
      exact ⟨_, (X4.ext E).cell (i := 9) rfl rfl, _, (X4.ext E).cell (i := 10) rfl rfl, _, (X4.ext E).cell (i := 11) rfl rfl, _, (X4.ext E).cell (i := 12) rfl rfl, do_call Tryz.call34 (c_r37pred (hT4 E) hx.pk hx.pa hx.pb fun w2 e2 => retS_ret ⟨_, rfl, do_cat (by omega) (k10 _ w2 (E.trans e2) hs')⟩)⟩
    · have hw : lnIf x .pred = [] := if_neg (by rw [z]; decide)
      rw [hw, List.append_nil] at hs'
      exact k10 s w' E hs'⟩
  have k8 : ∀ (s : Bs) (w' : World), Ext w4 w' → s ++ (fixP.drop 7).flatMap (lnIf x) = lineO x → sh15k8 R [.pointer (some (blk xb)), .pointer (some (blk nb)), strB s] w' := fun s w' E hs => ⟨_, _, _, rfl, by
    have hs' := pstep (p := .pol) (i := 7) rfl hs
    unfold sh15b8
    refine ⟨_, (N4.ext E).cell (i := 7) rfl rfl, ifB_intro (fun z => ?_) fun z => ?_⟩
    · have hw : lnIf x .pol = 32 :: polNames.getD x.pol.toNat [] := (if_pos z).trans (by simp [lnP, wrW])
      rw [hw] at hs'
      have hL := app_len hs' hT
      rw [List.length_cons] at hL
      refine do_cat (b := [32]) (by simp only [List.length_cons, List.length_nil]; omega) ⟨_, (X4.ext E).cell (i := 8) rfl rfl, do_call Tryz.call33 (c_r37policy hx.pol.1 hx.pol.2 fun w2 e2 => retS_ret ⟨_, rfl, do_cat (by simp only [List.length_append, List.length_cons, List.length_nil]; omega) (k9 _ w2 (E.trans e2) (by simpa using hs'))⟩)⟩
    · have hw : lnIf x .pol = [] := if_neg (by rw [z]; decide)
      rw [hw, List.append_nil] at hs'
      exact k9 s w' E hs'⟩
  have k7 : ∀ (s : Bs) (w' : World), Ext w4 w' → s ++ (fixP.drop 6).flatMap (lnIf x) = lineO x → sh15k7 R [.pointer (some (blk xb)), .pointer (some (blk nb)), strB s] w' := fun s w' E hs => ⟨_, _, _, rfl, by
    have hs' := pstep (p := .n) (i := 6) rfl hs
    unfold sh15b7
    refine ⟨_, (N4.ext E).cell (i := 6) rfl rfl, ifB_intro (fun z => ?_) fun z => ?_⟩
    · have hw : lnIf x .n = 32 :: Go.Sh.dec x.n := (if_pos z).trans (by simp [lnP, wrW])
      rw [hw] at hs'
      have hL := app_len hs' hT
      exact ⟨_, (X4.ext E).cell (i := 7) rfl rfl, do_call Tryz.call32 (c_r37dec hx.n (hT4 E) fun w2 e2 => retS_ret ⟨_, rfl, do_cat (by omega) (k8 _ w2 (E.trans e2) hs')⟩)⟩
    · have hw : lnIf x .n = [] := if_neg (by rw [z]; decide)
      rw [hw, List.append_nil] at hs'
      exact k8 s w' E hs'⟩
  have k6 : ∀ (s : Bs) (w' : World), Ext w4 w' → s ++ (fixP.drop 4).flatMap (lnIf x) = lineO x → sh15k6 R [.pointer (some (blk xb)), .pointer (some (blk nb)), strB s] w' := fun s w' E hs => ⟨_, _, _, rfl, by
    have hs' := pstep (p := .lo) (i := 4) rfl hs
    unfold sh15b6
    have hs'' := pstep (p := .hi) (i := 5) rfl hs'
    refine ⟨_, (N4.ext E).cell (i := 4) rfl rfl, ifB_intro (fun z => ?_) fun z => ?_⟩
    · have hw : lnIf x .lo = 32 :: Go.Sh.dec x.lo := (if_pos z).trans (by simp [lnP, wrW])
      have hw2 : lnIf x .hi = 32 :: Go.Sh.dec x.hi := (if_pos ((hi_lo x.op).trans z)).trans (by simp [lnP, wrW])
      rw [hw, hw2] at hs''
      have hL := app_len hs'' hT
      rw [List.length_append] at hL
      refine ⟨?_⟩
      have E1 := E.trans (ext_drew w')
      generalize w'.drew = w5 at *
      exact ⟨fun w' => Ext w4 w', E1, _, fun w' e => (X4.ext e).cell (i := 5) rfl rfl, _, fun w' e => (X4.ext e).cell (i := 6) rfl rfl, do_call Tryz.call32 (c_r37dec hx.lo (hT4 E1) fun w2 e2 => retS_ret ⟨_, rfl, E1.trans e2, do_cat (by omega) (do_call Tryz.call32 (c_r37dec hx.hi (hT4 (E1.trans e2)) fun w3 e3 => retS_ret ⟨_, rfl, (E1.trans e2).trans e3, do_cat (by rw [List.length_append]; omega) (k7 _ w3 ((E1.trans e2).trans e3) hs'')⟩))⟩)⟩
    · have hw : lnIf x .lo = [] := if_neg (by rw [z]; decide)
      have hw2 : lnIf x .hi = [] := if_neg (by rw [hi_lo, z]; decide)
      rw [hw, hw2, List.append_nil, List.append_nil] at hs''
      exact k7 s w' E hs''⟩
  have k5 : ∀ (s : Bs) (w' : World), Ext w4 w' → s ++ (fixP.drop 3).flatMap (lnIf x) = lineO x → sh15k5 R [.pointer (some (blk xb)), .pointer (some (blk nb)), strB s] w' := fun s w' E hs => ⟨_, _, _, rfl, by
    have hs' := pstep (p := .val) (i := 3) rfl hs
    unfold sh15b5
    refine ⟨_, (N4.ext E).cell (i := 3) rfl rfl, ifB_intro (fun z => ?_) fun z => ?_⟩
    · have hw : lnIf x .val = 32 :: Go.Sh.dec x.val := (if_pos z).trans (by simp [lnP, wrW])
      rw [hw] at hs'
      have hL := app_len hs' hT
      exact ⟨_, (X4.ext E).cell (i := 4) rfl rfl, do_call Tryz.call32 (c_r37dec hx.val (hT4 E) fun w2 e2 => retS_ret ⟨_, rfl, do_cat (by omega) (k6 _ w2 (E.trans e2) hs')⟩)⟩
    · have hw : lnIf x .val = [] := if_neg (by rw [z]; decide)
      rw [hw, List.append_nil] at hs'
      exact k6 s w' E hs'⟩
  have k4 : ∀ (s : Bs) (w' : World), Ext w4 w' → s ++ (fixP.drop 2).flatMap (lnIf x) = lineO x → sh15k4 R [.pointer (some (blk xb)), .pointer (some (blk nb)), strB s] w' := fun s w' E hs => ⟨_, _, _, rfl, by
    have hs' := pstep (p := .key) (i := 2) rfl hs
    unfold sh15b4
    refine ⟨_, (N4.ext E).cell (i := 2) rfl rfl, ifB_intro (fun z => ?_) fun z => ?_⟩
    · have hw : lnIf x .key = 32 :: Go.Sh.dec x.key := (if_pos z).trans (by simp [lnP, wrW])
      rw [hw] at hs'
      have hL := app_len hs' hT
      exact ⟨_, (X4.ext E).cell (i := 3) rfl rfl, do_call Tryz.call32 (c_r37dec hx.key (hT4 E) fun w2 e2 => retS_ret ⟨_, rfl, do_cat (by omega) (k5 _ w2 (E.trans e2) hs')⟩)⟩
    · have hw : lnIf x .key = [] := if_neg (by rw [z]; decide)
      rw [hw, List.append_nil] at hs'
      exact k5 s w' E hs'⟩
  have k3 : ∀ (s : Bs) (w' : World), Ext w4 w' → s ++ (fixP.drop 1).flatMap (lnIf x) = lineO x → sh15k3 R [.pointer (some (blk xb)), .pointer (some (blk nb)), strB s] w' := fun s w' E hs => ⟨_, _, _, rfl, by
    have hs' := pstep (p := .b) (i := 1) rfl hs
    unfold sh15b3
    refine ⟨_, (N4.ext E).cell (i := 1) rfl rfl, ifB_intro (fun z => ?_) fun z => ?_⟩
    · have hw : lnIf x .b = 32 :: Go.Sh.dec x.b := (if_pos z).trans (by simp [lnP, wrW])
      rw [hw] at hs'
      have hL := app_len hs' hT
      exact ⟨_, (X4.ext E).cell (i := 2) rfl rfl, do_call Tryz.call32 (c_r37dec hx.b (hT4 E) fun w2 e2 => retS_ret ⟨_, rfl, do_cat (by omega) (k4 _ w2 (E.trans e2) hs')⟩)⟩
    · have hw : lnIf x .b = [] := if_neg (by rw [z]; decide)
      rw [hw, List.append_nil] at hs'
      exact k4 s w' E hs'⟩
  have k2 : ∀ (s : Bs) (w' : World), Ext w4 w' → s ++ (fixP.drop 0).flatMap (lnIf x) = lineO x → sh15k2 R [.pointer (some (blk xb)), .pointer (some (blk nb)), strB s] w' := fun s w' E hs => ⟨_, _, _, rfl, by
    have hs' := pstep (p := .a) (i := 0) rfl hs
    unfold sh15b2
    refine ⟨_, (N4.ext E).cell (i := 0) rfl rfl, ifB_intro (fun z => ?_) fun z => ?_⟩
    · have hw : lnIf x .a = 32 :: Go.Sh.dec x.a := (if_pos z).trans (by simp [lnP, wrW])
      rw [hw] at hs'
      have hL := app_len hs' hT
      exact ⟨_, (X4.ext E).cell (i := 1) rfl rfl, do_call Tryz.call32 (c_r37dec hx.a (hT4 E) fun w2 e2 => retS_ret ⟨_, rfl, do_cat (by omega) (k3 _ w2 (E.trans e2) hs')⟩)⟩
    · have hw : lnIf x .a = [] := if_neg (by rw [z]; decide)
      rw [hw, List.append_nil] at hs'
      exact k3 s w' E hs'⟩
  refine ⟨_, _, rfl, ?_⟩
  unfold sh15b1
  refine ⟨_, X4.cell (i := 0) rfl rfl, do_call Tryz.call31 (c_r37word hx.op.1 hx.op.2 fun w5 e5 => retS_ret ⟨_, rfl, k2 _ w5 e5 ?_⟩)⟩
  rw [lineO_fix]; rfl
end Go.Proofs.YtmkpkmdnapccgaaGreatDoor

namespace Go.Sh
open Go Go.RowKit

structure Bd where
  key : Int
  val : Int
  sum : Int
  size : Int
  tag : Int
  left : Bool
  right : Bool
deriving DecidableEq
inductive BT where
  | nil
  | node (x : Bd) (l r : BT)
def BT.beads : BT → List Bd
  | .nil => []
  | .node x l r => x :: (l.beads ++ r.beads)
def BT.nn : BT → Bool
  | .nil => false
  | .node .. => true
def BT.wf : BT → Bool
  | .nil => true
  | .node x l r => (x.left == l.nn) && (x.right == r.nn) && l.wf && r.wf
def BT.depth : BT → Nat
  | .nil => 0
  | .node _ l r => 1 + max l.depth r.depth
abbrev BT.size (t : BT) : Nat := t.beads.length
inductive Tr where
  | nil
  | node (l : Tr) (k v g : Int) (r : Tr)
def Tr.size : Tr → Nat
  | .nil => 0
  | .node l _ _ _ r => l.size + 1 + r.size
def Tr.sum : Tr → Int
  | .nil => 0
  | .node l _ v _ r => IntKind.wrap .i64 (IntKind.wrap .i64 (l.sum + v) + r.sum)
def Tr.left : Tr → Tr
  | .nil => .nil
  | .node l _ _ _ _ => l
def Tr.right : Tr → Tr
  | .nil => .nil
  | .node _ _ _ _ r => r
def Tr.key : Tr → Int
  | .nil => 0
  | .node _ k _ _ _ => k
def Tr.val : Tr → Int
  | .nil => 0
  | .node _ _ v _ _ => v
def Tr.tag : Tr → Int
  | .nil => 0
  | .node _ _ _ g _ => g
def Tr.nn : Tr → Bool
  | .nil => false
  | .node .. => true
def Tr.pairs : Tr → List (Int × Int)
  | .nil => []
  | .node l k v _ r => l.pairs ++ (k, v) :: r.pairs
def Tr.All (t : Tr) (p : Int × Int → Prop) : Prop := ∀ x ∈ t.pairs, p x
theorem Tr.All.node {l r : Tr} {k v g : Int} {p : Int × Int → Prop} (h : (Tr.node l k v g r).All p) : l.All p ∧ p (k, v) ∧ r.All p :=
  ⟨fun x hx => h x (by simp [Tr.pairs, hx]), h _ (by simp [Tr.pairs]), fun x hx => h x (by simp [Tr.pairs, hx])⟩
def IsT (ty : TypeId) (w : World) : OA → Tr → Prop
  | p, .nil => p = none
  | p, .node l k v g r => ∃ b pl pr, p = some (blk b) ∧
      Blk w b #[.int .i64 k, .int .i64 v, .int .i64 (Tr.node l k v g r).sum, .int .u64 g, .int .i64 ((Tr.node l k v g r).size : Nat), .pointer pl, .pointer pr] ty ∧ IsT ty w pl l ∧ IsT ty w pr r
theorem IsT.ext {ty : TypeId} {w w' : World} {p : OA} {t : Tr} (h : IsT ty w p t) (e : Ext w w') : IsT ty w' p t := by
  induction t generalizing p with
  | nil => exact h
  | node l k v g r ihl ihr =>
    obtain ⟨b, pl, pr, hp, hb, hl, hr⟩ := h
    exact ⟨b, pl, pr, hp, hb.ext e, ihl hl, ihr hr⟩
theorem IsT.none {ty : TypeId} {w : World} {t : Tr} (h : IsT ty w none t) : t = .nil := by
  cases t with
  | nil => rfl
  | node l k v g r => obtain ⟨b, pl, pr, hp, _⟩ := h; cases hp
theorem IsT.isNone {ty : TypeId} {w : World} {p : OA} {t : Tr} (h : IsT ty w p t) : p.isNone = !t.nn := by
  cases t with
  | nil => rw [show p = Option.none from h]; rfl
  | node l k v g r => obtain ⟨b, pl, pr, rfl, _⟩ := h; rfl
def Tr.next (o key : Int) (t : Tr) : Tr := if cmpI o key t.key < 0 then t.left else t.right
theorem Tr.All.left {t : Tr} {p : Int × Int → Prop} (h : t.All p) : t.left.All p := by
  cases t with
  | nil => exact h
  | node l k v g r => exact h.node.1
theorem Tr.All.right {t : Tr} {p : Int × Int → Prop} (h : t.All p) : t.right.All p := by
  cases t with
  | nil => exact h
  | node l k v g r => exact h.node.2.2
theorem Tr.All.nx {t : Tr} {p : Int × Int → Prop} (h : t.All p) (o key : Int) : (t.next o key).All p := by
  unfold Tr.next; split
  · exact h.left
  · exact h.right
def sumV (l : List Bd) : Int := l.foldl (fun s b => IntKind.wrap .i64 (s + b.val)) 0
def BT.of : BT → BT
  | .nil => .nil
  | .node x l r => .node { x with size := ((BT.node x l r).size : Nat), sum := sumV (BT.node x l r).beads } l.of r.of
end Go.Sh

namespace Go.Sh
open Go Go.RowKit Go.ChangeShapes Go.WideShapes Go.Deep

variable {H : Type} {enc : TypeId × Value → H} {P : Program} {w : World} {base : Nat} {spare : Nat → Bool} {held : Bool}
theorem u8_of {x : Int} (h : (Lit.int .u8 x).wf = true) : 0 ≤ x ∧ x < 256 := by
  simp [Lit.wf, IntKind.min, IntKind.max, IntKind.signed, IntKind.bits] at h
  omega
end Go.Sh

namespace Go.Proofs.YtmkpkmdnapccgaaGreatDoor
open Go Go.Sh Go.RowKit Go.ChangeShapes Go.WideShapes

variable {H : Type} {enc : TypeId × Value → H} {w : World} {base : Nat} {spare : Nat → Bool} {held : Bool}
end Go.Proofs.YtmkpkmdnapccgaaGreatDoor

namespace Go.Proofs.YtmkpkmdnapccgaaGreatDoor
open Go Go.Sh Go.RowKit Go.ChangeShapes Go.WideShapes Go.Deep

variable {H : Type} {enc : TypeId × Value → H} {P : Program} {w : World} {base : Nat} {spare : Nat → Bool} {held : Bool}
end Go.Proofs.YtmkpkmdnapccgaaGreatDoor

namespace Go.Proofs.YtmkpkmdnapccgaaGreatDoor
open Go Go.Sh Go.RowKit Go.ChangeShapes Go.WideShapes Go.Deep

variable {H : Type} {enc : TypeId × Value → H} {P : Program} {w : World} {base : Nat} {spare : Nat → Bool} {held : Bool}
theorem rd_lt {w : World} {p : OA} {cs : List Value} (h : Cs w p cs) : ∀ d, p = some d → cs ≠ [] → d.block < w.heap.size := fun d hd hne => by
  match cs, hne with
  | v :: vs, _ =>
    obtain ⟨a, ha, hc⟩ := h 0 v rfl
    rw [hd] at ha
    cases ha
    have := World.block_lt_of_cell? _ _ hc
    rwa [add_block] at this
end Go.Proofs.YtmkpkmdnapccgaaGreatDoor

namespace Go.Proofs.YtmkpkmdnapccgaaGreatDoor
open Go Go.Sh Go.RowKit

theorem elOp : ElT Tryz.prog 22 37 (.agg #[.int .u8 0, .int .i64 0, .int .i64 0, .int .i64 0, .int .i64 0, .int .i64 0, .int .i64 0, .int .i64 0, .int .u8 0, .int .u8 0, .int .i64 0, .int .i64 0, .bool false, .slice none 0 0, .slice none 0 0]) 15 152 := ⟨Tryz.underlying22, ⟨_, Tryz.type37, by kernel_rfl, by kernel_rfl, by kernel_rfl⟩, rfl, by omega⟩
structure OpOk (w : World) (r : Option Nat) (e : OpE) : Prop where
  p : ∃ a c, e.2.1 = .slice a e.1.pairs.length c ∧ e.1.pairs.length ≤ c ∧ Cs w a (prs e.1.pairs) ∧ ∀ d, a = some d → prs e.1.pairs ≠ [] → r ≠ some d.block
  k : ∃ a c, e.2.2 = .slice a e.1.keys.length c ∧ e.1.keys.length ≤ c ∧ Cs w a (ints e.1.keys) ∧ ∀ d, a = some d → ints e.1.keys ≠ [] → r ≠ some d.block
theorem OpOk.ext {w w' : World} {r : Option Nat} {e : OpE} (h : OpOk w r e) (E : Ext w w') : OpOk w' r e := by
  obtain ⟨a, c, h1, h2, h3, h4⟩ := h.p
  obtain ⟨b, d, g1, g2, g3, g4⟩ := h.k
  exact ⟨⟨a, c, h1, h2, h3.ext E, h4⟩, ⟨b, d, g1, g2, g3.ext E, g4⟩⟩
theorem cs_gr {w w' : World} {p : OA} {vs : List Value} {r : Option Nat} (h : Cs w p vs) (g : w.grownBy w' r) (hne : ∀ a, p = some a → vs ≠ [] → r ≠ some a.block) : Cs w' p vs := fun i v hv => by
  obtain ⟨a, ha, hc⟩ := h i v hv
  refine ⟨a, ha, ?_⟩
  rw [World.cell?_of_block (g.block _ (World.block_lt_of_cell? _ _ hc) fun e => hne a ha (by rintro rfl; simp at hv) (by rw [add_block] at e; exact e.symm))]
  exact hc
theorem OpOk.grow {w w' : World} {r r' : Option Nat} {e : OpE} (h : OpOk w r e) (g : w.grownBy w' r) (hr : ∀ b, r' = some b → r = some b ∨ w.heap.size ≤ b) : OpOk w' r' e := by
  obtain ⟨a, c, h1, h2, h3, h4⟩ := h.p
  obtain ⟨b, d, g1, g2, g3, g4⟩ := h.k
  have nx : ∀ {p : OA} {vs : List Value}, Cs w p vs → (∀ d, p = some d → vs ≠ [] → r ≠ some d.block) → ∀ d, p = some d → vs ≠ [] → r' ≠ some d.block := fun hc hn d hd hz he => by
    rcases hr _ he with hh | hh
    · exact hn d hd hz hh
    · have := rd_lt hc d hd hz; omega
  exact ⟨⟨a, c, h1, h2, cs_gr h3 g h4, nx h3 h4⟩, ⟨b, d, g1, g2, cs_gr g3 g g4, nx g3 g4⟩⟩
theorem OpOk.rd {w : World} {r : Option Nat} {e : OpE} (h : OpOk w r e) : OpRd w e.1 e.2.1 e.2.2 := by
  obtain ⟨a, c, h1, h2, h3, h4⟩ := h.p
  obtain ⟨b, d, g1, g2, g3, g4⟩ := h.k
  exact ⟨⟨a, c, h1, h2, h3, rd_lt h3⟩, ⟨b, d, g1, g2, g3, rd_lt g3⟩⟩
theorem c_r37same {x : POp} {pp kp qp lp : OA} {pc kc qc lc : Nat} {w : World} {R : EW} (zp : x.pairs.length ≤ 5000) (zk : x.keys.length ≤ 5000) (h1 : Cs w pp (prs x.pairs)) (h2 : Cs w kp (ints x.keys)) (g1 : Cs w qp (prs x.pairs)) (g2 : Cs w lp (ints x.keys)) (h : ∀ w', Ext w w' → R (.returned (.bool true)) w') :
    Calls Tryz.prog 17 #[.agg #[.int .u8 x.op, .int .i64 x.a, .int .i64 x.b, .int .i64 x.key, .int .i64 x.val, .int .i64 x.lo, .int .i64 x.hi, .int .i64 x.n, .int .u8 x.pol, .int .u8 x.pk, .int .i64 x.pa, .int .i64 x.pb, .bool x.pnot, .slice pp x.pairs.length pc, .slice kp x.keys.length kc], .agg #[.int .u8 x.op, .int .i64 x.a, .int .i64 x.b, .int .i64 x.key, .int .i64 x.val, .int .i64 x.lo, .int .i64 x.hi, .int .i64 x.n, .int .u8 x.pol, .int .u8 x.pk, .int .i64 x.pa, .int .i64 x.pb, .bool x.pnot, .slice qp x.pairs.length qc, .slice lp x.keys.length lc]] w R := by
  refine sh17_ok _ _ _ _ _ _ _ _ _ _ _ _ _ _ _ _ _ _ _ _ _ _ _ _ _ _ _ _ _ _ _ _ _ _ _ _ _ _ ?_
  unfold sh17
  refine do_al fun b2 w2 e2 X2 l2 => do_al fun b3 w3 e3 Y l3 => ?_
  have X := X2.ext e3
  have E := e2.trans e3
  intro K45
  refine ⟨_, X.cell (i := 0) rfl rfl, _, Y.cell (i := 0) rfl rfl, ifB_t (by simp) ?_⟩
  refine ⟨_, X.cell (i := 1) rfl rfl, _, Y.cell (i := 1) rfl rfl, ifB_t (by simp) ?_⟩
  refine ⟨_, X.cell (i := 2) rfl rfl, _, Y.cell (i := 2) rfl rfl, ifB_t (by simp) ?_⟩
  refine ⟨_, X.cell (i := 3) rfl rfl, _, Y.cell (i := 3) rfl rfl, ifB_t (by simp) ?_⟩
  refine ⟨_, X.cell (i := 4) rfl rfl, _, Y.cell (i := 4) rfl rfl, ifB_t (by simp) ?_⟩
  refine ⟨_, X.cell (i := 5) rfl rfl, _, Y.cell (i := 5) rfl rfl, ifB_t (by simp) ?_⟩
  refine ⟨_, X.cell (i := 6) rfl rfl, _, Y.cell (i := 6) rfl rfl, ifB_t (by simp) ?_⟩
  refine ⟨_, X.cell (i := 7) rfl rfl, _, Y.cell (i := 7) rfl rfl, ifB_t (by simp) ?_⟩
  refine ⟨_, X.cell (i := 8) rfl rfl, _, Y.cell (i := 8) rfl rfl, ifB_t (by simp) ?_⟩
  refine ⟨_, X.cell (i := 9) rfl rfl, _, X.cell (i := 10) rfl rfl, _, X.cell (i := 11) rfl rfl, _, X.cell (i := 12) rfl rfl, _, Y.cell (i := 9) rfl rfl, _, Y.cell (i := 10) rfl rfl, _, Y.cell (i := 11) rfl rfl, _, Y.cell (i := 12) rfl rfl, ifB_t (by simp) ?_⟩
  refine ⟨_, _, _, X.cell (i := 13) rfl rfl, _, _, _, Y.cell (i := 13) rfl rfl, do_call Tryz.call38 (c_r4same (h1.ext E) rfl (g1.ext E) rfl (by omega) fun w4 e4 => retS_ret ⟨_, rfl, ifB_t (by simp) ?_⟩)⟩
  refine ⟨_, _, _, (X.ext e4).cell (i := 14) rfl rfl, _, _, _, (Y.ext e4).cell (i := 14) rfl rfl, do_call Tryz.call39 (c_rsame ((h2.ext E).ext e4) rfl ((g2.ext E).ext e4) rfl (by omega) fun w5 e5 => retS_ret ⟨_, rfl, ?_⟩)⟩
  have := h w5 ((E.trans e4).trans e5)
  simpa using this
theorem c_sameops {Es Fs : List OpE} {p q : OA} {n c d : Nat} {w : World} {R : EW} (hz : n ≤ 100000) (hE : Es.length = n) (hF : Fs.length = n) (hp : Cs w p (Es.flatMap opC)) (hq : Cs w q (Fs.flatMap opC)) (he : Es.map (·.1) = Fs.map (·.1)) (rE : ∀ e ∈ Es, OpRd w e.1 e.2.1 e.2.2 ∧ e.1.pairs.length ≤ 5000 ∧ e.1.keys.length ≤ 5000) (rF : ∀ e ∈ Fs, OpRd w e.1 e.2.1 e.2.2)
    (h : ∀ w', Ext w w' → R (.returned (.bool true)) w') : Calls Tryz.prog 12 #[.slice p n c, .slice q n d] w R := by
  refine sh12_ok _ _ _ _ _ _ ?_
  unfold sh12
  refine ifB_f (by simp) ?_
  refine ⟨fun vs w' => ∃ k : Nat, vs = [.int .i64 (k : Int)] ∧ k ≤ n ∧ Ext w w', fun vs _ => match vs with | [.int _ i] => n - i.toNat | _ => 0, ⟨0, rfl, Nat.zero_le _, ext_refl _⟩, ?_⟩
  rintro i_ _ w2 ⟨k, hv, hk, e⟩
  simp only [List.cons.injEq, Value.int.injEq, true_and, and_true] at hv
  subst hv
  refine ifB_intro (fun z => ?_) fun z => ?_
  · have z : k < n := by have := of_decide_eq_true z; omega
    have e2 := e.trans (ext_drew w2)
    refine ⟨fun w' => Ext w2.drew w', ext_refl _, ?_⟩
    have hk1 : k < Es.length := by omega
    have hk2 : k < Fs.length := by omega
    have hkk : Es[k].1 = Fs[k].1 := by
      have h1 : (Es.map (·.1))[k]? = some Es[k].1 := by rw [List.getElem?_map, List.getElem?_eq_getElem hk1]; rfl
      have h2 : (Fs.map (·.1))[k]? = some Fs[k].1 := by rw [List.getElem?_map, List.getElem?_eq_getElem hk2]; rfl
      rw [he, h2] at h1
      exact (Option.some.inj h1).symm
    have R1 := rE Es[k] (List.getElem_mem hk1)
    have R2 := rF Fs[k] (List.getElem_mem hk2)
    refine ix_flatC (ec := opC) (s := 15) (C := fun w' => Ext w2.drew w') (fun _ => rfl) (by omega) (fun w' e' => hp.ext (e2.trans e')) (ext_refl _) hE (k := k) rfl z fun a3 r3 => ?_
    generalize Es[k] = E1 at *
    obtain ⟨x, pv, kv⟩ := E1
    obtain ⟨hO, zp, zk⟩ := R1
    obtain ⟨pp, pc, e1p, hp1, hp2, _⟩ := hO.p
    obtain ⟨kp, kc, e1k, hk1, hk2, _⟩ := hO.k
    simp only at e1p e1k hp2 hk2 zp zk
    subst e1p e1k
    refine ⟨_, fun w' e' => r3 w' e' 0 _ rfl, _, fun w' e' => r3 w' e' 1 _ rfl, _, fun w' e' => r3 w' e' 2 _ rfl, _, fun w' e' => r3 w' e' 3 _ rfl, _, fun w' e' => r3 w' e' 4 _ rfl, _, fun w' e' => r3 w' e' 5 _ rfl, _, fun w' e' => r3 w' e' 6 _ rfl, _, fun w' e' => r3 w' e' 7 _ rfl, _, fun w' e' => r3 w' e' 8 _ rfl, _, fun w' e' => r3 w' e' 9 _ rfl, _, fun w' e' => r3 w' e' 10 _ rfl, _, fun w' e' => r3 w' e' 11 _ rfl, _, fun w' e' => r3 w' e' 12 _ rfl, _, _, _, fun w' e' => r3 w' e' 13 _ rfl, _, _, _, fun w' e' => r3 w' e' 14 _ rfl, ?_⟩
    refine ix_flatC (ec := opC) (s := 15) (C := fun w' => Ext w2.drew w') (fun _ => rfl) (by omega) (fun w' e' => hq.ext (e2.trans e')) (ext_refl _) hF (k := k) rfl z fun a4 r4 => ?_
    generalize Fs[k] = F1 at *
    obtain ⟨y, pv, kv⟩ := F1
    obtain ⟨qp, qc, e2p, _, hq2, _⟩ := R2.p
    obtain ⟨lp, lc, e2k, _, hl2, _⟩ := R2.k
    simp only at e2p e2k hq2 hl2 hkk
    subst hkk
    subst e2p e2k
    refine ⟨_, fun w' e' => r4 w' e' 0 _ rfl, _, fun w' e' => r4 w' e' 1 _ rfl, _, fun w' e' => r4 w' e' 2 _ rfl, _, fun w' e' => r4 w' e' 3 _ rfl, _, fun w' e' => r4 w' e' 4 _ rfl, _, fun w' e' => r4 w' e' 5 _ rfl, _, fun w' e' => r4 w' e' 6 _ rfl, _, fun w' e' => r4 w' e' 7 _ rfl, _, fun w' e' => r4 w' e' 8 _ rfl, _, fun w' e' => r4 w' e' 9 _ rfl, _, fun w' e' => r4 w' e' 10 _ rfl, _, fun w' e' => r4 w' e' 11 _ rfl, _, fun w' e' => r4 w' e' 12 _ rfl, _, _, _, fun w' e' => r4 w' e' 13 _ rfl, _, _, _, fun w' e' => r4 w' e' 14 _ rfl, ?_⟩
    refine do_call Tryz.call17 (c_r37same zp zk (hp2.ext e2) (hk2.ext e2) (hq2.ext e2) (hl2.ext e2) fun w3 e3 => retS_ret ⟨_, rfl, ifB_f rfl ?_⟩)
    rw [wrap_succ z (by omega)]
    refine ⟨⟨k + 1, rfl, by omega, e2.trans e3⟩, ?_⟩
    show n - ((k + 1 : Nat) : Int).toNat < n - (k : Int).toNat
    omega
  · exact h w2 e
end Go.Proofs.YtmkpkmdnapccgaaGreatDoor

namespace Go.Proofs.YtmkpkmdnapccgaaGreatDoor
open Go Go.Sh Go.RowKit

def oGet : POp := { POp.zero with op := 3, key := -1 }
def oBld : POp := { POp.zero with op := 8, pol := 3, pairs := [(5, 64)] }
def oKeep : POp := { POp.zero with op := 13, a := 2, pk := 4, pa := 3, pb := 1, pnot := true }
theorem al1 : encR [oGet, oBld] = ([3, 0, 1, 8, 3, 2, 10, 128, 1], 0) := by kernel_rfl
theorem al2 : lineR oKeep = ([107, 101, 101, 112, 32, 50, 32, 110, 111, 116, 32, 109, 111, 100, 32, 51, 32, 49], 0) := by kernel_rfl
theorem al3 : lineR oBld = ([98, 117, 105, 108, 100, 32, 115, 117, 109, 32, 53, 58, 54, 52], 0) := by kernel_rfl
theorem al4 : parseR [103, 101, 116, 32, 48, 32, 45, 49] = (oGet, 0) := by kernel_rfl
theorem al5 : parseR [103, 101, 116, 32, 48, 32, 45, 48, 49] = (.zero, 7) := by kernel_rfl
theorem al6 : ∀ v ∈ (splitW [103, 101, 116, 32, 48, 32, 45, 49]).tail, WordOk v := by
  rw [show (splitW [103, 101, 116, 32, 48, 32, 45, 49]).tail = [[48], [45, 49]] by kernel_rfl]
  intro v hv
  simp only [List.mem_cons, List.not_mem_nil, or_false] at hv
  rcases hv with rfl | rfl
  · exact ⟨⟨0, by kernel_rfl⟩, by kernel_rfl⟩
  · exact ⟨⟨-1, by kernel_rfl⟩, by kernel_rfl⟩
theorem al7 : ∀ v ∈ (splitW [103, 101, 116, 32, 48, 32, 45, 48, 49]).tail, WordOk v := by
  rw [show (splitW [103, 101, 116, 32, 48, 32, 45, 48, 49]).tail = [[48], [45, 48, 49]] by kernel_rfl]
  intro v hv
  simp only [List.mem_cons, List.not_mem_nil, or_false] at hv
  rcases hv with rfl | rfl
  · exact ⟨⟨0, by kernel_rfl⟩, by kernel_rfl⟩
  · exact ⟨⟨-1, by kernel_rfl⟩, by kernel_rfl⟩
end Go.Proofs.YtmkpkmdnapccgaaGreatDoor

namespace Go.Proofs.YtmkpkmdnapccgaaGreatDoor
open Go Go.Sh Go.RowKit

theorem oGet_in : InO oGet := by
  refine ⟨?_, ?_, ?_, ?_, ?_, ?_, ?_, ?_, ?_, ?_, ?_, ?_, ?_, ?_⟩ <;> simp [oGet, POp.zero, In, InPs]
theorem oBld_in : InO oBld := by
  refine ⟨?_, ?_, ?_, ?_, ?_, ?_, ?_, ?_, ?_, ?_, ?_, ?_, ?_, ?_⟩ <;> simp [oBld, POp.zero, In, InPs]
theorem oKeep_in : InO oKeep := by
  refine ⟨?_, ?_, ?_, ?_, ?_, ?_, ?_, ?_, ?_, ?_, ?_, ?_, ?_, ?_⟩ <;> simp [oKeep, POp.zero, In, InPs]
theorem nil_rd {w : World} {x : POp} (h1 : x.pairs = []) (h2 : x.keys = []) : OpRd w x (.slice none 0 0) (.slice none 0 0) := by
  refine ⟨⟨none, 0, by rw [h1]; rfl, by rw [h1]; exact Nat.le_refl _, by rw [h1]; exact cs_nil _ _, fun d e => by cases e⟩, ⟨none, 0, by rw [h2]; rfl, by rw [h2]; exact Nat.le_refl _, by rw [h2]; exact cs_nil _ _, fun d e => by cases e⟩⟩
theorem c_alive37 {w : World} {R : EW} (hG : GOk w) (h : ∀ w', Ext w w' → R (.returned (.bool true)) w') : Calls Tryz.prog 8 #[] w R := by
  refine sh8_ok ?_
  unfold sh8
  refine do_al fun b1 w1 e1 B1 l1 => st15 B1 fun w2 G2 g2 => do_al fun pb w3 e3 P3 l3 => do_al fun b2 w4 e4 B4 l4 => st15 B4 fun w5 D5 g5 => ?_
  have E2 : Ext w w2 := e1.st g2 l1
  have s1 := B1.lt
  have s2 := g2.size
  have s3 := P3.lt
  have s4 := B4.lt
  have z1 := e1.size
  have z3 := e3.size
  have E4 : Ext w w4 := (E2.trans e3).trans e4
  have E5 : Ext w w5 := E4.st g5 (by omega)
  have G5 : Blk w5 b1 (opCells oGet (.slice none 0 0) (.slice none 0 0)) 37 := ((Blk.ext G2 e3).ext e4).grown g5 (ne_some (by omega))
  have D5 : Blk w5 b2 (opCells oBld (.slice (some (blk pb)) 1 1) (.slice none 0 0)) 37 := D5
  have P5 := (P3.ext e4).grown g5 (ne_some (by omega))
  have hcp : Cs w5 (some (blk pb)) (prs oBld.pairs) := cs_blk P5
  have hrB : OpRd w5 oBld (.slice (some (blk pb)) 1 1) (.slice none 0 0) := ⟨⟨some (blk pb), 1, rfl, Nat.le_refl _, hcp, fun d e _ => by cases e; exact P5.lt⟩, ⟨none, 0, rfl, Nat.le_refl _, cs_nil _ _, fun d e => by cases e⟩⟩
  refine ⟨_, G5.cell (i := 0) rfl rfl, _, G5.cell (i := 1) rfl rfl, _, G5.cell (i := 2) rfl rfl, _, G5.cell (i := 3) rfl rfl, _, G5.cell (i := 4) rfl rfl, _, G5.cell (i := 5) rfl rfl, _, G5.cell (i := 6) rfl rfl, _, G5.cell (i := 7) rfl rfl, _, G5.cell (i := 8) rfl rfl, _, G5.cell (i := 9) rfl rfl, _, G5.cell (i := 10) rfl rfl, _, G5.cell (i := 11) rfl rfl, _, G5.cell (i := 12) rfl rfl, _, _, _, G5.cell (i := 13) rfl rfl, _, _, _, G5.cell (i := 14) rfl rfl, _, D5.cell (i := 0) rfl rfl, _, D5.cell (i := 1) rfl rfl, _, D5.cell (i := 2) rfl rfl, _, D5.cell (i := 3) rfl rfl, _, D5.cell (i := 4) rfl rfl, _, D5.cell (i := 5) rfl rfl, _, D5.cell (i := 6) rfl rfl, _, D5.cell (i := 7) rfl rfl, _, D5.cell (i := 8) rfl rfl, _, D5.cell (i := 9) rfl rfl, _, D5.cell (i := 10) rfl rfl, _, D5.cell (i := 11) rfl rfl, _, D5.cell (i := 12) rfl rfl, _, _, _, D5.cell (i := 13) rfl rfl, _, _, _, D5.cell (i := 14) rfl rfl, do_al fun lb w6 e6 L6 l6 => ?_⟩
  have E6 := E5.trans e6
  have hcl : Cs w6 (some (blk lb)) (([(oGet, .slice none 0 0, .slice none 0 0), (oBld, .slice (some (blk pb)) 1 1, .slice none 0 0)] : List OpE).flatMap opC) := cs_blk L6
  refine do_call Tryz.call10 (c_oenc (Es := [(oGet, .slice none 0 0, .slice none 0 0), (oBld, .slice (some (blk pb)) 1 1, .slice none 0 0)]) hcl rfl (by omega) (fun e he => ?_) (by show (encO [oGet, oBld]).length ≤ 1048576; rw [show encO [oGet, oBld] = [3, 0, 1, 8, 3, 2, 10, 128, 1] by kernel_rfl]; decide) fun w7 e7 => retS_ret ⟨_, _, rfl, ?_⟩)
  case refine_1 =>
    simp only [List.mem_cons, List.not_mem_nil, or_false] at he
    rcases he with rfl | rfl
    · exact ⟨oGet_in, nil_rd rfl rfl, Nat.zero_le _, Nat.zero_le _⟩
    · exact ⟨oBld_in, hrB.ext e6, by show 1 ≤ 5000; omega, Nat.zero_le _⟩
  rw [show (List.map (fun x => x.1) ([(oGet, .slice none 0 0, .slice none 0 0), (oBld, .slice (some (blk pb)) 1 1, .slice none 0 0)] : List OpE)) = [oGet, oBld] from rfl, al1]
  have E7 := E6.trans e7
  refine do_call Tryz.call14 (c_oline (x := oKeep) (pv := .slice none 0 0) (kv := .slice none 0 0) (hG.ext E7).tab oKeep_in (nil_rd rfl rfl) (Nat.zero_le _) (Nat.zero_le _) fun w8 e8 => retS_ret ⟨_, _, rfl, ?_⟩)
  rw [al2]
  have E8 := E7.trans e8
  have e58 := (e6.trans e7).trans e8
  have D8 : Blk w8 b2 (opCells oBld (.slice (some (blk pb)) 1 1) (.slice none 0 0)) 37 := D5.ext e58
  refine ⟨_, D8.cell (i := 0) rfl rfl, _, D8.cell (i := 1) rfl rfl, _, D8.cell (i := 2) rfl rfl, _, D8.cell (i := 3) rfl rfl, _, D8.cell (i := 4) rfl rfl, _, D8.cell (i := 5) rfl rfl, _, D8.cell (i := 6) rfl rfl, _, D8.cell (i := 7) rfl rfl, _, D8.cell (i := 8) rfl rfl, _, D8.cell (i := 9) rfl rfl, _, D8.cell (i := 10) rfl rfl, _, D8.cell (i := 11) rfl rfl, _, D8.cell (i := 12) rfl rfl, _, _, _, D8.cell (i := 13) rfl rfl, _, _, _, D8.cell (i := 14) rfl rfl, do_call Tryz.call14 (c_oline (x := oBld) (pv := .slice (some (blk pb)) 1 1) (kv := .slice none 0 0) (hG.ext E8).tab oBld_in (hrB.ext e58) (by show 1 ≤ 5000; omega) (Nat.zero_le _) fun w9 e9 => retS_ret ⟨_, _, rfl, ?_⟩)⟩
  rw [al3]
  have E9 := E8.trans e9
  refine do_call Tryz.call21 (c_oparse (s := [103, 101, 116, 32, 48, 32, 45, 49]) (by decide) (hG.ext E9) (.inr al6) fun pv kv w10 e10 hrd => ?_)
  rw [al4] at hrd ⊢
  obtain ⟨⟨p1, c1, hp1, _, hp2, _⟩, ⟨q1, d1, hq1, _, hq2, _⟩⟩ := hrd
  simp only at hp1 hq1
  subst hp1 hq1
  refine retS_ret ⟨_, _, _, _, _, _, _, _, _, _, _, _, _, _, _, _, _, _, _, _, rfl, do_al fun b3 w11 e11 B11 l11 => st15 B11 fun w12 X12 g12 => ?_⟩
  have X12 : Blk w12 b3 (opCells oGet (.slice p1 oGet.pairs.length c1) (.slice q1 oGet.keys.length d1)) 37 := X12
  have e912 : Ext w10 w12 := e11.st g12 l11
  have E12 := (E9.trans e10).trans e912
  refine do_call Tryz.call21 (c_oparse (s := [103, 101, 116, 32, 48, 32, 45, 48, 49]) (by decide) (hG.ext E12) (.inr al7) fun pv kv w13 e13 hrd => ?_)
  rw [al5] at hrd ⊢
  obtain ⟨⟨p2, c2, hp2', _, _, _⟩, ⟨q2, d2, hq2', _, _, _⟩⟩ := hrd
  simp only at hp2' hq2'
  subst hp2' hq2'
  refine retS_ret ⟨_, _, _, _, _, _, _, _, _, _, _, _, _, _, _, _, _, _, _, _, rfl, do_al fun b4 w14 e14 B14 l14 => st15 B14 fun w15 X15 g15 => ?_⟩
  have e1215 : Ext w12 w15 := (e13.trans e14).st g15 (by have := e13.size; omega)
  have E15 := E12.trans e1215
  intro K188
  refine ifB_t (beq_self_eq_true _) (ifB_t rfl (ifB_t (beq_self_eq_true _) (ifB_t rfl (ifB_t (beq_self_eq_true _) (ifB_t rfl ?_)))))
  have X15 : Blk w15 b3 (opCells oGet (.slice p1 oGet.pairs.length c1) (.slice q1 oGet.keys.length d1)) 37 := X12.ext e1215
  have Y15 : Blk w15 b1 (opCells oGet (.slice none 0 0) (.slice none 0 0)) 37 := G5.ext ((((e58.trans e9).trans e10).trans e912).trans e1215)
  refine ⟨_, X15.cell (i := 0) rfl rfl, _, X15.cell (i := 1) rfl rfl, _, X15.cell (i := 2) rfl rfl, _, X15.cell (i := 3) rfl rfl, _, X15.cell (i := 4) rfl rfl, _, X15.cell (i := 5) rfl rfl, _, X15.cell (i := 6) rfl rfl, _, X15.cell (i := 7) rfl rfl, _, X15.cell (i := 8) rfl rfl, _, X15.cell (i := 9) rfl rfl, _, X15.cell (i := 10) rfl rfl, _, X15.cell (i := 11) rfl rfl, _, X15.cell (i := 12) rfl rfl, _, _, _, X15.cell (i := 13) rfl rfl, _, _, _, X15.cell (i := 14) rfl rfl, _, Y15.cell (i := 0) rfl rfl, _, Y15.cell (i := 1) rfl rfl, _, Y15.cell (i := 2) rfl rfl, _, Y15.cell (i := 3) rfl rfl, _, Y15.cell (i := 4) rfl rfl, _, Y15.cell (i := 5) rfl rfl, _, Y15.cell (i := 6) rfl rfl, _, Y15.cell (i := 7) rfl rfl, _, Y15.cell (i := 8) rfl rfl, _, Y15.cell (i := 9) rfl rfl, _, Y15.cell (i := 10) rfl rfl, _, Y15.cell (i := 11) rfl rfl, _, Y15.cell (i := 12) rfl rfl, _, _, _, Y15.cell (i := 13) rfl rfl, _, _, _, Y15.cell (i := 14) rfl rfl, do_call Tryz.call17 (c_r37same (x := oGet) (Nat.zero_le _) (Nat.zero_le _) (cs_nil _ _) (cs_nil _ _) (cs_nil _ _) (cs_nil _ _) fun w16 e16 => retS_ret ⟨_, rfl, ifB_t rfl (ifB_t rfl ?_)⟩)⟩
  exact h w16 (E15.trans e16)
end Go.Proofs.YtmkpkmdnapccgaaGreatDoor

namespace Go.Proofs.YtmkpkmdnapccgaaGreatDoor
open Go Go.Sh Go.RowKit

def Tk (w : World) (tb : Nat) (s : Bs) (f : Bool) : Prop := Blk w tb #[strB s, .bool f] 83
def ByteS (s : Bs) (f : Bool) (v : Int) (s' : Bs) (f' : Bool) : Prop :=
  (f' = true → f = true ∧ ∃ b : UInt8, s = b :: s' ∧ v = ((b.toNat : Nat) : Int)) ∧ (f' = false → v = 0 ∧ (f = true → s = []))
def NumS (s : Bs) (f : Bool) (v : Int) (s' : Bs) (f' : Bool) : Prop := (f' = true → f = true ∧ numD s = some (v, s')) ∧ (f' = false → v = 0 ∧ (f = true → numD s = none))
def ManyS (s : Bs) (f : Bool) (n : Nat) (s' : Bs) (f' : Bool) : Prop := (f' = true → f = true ∧ ∀ m, inB.many m s = some (n, s')) ∧ (f' = false → n = 0 ∧ (f = true → ∀ m, inB.many m s = none))
theorem c_tbyte {tb : Nat} {s : Bs} {f : Bool} {w : World} {R : EW} (hT : Tk w tb s f)
    (h : ∀ v s' f' w', ByteS s f v s' f' → Tk w' tb s' f' → Chg (InOwn tb) (fun _ => False) w w' → R (.returned (.int .u8 v)) w') : Calls Tryz.prog 63 #[.pointer (some (blk tb))] w R := by
  refine sh63_ok _ ?_
  unfold sh63
  intro K4
  have bad : (f = true → s = []) → doSt (((blk tb).add 1).add 0) (.bool false) w (fun w6 => R (.returned (.int .u8 0)) w6) := fun hz => do_st hT (i := 1) rfl (by simp) fun w1 h1 g1 => h 0 s false w1 ⟨fun e => (by cases e), fun _ => ⟨rfl, hz⟩⟩ h1 (in_st g1 (.inl rfl))
  refine ⟨_, rfl, _, Blk.cell (i := 1) hT rfl rfl, ifB_intro (fun z => ⟨_, rfl, bad fun e => by subst e; cases z⟩) fun z => ⟨_, rfl, _, Blk.cell (i := 0) hT rfl rfl, ?_⟩⟩
  rw [str_nil]
  refine ifB_intro (fun z2 => ⟨_, rfl, bad fun _ => of_decide_eq_true z2⟩) fun z2 => ?_
  cases s with
  | nil => simp at z2
  | cons x s =>
  have hf : f = true := by simpa using z
  subst hf
  have hsz : (⟨(x :: s).toArray⟩ : ByteArray).size = s.length + 1 := by simp [ByteArray.size]
  refine ⟨_, rfl, _, Blk.cell (i := 0) hT rfl rfl, x, by omega, rfl, _, rfl, _, Blk.cell (i := 0) hT rfl rfl, ⟨by omega, by rw [hsz]; omega, by omega, ?_⟩⟩
  refine ⟨_, rfl, do_st hT (i := 0) rfl (by simp) fun w3 h3 g3 => h _ s true w3 ⟨fun _ => ⟨rfl, x, rfl, rfl⟩, fun e => by cases e⟩ ?_ (in_st g3 (.inl rfl))⟩
  have e : (⟨(x :: s).toArray⟩ : ByteArray).extract (1 : Int).toNat (((⟨(x :: s).toArray⟩ : ByteArray).size : Int)).toNat = ⟨s.toArray⟩ := str_ext x s
  show Blk w3 tb #[.string ⟨s.toArray⟩, .bool true] _
  rw [← e]
  exact h3
theorem tk_add {k u x : Nat} (hk : k ≤ 9) (h64 : u + x % 128 * 2 ^ (7 * k) < 18446744073709551616) :
    IntKind.wrap .u64 ((u : Int) + IntKind.wrap .u64 (IntKind.wrap .u64 (Int.tmod (x : Int) 128) * 2 ^ (min (IntKind.wrap .u64 (IntKind.wrap .i64 (7 * (k : Int)))).toNat (IntKind.bits .u64)))) = ((u + x % 128 * 2 ^ (7 * k) : Nat) : Int) := by
  have e7 : (IntKind.wrap .u64 (IntKind.wrap .i64 (7 * (k : Int)))).toNat = 7 * k := by
    rw [wrap_of (by omega) (by omega), show (7 * (k : Int)) = ((7 * k : Nat) : Int) by omega, wrap_u64 _ (by omega)]; omega
  rw [show Int.tmod (x : Int) 128 = ((x % 128 : Nat) : Int) from (Int.ofNat_tmod x 128).symm, wrap_u64 _ (by omega), e7, show min (7 * k) (IntKind.bits .u64) = 7 * k from Nat.min_eq_left (by simp only [IntKind.bits]; omega)]
  rw [show ((x % 128 : Nat) : Int) * 2 ^ (7 * k) = ((x % 128 * 2 ^ (7 * k) : Nat) : Int) by norm_cast, wrap_u64 _ (by omega), show (u : Int) + ((x % 128 * 2 ^ (7 * k) : Nat) : Int) = ((u + x % 128 * 2 ^ (7 * k) : Nat) : Int) by norm_cast, wrap_u64 _ h64]
theorem tk_half (m : Nat) : Int.tdiv (m : Int) 2 = ((m / 2 : Nat) : Int) := (Int.ofNat_tdiv m 2).symm
theorem tk_mod (m : Nat) : Int.tmod (m : Int) 2 = ((m % 2 : Nat) : Int) := (Int.ofNat_tmod m 2).symm
theorem c_tnum {tb : Nat} {s : Bs} {f : Bool} {w : World} {R : EW} (hT : Tk w tb s f)
    (h : ∀ v s' f' w', NumS s f v s' f' → Tk w' tb s' f' → Chg (InOwn tb) (fun _ => False) w w' → R (.returned (.int .i64 v)) w') : Calls Tryz.prog 64 #[.pointer (some (blk tb))] w R := by
  refine sh64_ok _ ?_
  unfold sh64
  refine ⟨fun vs w' => ∃ (k u : Nat) (s' : Bs), vs = [.int .u64 (u : Int), .int .i64 (k : Int)] ∧ k ≤ 9 ∧ u < 2 ^ (7 * k) ∧ Tk w' tb s' f ∧ (f = true → vDec k u s' = vDec 0 0 s) ∧ Chg (InOwn tb) (fun _ => False) w w',
    fun vs _ => match vs with | [_, .int _ i] => 10 - i.toNat | _ => 0, ⟨0, 0, s, rfl, by omega, by simp, hT, fun _ => rfl, .refl _ _ _⟩, ?_⟩
  rintro _ _ _ w2 ⟨k, u, s2, hvs, hk, hu, hT2, hD, c2⟩
  simp only [List.cons.injEq, Value.int.injEq, true_and, and_true] at hvs
  obtain ⟨rfl, rfl⟩ := hvs
  refine do_call Tryz.call63 (c_tbyte hT2 fun v s3 f3 w3 hB hT3 c3 => retS_ret ⟨_, rfl, ?_⟩)
  have c := c2.trans c3
  intro K12 K15
  have bad : (f = true → numD s = none) → doSt (((blk tb).add 1).add 0) (.bool false) w3 (fun w => R (.returned (.int .i64 0)) w) := fun hz => do_st hT3 (i := 1) rfl (by simp) fun w4 h4 g4 => h 0 s3 false w4 ⟨fun e => (by cases e), fun _ => ⟨rfl, hz⟩⟩ h4 (c.trans (in_st g4 (.inl rfl)))
  refine ⟨_, rfl, _, Blk.cell (i := 1) hT3 rfl rfl, ifB_intro (fun z => ⟨_, rfl, bad ?_⟩) fun z => ?_⟩
  · have hf3 : f3 = false := by simpa using z
    intro hf
    have := (hB.2 hf3).2 hf
    subst this
    unfold numD; rw [← hD hf]; rfl
  have hf3 : f3 = true := by simpa using z
  obtain ⟨hf, x, rfl, rfl⟩ := hB.1 hf3
  subst hf3
  have hD := hD hf
  have hx := UInt8.toNat_lt x
  have badx : ¬ ((k < 9 ∨ x.toNat < 2) ∧ (k = 0 ∨ x.toNat ≠ 0)) → f = true → numD s = none := fun hbad _ => by unfold numD; rw [← hD]; simp only [vDec]; rw [if_neg hbad]; rfl
  have good : (k < 9 ∨ x.toNat < 2) ∧ (k = 0 ∨ x.toNat ≠ 0) → K12 w3 := by
    intro hg
    have h64 : u + x.toNat % 128 * 2 ^ (7 * k) < 18446744073709551616 ∧ (128 ≤ x.toNat → k ≤ 8 ∧ u + x.toNat % 128 * 2 ^ (7 * k) < 2 ^ (7 * (k + 1))) := by
      by_cases hk9 : k = 9
      · subst hk9
        rw [show (2 : Nat) ^ (7 * 9) = 9223372036854775808 from rfl] at hu ⊢
        omega
      · have h8 := pow_le8 (show k ≤ 8 by omega)
        rw [pow_step]
        have hm : x.toNat % 128 < 128 := Nat.mod_lt _ (by omega)
        generalize 2 ^ (7 * k) = M at *
        have : x.toNat % 128 * M ≤ 127 * M := Nat.mul_le_mul_right _ (by omega)
        omega
    refine ⟨by omega, by rw [wrap_of (by omega) (by omega), show (7 * (k : Int)) = ((7 * k : Nat) : Int) by omega, wrap_u64 _ (by omega)]; omega, ?_⟩
    rw [tk_add hk h64.1]
    refine ifB_intro (fun z => ?_) fun z => ?_
    · have z : x.toNat < 128 := by have := of_decide_eq_true z; omega
      have hN : numD s = some (zag (u + x.toNat % 128 * 2 ^ (7 * k)), s3) := by
        unfold numD; rw [← hD]; simp only [vDec]; rw [if_pos hg, if_pos z]; rfl
      have hm := h64.1
      generalize u + x.toNat % 128 * 2 ^ (7 * k) = m at *
      rw [tk_mod, tk_half]
      refine ⟨by omega, ifB_intro (fun z1 => ⟨by omega, ?_⟩) fun z1 => ⟨by omega, ?_⟩⟩
      · have z1 : m % 2 = 1 := by have : ((m % 2 : Nat) : Int) = 1 := by simpa using z1
                                  omega
        rw [wrap_u64 _ (by omega), wrap_of (x := ((m / 2 : Nat) : Int)) (by omega) (by omega), wrap_of (x := 0 - ((m / 2 : Nat) : Int)) (by omega) (by omega), wrap_of (by omega) (by omega)]
        refine h _ s3 true w3 ⟨fun _ => ⟨hf, ?_⟩, fun e => by cases e⟩ hT3 c
        rw [hN]
        unfold zag
        rw [if_pos z1]
        congr 2
        omega
      · have z1 : ¬ m % 2 = 1 := fun e => by rw [e] at z1; cases z1
        rw [wrap_u64 _ (by omega), wrap_of (x := ((m / 2 : Nat) : Int)) (by omega) (by omega)]
        refine h _ s3 true w3 ⟨fun _ => ⟨hf, ?_⟩, fun e => by cases e⟩ hT3 c
        rw [hN]
        unfold zag
        rw [if_neg z1]
    · have z : 128 ≤ x.toNat := by have := of_decide_eq_false z; omega
      obtain ⟨hk8, hu'⟩ := h64.2 z
      refine ⟨⟨k + 1, _, s3, by rw [wrap_succ (n := 10) (by omega) (by omega)], by omega, hu', by rw [hf]; exact hT3, fun _ => ?_, c⟩, ?_⟩
      · rw [← hD]; simp only [vDec]; rw [if_pos hg, if_neg (by omega)]
      · rw [wrap_succ (n := 10) (by omega) (by omega)]
        show 10 - ((k + 1 : Nat) : Int).toNat < 10 - (k : Int).toNat
        omega
  have tail : (k < 9 ∨ x.toNat < 2) → ifB (decide ((k : Int) > 0)) (K15 (((x.toNat : Nat) : Int) == 0) w3) (K12 w3) := fun h9 => by
    refine ifB_intro (fun z1 => ifB_intro (fun z2 => ⟨_, rfl, bad (badx fun hc => ?_)⟩) fun z2 => good ⟨h9, .inr fun e => ?_⟩) fun z1 => good ⟨h9, .inl ?_⟩
    · have z1 := of_decide_eq_true z1
      have z2 : ((x.toNat : Nat) : Int) = 0 := by simpa using z2
      omega
    · rw [e] at z2; cases z2
    · have z1 := of_decide_eq_false z1; omega
  refine ifB_intro (fun z1 => ?_) fun z1 => tail (.inl ?_)
  · have z1 : ((k : Nat) : Int) = 9 := by simpa using z1
    refine ifB_intro (fun z2 => ⟨_, rfl, bad (badx fun hc => ?_)⟩) fun z2 => tail (.inr ?_)
    · have z2 := of_decide_eq_true z2; omega
    · have z2 := of_decide_eq_false z2; omega
  · have z1 : ¬ ((k : Nat) : Int) = 9 := by simpa using z1
    omega
theorem c_tmany {tb : Nat} {s : Bs} {f : Bool} {w : World} {R : EW} (hT : Tk w tb s f)
    (h : ∀ n s' f' w', ManyS s f n s' f' → n ≤ 4096 → Tk w' tb s' f' → Chg (InOwn tb) (fun _ => False) w w' → R (.returned (.int .i64 ((n : Nat) : Int))) w') : Calls Tryz.prog 65 #[.pointer (some (blk tb))] w R := by
  refine sh65_ok _ ?_
  unfold sh65
  refine do_call Tryz.call64 (c_tnum hT fun v s2 f2 w2 hN hT2 c2 => retS_ret ⟨_, rfl, ?_⟩)
  intro K7
  have bad : ¬ (0 ≤ v ∧ v ≤ 4096) → doSt (((blk tb).add 1).add 0) (.bool false) w2 (fun w => R (.returned (.int .i64 0)) w) := fun hv => do_st hT2 (i := 1) rfl (by simp) fun w4 h4 g4 => h 0 s2 false w4 ⟨fun e => (by cases e), fun _ => ⟨rfl, fun hf m => by
    cases hf2 : f2 with
    | false => exact absurd ⟨by rw [(hN.2 hf2).1]; omega, by rw [(hN.2 hf2).1]; omega⟩ hv
    | true => simp only [inB]; rw [(hN.1 hf2).2]; simp only [Option.bind_some]; rw [if_neg hv]⟩⟩ (by omega) h4 (c2.trans (in_st g4 (.inl rfl)))
  refine ifB_intro (fun z => ⟨_, rfl, bad (by have := of_decide_eq_true z; omega)⟩) fun z => ifB_intro (fun z2 => ⟨_, rfl, bad (by have := of_decide_eq_true z2; omega)⟩) fun z2 => ?_
  have z := of_decide_eq_false z
  have z2 := of_decide_eq_false z2
  obtain ⟨n, rfl⟩ : ∃ n : Nat, v = (n : Int) := ⟨v.toNat, by omega⟩
  refine h n s2 f2 w2 ⟨fun e => ⟨(hN.1 e).1, fun m => ?_⟩, fun e => ⟨by have := (hN.2 e).1; omega, fun hf m => ?_⟩⟩ (by omega) hT2 c2
  · simp only [inB]; rw [(hN.1 e).2]; simp only [Option.bind_some]; rw [if_pos ⟨by omega, by omega⟩, Int.toNat_natCast]
  · simp only [inB]; rw [(hN.2 e).2 hf]; rfl
end Go.Proofs.YtmkpkmdnapccgaaGreatDoor

