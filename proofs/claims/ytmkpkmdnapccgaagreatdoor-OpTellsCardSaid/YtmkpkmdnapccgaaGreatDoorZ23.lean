/-
  An op's bytes, by the document.
-/
import Derived.Test.YtmkpkmdnapccgaaGreatDoorZ21
import Derived.Test.YtmkpkmdnapccgaaGreatDoorZ22
import Derived.Test.YtmkpkmdnapccgaaGreatDoorZ14
import Derived.Test.YtmkpkmdnapccgaaGreatDoorZ12
import Derived.Test.YtmkpkmdnapccgaaGreatDoorZ03
import Derived.Deep.Slices
import Derived.Deep.Fields
import Derived.ChangeSame
import Derived.Lib.SmallJoins
import Derived.Test.YtmkpkmdnapccgaaGreatDoorZ18
import Derived.SizedLaws

set_option maxRecDepth 100000
set_option maxHeartbeats 6400000
namespace Go.Proofs.YtmkpkmdnapccgaaGreatDoor
open Go Go.Sh Go.RowKit

theorem pstep {β : Type} {s : List β} {p : Part} {i : Nat} {f : Part → List β} {T : List β} (h : fixP.drop i = p :: fixP.drop (i + 1)) (hs : s ++ (fixP.drop i).flatMap f = T) : (s ++ f p) ++ (fixP.drop (i + 1)).flatMap f = T := by
  rw [h, List.flatMap_cons, ← List.append_assoc] at hs
  exact hs
theorem app_len {s t r T : Bs} (h : (s ++ t) ++ r = T) (hT : T.length ≤ 1000000) : s.length + t.length ≤ 1000000 := by
  have := congrArg List.length h
  simp only [List.length_append] at this
  omega
theorem hi_lo (d : Int) : hasP .hi d = hasP .lo d := by
  unfold hasP
  exact partsOf_cases d (C := fun l => decide (Part.hi ∈ l) = decide (Part.lo ∈ l)) (by decide) (by decide) (by decide) (by decide) (by decide) (by decide) (by decide) (by decide) (by decide) (by decide) (by decide) (by decide)
theorem prB_len {l : List (Int × Int)} (h : InPs l) : (prB l).length ≤ l.length * 20 := flat_len fun p hp => by
  have h1 := (numE_len (h p hp).1).2
  have h2 := (numE_len (h p hp).2).2
  rw [List.length_append]; omega
theorem keyB_len {l : List Int} (h : ∀ v ∈ l, In v) : (keyB l).length ≤ l.length * 10 := flat_len fun v hv => (numE_len (h v hv)).2
theorem cs_u8 {b : Nat} {w : World} {v : Int} {t : TypeId} (hb : Blk w b #[.int .u8 v] t) (h : 0 ≤ v ∧ v < 256) : Cs w (some (blk b)) (bys [u8 v]) := by
  have := cs_blk hb
  simpa [bys, u8_back h.1 h.2] using this
theorem c_r37one {x : POp} {pv kv : Value} {w : World} {R : EW} (hx : InO x) (hr : OpRd w x pv kv) (hP : x.pairs.length ≤ 5000) (hK : x.keys.length ≤ 5000)
    (h : ∀ w', Ext w w' → R (.returned (strB (wrB x))) w') : Calls Tryz.prog 24 #[opV x pv kv] w R := by
  obtain ⟨a, c, rfl, hac, hcs, hab⟩ := hr.p
  obtain ⟨q, c', rfl, hqc, hqs, hqb⟩ := hr.k
  refine sh24_ok _ _ _ _ _ _ _ _ _ _ _ _ _ _ _ _ _ _ _ ?_
  unfold sh24
  have hT : (wrB x).length ≤ 1000000 := Nat.le_trans (wrB_len hx) (by omega)
  refine do_al fun xb w1 e1 X1 l1 => ⟨_, X1.cell (i := 0) rfl rfl, do_call Tryz.call30 (c_r37of fun w2 e2 => retS_ret ⟨_, _, _, _, _, _, _, _, _, _, _, _, rfl, do_al fun nb w3 e3 N3 l3 => st11 N3 fun w4 N4 g4 => ?_⟩)⟩
  have s1 := X1.lt
  have s2 := e2.size
  have E4 : Ext w w4 := ((e1.trans e2).trans e3).st g4 (by have := e1.size; omega)
  have X4 : Blk w4 xb (opCells x (.slice a x.pairs.length c) (.slice q x.keys.length c')) 37 := Blk.grown ((X1.ext e2).ext e3) g4 (ne_some (by omega))
  have hcs4 := hcs.ext E4
  have hqs4 := hqs.ext E4
  have k10 : ∀ (s : Bs) (w' : World), Ext w4 w' → s ++ (fixP.drop 10).flatMap (wrIf x) = wrB x → sh24k10 R [.pointer (some (blk xb)), .pointer (some (blk nb)), strB s] w' := fun s w' E hs => ⟨_, _, _, rfl, by
    have hs' := pstep (p := .keys) (i := 10) rfl hs
    unfold sh24b10
    intro K6
    have fin : ∀ s w', Ext w4 w' → s = wrB x → K6 ⟨s.toArray⟩ w' := fun s w' E hs => by subst hs; exact h w' (E4.trans E)
    rw [show (fixP.drop (10 + 1)).flatMap (wrIf x) = [] from rfl, List.append_nil] at hs'
    refine ⟨_, (N4.ext E).cell (i := 10) rfl rfl, ifB_intro (fun z => ?_) fun z => ?_⟩
    · have hw : wrIf x .keys = numE x.keys.length ++ keyB x.keys := if_pos z
      rw [hw] at hs'
      have hL := app_len (r := []) (by rw [List.append_nil]; exact hs') hT
      have hin : In (x.keys.length : Int) := by unfold In; omega
      have hnl := (numE_len hin).2
      refine ⟨_, _, _, (X4.ext E).cell (i := 14) rfl rfl, do_call Tryz.call53 (c_r37num hin fun w2 e2 => retS_ret ⟨_, rfl, do_cat (by rw [List.length_append] at hL; omega) ?_⟩)⟩
      refine ⟨fun vs w' => ∃ k : Nat, vs = [strB ((s ++ numE x.keys.length) ++ keyB (x.keys.take k)), .int .i64 (k : Int)] ∧ k ≤ x.keys.length ∧ Ext w4 w', fun vs _ => match vs with | [_, .int _ i] => x.keys.length - i.toNat | _ => 0, ⟨0, by simp [keyB], Nat.zero_le _, E.trans e2⟩, ?_⟩
      rintro s9 i9 _ w5 ⟨k, hvs, hk, e5⟩
      simp only [List.cons.injEq, Value.int.injEq, Value.string.injEq, true_and, and_true] at hvs
      obtain ⟨rfl, rfl⟩ := hvs
      refine ⟨_, _, _, (X4.ext e5).cell (i := 14) rfl rfl, ifB_intro (fun z => ?_) fun z => ?_⟩
      · have z : k < x.keys.length := by have := of_decide_eq_true z; omega
        have hki : In x.keys[k] := hx.keys _ (List.getElem_mem z)
        have hk1 : keyB (x.keys.take (k + 1)) = keyB (x.keys.take k) ++ numE x.keys[k] := by
          unfold keyB
          rw [← List.take_append_getElem z, List.flatMap_append]
          simp only [List.flatMap_cons, List.flatMap_nil, List.append_nil]
        have hb1 : (keyB (x.keys.take k)).length ≤ (x.keys.take k).length * 10 := keyB_len fun v hv => hx.keys v (List.mem_of_mem_take hv)
        rw [List.length_take] at hb1
        refine ⟨_, _, _, (X4.ext e5).cell (i := 14) rfl rfl, ix_int (hqs4.ext e5) rfl (by omega) (by omega) fun a9 _ hc9 => ⟨_, hc9, ?_⟩⟩
        rw [Int.toNat_natCast, List.getD_eq_getElem?_getD, List.getElem?_eq_getElem z, Option.getD_some]
        refine do_call Tryz.call53 (c_r37num hki fun w6 e6 => retS_ret ⟨_, rfl, do_cat (by
          have := (numE_len hki).2
          simp only [List.length_append] at hL ⊢
          omega) ?_⟩)
        rw [wrap_succ z (by omega), List.append_assoc, ← hk1]
        refine ⟨⟨k + 1, rfl, by omega, e5.trans e6⟩, ?_⟩
        show x.keys.length - ((k + 1 : Nat) : Int).toNat < x.keys.length - (k : Int).toNat
        omega
      · have z : k = x.keys.length := by have := of_decide_eq_false z; omega
        exact fin _ w5 e5 (by rw [z, List.take_length, List.append_assoc]; exact hs')
    · have hw : wrIf x .keys = [] := if_neg (by rw [z]; decide)
      rw [hw, List.append_nil] at hs'
      exact fin s w' E hs'⟩
  have k9 : ∀ (s : Bs) (w' : World), Ext w4 w' → s ++ (fixP.drop 9).flatMap (wrIf x) = wrB x → sh24k9 R [.pointer (some (blk xb)), .pointer (some (blk nb)), strB s] w' := fun s w' E hs => ⟨_, _, _, rfl, by
    have hs' := pstep (p := .pairs) (i := 9) rfl hs
    unfold sh24b9
    refine ⟨_, (N4.ext E).cell (i := 9) rfl rfl, ifB_intro (fun z => ?_) fun z => ?_⟩
    · have hw : wrIf x .pairs = numE x.pairs.length ++ prB x.pairs := if_pos z
      rw [hw] at hs'
      have hL := app_len hs' hT
      have hin : In (x.pairs.length : Int) := by unfold In; omega
      have hnl := (numE_len hin).2
      refine ⟨_, _, _, (X4.ext E).cell (i := 13) rfl rfl, do_call Tryz.call53 (c_r37num hin fun w2 e2 => retS_ret ⟨_, rfl, do_cat (by rw [List.length_append] at hL; omega) ?_⟩)⟩
      refine ⟨fun vs w' => ∃ k : Nat, vs = [strB ((s ++ numE x.pairs.length) ++ prB (x.pairs.take k)), .int .i64 (k : Int)] ∧ k ≤ x.pairs.length ∧ Ext w4 w', fun vs _ => match vs with | [_, .int _ i] => x.pairs.length - i.toNat | _ => 0, ⟨0, by simp [prB], Nat.zero_le _, E.trans e2⟩, ?_⟩
      rintro s9 i9 _ w5 ⟨k, hvs, hk, e5⟩
      simp only [List.cons.injEq, Value.int.injEq, Value.string.injEq, true_and, and_true] at hvs
      obtain ⟨rfl, rfl⟩ := hvs
      refine ⟨_, _, _, (X4.ext e5).cell (i := 13) rfl rfl, ifB_intro (fun z => ?_) fun z => ?_⟩
      · have z : k < x.pairs.length := by have := of_decide_eq_true z; omega
        have hki := hx.pairs _ (List.getElem_mem z)
        have hk1 : prB (x.pairs.take (k + 1)) = (prB (x.pairs.take k) ++ numE x.pairs[k].1) ++ numE x.pairs[k].2 := by
          unfold prB
          rw [← List.take_append_getElem z, List.flatMap_append]
          simp only [List.flatMap_cons, List.flatMap_nil, List.append_nil, List.append_assoc]
        have hb1 : (prB (x.pairs.take k)).length ≤ (x.pairs.take k).length * 20 := prB_len fun v hv => hx.pairs v (List.mem_of_mem_take hv)
        rw [List.length_take] at hb1
        have hn1 := (numE_len hki.1).2
        have hn2 := (numE_len hki.2).2
        refine ⟨?_⟩
        have e6 := e5.trans (ext_drew w5)
        generalize w5.drew = w6 at *
        refine ⟨fun w' => Ext w4 w', e6, _, _, _, fun w' e => (X4.ext e).cell (i := 13) rfl rfl, ?_⟩
        refine ix_prC (l := x.pairs) (fun w' e => hcs4.ext e) e6 rfl rfl z fun ad r1 r2 => ⟨_, r1, _, _, _, fun w' e => (X4.ext e).cell (i := 13) rfl rfl, ?_⟩
        refine ix_prC (l := x.pairs) (fun w' e => hcs4.ext e) e6 rfl rfl z fun ad' r3 r4 => ⟨_, r4, ?_⟩
        refine do_call Tryz.call53 (c_r37num hki.1 fun w7 e7 => retS_ret ⟨_, rfl, e6.trans e7, do_cat (by
          simp only [List.length_append] at hL ⊢
          omega) ?_⟩)
        refine do_call Tryz.call53 (c_r37num hki.2 fun w8 e8 => retS_ret ⟨_, rfl, (e6.trans e7).trans e8, do_cat (by
          simp only [List.length_append] at hL ⊢
          omega) ?_⟩)
        rw [wrap_succ z (by omega), List.append_assoc, List.append_assoc, ← List.append_assoc (prB (x.pairs.take k)), ← hk1]
        refine ⟨⟨k + 1, rfl, by omega, (e6.trans e7).trans e8⟩, ?_⟩
        show x.pairs.length - ((k + 1 : Nat) : Int).toNat < x.pairs.length - (k : Int).toNat
        omega
      · have z : k = x.pairs.length := by have := of_decide_eq_false z; omega
        exact k10 _ w5 e5 (by rw [z, List.take_length, List.append_assoc s]; exact hs')
    · have hw : wrIf x .pairs = [] := if_neg (by rw [z]; decide)
      rw [hw, List.append_nil] at hs'
      exact k10 s w' E hs'⟩
  have k8 : ∀ (s : Bs) (w' : World), Ext w4 w' → s ++ (fixP.drop 8).flatMap (wrIf x) = wrB x → sh24k8 R [.pointer (some (blk xb)), .pointer (some (blk nb)), strB s] w' := fun s w' E hs => ⟨_, _, _, rfl, by
    have hs' := pstep (p := .pred) (i := 8) rfl hs
    unfold sh24b8
    refine ⟨_, (N4.ext E).cell (i := 8) rfl rfl, ifB_intro (fun z => ?_) fun z => ?_⟩
    · have hw : wrIf x .pred = u8 x.pk :: (numE x.pa ++ (numE x.pb ++ [flagB x.pnot])) := if_pos z
      rw [hw] at hs'
      have hL := app_len hs' hT
      simp only [List.length_append, List.length_cons, List.length_nil] at hL
      have fin : ∀ w', Ext w4 w' → sh24k9 R [.pointer (some (blk xb)), .pointer (some (blk nb)), strB ((((s ++ [u8 x.pk]) ++ numE x.pa) ++ numE x.pb) ++ [flagB x.pnot])] w' := fun w' E => k9 _ w' E (by simpa using hs')
      refine ⟨?_⟩
      have E := E.trans (ext_drew w')
      generalize w'.drew = w5 at *
      refine ⟨fun w' => Ext w4 w', E, _, fun w' e => (X4.ext e).cell (i := 9) rfl rfl, _, fun w' e => (X4.ext e).cell (i := 10) rfl rfl, _, fun w' e => (X4.ext e).cell (i := 11) rfl rfl, _, fun w' e => (X4.ext e).cell (i := 12) rfl rfl, ?_⟩
      have lp := hx.pa
      have lq := hx.pb
      have go2 : ∀ w', Ext w4 w' → ∀ C : World → Prop, (∀ w', Ext w4 w' → C w') → True := fun _ _ _ _ => trivial
      repeat' first
        | exact fin _ ‹_›
        | (refine ⟨‹Ext w4 _›, ?_⟩)
        | apply And.intro
        | (refine do_al fun tb wz ez T lz => ?_; have E := E.trans ez; have T := cs_u8 T hx.pk)
        | (refine do_bs (s := [u8 x.pk]) T (fun h => by cases h) ?_)
        | (refine do_cat (by simp only [List.length_append, List.length_cons, List.length_nil]; omega) ?_)
        | (refine do_call Tryz.call53 (c_r37num hx.pa fun wz ez => retS_ret ⟨_, rfl, ?_⟩); have E := E.trans ez; try have T := T.ext ez)
        | (refine do_call Tryz.call53 (c_r37num hx.pb fun wz ez => retS_ret ⟨_, rfl, ?_⟩); have E := E.trans ez; try have T := T.ext ez)
        | (refine do_call Tryz.call54 (c_r37flag (retS_ret ⟨_, rfl, ?_⟩)))
    · have hw : wrIf x .pred = [] := if_neg (by rw [z]; decide)
      rw [hw, List.append_nil] at hs'
      exact k9 s w' E hs'⟩
  have k7 : ∀ (s : Bs) (w' : World), Ext w4 w' → s ++ (fixP.drop 7).flatMap (wrIf x) = wrB x → sh24k7 R [.pointer (some (blk xb)), .pointer (some (blk nb)), strB s] w' := fun s w' E hs => ⟨_, _, _, rfl, by
    have hs' := pstep (p := .pol) (i := 7) rfl hs
    unfold sh24b7
    refine ⟨_, (N4.ext E).cell (i := 7) rfl rfl, ifB_intro (fun z => ?_) fun z => ?_⟩
    · have hw : wrIf x .pol = [u8 x.pol] := if_pos z
      rw [hw] at hs'
      have hL := app_len hs' hT
      exact ⟨_, (X4.ext E).cell (i := 8) rfl rfl, do_al fun tb w2 e2 T2 l2 => do_bs (s := [u8 x.pol]) (cs_u8 T2 hx.pol) (fun h => by cases h) (do_cat (by omega) (k8 _ w2 (E.trans e2) hs'))⟩
    · have hw : wrIf x .pol = [] := if_neg (by rw [z]; decide)
      rw [hw, List.append_nil] at hs'
      exact k8 s w' E hs'⟩
  have k6 : ∀ (s : Bs) (w' : World), Ext w4 w' → s ++ (fixP.drop 6).flatMap (wrIf x) = wrB x → sh24k6 R [.pointer (some (blk xb)), .pointer (some (blk nb)), strB s] w' := fun s w' E hs => ⟨_, _, _, rfl, by
    have hs' := pstep (p := .n) (i := 6) rfl hs
    unfold sh24b6
    refine ⟨_, (N4.ext E).cell (i := 6) rfl rfl, ifB_intro (fun z => ?_) fun z => ?_⟩
    · have hw : wrIf x .n = numE x.n := if_pos z
      rw [hw] at hs'
      have hL := app_len hs' hT
      exact ⟨_, (X4.ext E).cell (i := 7) rfl rfl, do_call Tryz.call53 (c_r37num hx.n fun w2 e2 => retS_ret ⟨_, rfl, do_cat (by omega) (k7 _ w2 (E.trans e2) hs')⟩)⟩
    · have hw : wrIf x .n = [] := if_neg (by rw [z]; decide)
      rw [hw, List.append_nil] at hs'
      exact k7 s w' E hs'⟩
  have k5 : ∀ (s : Bs) (w' : World), Ext w4 w' → s ++ (fixP.drop 4).flatMap (wrIf x) = wrB x → sh24k5 R [.pointer (some (blk xb)), .pointer (some (blk nb)), strB s] w' := fun s w' E hs => ⟨_, _, _, rfl, by
    have hs' := pstep (p := .lo) (i := 4) rfl hs
    unfold sh24b5
    have hs'' := pstep (p := .hi) (i := 5) rfl hs'
    refine ⟨_, (N4.ext E).cell (i := 4) rfl rfl, ifB_intro (fun z => ?_) fun z => ?_⟩
    · have hw : wrIf x .lo = numE x.lo := if_pos z
      have hw2 : wrIf x .hi = numE x.hi := if_pos ((hi_lo x.op).trans z)
      rw [hw, hw2] at hs''
      have hL := app_len hs'' hT
      rw [List.length_append] at hL
      refine ⟨?_⟩
      have E1 := E.trans (ext_drew w')
      generalize w'.drew = w5 at *
      exact ⟨fun w' => Ext w4 w', E1, _, fun w' e => (X4.ext e).cell (i := 5) rfl rfl, _, fun w' e => (X4.ext e).cell (i := 6) rfl rfl, do_call Tryz.call53 (c_r37num hx.lo fun w2 e2 => retS_ret ⟨_, rfl, E1.trans e2, do_cat (by omega) (do_call Tryz.call53 (c_r37num hx.hi fun w3 e3 => retS_ret ⟨_, rfl, (E1.trans e2).trans e3, do_cat (by rw [List.length_append]; omega) (k6 _ w3 ((E1.trans e2).trans e3) hs'')⟩))⟩)⟩
    · have hw : wrIf x .lo = [] := if_neg (by rw [z]; decide)
      have hw2 : wrIf x .hi = [] := if_neg (by rw [hi_lo, z]; decide)
      rw [hw, hw2, List.append_nil, List.append_nil] at hs''
      exact k6 s w' E hs''⟩
  have k4 : ∀ (s : Bs) (w' : World), Ext w4 w' → s ++ (fixP.drop 3).flatMap (wrIf x) = wrB x → sh24k4 R [.pointer (some (blk xb)), .pointer (some (blk nb)), strB s] w' := fun s w' E hs => ⟨_, _, _, rfl, by
    have hs' := pstep (p := .val) (i := 3) rfl hs
    unfold sh24b4
    refine ⟨_, (N4.ext E).cell (i := 3) rfl rfl, ifB_intro (fun z => ?_) fun z => ?_⟩
    · have hw : wrIf x .val = numE x.val := if_pos z
      rw [hw] at hs'
      have hL := app_len hs' hT
      exact ⟨_, (X4.ext E).cell (i := 4) rfl rfl, do_call Tryz.call53 (c_r37num hx.val fun w2 e2 => retS_ret ⟨_, rfl, do_cat (by omega) (k5 _ w2 (E.trans e2) hs')⟩)⟩
    · have hw : wrIf x .val = [] := if_neg (by rw [z]; decide)
      rw [hw, List.append_nil] at hs'
      exact k5 s w' E hs'⟩
  have k3 : ∀ (s : Bs) (w' : World), Ext w4 w' → s ++ (fixP.drop 2).flatMap (wrIf x) = wrB x → sh24k3 R [.pointer (some (blk xb)), .pointer (some (blk nb)), strB s] w' := fun s w' E hs => ⟨_, _, _, rfl, by
    have hs' := pstep (p := .key) (i := 2) rfl hs
    unfold sh24b3
    refine ⟨_, (N4.ext E).cell (i := 2) rfl rfl, ifB_intro (fun z => ?_) fun z => ?_⟩
    · have hw : wrIf x .key = numE x.key := if_pos z
      rw [hw] at hs'
      have hL := app_len hs' hT
      exact ⟨_, (X4.ext E).cell (i := 3) rfl rfl, do_call Tryz.call53 (c_r37num hx.key fun w2 e2 => retS_ret ⟨_, rfl, do_cat (by omega) (k4 _ w2 (E.trans e2) hs')⟩)⟩
    · have hw : wrIf x .key = [] := if_neg (by rw [z]; decide)
      rw [hw, List.append_nil] at hs'
      exact k4 s w' E hs'⟩
  have k2 : ∀ (s : Bs) (w' : World), Ext w4 w' → s ++ (fixP.drop 1).flatMap (wrIf x) = wrB x → sh24k2 R [.pointer (some (blk xb)), .pointer (some (blk nb)), strB s] w' := fun s w' E hs => ⟨_, _, _, rfl, by
    have hs' := pstep (p := .b) (i := 1) rfl hs
    unfold sh24b2
    refine ⟨_, (N4.ext E).cell (i := 1) rfl rfl, ifB_intro (fun z => ?_) fun z => ?_⟩
    · have hw : wrIf x .b = numE x.b := if_pos z
      rw [hw] at hs'
      have hL := app_len hs' hT
      exact ⟨_, (X4.ext E).cell (i := 2) rfl rfl, do_call Tryz.call53 (c_r37num hx.b fun w2 e2 => retS_ret ⟨_, rfl, do_cat (by omega) (k3 _ w2 (E.trans e2) hs')⟩)⟩
    · have hw : wrIf x .b = [] := if_neg (by rw [z]; decide)
      rw [hw, List.append_nil] at hs'
      exact k3 s w' E hs'⟩
  have k1 : ∀ (s : Bs) (w' : World), Ext w4 w' → s ++ (fixP.drop 0).flatMap (wrIf x) = wrB x → sh24k1 R [.pointer (some (blk xb)), .pointer (some (blk nb)), strB s] w' := fun s w' E hs => ⟨_, _, _, rfl, by
    have hs' := pstep (p := .a) (i := 0) rfl hs
    unfold sh24b1
    refine ⟨_, (N4.ext E).cell (i := 0) rfl rfl, ifB_intro (fun z => ?_) fun z => ?_⟩
    · have hw : wrIf x .a = numE x.a := if_pos z
      rw [hw] at hs'
      have hL := app_len hs' hT
      exact ⟨_, (X4.ext E).cell (i := 1) rfl rfl, do_call Tryz.call53 (c_r37num hx.a fun w2 e2 => retS_ret ⟨_, rfl, do_cat (by omega) (k2 _ w2 (E.trans e2) hs')⟩)⟩
    · have hw : wrIf x .a = [] := if_neg (by rw [z]; decide)
      rw [hw, List.append_nil] at hs'
      exact k2 s w' E hs'⟩
  refine ⟨_, X4.cell (i := 0) rfl rfl, do_al fun tb w5 e5 T5 l5 => do_bs (s := [u8 x.op]) (cs_u8 T5 hx.op) (fun h => by cases h) (k1 _ w5 e5 ?_)⟩
  rw [wrB_fix]; rfl
end Go.Proofs.YtmkpkmdnapccgaaGreatDoor

namespace Go.Proofs.YtmkpkmdnapccgaaGreatDoor
open Go Go.Sh Go.RowKit

theorem c_r37enc {Es : List OpE} {p : OA} {n c : Nat} {w : World} {R : EW} (hl : Cs w p (Es.flatMap opC)) (hn : Es.length = n) (hz : n ≤ 100) (hin : ∀ e ∈ Es, OpIn w e) (hsz : (encO (Es.map (·.1))).length ≤ 1048576)
    (h : ∀ w', Ext w w' → R (.returned (.tuple #[strB (encR (Es.map (·.1))).1, .int .i64 (encR (Es.map (·.1))).2])) w') : Calls Tryz.prog 11 #[.slice p n c] w R := by
  refine sh11_ok _ _ _ ?_
  unfold sh11
  refine ⟨fun vs w' => ∃ k : Nat, vs = [.int .i64 (k : Int)] ∧ k ≤ n ∧ Ext w w' ∧ ∀ e ∈ Es.take k, mayO e.1 = true, fun vs _ => match vs with | [.int _ i] => n - i.toNat | _ => 0, ⟨0, rfl, Nat.zero_le _, ext_refl _, by simp⟩, ?_⟩
  rintro i_ _ w2 ⟨k, hv, hk, e, hma⟩
  simp only [List.cons.injEq, Value.int.injEq, true_and, and_true] at hv
  subst hv
  refine ifB_intro (fun z => ?_) fun z => ?_
  · have z : k < n := by have := of_decide_eq_true z; omega
    have hk1 : k < Es.length := by omega
    have hO := hin Es[k] (List.getElem_mem hk1)
    have hmE : Es[k] ∈ Es := List.getElem_mem hk1
    have htk : Es.take (k + 1) = Es.take k ++ [Es[k]] := by rw [List.take_append_getElem]
    refine ix_flat (ec := opC) (s := 15) (fun _ => rfl) (by omega) (hl.ext e) hn (k := k) rfl z fun a3 r3 _ => ?_
    generalize Es[k] = E1 at *
    obtain ⟨x, pv, kv⟩ := E1
    obtain ⟨hx, hrd, zp, zk⟩ := hO
    have hrd0 := hrd
    obtain ⟨pp, pc, ep, hp1, hp2, hp3⟩ := hrd.p
    obtain ⟨kp, kc, ek, hk1', hk2, hk3⟩ := hrd.k
    simp only at ep ek hp2 hk2 hp3 hk3 zp zk hp1 hk1' hx
    subst ep ek
    refine ⟨_, r3 0 _ rfl, _, r3 1 _ rfl, _, r3 2 _ rfl, _, r3 3 _ rfl, _, r3 4 _ rfl, _, r3 5 _ rfl, _, r3 6 _ rfl, _, r3 7 _ rfl, _, r3 8 _ rfl, _, r3 9 _ rfl, _, r3 10 _ rfl, _, r3 11 _ rfl, _, r3 12 _ rfl, _, _, _, r3 13 _ rfl, _, _, _, r3 14 _ rfl, do_call Tryz.call16 (c_r37may fun w5 e5 => retS_ret ⟨_, rfl, ?_⟩)⟩
    have E5 := e.trans e5
    by_cases hm : mayO x = true
    · refine ifB_f (by rw [hm]; rfl) ?_
      rw [wrap_succ z (by omega)]
      refine ⟨⟨k + 1, rfl, by omega, E5, fun e' he' => ?_⟩, ?_⟩
      · rw [htk] at he'
        rcases List.mem_append.1 he' with he' | he'
        · exact hma e' he'
        · obtain rfl : e' = _ := by simpa using he'
          exact hm
      · show n - ((k + 1 : Nat) : Int).toNat < n - (k : Int).toNat
        omega
    · have := h w5 E5
      rw [show encR (Es.map (·.1)) = ([], 2) by
        unfold encR
        rw [if_neg fun hall => hm (hall x (List.mem_map.2 ⟨_, hmE, rfl⟩))]] at this
      exact ifB_t (by simpa using hm) this
  · have z : k = n := by have := of_decide_eq_false z; omega
    have hall : ∀ e ∈ Es, mayO e.1 = true := fun e' he' => hma e' (by rw [z, ← hn, List.take_length]; exact he')
    have hR : encR (Es.map (·.1)) = (encO (Es.map (·.1)), 0) := by
      unfold encR
      rw [if_pos fun y hy => by obtain ⟨e', he', rfl⟩ := List.mem_map.1 hy; exact hall e' he']
    clear hma
    have E3 := e
    intro K34
    refine ⟨fun vs w' => ∃ k : Nat, vs = [strB (encO ((Es.take k).map (·.1))), .int .i64 (k : Int)] ∧ k ≤ n ∧ Ext w w', fun vs _ => match vs with | [_, .int _ i] => n - i.toNat | _ => 0, ⟨0, rfl, Nat.zero_le _, E3⟩, ?_⟩
    clear z hk
    rintro s_ i_ _ w4 ⟨k, hv, hk, e⟩
    simp only [List.cons.injEq, Value.int.injEq, Value.string.injEq, true_and, and_true] at hv
    obtain ⟨rfl, rfl⟩ := hv
    intro K43
    have hlen0 : (encO ((Es.take k).map (·.1))).length ≤ 1048576 := Nat.le_trans (by
      conv => rhs; rw [← List.take_append_drop k Es, List.map_append]
      exact encO_pre) hsz
    refine ifB_intro (fun z => ?_) fun z => ?_
    · have z : k < n := by have := of_decide_eq_true z; omega
      have hpre : (encO ((Es.take (k + 1)).map (·.1))).length ≤ 1048576 := Nat.le_trans (by
        conv => rhs; rw [← List.take_append_drop (k + 1) Es, List.map_append]
        exact encO_pre) hsz
      refine ifB_t (by rw [strB_size, decide_eq_true]; omega) ?_
      have hk1 : k < Es.length := by omega
      have hO := hin Es[k] (List.getElem_mem hk1)
      have hmE : Es[k] ∈ Es := List.getElem_mem hk1
      have htk : Es.take (k + 1) = Es.take k ++ [Es[k]] := by rw [List.take_append_getElem]
      refine ix_flat (ec := opC) (s := 15) (fun _ => rfl) (by omega) (hl.ext e) hn (k := k) rfl z fun a3 r3 _ => ?_
      generalize Es[k] = E1 at *
      obtain ⟨x, pv, kv⟩ := E1
      obtain ⟨hx, hrd, zp, zk⟩ := hO
      have hrd0 := hrd
      obtain ⟨pp, pc, ep, hp1, hp2, hp3⟩ := hrd.p
      obtain ⟨kp, kc, ek, hk1', hk2, hk3⟩ := hrd.k
      simp only at ep ek hp2 hk2 hp3 hk3 zp zk hp1 hk1' hx
      subst ep ek
      refine ⟨_, r3 0 _ rfl, _, r3 1 _ rfl, _, r3 2 _ rfl, _, r3 3 _ rfl, _, r3 4 _ rfl, _, r3 5 _ rfl, _, r3 6 _ rfl, _, r3 7 _ rfl, _, r3 8 _ rfl, _, r3 9 _ rfl, _, r3 10 _ rfl, _, r3 11 _ rfl, _, r3 12 _ rfl, _, _, _, r3 13 _ rfl, _, _, _, r3 14 _ rfl, do_call Tryz.call24 (c_r37one hx (hrd0.ext e) zp zk fun w5 e5 => retS_ret ⟨_, rfl, ?_⟩)⟩
      rw [htk, List.map_append, List.map_cons, List.map_nil, encO_snoc] at hpre
      have hpre : (encO ((Es.take k).map (·.1)) ++ wrB x).length ≤ 1048576 := hpre
      refine do_cat (a := encO ((Es.take k).map (·.1))) (b := wrB x) (by rw [List.length_append] at hpre; omega) ?_
      rw [wrap_succ z (by omega)]
      refine ⟨⟨k + 1, by rw [htk, List.map_append, List.map_cons, List.map_nil, encO_snoc], by omega, e.trans e5⟩, ?_⟩
      show n - ((k + 1 : Nat) : Int).toNat < n - (k : Int).toNat
      omega
    · have z : k = Es.length := by have := of_decide_eq_false z; omega
      have := h w4 e
      rw [hR] at this
      rw [z, List.take_length] at hlen0 ⊢
      exact ifB_f (by rw [strB_size, decide_eq_false]; omega) this
end Go.Proofs.YtmkpkmdnapccgaaGreatDoor

namespace Go.Proofs.YtmkpkmdnapccgaaGreatDoor
open Go Go.Sh Go.RowKit

def lnPred (k a b : Int) (f : Bool) : Bs := ((if f = true then (32 :: notW) else []) ++ (32 :: kindNames.getD k.toNat [])) ++ (if k = 1 then [] else (32 :: Go.Sh.dec a) ++ (32 :: Go.Sh.dec b))
theorem lnP_pred (x : POp) : lnP x .pred = lnPred x.pk x.pa x.pb x.pnot := by
  unfold lnP lnPred wrW
  by_cases hf : x.pnot = true <;> by_cases h : x.pk = 1 <;> simp [h, hf]
theorem lnP_pairs (x : POp) : lnP x .pairs = x.pairs.flatMap fun p => 32 :: prW p := by
  unfold lnP wrW
  rw [List.flatMap_map]
theorem lnP_keys (x : POp) : lnP x .keys = x.keys.flatMap fun v => 32 :: Go.Sh.dec v := by
  unfold lnP wrW
  rw [List.flatMap_map]
theorem c_r37pred {k a b : Int} {f : Bool} {w : World} {R : EW} (hT : Tab w) (hk : 0 ≤ k ∧ k < 256) (ha : In a) (hb : In b) (h : ∀ w', Ext w w' → R (.returned (strB (lnPred k a b f))) w') :
    Calls Tryz.prog 34 #[.agg #[.int .u8 k, .int .i64 a, .int .i64 b, .bool f]] w R := by
  refine sh34_ok _ _ _ _ ?_
  unfold sh34
  refine do_al fun pb w1 e1 P1 l1 => ?_
  intro K9
  have h1 := dec_len ha
  have h2 := dec_len hb
  have h3 : (kindNames.getD k.toNat []).length ≤ 43 := getD_len (by decide) _
  have go : ∀ s : Bs, s.length ≤ 10 → s = (if f = true then (32 :: notW) else []) → K9 ⟨s.toArray⟩ w1 := fun s hsl hs => by
    refine do_cat (b := [32]) (by simp only [List.length_cons, List.length_nil]; omega) ⟨_, P1.cell (i := 0) rfl rfl, do_call Tryz.call61 (c_r37kind hk.1 hk.2 fun w2 e2 => retS_ret ⟨_, rfl, do_cat (by simp only [List.length_append, List.length_cons, List.length_nil]; omega) ⟨_, (P1.ext e2).cell (i := 0) rfl rfl, ?_⟩⟩)⟩
    refine ifB_intro (fun z => ?_) fun z => ?_
    · have z : k = 1 := by simpa using z
      have := h w2 (e1.trans e2)
      unfold lnPred at this
      rw [if_pos z, List.append_nil, ← hs] at this
      simpa using this
    · have z : k ≠ 1 := by simpa using z
      refine ⟨?_⟩
      have E := (e1.trans e2).trans (ext_drew w2)
      have P3 := (P1.ext e2).ext (ext_drew w2)
      generalize w2.drew = w3 at *
      refine ⟨fun w' => Ext w3 w', ext_refl _, _, fun w' e => (P3.ext e).cell (i := 1) rfl rfl, _, fun w' e => (P3.ext e).cell (i := 2) rfl rfl, do_call Tryz.call32 (c_r37dec ha (tab_ext hT E) fun w4 e4 => retS_ret ⟨_, rfl, e4, do_cat (by simp only [List.length_append, List.length_cons, List.length_nil]; omega) (do_call Tryz.call32 (c_r37dec hb (tab_ext hT (E.trans e4)) fun w5 e5 => retS_ret ⟨_, rfl, e4.trans e5, do_cat (by simp only [List.length_append, List.length_cons, List.length_nil]; omega) ?_⟩))⟩)⟩
      have := h w5 ((E.trans e4).trans e5)
      unfold lnPred at this
      rw [if_neg z, ← hs] at this
      simpa using this
  refine ⟨_, P1.cell (i := 3) rfl rfl, ?_⟩
  cases f
  · exact ifB_f rfl (go [] (by simp) rfl)
  · exact ifB_t rfl (go (32 :: notW) (by decide) rfl)
theorem line_len {x : POp} (hx : InO x) (hm : mayO x = true) : (lineO x).length ≤ 1000000 := by
  have hM := mayO_iff.1 hm
  have h1 := joinW_len (words_len hx)
  have h2 : ((partsOf x.op).flatMap fun p => wrW p x).length ≤ (partsOf x.op).length * 5000 := flat_len fun p _ => by
    have := hM.pairs
    have := hM.keys
    cases p <;> simp only [wrW, List.length_append, List.length_cons, List.length_nil, List.length_map] <;> first | omega | (split <;> split <;> simp only [List.length_cons, List.length_nil] <;> omega)
  have h3 := parts_len x.op
  have h4 : (wordsOf x).length = ((partsOf x.op).flatMap fun p => wrW p x).length + 1 := by simp [wordsOf]
  have h5 : (partsOf x.op).length * 5000 ≤ 4 * 5000 := Nat.mul_le_mul_right _ h3
  unfold lineO
  omega
theorem c_r37line {x : POp} {pv kv : Value} {w : World} {R : EW} (hT0 : Tab w) (hx : InO x) (hr : OpRd w x pv kv)
    (h : ∀ w', Ext w w' → R (.returned (.tuple #[strB (lineR x).1, .int .i64 (lineR x).2])) w') : Calls Tryz.prog 15 #[opV x pv kv] w R := by
  obtain ⟨a, c, rfl, hac, hcs, hab⟩ := hr.p
  obtain ⟨q, c', rfl, hqc, hqs, hqb⟩ := hr.k
  refine sh15_ok _ _ _ _ _ _ _ _ _ _ _ _ _ _ _ _ _ _ _ ?_
  unfold sh15
  refine do_al fun xb w1 e1 X1 l1 => ⟨_, X1.cell (i := 0) rfl rfl, _, X1.cell (i := 1) rfl rfl, _, X1.cell (i := 2) rfl rfl, _, X1.cell (i := 3) rfl rfl, _, X1.cell (i := 4) rfl rfl, _, X1.cell (i := 5) rfl rfl, _, X1.cell (i := 6) rfl rfl, _, X1.cell (i := 7) rfl rfl, _, X1.cell (i := 8) rfl rfl, _, X1.cell (i := 9) rfl rfl, _, X1.cell (i := 10) rfl rfl, _, X1.cell (i := 11) rfl rfl, _, X1.cell (i := 12) rfl rfl, _, _, _, X1.cell (i := 13) rfl rfl, _, _, _, X1.cell (i := 14) rfl rfl, do_call Tryz.call16 (c_r37may fun w2 e2 => retS_ret ⟨_, rfl, ?_⟩)⟩
  by_cases hm : mayO x = true
  case neg =>
    have := h w2 (e1.trans e2)
    unfold lineR at this
    rw [if_neg hm] at this
    exact ifB_t (by simpa using hm) this
  have hR : lineR x = (lineO x, 0) := by unfold lineR; rw [if_pos hm]
  rw [hR] at h
  have hM := mayO_iff.1 hm
  have hT := line_len hx hm
  refine ifB_f (by rw [hm]; rfl) ⟨_, (X1.ext e2).cell (i := 0) rfl rfl, do_call Tryz.call30 (c_r37of fun w2' e2' => retS_ret ⟨_, _, _, _, _, _, _, _, _, _, _, _, rfl, do_al fun nb w3 e3 N3 l3 => st11 N3 fun w4 N4 g4 => ?_⟩)⟩
  have s1 := X1.lt
  have s2 := e2.size
  have s2' := e2'.size
  have E4 : Ext w w4 := (((e1.trans e2).trans e2').trans e3).st g4 (by have := e1.size; omega)
  have X4 : Blk w4 xb (opCells x (.slice a x.pairs.length c) (.slice q x.keys.length c')) 37 := Blk.grown (((X1.ext e2).ext e2').ext e3) g4 (ne_some (by omega))
  have hcs4 := hcs.ext E4
  have hqs4 := hqs.ext E4
  have hT4 : ∀ {w'}, Ext w4 w' → Tab w' := fun e => tab_ext hT0 (E4.trans e)
  have k11 : ∀ (s : Bs) (w' : World), Ext w4 w' → s ++ lnP x .keys = lineO x → sh15k11 R [.pointer (some (blk xb)), strB s] w' := fun s w' E hs => ⟨_, _, rfl, by
    unfold sh15b11
    rw [lnP_keys] at hs
    have hL := app_len (r := []) (by rw [List.append_nil]; exact hs) hT
    refine ⟨fun vs w' => ∃ k : Nat, vs = [strB (s ++ (x.keys.take k).flatMap fun v => 32 :: Go.Sh.dec v), .int .i64 (k : Int)] ∧ k ≤ x.keys.length ∧ Ext w4 w', fun vs _ => match vs with | [_, .int _ i] => x.keys.length - i.toNat | _ => 0, ⟨0, by simp, Nat.zero_le _, E⟩, ?_⟩
    rintro s9 i9 _ w5 ⟨k, hvs, hk, e5⟩
    simp only [List.cons.injEq, Value.int.injEq, Value.string.injEq, true_and, and_true] at hvs
    obtain ⟨rfl, rfl⟩ := hvs
    refine ⟨_, _, _, (X4.ext e5).cell (i := 14) rfl rfl, ifB_intro (fun z => ?_) fun z => ?_⟩
    · have z : k < x.keys.length := by have := of_decide_eq_true z; omega
      have hki : In x.keys[k] := hx.keys _ (List.getElem_mem z)
      have hk1 : ((x.keys.take (k + 1)).flatMap fun v => 32 :: Go.Sh.dec v) = ((x.keys.take k).flatMap fun v => 32 :: Go.Sh.dec v) ++ (32 :: Go.Sh.dec x.keys[k]) := by
        rw [← List.take_append_getElem z, List.flatMap_append]
        simp only [List.flatMap_cons, List.flatMap_nil, List.append_nil]
      have hb1 : ((x.keys.take k).flatMap fun v => 32 :: Go.Sh.dec v).length ≤ (x.keys.take k).length * 22 := flat_len fun v hv => by
        have := dec_len (hx.keys v (List.mem_of_mem_take hv))
        rw [List.length_cons]; omega
      rw [List.length_take] at hb1
      have hd1 := dec_len hki
      have hKK := hM.keys
      refine ⟨_, _, _, (X4.ext e5).cell (i := 14) rfl rfl, ix_int (hqs4.ext e5) rfl (by omega) (by omega) fun a9 _ hc9 => ⟨_, hc9, ?_⟩⟩
      rw [Int.toNat_natCast, List.getD_eq_getElem?_getD, List.getElem?_eq_getElem z, Option.getD_some]
      refine do_call Tryz.call32 (c_r37dec hki (hT4 e5) fun w6 e6 => retS_ret ⟨_, rfl, do_cat (by
        simp only [List.length_append, List.length_cons] at hL ⊢
        omega) ?_⟩)
      rw [wrap_succ z (by omega), List.append_assoc, ← hk1]
      refine ⟨⟨k + 1, rfl, by omega, e5.trans e6⟩, ?_⟩
      show x.keys.length - ((k + 1 : Nat) : Int).toNat < x.keys.length - (k : Int).toNat
      omega
    · have z : k = x.keys.length := by have := of_decide_eq_false z; omega
      rw [z, List.take_length, hs]
      exact h w5 (E4.trans e5)⟩
  have k10 : ∀ (s : Bs) (w' : World), Ext w4 w' → s ++ (fixP.drop 9).flatMap (lnIf x) = lineO x → sh15k10 R [.pointer (some (blk xb)), strB s] w' := fun s w' E hs => ⟨_, _, rfl, by
    have hs' := pstep (p := .keys) (i := 10) rfl (pstep (p := .pairs) (i := 9) rfl hs)
    rw [show (fixP.drop (10 + 1)).flatMap (lnIf x) = [] from rfl, List.append_nil, lnIf_pairs hM.masked, lnIf_keys hM.masked, lnP_pairs] at hs'
    unfold sh15b10
    have hL := app_len hs' hT
    refine ⟨fun vs w' => ∃ k : Nat, vs = [strB (s ++ (x.pairs.take k).flatMap fun p => 32 :: prW p), .int .i64 (k : Int)] ∧ k ≤ x.pairs.length ∧ Ext w4 w', fun vs _ => match vs with | [_, .int _ i] => x.pairs.length - i.toNat | _ => 0, ⟨0, by simp, Nat.zero_le _, E⟩, ?_⟩
    rintro s9 i9 _ w5 ⟨k, hvs, hk, e5⟩
    simp only [List.cons.injEq, Value.int.injEq, Value.string.injEq, true_and, and_true] at hvs
    obtain ⟨rfl, rfl⟩ := hvs
    refine ⟨_, _, _, (X4.ext e5).cell (i := 13) rfl rfl, ifB_intro (fun z => ?_) fun z => ?_⟩
    · have z : k < x.pairs.length := by have := of_decide_eq_true z; omega
      have hki := hx.pairs _ (List.getElem_mem z)
      have hk1 : ((x.pairs.take (k + 1)).flatMap fun p => 32 :: prW p) = ((x.pairs.take k).flatMap fun p => 32 :: prW p) ++ (32 :: prW x.pairs[k]) := by
        rw [← List.take_append_getElem z, List.flatMap_append]
        simp only [List.flatMap_cons, List.flatMap_nil, List.append_nil]
      have hb1 : ((x.pairs.take k).flatMap fun p => 32 :: prW p).length ≤ (x.pairs.take k).length * 44 := flat_len fun p hp => by
        have := prW_len (hx.pairs p (List.mem_of_mem_take hp))
        rw [List.length_cons]; omega
      rw [List.length_take] at hb1
      have hd1 := dec_len hki.1
      have hd2 := dec_len hki.2
      have hPP := hM.pairs
      refine ⟨?_⟩
      have e6 := e5.trans (ext_drew w5)
      generalize w5.drew = w6 at *
      refine ⟨fun w' => Ext w4 w', e6, _, _, _, fun w' e => (X4.ext e).cell (i := 13) rfl rfl, ?_⟩
      refine ix_prC (l := x.pairs) (fun w' e => hcs4.ext e) e6 rfl rfl z fun ad r1 r2 => ⟨_, r1, _, _, _, fun w' e => (X4.ext e).cell (i := 13) rfl rfl, ?_⟩
      refine ix_prC (l := x.pairs) (fun w' e => hcs4.ext e) e6 rfl rfl z fun ad' r3 r4 => ⟨_, r4, ?_⟩
      refine do_call Tryz.call32 (c_r37dec hki.1 (hT4 e6) fun w7 e7 => retS_ret ⟨_, rfl, e6.trans e7, do_cat (by
        simp only [List.length_append, List.length_cons] at hL ⊢
        omega) (do_cat (b := [58]) (by
        simp only [List.length_append, List.length_cons, List.length_nil] at hL ⊢
        omega) ?_)⟩)
      refine do_call Tryz.call35 (c_fmt hki.2 (hT4 (e6.trans e7)) fun w8 e8 => retS_ret ⟨_, rfl, (e6.trans e7).trans e8, do_cat (by
        simp only [List.length_append, List.length_cons, List.length_nil] at hL ⊢
        omega) ?_⟩)
      rw [wrap_succ z (by omega)]
      refine ⟨⟨k + 1, ?_, by omega, (e6.trans e7).trans e8⟩, ?_⟩
      · rw [hk1]
        unfold prW
        simp
      · show x.pairs.length - ((k + 1 : Nat) : Int).toNat < x.pairs.length - (k : Int).toNat
        omega
    · have z : k = x.pairs.length := by have := of_decide_eq_false z; omega
      exact k11 _ w5 e5 (by rw [z, List.take_length]; exact hs')⟩
  have k9 : ∀ (s : Bs) (w' : World), Ext w4 w' → s ++ (fixP.drop 8).flatMap (lnIf x) = lineO x → sh15k9 R [.pointer (some (blk xb)), .pointer (some (blk nb)), strB s] w' := fun s w' E hs => ⟨_, _, _, rfl, by
    have hs' := pstep (p := .pred) (i := 8) rfl hs
    unfold sh15b9
    refine ⟨_, (N4.ext E).cell (i := 8) rfl rfl, ifB_intro (fun z => ?_) fun z => ?_⟩
    · have hw : lnIf x .pred = lnPred x.pk x.pa x.pb x.pnot := (if_pos z).trans (lnP_pred x)
      rw [hw] at hs'
      have hL := app_len hs' hT
      exact ⟨_, (X4.ext E).cell (i := 9) rfl rfl, _, (X4.ext E).cell (i := 10) rfl rfl, _, (X4.ext E).cell (i := 11) rfl rfl, _, (X4.ext E).cell (i := 12) rfl rfl, do_call Tryz.call34 (c_r37pred (hT4 E) hx.pk hx.pa hx.pb fun w2 e2 => retS_ret ⟨_, rfl, do_cat (by omega) (k10 _ w2 (E.trans e2) hs')⟩)⟩
    · have hw : lnIf x .pred = [] := if_neg (by rw [z]; decide)
      rw [hw, List.append_nil] at hs'
      exact k10 s w' E hs'⟩
  have k8 : ∀ (s : Bs) (w' : World), Ext w4 w' → s ++ (fixP.drop 7).flatMap (lnIf x) = lineO x → sh15k8 R [.pointer (some (blk xb)), .pointer (some (blk nb)), strB s] w' := fun s w' E hs => ⟨_, _, _, rfl, by
    have hs' := pstep (p := .pol) (i := 7) rfl hs
    unfold sh15b8
    refine ⟨_, (N4.ext E).cell (i := 7) rfl rfl, ifB_intro (fun z => ?_) fun z => ?_⟩
    · have hw : lnIf x .pol = 32 :: polNames.getD x.pol.toNat [] := (if_pos z).trans (by simp [lnP, wrW])
      rw [hw] at hs'
      have hL := app_len hs' hT
      rw [List.length_cons] at hL
      refine do_cat (b := [32]) (by simp only [List.length_cons, List.length_nil]; omega) ⟨_, (X4.ext E).cell (i := 8) rfl rfl, do_call Tryz.call33 (c_r37policy hx.pol.1 hx.pol.2 fun w2 e2 => retS_ret ⟨_, rfl, do_cat (by simp only [List.length_append, List.length_cons, List.length_nil]; omega) (k9 _ w2 (E.trans e2) (by simpa using hs'))⟩)⟩
    · have hw : lnIf x .pol = [] := if_neg (by rw [z]; decide)
      rw [hw, List.append_nil] at hs'
      exact k9 s w' E hs'⟩
  have k7 : ∀ (s : Bs) (w' : World), Ext w4 w' → s ++ (fixP.drop 6).flatMap (lnIf x) = lineO x → sh15k7 R [.pointer (some (blk xb)), .pointer (some (blk nb)), strB s] w' := fun s w' E hs => ⟨_, _, _, rfl, by
    have hs' := pstep (p := .n) (i := 6) rfl hs
    unfold sh15b7
    refine ⟨_, (N4.ext E).cell (i := 6) rfl rfl, ifB_intro (fun z => ?_) fun z => ?_⟩
    · have hw : lnIf x .n = 32 :: Go.Sh.dec x.n := (if_pos z).trans (by simp [lnP, wrW])
      rw [hw] at hs'
      have hL := app_len hs' hT
      exact ⟨_, (X4.ext E).cell (i := 7) rfl rfl, do_call Tryz.call32 (c_r37dec hx.n (hT4 E) fun w2 e2 => retS_ret ⟨_, rfl, do_cat (by omega) (k8 _ w2 (E.trans e2) hs')⟩)⟩
    · have hw : lnIf x .n = [] := if_neg (by rw [z]; decide)
      rw [hw, List.append_nil] at hs'
      exact k8 s w' E hs'⟩
  have k6 : ∀ (s : Bs) (w' : World), Ext w4 w' → s ++ (fixP.drop 4).flatMap (lnIf x) = lineO x → sh15k6 R [.pointer (some (blk xb)), .pointer (some (blk nb)), strB s] w' := fun s w' E hs => ⟨_, _, _, rfl, by
    have hs' := pstep (p := .lo) (i := 4) rfl hs
    unfold sh15b6
    have hs'' := pstep (p := .hi) (i := 5) rfl hs'
    refine ⟨_, (N4.ext E).cell (i := 4) rfl rfl, ifB_intro (fun z => ?_) fun z => ?_⟩
    · have hw : lnIf x .lo = 32 :: Go.Sh.dec x.lo := (if_pos z).trans (by simp [lnP, wrW])
      have hw2 : lnIf x .hi = 32 :: Go.Sh.dec x.hi := (if_pos ((hi_lo x.op).trans z)).trans (by simp [lnP, wrW])
      rw [hw, hw2] at hs''
      have hL := app_len hs'' hT
      rw [List.length_append] at hL
      refine ⟨?_⟩
      have E1 := E.trans (ext_drew w')
      generalize w'.drew = w5 at *
      exact ⟨fun w' => Ext w4 w', E1, _, fun w' e => (X4.ext e).cell (i := 5) rfl rfl, _, fun w' e => (X4.ext e).cell (i := 6) rfl rfl, do_call Tryz.call32 (c_r37dec hx.lo (hT4 E1) fun w2 e2 => retS_ret ⟨_, rfl, E1.trans e2, do_cat (by omega) (do_call Tryz.call32 (c_r37dec hx.hi (hT4 (E1.trans e2)) fun w3 e3 => retS_ret ⟨_, rfl, (E1.trans e2).trans e3, do_cat (by rw [List.length_append]; omega) (k7 _ w3 ((E1.trans e2).trans e3) hs'')⟩))⟩)⟩
    · have hw : lnIf x .lo = [] := if_neg (by rw [z]; decide)
      have hw2 : lnIf x .hi = [] := if_neg (by rw [hi_lo, z]; decide)
      rw [hw, hw2, List.append_nil, List.append_nil] at hs''
      exact k7 s w' E hs''⟩
  have k5 : ∀ (s : Bs) (w' : World), Ext w4 w' → s ++ (fixP.drop 3).flatMap (lnIf x) = lineO x → sh15k5 R [.pointer (some (blk xb)), .pointer (some (blk nb)), strB s] w' := fun s w' E hs => ⟨_, _, _, rfl, by
    have hs' := pstep (p := .val) (i := 3) rfl hs
    unfold sh15b5
    refine ⟨_, (N4.ext E).cell (i := 3) rfl rfl, ifB_intro (fun z => ?_) fun z => ?_⟩
    · have hw : lnIf x .val = 32 :: Go.Sh.dec x.val := (if_pos z).trans (by simp [lnP, wrW])
      rw [hw] at hs'
      have hL := app_len hs' hT
      exact ⟨_, (X4.ext E).cell (i := 4) rfl rfl, do_call Tryz.call32 (c_r37dec hx.val (hT4 E) fun w2 e2 => retS_ret ⟨_, rfl, do_cat (by omega) (k6 _ w2 (E.trans e2) hs')⟩)⟩
    · have hw : lnIf x .val = [] := if_neg (by rw [z]; decide)
      rw [hw, List.append_nil] at hs'
      exact k6 s w' E hs'⟩
  have k4 : ∀ (s : Bs) (w' : World), Ext w4 w' → s ++ (fixP.drop 2).flatMap (lnIf x) = lineO x → sh15k4 R [.pointer (some (blk xb)), .pointer (some (blk nb)), strB s] w' := fun s w' E hs => ⟨_, _, _, rfl, by
    have hs' := pstep (p := .key) (i := 2) rfl hs
    unfold sh15b4
    refine ⟨_, (N4.ext E).cell (i := 2) rfl rfl, ifB_intro (fun z => ?_) fun z => ?_⟩
    · have hw : lnIf x .key = 32 :: Go.Sh.dec x.key := (if_pos z).trans (by simp [lnP, wrW])
      rw [hw] at hs'
      have hL := app_len hs' hT
      exact ⟨_, (X4.ext E).cell (i := 3) rfl rfl, do_call Tryz.call32 (c_r37dec hx.key (hT4 E) fun w2 e2 => retS_ret ⟨_, rfl, do_cat (by omega) (k5 _ w2 (E.trans e2) hs')⟩)⟩
    · have hw : lnIf x .key = [] := if_neg (by rw [z]; decide)
      rw [hw, List.append_nil] at hs'
      exact k5 s w' E hs'⟩
  have k3 : ∀ (s : Bs) (w' : World), Ext w4 w' → s ++ (fixP.drop 1).flatMap (lnIf x) = lineO x → sh15k3 R [.pointer (some (blk xb)), .pointer (some (blk nb)), strB s] w' := fun s w' E hs => ⟨_, _, _, rfl, by
    have hs' := pstep (p := .b) (i := 1) rfl hs
    unfold sh15b3
    refine ⟨_, (N4.ext E).cell (i := 1) rfl rfl, ifB_intro (fun z => ?_) fun z => ?_⟩
    · have hw : lnIf x .b = 32 :: Go.Sh.dec x.b := (if_pos z).trans (by simp [lnP, wrW])
      rw [hw] at hs'
      have hL := app_len hs' hT
      exact ⟨_, (X4.ext E).cell (i := 2) rfl rfl, do_call Tryz.call32 (c_r37dec hx.b (hT4 E) fun w2 e2 => retS_ret ⟨_, rfl, do_cat (by omega) (k4 _ w2 (E.trans e2) hs')⟩)⟩
    · have hw : lnIf x .b = [] := if_neg (by rw [z]; decide)
      rw [hw, List.append_nil] at hs'
      exact k4 s w' E hs'⟩
  have k2 : ∀ (s : Bs) (w' : World), Ext w4 w' → s ++ (fixP.drop 0).flatMap (lnIf x) = lineO x → sh15k2 R [.pointer (some (blk xb)), .pointer (some (blk nb)), strB s] w' := fun s w' E hs => ⟨_, _, _, rfl, by
    have hs' := pstep (p := .a) (i := 0) rfl hs
    unfold sh15b2
    refine ⟨_, (N4.ext E).cell (i := 0) rfl rfl, ifB_intro (fun z => ?_) fun z => ?_⟩
    · have hw : lnIf x .a = 32 :: Go.Sh.dec x.a := (if_pos z).trans (by simp [lnP, wrW])
      rw [hw] at hs'
      have hL := app_len hs' hT
      exact ⟨_, (X4.ext E).cell (i := 1) rfl rfl, do_call Tryz.call32 (c_r37dec hx.a (hT4 E) fun w2 e2 => retS_ret ⟨_, rfl, do_cat (by omega) (k3 _ w2 (E.trans e2) hs')⟩)⟩
    · have hw : lnIf x .a = [] := if_neg (by rw [z]; decide)
      rw [hw, List.append_nil] at hs'
      exact k3 s w' E hs'⟩
  refine ⟨_, _, rfl, ?_⟩
  unfold sh15b1
  refine ⟨_, X4.cell (i := 0) rfl rfl, do_call Tryz.call31 (c_r37word hx.op.1 hx.op.2 fun w5 e5 => retS_ret ⟨_, rfl, k2 _ w5 e5 ?_⟩)⟩
  rw [lineO_fix]; rfl
end Go.Proofs.YtmkpkmdnapccgaaGreatDoor

namespace Go.Sh
open Go Go.RowKit

structure Bd where
  key : Int
  val : Int
  sum : Int
  size : Int
  tag : Int
  left : Bool
  right : Bool
deriving DecidableEq
inductive BT where
  | nil
  | node (x : Bd) (l r : BT)
def BT.beads : BT → List Bd
  | .nil => []
  | .node x l r => x :: (l.beads ++ r.beads)
def BT.nn : BT → Bool
  | .nil => false
  | .node .. => true
def BT.wf : BT → Bool
  | .nil => true
  | .node x l r => (x.left == l.nn) && (x.right == r.nn) && l.wf && r.wf
def BT.depth : BT → Nat
  | .nil => 0
  | .node _ l r => 1 + max l.depth r.depth
abbrev BT.size (t : BT) : Nat := t.beads.length
inductive Tr where
  | nil
  | node (l : Tr) (k v g : Int) (r : Tr)
def Tr.size : Tr → Nat
  | .nil => 0
  | .node l _ _ _ r => l.size + 1 + r.size
def Tr.sum : Tr → Int
  | .nil => 0
  | .node l _ v _ r => IntKind.wrap .i64 (IntKind.wrap .i64 (l.sum + v) + r.sum)
def Tr.left : Tr → Tr
  | .nil => .nil
  | .node l _ _ _ _ => l
def Tr.right : Tr → Tr
  | .nil => .nil
  | .node _ _ _ _ r => r
def Tr.key : Tr → Int
  | .nil => 0
  | .node _ k _ _ _ => k
def Tr.val : Tr → Int
  | .nil => 0
  | .node _ _ v _ _ => v
def Tr.tag : Tr → Int
  | .nil => 0
  | .node _ _ _ g _ => g
def Tr.nn : Tr → Bool
  | .nil => false
  | .node .. => true
def Tr.pairs : Tr → List (Int × Int)
  | .nil => []
  | .node l k v _ r => l.pairs ++ (k, v) :: r.pairs
def Tr.All (t : Tr) (p : Int × Int → Prop) : Prop := ∀ x ∈ t.pairs, p x
theorem Tr.All.node {l r : Tr} {k v g : Int} {p : Int × Int → Prop} (h : (Tr.node l k v g r).All p) : l.All p ∧ p (k, v) ∧ r.All p :=
  ⟨fun x hx => h x (by simp [Tr.pairs, hx]), h _ (by simp [Tr.pairs]), fun x hx => h x (by simp [Tr.pairs, hx])⟩
def IsT (ty : TypeId) (w : World) : OA → Tr → Prop
  | p, .nil => p = none
  | p, .node l k v g r => ∃ b pl pr, p = some (blk b) ∧
      Blk w b #[.int .i64 k, .int .i64 v, .int .i64 (Tr.node l k v g r).sum, .int .u64 g, .int .i64 ((Tr.node l k v g r).size : Nat), .pointer pl, .pointer pr] ty ∧ IsT ty w pl l ∧ IsT ty w pr r
theorem IsT.ext {ty : TypeId} {w w' : World} {p : OA} {t : Tr} (h : IsT ty w p t) (e : Ext w w') : IsT ty w' p t := by
  induction t generalizing p with
  | nil => exact h
  | node l k v g r ihl ihr =>
    obtain ⟨b, pl, pr, hp, hb, hl, hr⟩ := h
    exact ⟨b, pl, pr, hp, hb.ext e, ihl hl, ihr hr⟩
theorem IsT.none {ty : TypeId} {w : World} {t : Tr} (h : IsT ty w none t) : t = .nil := by
  cases t with
  | nil => rfl
  | node l k v g r => obtain ⟨b, pl, pr, hp, _⟩ := h; cases hp
theorem IsT.isNone {ty : TypeId} {w : World} {p : OA} {t : Tr} (h : IsT ty w p t) : p.isNone = !t.nn := by
  cases t with
  | nil => rw [show p = Option.none from h]; rfl
  | node l k v g r => obtain ⟨b, pl, pr, rfl, _⟩ := h; rfl
def Tr.next (o key : Int) (t : Tr) : Tr := if cmpI o key t.key < 0 then t.left else t.right
theorem Tr.All.left {t : Tr} {p : Int × Int → Prop} (h : t.All p) : t.left.All p := by
  cases t with
  | nil => exact h
  | node l k v g r => exact h.node.1
theorem Tr.All.right {t : Tr} {p : Int × Int → Prop} (h : t.All p) : t.right.All p := by
  cases t with
  | nil => exact h
  | node l k v g r => exact h.node.2.2
theorem Tr.All.nx {t : Tr} {p : Int × Int → Prop} (h : t.All p) (o key : Int) : (t.next o key).All p := by
  unfold Tr.next; split
  · exact h.left
  · exact h.right
def sumV (l : List Bd) : Int := l.foldl (fun s b => IntKind.wrap .i64 (s + b.val)) 0
def BT.of : BT → BT
  | .nil => .nil
  | .node x l r => .node { x with size := ((BT.node x l r).size : Nat), sum := sumV (BT.node x l r).beads } l.of r.of
end Go.Sh

namespace Go.Sh
open Go Go.RowKit Go.ChangeShapes Go.WideShapes Go.Deep

theorem cs_flat {α : Type} {enc : α → List Value} {s : Nat} (hs : ∀ x, (enc x).length = s) {w : World} {a : Addr} {l : List α}
    (h : ∀ i (hi : i < l.length), ∀ j, j < s → w.cell? (a.add (i * s + j)) = (enc l[i])[j]?) : Cs w (some a) (l.flatMap enc) := by
  induction l generalizing a with
  | nil => intro i v hv; simp at hv
  | cons x xs ih =>
    intro i v hv
    refine ⟨a, rfl, ?_⟩
    rw [List.flatMap_cons] at hv
    rcases Nat.lt_or_ge i s with hi | hi
    · rw [List.getElem?_append_left (by rw [hs]; exact hi)] at hv
      have := h 0 (by simp) i hi
      simp only [Nat.zero_mul, Nat.zero_add, List.getElem_cons_zero] at this
      rw [this]; exact hv
    · rw [List.getElem?_append_right (by rw [hs]; exact hi), hs] at hv
      have := ih (a := a.add s) (fun i hi j hj => by
        have := h (i + 1) (by simpa using hi) j hj
        simp only [List.getElem_cons_succ] at this
        rw [Sh.add_add, show s + (i * s + j) = (i + 1) * s + j by rw [Nat.add_mul]; omega]
        exact this) (i - s) v hv
      obtain ⟨b, hb, hc⟩ := this
      cases hb
      rw [Sh.add_add, show s + (i - s) = i by omega] at hc
      exact hc
theorem list_of {α : Type} {p : Nat → α → Prop} (n : Nat) (h : ∀ i, i < n → ∃ x, p i x) : ∃ l : List α, l.length = n ∧ ∀ i (hi : i < l.length), p i l[i] := by
  induction n with
  | zero => exact ⟨[], rfl, fun i hi => by simp at hi⟩
  | succ n ih =>
    obtain ⟨l, hl, hp⟩ := ih fun i hi => h i (by omega)
    obtain ⟨x, hx⟩ := h n (by omega)
    refine ⟨l ++ [x], by simp [hl], fun i hi => ?_⟩
    rcases Nat.lt_or_ge i l.length with h1 | h1
    · rw [List.getElem_append_left h1]; exact hp i h1
    · have : i = l.length := by simp at hi; omega
      subst this
      simp [hl]; exact hx
variable {H : Type} {enc : TypeId × Value → H} {P : Program} {w : World} {base : Nat} {spare : Nat → Bool} {held : Bool}
theorem arg_slice {α : Type} {ec : α → List Value} {Pr : α → Prop} {s : Nat} (hs : ∀ x, (ec x).length = s) {t e : TypeId} (ht : P.underlying t = some (.slice e)) (hc : P.cellsOf e = s)
    (hdec : ∀ n cs y, DataW.trod enc P w base spare held n e cs = some y → ∃ x : α, cs = ec x ∧ Pr x) {q : OA} {len cap : Nat} {d : DataW H} {p : List MemPlace} (h : DataW.Trod enc P w base spare held t (.slice q len cap) d p) :
    ∃ l : List α, l.length = len ∧ Cs w q (l.flatMap ec) ∧ (∀ x ∈ l, Pr x) ∧ len ≤ cap ∧ cap ≤ maxLen ∧ (q = none → len = 0 ∧ cap = 0) := by
  obtain ⟨fuel, hf⟩ := h
  rcases open_slice ht hf with ⟨hcs, _⟩ | ⟨a, l', c', m, n, D, Pl, hcs, hb, hl, hm, hmm, hx, hi⟩
  · simp [Value.cells] at hcs
    obtain ⟨rfl, rfl, rfl⟩ := hcs
    exact ⟨[], rfl, Sh.cs_nil _ _, by simp, Nat.le_refl _, Nat.zero_le _, fun _ => ⟨rfl, rfl⟩⟩
  · simp [Value.cells] at hcs
    obtain ⟨rfl, rfl, rfl⟩ := hcs
    have hlm : len ≤ m := by rw [hmm]; split <;> omega
    obtain ⟨l, hll, hp⟩ := list_of (p := fun i (x : α) => (∀ j, j < s → w.cell? (a.add (i * s + j)) = (ec x)[j]?) ∧ Pr x) len (fun i hil => by
      obtain ⟨cs', hcc, htr⟩ := hi i (by omega)
      rw [hc] at hcc
      obtain ⟨_, hcl, hat⟩ := World.cells?_some hcc
      obtain ⟨x, rfl, hpx⟩ := hdec _ _ _ htr
      refine ⟨x, fun j hj => ?_, hpx⟩
      rw [← Sh.add_add]; exact hat j hj)
    refine ⟨l, hll, cs_flat hs fun i hi j hj => (hp i hi).1 j hj, fun x hx => ?_, hl, hm, by simp⟩
    obtain ⟨i, hi, rfl⟩ := List.getElem_of_mem hx
    exact (hp i hi).2
theorem in64_of {x : Int} (h : (Lit.int .i64 x).wf = true) : -9223372036854775808 ≤ x ∧ x < 9223372036854775808 := by
  simp [Lit.wf, IntKind.min, IntKind.max, IntKind.signed, IntKind.bits] at h
  omega
theorem u8_of {x : Int} (h : (Lit.int .u8 x).wf = true) : 0 ≤ x ∧ x < 256 := by
  simp [Lit.wf, IntKind.min, IntKind.max, IntKind.signed, IntKind.bits] at h
  omega
theorem dec_int2 {e i : TypeId} {f0 f1 : Field} (he : P.underlying e = some (.struct #[f0, f1])) (h0 : f0.offset = 0) (h1 : f1.offset = 1) (hi : P.underlying i = some (.int .i64)) (ht0 : f0.type = i) (ht1 : f1.type = i) (hce : P.cellsOf e = 2) (hci : P.cellsOf i = 1)
    (n : Nat) (cs : List Value) (y : DataW H × List MemPlace) (h : DataW.trod enc P w base spare held n e cs = some y) :
    ∃ x : Int × Int, cs = [.int .i64 x.1, .int .i64 x.2] ∧ ((-9223372036854775808 ≤ x.1 ∧ x.1 < 9223372036854775808) ∧ (-9223372036854775808 ≤ x.2 ∧ x.2 < 9223372036854775808)) := by
  obtain ⟨y0, y1, n', hx, hl, hf0, hf1⟩ := trod_struct2 he h
  rw [hce] at hl
  match cs, hl with
  | [c0, c1], _ =>
    rw [h0, ht0, hci] at hf0
    rw [h1, ht1, hci] at hf1
    obtain ⟨m0, hc0, _, hw0⟩ := DataW.trod_int hi hf0
    obtain ⟨m1, hc1, _, hw1⟩ := DataW.trod_int hi hf1
    simp at hc0 hc1
    subst hc0 hc1
    exact ⟨(m0, m1), rfl, in64_of hw0, in64_of hw1⟩
end Go.Sh

namespace Go.Proofs.YtmkpkmdnapccgaaGreatDoor
open Go Go.Sh Go.RowKit Go.ChangeShapes Go.WideShapes

variable {H : Type} {enc : TypeId × Value → H} {w : World} {base : Nat} {spare : Nat → Bool} {held : Bool}
def Is_pairs (w : World) (q : OA) (len cap : Nat) (l : List Pr) : Prop := l.length = len ∧ Cs w q (prs l) ∧ InP l ∧ len ≤ cap ∧ cap ≤ maxLen ∧ (q = none → len = 0 ∧ cap = 0)
theorem pairs_arg {q : OA} {len cap : Nat} {d : DataW H} {p : List MemPlace} (h : DataW.Trod enc Tryz.prog w base spare held 34 (.slice q len cap) d p) : ∃ l : List Pr, Is_pairs w q len cap l :=
  arg_slice (ec := fun x : Pr => [.int .i64 x.1, .int .i64 x.2]) (Pr := fun x => In x.1 ∧ In x.2) (s := 2) (fun _ => rfl) Tryz.underlying34 (by kernel_rfl)
    (dec_int2 Tryz.underlying49 rfl rfl Tryz.underlying2 rfl rfl (by kernel_rfl) (by kernel_rfl)) h
def Is_ints (w : World) (q : OA) (len cap : Nat) (l : List Int) : Prop := l.length = len ∧ Cs w q (ints l) ∧ (∀ x ∈ l, In x) ∧ len ≤ cap ∧ cap ≤ maxLen ∧ (q = none → len = 0 ∧ cap = 0)
theorem ints_of {t e : TypeId} (ht : Tryz.prog.underlying t = some (.slice e)) (he : Tryz.prog.underlying e = some (.int .i64)) (hc : Tryz.prog.cellsOf e = 1) {q : OA} {len cap : Nat} {d : DataW H} {p : List MemPlace}
    (h : DataW.Trod enc Tryz.prog w base spare held t (.slice q len cap) d p) : ∃ l, Is_ints w q len cap l := by
  obtain ⟨l, h1, h2, h3⟩ := arg_slice (ec := fun x : Int => [.int .i64 x]) (Pr := fun x => In x) (s := 1) (fun _ => rfl) ht hc (fun n cs y hy => by
    obtain ⟨m, hm, _, hw⟩ := DataW.trod_int he hy
    exact ⟨m, hm, in64_of hw⟩) h
  refine ⟨l, h1, ?_, h3⟩
  unfold ints
  rw [List.map_eq_flatMap]
  exact h2
theorem ints_arg {q : OA} {len cap : Nat} {d : DataW H} {p : List MemPlace} (h : DataW.Trod enc Tryz.prog w base spare held 35 (.slice q len cap) d p) : ∃ l, Is_ints w q len cap l :=
  ints_of Tryz.underlying35 Tryz.underlying2 (by kernel_rfl) h
end Go.Proofs.YtmkpkmdnapccgaaGreatDoor

namespace Go.Proofs.YtmkpkmdnapccgaaGreatDoor
open Go Go.Sh Go.RowKit Go.ChangeShapes Go.WideShapes Go.Deep

variable {H : Type} {enc : TypeId × Value → H} {P : Program} {w : World} {base : Nat} {spare : Nat → Bool} {held : Bool}
theorem weights_all {e : TypeId} {m : Nat} : ∀ {l : List (DataW H)} {d : DataW H}, d ∈ l → m ∈ d.weights P e → m ∈ DataW.weightsAll P e l
  | [], _, h, _ => by cases h
  | x :: l, d, h, hm => by
    simp only [DataW.weightsAll, List.mem_append]
    rcases List.mem_cons.1 h with rfl | h
    · exact .inl hm
    · exact .inr (weights_all h hm)
theorem arg_sliceZ {α : Type} {ec : α → List Value} {Pr : α → Prop} {s : Nat} (hs : ∀ x, (ec x).length = s) {t e : TypeId} (ht : P.underlying t = some (.slice e)) (hc : P.cellsOf e = s)
    (hdec : ∀ n cs y, DataW.trod enc P w base spare held n e cs = some y → (∀ m ∈ y.1.weights P e, m ≤ reachBytes) → ∃ x : α, cs = ec x ∧ Pr x) {q : OA} {len cap : Nat} {d : DataW H} {p : List MemPlace} (h : DataW.Trod enc P w base spare held t (.slice q len cap) d p)
    (hz : ∀ m ∈ d.weights P t, m ≤ reachBytes) :
    ∃ l : List α, l.length = len ∧ Cs w q (l.flatMap ec) ∧ (∀ x ∈ l, Pr x) ∧ len ≤ cap ∧ cap ≤ maxLen ∧ (q = none → len = 0 ∧ cap = 0) := by
  obtain ⟨fuel, hf⟩ := h
  rcases open_slice ht hf with ⟨hcs, _⟩ | ⟨a, l', c', m, n, D, Pl, hcs, hb, hl, hm, hmm, hx, hi⟩
  · simp [Value.cells] at hcs
    obtain ⟨rfl, rfl, rfl⟩ := hcs
    exact ⟨[], rfl, Sh.cs_nil _ _, by simp, Nat.le_refl _, Nat.zero_le _, fun _ => ⟨rfl, rfl⟩⟩
  · simp [Value.cells] at hcs
    obtain ⟨rfl, rfl, rfl⟩ := hcs
    have hx := congrArg Prod.fst hx
    simp only at hx
    subst hx
    have hlm : len ≤ m := by rw [hmm]; split <;> omega
    obtain ⟨l, hll, hp⟩ := list_of (p := fun i (x : α) => (∀ j, j < s → w.cell? (a.add (i * s + j)) = (ec x)[j]?) ∧ Pr x) len (fun i hil => by
      obtain ⟨cs', hcc, htr⟩ := hi i (by omega)
      rw [hc] at hcc
      obtain ⟨_, hcl, hat⟩ := World.cells?_some hcc
      obtain ⟨x, rfl, hpx⟩ := hdec _ _ _ htr fun k hk => hz k (by
        simp only [DataW.weights, ht, List.mem_cons, List.mem_append]
        exact .inr (.inl (weights_all (List.mem_map.2 ⟨i, List.mem_range.2 hil, rfl⟩) hk)))
      refine ⟨x, fun j hj => ?_, hpx⟩
      rw [← Sh.add_add]; exact hat j hj)
    refine ⟨l, hll, cs_flat hs fun i hi j hj => (hp i hi).1 j hj, fun x hx => ?_, hl, hm, by simp⟩
    obtain ⟨i, hi, rfl⟩ := List.getElem_of_mem hx
    exact (hp i hi).2
end Go.Proofs.YtmkpkmdnapccgaaGreatDoor

