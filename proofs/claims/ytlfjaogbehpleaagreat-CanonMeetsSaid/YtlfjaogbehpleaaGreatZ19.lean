/-
  wb, wbjoin: what a join makes.
-/
/-
  scheme: what a scheme is, and what it does.
-/
/-
  scheme: face, Join, Whole, Item, Of.
-/
/-
  scheme: Join, Whole, Item, Of.
-/
import Derived.Test.YtlfjaogbehpleaaGreatZ15
import Derived.Test.YtlfjaogbehpleaaGreatZ18
import Derived.Test.YtlfjaogbehpleaaGreatZ17

namespace Go.Proofs.YtlfjaogbehpleaaGreat
open Go Go.Sh Go.RowKit

theorem c_wmake {pl pr : Option Addr} {l r : Tr} {k v : Int} {w : World} {R : Ending → World → Prop} (hl : IsN w pl l) (hr : IsN w pr r) (hs : l.size + 1 + r.size ≤ BIG)
    (h : ∀ q w', Ext w w' → IsN w' q (mkW l k v r) → R (.returned (.pointer q)) w') : Calls Tryz.prog 262 #[.pointer pl, .int .i64 k, .int .i64 v, .pointer pr] w R := by
  refine sh262_ok _ _ _ _ ?_
  unfold sh262
  simp only [BIG] at hs
  exact do_call Tryz.call261 (c_new hl hr (by omega) fun b w1 e1 h1 _ => retS_ret ⟨_, rfl, h _ _ e1 h1⟩)
theorem c_weight {p : Option Addr} {t : Tr} {w : World} {R : Ending → World → Prop} (ht : IsN w p t) (hs : t.size ≤ BIG) (h : ∀ w', Ext w w' → R (.returned (.int .i64 (wtW t : Nat))) w') : Calls Tryz.prog 263 #[.pointer p] w R := by
  refine sh263_ok _ ?_
  unfold sh263
  refine do_call Tryz.call32 (c_tsize ht fun w1 e1 => retS_ret ⟨_, rfl, ?_⟩)
  simp only [BIG] at hs
  rw [wrap_of (by omega) (by omega)]
  exact h _ e1
/-- all of two numbers from one to another one -/
theorem c_within {a b lo hi : Int} {p : Option Addr} {c : Nat} {w : World} {R : Ending → World → Prop} (hl : Cs w p (ints [a, b])) (h : R (.returned (.bool (decide (lo ≤ a) && decide (a ≤ hi) && decide (lo ≤ b) && decide (b ≤ hi)))) w) :
    Calls Tryz.prog 326 #[.int .i64 lo, .int .i64 hi, .slice p 2 c] w R := by
  refine sh326_ok _ _ _ _ _ ?_
  unfold sh326
  refine ⟨fun vs w' => w' = w ∧ ((vs = [.int .i64 0]) ∨ (vs = [.int .i64 1] ∧ lo ≤ a ∧ a ≤ hi) ∨ (vs = [.int .i64 2] ∧ lo ≤ a ∧ a ≤ hi ∧ lo ≤ b ∧ b ≤ hi)), fun vs _ => 2 - (intOf (vs.getD 0 undef)).toNat, ⟨rfl, .inl rfl⟩, ?_⟩
  rintro i _ w2 ⟨rfl, hv⟩
  rcases hv with hv | ⟨hv, h1, h2⟩ | ⟨hv, h1, h2, h3, h4⟩ <;> (simp only [List.cons.injEq, Value.int.injEq, true_and, and_true] at hv; subst hv)
  · refine ifB_t (by decide) (ix_int hl rfl (by decide) (by decide) fun ad _ hr => ⟨a, hr, ?_⟩)
    intro K15
    refine ifB_intro (fun hc => ?_) fun hc => ifB_intro (fun hd => ?_) fun hd => ⟨⟨rfl, .inr (.inl ⟨rfl, by have := of_decide_eq_false hc; omega, by have := of_decide_eq_false hd; omega⟩)⟩, by show 2 - (1 : Nat) < 2 - 0; omega⟩
    · have hc := of_decide_eq_true hc
      rw [decide_eq_false (p := lo ≤ a) (by omega)] at h; exact h
    · have hd := of_decide_eq_true hd
      rw [decide_eq_false (p := a ≤ hi) (by omega)] at h; simpa using h
  · refine ifB_t (by decide) (ix_int hl rfl (by decide) (by decide) fun ad _ hr => ⟨b, hr, ?_⟩)
    intro K15
    refine ifB_intro (fun hc => ?_) fun hc => ifB_intro (fun hd => ?_) fun hd => ⟨⟨rfl, .inr (.inr ⟨rfl, h1, h2, by have := of_decide_eq_false hc; omega, by have := of_decide_eq_false hd; omega⟩)⟩, by show 2 - (2 : Nat) < 2 - 1; omega⟩
    · have hc := of_decide_eq_true hc
      rw [decide_eq_false (p := lo ≤ b) (by omega)] at h; simpa using h
    · have hd := of_decide_eq_true hd
      rw [decide_eq_false (p := b ≤ hi) (by omega)] at h; simpa using h
  · refine ifB_f (by decide) ?_
    rw [decide_eq_true h1, decide_eq_true h2, decide_eq_true h3, decide_eq_true h4] at h
    exact h
theorem c_like {a b : Nat} {w : World} {R : Ending → World → Prop} (h1 : 1 ≤ a ∧ a ≤ 1099511627776) (h2 : 1 ≤ b ∧ b ≤ 1099511627776) (h : ∀ w', Ext w w' → R (.returned (.bool (likeW a b))) w') : Calls Tryz.prog 265 #[.int .i64 (a : Nat), .int .i64 (b : Nat)] w R := by
  refine sh265_ok _ _ ?_
  unfold sh265
  intro K5
  refine ⟨?_⟩
  have e1 := ext_alloc w (.cells #[.int .i64 (a : Nat), .int .i64 (b : Nat)] 3)
  have hc : Cs (w.alloc (.cells #[.int .i64 (a : Nat), .int .i64 (b : Nat)] 3)) (some (blk w.heap.size)) (ints [(a : Int), (b : Int)]) := cs_alloc w #[.int .i64 (a : Nat), .int .i64 (b : Nat)] 3
  refine do_call Tryz.call326 (c_within hc (retS_ret ⟨_, rfl, ?_⟩))
  refine ifB_t (by simp; omega) (do_mink (retS_ret ⟨_, rfl, ?_⟩))
  have e : decide (IntKind.wrap .i64 (29 * IntKind.wrap .i64 ((a : Int) + b)) ≤ IntKind.wrap .i64 (100 * min (a : Int) b)) = likeW a b := by
    rw [wrap_of (x := (a : Int) + b) (by omega) (by omega), wrap_of (x := 29 * ((a : Int) + b)) (by omega) (by omega), wrap_of (x := 100 * min (a : Int) b) (by omega) (by omega)]
    unfold likeW
    exact decide_eq_decide.2 (by omega)
  show R (.returned (.bool _)) _
  rw [e]
  exact h _ e1
/-! ### sides -/
def sW (s : Bool) : Int := cond s 1 0
theorem c_other (s : Bool) {w : World} {R : Ending → World → Prop} (h : R (.returned (.int .i64 (sW (!s)))) w) : Calls Tryz.prog 322 #[.int .i64 (sW s)] w R := by
  refine sh322_ok _ ?_
  cases s <;> exact h
theorem outS_not (s : Bool) (t : Tr) : outS (!s) t = inS s t := by cases s <;> rfl
theorem ix_two (s : Bool) (p0 p1 : Option Addr) : ∀ w, (Instr.index 382 (.agg #[.pointer p0, .pointer p1]) (.int .i64 (sW s))).run Tryz.prog w = .ok (.pointer (cond s p1 p0)) w := fun w => by
  cases s
  · kernel_rfl
  · kernel_rfl
theorem c_wat (s : Bool) {p : Option Addr} {t : Tr} {w : World} {R : Ending → World → Prop} (ht : IsN w p t) (h : ∀ q w', Ext w w' → IsN w' q (outS s t) → R (.returned (.pointer q)) w') : Calls Tryz.prog 323 #[.int .i64 (sW s), .pointer p] w R := by
  refine sh323_ok _ _ ?_
  unfold sh323
  refine do_call Tryz.call353 (sh353_ok _ ?_)
  unfold sh353
  refine ⟨?_⟩
  have e1 := ext_alloc w (.cells #[.pointer none, .pointer none] 382)
  have hb := blk_alloc w #[.pointer none, .pointer none] 382
  refine do_call Tryz.call128 (c_left0 ht e1 fun ql hl => retS_ret ⟨_, rfl, ?_⟩)
  refine do_call Tryz.call130 (c_right0 ht e1 fun qr hr => retS_ret ⟨_, rfl, ?_⟩)
  refine do_st2 hb fun w2 h2 g2 => ⟨_, h2.cell (i := 0) (add_blk _ _) rfl, _, h2.cell (i := 1) (add_blk _ _) rfl, retS_ret ⟨_, _, rfl, ⟨_, ix_two s _ _, _, rfl, ?_⟩⟩⟩
  have E2 : Ext w w2 := e1.st g2 (Nat.le_refl _)
  cases s
  · exact h _ _ E2 (hl.ext E2)
  · exact h _ _ E2 (hr.ext E2)
theorem mkWS_size (s : Bool) (i o : Tr) (k v : Int) : (mkWS s i k v o).size = i.size + 1 + o.size := by cases s <;> simp [mkWS, mkW, Tr.size] <;> omega
theorem c_mkW (s : Bool) {pi pp po : Option Addr} {i o pr : Tr} {w : World} {R : Ending → World → Prop} (hi : IsN w pi i) (hp : IsN w pp pr) (ho : IsN w po o) (hs : i.size + 1 + o.size ≤ BIG)
    (h : ∀ q w', Ext w w' → IsN w' q (mkWS s i pr.key pr.val o) → R (.returned (.pointer q)) w') : Calls Tryz.prog 321 #[.int .i64 (sW s), .pointer pi, .pointer pp, .pointer po] w R := by
  refine sh321_ok _ _ _ _ ?_
  unfold sh321
  refine ⟨do_st2 (blk_alloc w _ _) fun w1 h1 g1 => ?_⟩
  have e1 : Ext w w1 := (ext_alloc w _).st g1 (Nat.le_refl _)
  have d := ext_drew w1
  have E := e1.trans d
  have c0 : ∀ w', Ext w1 w' → w'.cell? ((blk w.heap.size).add (0 * 1)) = some (.pointer pi) := fun w' e => (h1.ext e).cell (i := 0) (by rw [Nat.zero_mul, add_blk]) rfl
  have c1 : ∀ w', Ext w1 w' → w'.cell? ((blk w.heap.size).add (1 * 1)) = some (.pointer po) := fun w' e => (h1.ext e).cell (i := 1) (by rw [Nat.one_mul, add_blk]) rfl
  cases s
  · refine ⟨⟨fun w' => Ext w1 w', d, ⟨_, rfl, by decide, by decide, _, c0, ?_⟩⟩⟩
    refine do_call Tryz.call322 (c_other false (retS_ret ⟨_, rfl, d, ⟨_, rfl, by decide, by decide, _, c1, ?_⟩⟩))
    refine do_call Tryz.call131 (c_key (hp.ext E) fun w3 e3 => retS_ret ⟨_, rfl, d.trans e3, ?_⟩)
    refine do_call Tryz.call132 (c_val (hp.ext (E.trans e3)) fun w4 e4 => retS_ret ⟨_, rfl, (d.trans e3).trans e4, ?_⟩)
    have E4 := (E.trans e3).trans e4
    exact do_call Tryz.call262 (c_wmake (ho.ext E4) (hi.ext E4) (by omega) fun q w5 e5 h5 => retS_ret ⟨_, rfl, h _ _ (E4.trans e5) h5⟩)
  · refine ⟨⟨fun w' => Ext w1 w', d, ⟨_, rfl, by decide, by decide, _, c1, ?_⟩⟩⟩
    refine do_call Tryz.call322 (c_other true (retS_ret ⟨_, rfl, d, ⟨_, rfl, by decide, by decide, _, c0, ?_⟩⟩))
    refine do_call Tryz.call131 (c_key (hp.ext E) fun w3 e3 => retS_ret ⟨_, rfl, d.trans e3, ?_⟩)
    refine do_call Tryz.call132 (c_val (hp.ext (E.trans e3)) fun w4 e4 => retS_ret ⟨_, rfl, (d.trans e3).trans e4, ?_⟩)
    have E4 := (E.trans e3).trans e4
    exact do_call Tryz.call262 (c_wmake (hi.ext E4) (ho.ext E4) hs fun q w5 e5 h5 => retS_ret ⟨_, rfl, h _ _ (E4.trans e5) h5⟩)
theorem c_once (s : Bool) {pi pt px : Option Addr} {i t x : Tr} {w : World} {R : Ending → World → Prop} (hi : IsN w pi i) (ht : IsN w pt t) (hx : IsN w px x) (hs : i.size + 1 + x.size + 1 ≤ BIG)
    (h : ∀ q w', Ext w w' → IsN w' q (onceW s i t.key t.val x) → R (.returned (.pointer q)) w') : Calls Tryz.prog 324 #[.int .i64 (sW s), .pointer pi, .pointer pt, .pointer px] w R := by
  refine sh324_ok _ _ _ _ ?_
  unfold sh324
  have hz := size_two s x
  refine do_call Tryz.call322 (c_other s (retS_ret ⟨_, rfl, ?_⟩))
  refine do_call Tryz.call323 (c_wat (!s) hx fun q1 w1 e1 h1 => retS_ret ⟨_, rfl, ?_⟩)
  rw [outS_not] at h1
  refine do_call Tryz.call321 (c_mkW s (hi.ext e1) (ht.ext e1) h1 (by omega) fun q2 w2 e2 h2 => retS_ret ⟨_, rfl, ?_⟩)
  have E2 := e1.trans e2
  refine do_call Tryz.call323 (c_wat s (hx.ext E2) fun q3 w3 e3 h3 => retS_ret ⟨_, rfl, ?_⟩)
  have E3 := E2.trans e3
  exact do_call Tryz.call321 (c_mkW s (h2.ext e3) (hx.ext E3) h3 (by rw [mkWS_size]; omega) fun q4 w4 e4 h4 => retS_ret ⟨_, rfl, h _ _ (E3.trans e4) h4⟩)
theorem c_twice (s : Bool) {pi pt px : Option Addr} {i t x : Tr} {w : World} {R : Ending → World → Prop} (hi : IsN w pi i) (ht : IsN w pt t) (hx : IsN w px x) (hs : i.size + 1 + x.size + 2 ≤ BIG)
    (h : ∀ q w', Ext w w' → IsN w' q (twiceW s i t.key t.val x) → R (.returned (.pointer q)) w') : Calls Tryz.prog 325 #[.int .i64 (sW s), .pointer pi, .pointer pt, .pointer px] w R := by
  refine sh325_ok _ _ _ _ ?_
  unfold sh325
  have hz := size_two s x
  have hz2 := size_two s (inS s x)
  refine do_call Tryz.call322 (c_other s (retS_ret ⟨_, rfl, ?_⟩))
  refine do_call Tryz.call323 (c_wat (!s) hx fun qm w1 e1 hm => retS_ret ⟨_, rfl, ?_⟩)
  rw [outS_not] at hm
  refine do_call Tryz.call322 (c_other s (retS_ret ⟨_, rfl, ?_⟩))
  refine do_call Tryz.call323 (c_wat (!s) hm fun q2 w2 e2 h2 => retS_ret ⟨_, rfl, ?_⟩)
  rw [outS_not] at h2
  have E2 := e1.trans e2
  refine do_call Tryz.call321 (c_mkW s (hi.ext E2) (ht.ext E2) h2 (by omega) fun q3 w3 e3 h3 => retS_ret ⟨_, rfl, ?_⟩)
  have E3 := E2.trans e3
  refine do_call Tryz.call323 (c_wat s (hm.ext (e2.trans e3)) fun q4 w4 e4 h4 => retS_ret ⟨_, rfl, ?_⟩)
  have E4 := E3.trans e4
  refine do_call Tryz.call323 (c_wat s (hx.ext E4) fun q5 w5 e5 h5 => retS_ret ⟨_, rfl, ?_⟩)
  have E5 := E4.trans e5
  refine do_call Tryz.call321 (c_mkW s (h4.ext e5) (hx.ext E5) h5 (by omega) fun q6 w6 e6 h6 => retS_ret ⟨_, rfl, ?_⟩)
  have E6 := E5.trans e6
  exact do_call Tryz.call321 (c_mkW s (h3.ext ((e4.trans e5).trans e6)) (hm.ext ((((e2.trans e3).trans e4).trans e5).trans e6)) h6 (by rw [mkWS_size, mkWS_size]; omega) fun q7 w7 e7 h7 => retS_ret ⟨_, rfl, h _ _ (E6.trans e7) h7⟩)
def turnEs (s : Bool) : Array MapEntry := #[{ key := .bool true, val := .func (.func 324) #[.int .i64 (sW s)] #[], born := 0 }, { key := .bool false, val := .func (.func 325) #[.int .i64 (sW s)] #[], born := 1 }]
set_option maxRecDepth 20000 in
theorem c_hangW (s : Bool) {k v : Int} {low pair : Tr} (hlow : Wb low) (hpk : pair.key = k) (hpv : pair.val = v) : ∀ (n : Nat) (t : Tr) {p pp pl : Option Addr} {w : World} {R : Ending → World → Prop} (_hn : t.size ≤ n) (_ht : IsN w p t) (_hp : IsN w pp pair) (_hl : IsN w pl low)
    (_ha : Wb t) (_hg : 29 * wtW low ≤ 71 * wtW t) (_hs : t.size + low.size + 5 ≤ BIG) (_h : ∀ q w', Ext w w' → IsN w' q (hangW s k v low t) → R (.returned (.pointer q)) w'),
    Calls Tryz.prog 264 #[.int .i64 (sW s), .pointer p, .pointer pp, .pointer pl] w R := fun n => by
  induction n with
  | zero =>
    intro t p pp pl w R hn ht hp hl ha hg hs h
    have : t = .nil := by
      cases t with
      | nil => rfl
      | node l a b c r => simp [Tr.size] at hn
    subst this
    obtain rfl : p = none := ht
    refine sh264_ok _ _ _ _ ?_
    unfold sh264
    intro K7
    refine ifB_t rfl (do_call Tryz.call321 (c_mkW s (i := .nil) rfl hp hl (by simp only [Tr.size]; omega) fun q w1 e1 h1 => retS_ret ⟨_, rfl, h _ _ e1 ?_⟩))
    rw [hpk, hpv] at h1
    exact h1
  | succ n ih =>
    intro t p pp pl w R hn ht hp hl ha hg hs h
    refine sh264_ok _ _ _ _ ?_
    unfold sh264
    intro K7
    cases hnn : t.nn with
    | false =>
      have := Tr.size0 hnn
      subst this
      obtain rfl : p = none := ht
      refine ifB_t rfl (do_call Tryz.call321 (c_mkW s (i := .nil) rfl hp hl (by simp only [Tr.size]; omega) fun q w1 e1 h1 => retS_ret ⟨_, rfl, h _ _ e1 ?_⟩))
      rw [hpk, hpv] at h1
      exact h1
    | true =>
    obtain ⟨hi, ho, hwt, hlk⟩ := ha.sides s hnn
    have hlk' := likeW_iff.1 hlk
    have hsz := size_nn2 s hnn
    rw [hangW_eq s k v low hnn] at h
    refine ifB_f (by rw [ht.isNone, hnn]; rfl) ?_
    simp only [BIG] at hs
    refine do_call Tryz.call263 (c_weight ht (by simp only [BIG]; omega) fun w1 e1 => retS_ret ⟨_, rfl, ?_⟩)
    refine do_call Tryz.call263 (c_weight (hl.ext e1) (by simp only [BIG]; omega) fun w2 e2 => retS_ret ⟨_, rfl, ?_⟩)
    refine do_call Tryz.call265 (c_like (by unfold wtW; omega) (by unfold wtW; omega) fun w3 e3 => retS_ret ⟨_, rfl, ?_⟩)
    have E3 := (e1.trans e2).trans e3
    cases hb : likeW (wtW t) (wtW low) with
    | true =>
      rw [hb, if_pos rfl] at h
      refine ifB_t rfl (do_call Tryz.call321 (c_mkW s (ht.ext E3) (hp.ext E3) (hl.ext E3) (by simp only [BIG]; omega) fun q w4 e4 h4 => retS_ret ⟨_, rfl, h _ _ (E3.trans e4) ?_⟩))
      rw [hpk, hpv] at h4
      exact h4
    | false =>
      rw [hb, if_neg (by simp)] at h
      rw [likeW_not] at hb
      have hok := hangW_ok s k v low hlow n (outS s t) (by omega) ho (by omega)
      have hxs : wtW (hangW s k v low (outS s t)) = wtW (outS s t) + wtW low := hok.wt
      have hxz := size_two s (hangW s k v low (outS s t))
      refine ifB_f rfl ?_
      refine do_call Tryz.call322 (c_other s (retS_ret ⟨_, rfl, ?_⟩))
      refine do_call Tryz.call323 (c_wat (!s) (ht.ext E3) fun qi w4 e4 h4 => retS_ret ⟨_, rfl, ?_⟩)
      rw [outS_not] at h4
      have E4 := E3.trans e4
      refine do_call Tryz.call323 (c_wat s (ht.ext E4) fun qo w5 e5 h5 => retS_ret ⟨_, rfl, ?_⟩)
      have E5 := E4.trans e5
      refine do_call Tryz.call264 (ih (outS s t) (by omega) h5 (hp.ext E5) (hl.ext E5) ho (by omega) (by simp only [BIG]; omega) fun qx w6 e6 h6 => retS_ret ⟨_, rfl, ?_⟩)
      have E6 := E5.trans e6
      have h4 := h4.ext (e5.trans e6)
      generalize hangW s k v low (outS s t) = x at *
      have hxsz : x.size = (outS s t).size + low.size + 1 := by unfold wtW at hxs; omega
      refine do_call Tryz.call263 (c_weight h4 (by simp only [BIG]; omega) fun w7 e7 => retS_ret ⟨_, rfl, ?_⟩)
      refine do_call Tryz.call263 (c_weight (h6.ext e7) (by simp only [BIG]; omega) fun w8 e8 => retS_ret ⟨_, rfl, ?_⟩)
      refine do_call Tryz.call265 (c_like (by unfold wtW; omega) (by unfold wtW; omega) fun w9 e9 => retS_ret ⟨_, rfl, ?_⟩)
      have e69 := (e7.trans e8).trans e9
      have E9 := E6.trans e69
      have h4 := h4.ext e69
      have h6 := h6.ext e69
      unfold backW at h
      cases hc : likeW (wtW (inS s t)) (wtW x) with
      | true =>
        rw [hc, if_pos rfl] at h
        exact ifB_t rfl (do_call Tryz.call321 (c_mkW s h4 (ht.ext E9) h6 (by simp only [BIG]; omega) fun q w10 e10 h10 => retS_ret ⟨_, rfl, h _ _ (E9.trans e10) h10⟩))
      | false =>
        rw [hc, if_neg (by simp)] at h
        refine ifB_f rfl ?_
        refine do_call Tryz.call322 (c_other s (retS_ret ⟨_, rfl, ?_⟩))
        refine do_call Tryz.call323 (c_wat (!s) h6 fun qa w10 e10 ha' => retS_ret ⟨_, rfl, ?_⟩)
        rw [outS_not] at ha'
        refine do_call Tryz.call263 (c_weight ha' (by simp only [BIG]; omega) fun w11 e11 => retS_ret ⟨_, rfl, ?_⟩)
        have e911 := e10.trans e11
        refine do_call Tryz.call323 (c_wat s (h6.ext e911) fun qb w12 e12 hb' => retS_ret ⟨_, rfl, ?_⟩)
        refine do_call Tryz.call263 (c_weight hb' (by simp only [BIG]; omega) fun w13 e13 => retS_ret ⟨_, rfl, ⟨?_⟩⟩)
        have e913 := (e911.trans e12).trans e13
        refine do_mu_new Tryz.underlying366 Tryz.underlying4 (heap_alloc_new w13 _) (by trivial) (by rfl) fun w14 h14 g14 => ?_
        refine do_mu_new Tryz.underlying366 Tryz.underlying4 h14 (by trivial) (by rfl) fun w15 h15 g15 => ?_
        have e15 : Ext w13 w15 := ((ext_alloc w13 _).st g14 (Nat.le_refl _)).st g15 (Nat.le_refl _)
        have h15 : w15.heap[w13.heap.size]? = some (.map (turnEs s) 2) := h15
        have e915 := e913.trans e15
        intro K56
        refine do_call Tryz.call265 (c_like (by unfold wtW; omega) (by unfold wtW; omega) fun w16 e16 => retS_ret ⟨_, rfl, ?_⟩)
        have e916 := e915.trans e16
        have htwice : ∀ w', Ext w15 w' → (likeW (wtW (inS s t)) (wtW (inS s x)) && likeW (wtW (inS s t) + wtW (inS s x)) (wtW (outS s x))) = false →
            doLk Tryz.prog 366 (.map (some w13.heap.size)) (.bool false) false w' (fun v76 => (∃ (xf73 : Fn), ∃ (xx74 : Array Value), ∃ (xc75 : Array Value), v76 = (.func xf73 xx74 xc75 : Value) ∧ (
              doCall Tryz.prog (.func xf73 xx74 xc75) #[.pointer qi, .pointer p, .pointer qx] w' (retS (fun v78 w79 => ∃ (x77 : Option Addr), v78 = (.pointer x77 : Value) ∧ (K56 x77 w79)) (fun ch w => Kfn R ch [] w)))) ∨ (v76 = (.nilFunc : Value) ∧ (
              doCall Tryz.prog (.nilFunc) #[.pointer qi, .pointer p, .pointer qx] w' (retS (fun v81 w82 => ∃ (x80 : Option Addr), v81 = (.pointer x80 : Value) ∧ (K56 x80 w82)) (fun ch w => Kfn R ch [] w))))) := by
          intro w' e' hd
          rw [hd, if_neg (by simp)] at h
          have e9' := e915.trans e'
          refine do_lk1_hit Tryz.underlying366 Tryz.underlying4 (e'.heap h15) (by trivial) (i := 1) (v := .func (.func 325) #[.int .i64 (sW s)] #[]) (by rfl) (.inl ⟨_, _, _, rfl, ⟨?_⟩⟩)
          exact callV_func Tryz.call325 (c_twice s (h4.ext e9') (ht.ext (E9.trans e9')) (h6.ext e9') (by simp only [BIG]; omega) fun q w17 e17 h17 => retS_ret ⟨_, rfl, h _ _ ((E9.trans e9').trans e17) h17⟩)
        refine ifB_intro (fun hla => ?_) fun hla => htwice w16 e16 (by rw [hla]; rfl)
        have ew : IntKind.wrap .i64 (((wtW (inS s t) : Nat) : Int) + ((wtW (inS s x) : Nat) : Int)) = ((wtW (inS s t) + wtW (inS s x) : Nat) : Int) := by
          unfold wtW; rw [wrap_of (by omega) (by omega)]; omega
        rw [ew]
        refine do_call Tryz.call265 (c_like (by unfold wtW; omega) (by unfold wtW; omega) fun w17 e17 => retS_ret ⟨_, rfl, ?_⟩)
        have e917 := e916.trans e17
        cases hlb : likeW (wtW (inS s t) + wtW (inS s x)) (wtW (outS s x)) with
        | false => exact htwice w17 (e16.trans e17) (by rw [hla, hlb]; rfl)
        | true =>
          rw [hla, hlb, if_pos (by rfl)] at h
          refine do_lk1_hit Tryz.underlying366 Tryz.underlying4 ((e16.trans e17).heap h15) (by trivial) (i := 0) (v := .func (.func 324) #[.int .i64 (sW s)] #[]) (by rfl) (.inl ⟨_, _, _, rfl, ⟨?_⟩⟩)
          exact callV_func Tryz.call324 (c_once s (h4.ext e917) (ht.ext (E9.trans e917)) (h6.ext e917) (by simp only [BIG]; omega) fun q w18 e18 h18 => retS_ret ⟨_, rfl, h _ _ ((E9.trans e917).trans e18) h18⟩)
theorem c_wjoin {k v : Int} {l r : Tr} {pl pr : Option Addr} {w : World} {R : Ending → World → Prop} (hl : IsN w pl l) (hr : IsN w pr r) (al : Wb l) (ar : Wb r) (hs : l.size + r.size + 5 ≤ BIG)
    (h : ∀ q w', Ext w w' → IsN w' q (joinW l k v r) → R (.returned (.pointer q)) w') : Calls Tryz.prog 205 #[.pointer pl, .int .i64 k, .int .i64 v, .pointer pr] w R := by
  refine sh205_ok _ _ _ _ ?_
  unfold sh205
  refine do_call Tryz.call262 (c_wmake (l := .nil) (r := .nil) rfl rfl (by decide) fun qp w1 e1 hp => retS_ret ⟨_, rfl, ?_⟩)
  refine do_call Tryz.call263 (c_weight (hl.ext e1) (by omega) fun w2 e2 => retS_ret ⟨_, rfl, ?_⟩)
  refine do_call Tryz.call263 (c_weight (hr.ext (e1.trans e2)) (by omega) fun w3 e3 => retS_ret ⟨_, rfl, ?_⟩)
  have E3 := (e1.trans e2).trans e3
  have hp3 := hp.ext (e2.trans e3)
  unfold joinW at h
  refine ifB_intro (fun hc => ?_) fun hc => ?_
  · have hc : wtW l < wtW r := by have := of_decide_eq_true hc; omega
    rw [if_pos hc] at h
    exact do_call Tryz.call264 (c_hangW false al rfl rfl r.size r (Nat.le_refl _) (hr.ext E3) hp3 (hl.ext E3) ar (by omega) (by omega) fun q w5 e5 h5 => retS_ret ⟨_, rfl, h _ _ (E3.trans e5) h5⟩)
  · have hc : ¬ wtW l < wtW r := by have := of_decide_eq_false hc; omega
    rw [if_neg hc] at h
    exact do_call Tryz.call264 (c_hangW true ar rfl rfl l.size l (Nat.le_refl _) (hl.ext E3) hp3 (hr.ext E3) al (by omega) (by omega) fun q w5 e5 h5 => retS_ret ⟨_, rfl, h _ _ (E3.trans e5) h5⟩)
end Go.Proofs.YtlfjaogbehpleaaGreat

namespace Go.Proofs.YtlfjaogbehpleaaGreat
open Go Go.Sh Go.RowKit

def nameC (c : Int) : ByteArray := if c = 1 then ⟨#[97, 118, 108]⟩ else if c = 2 then ⟨#[114, 101, 100, 98, 108, 97, 99, 107]⟩ else if c = 3 then ⟨#[119, 101, 105, 103, 104, 116]⟩ else ⟨#[116, 114, 101, 97, 112]⟩
def pjF (c : Int) : Nat := if c = 1 then 193 else if c = 2 then 199 else 205
def kF (c : Int) : Nat := if c = 1 then 194 else if c = 2 then 200 else if c = 3 then 206 else 213
def pF (c : Int) : Nat := if c = 1 then 195 else if c = 2 then 201 else if c = 3 then 207 else 134
def rF (c : Int) : Nat := if c = 1 then 196 else if c = 2 then 202 else if c = 3 then 208 else 398
def mF (c : Int) : Nat := if c = 1 then 197 else if c = 2 then 203 else if c = 3 then 209 else 399
def wF (c : Int) : Nat := if c = 2 then 204 else 198
def plainA (c : Int) : Array Value := #[.string (nameC c), .func (.func (pjF c)) #[] #[], .func (.func (kF c)) #[] #[], .func (.func (pF c)) #[] #[], .func (.func (rF c)) #[] #[], .func (.func (mF c)) #[] #[], .func (.func (wF c)) #[] #[]]
def jF (c : Int) : Nat := if c = 4 then 397 else 395
def jX (c : Int) : Array Value := if c = 4 then #[] else #[.agg (plainA c)]
def rX (c : Int) : Array Value := if c = 4 then #[.agg #[]] else #[]
def tgC (c : Int) : Bool := decide (c = 4)
abbrev facesC (c : Int) : Array Value := #[.string (nameC c), .func (.func (jF c)) (jX c) #[], .func (.func (wF c)) #[] #[], .func (.func (kF c)) #[] #[], .func (.func (pF c)) #[] #[], .func (.func (rF c)) (rX c) #[], .func (.func (mF c)) #[] #[], .bool (tgC c)]
def mkV (c : Int) : Value := if c = 4 then .iface 242 (.agg #[]) else .iface 241 (.agg (plainA c))
theorem c_of82 {c : Int} {w : World} {R : Ending → World → Prop} (h : R (.returned (if isS c then mkV c else .nilIface)) w) : Calls Tryz.prog 126 #[.int .u8 c] w R := by
  refine sh126_ok _ ?_
  unfold sh126
  refine ifB_intro (fun h1 => ?_) fun h1 => ifB_intro (fun h2 => ?_) fun h2 => ifB_intro (fun h3 => ?_) fun h3 => ifB_intro (fun h4 => ?_) fun h4 => ?_
  · obtain rfl : c = 1 := by simpa using h1
    exact h
  · obtain rfl : c = 2 := by simpa using h2
    exact h
  · obtain rfl : c = 3 := by simpa using h3
    exact h
  · obtain rfl : c = 4 := by simpa using h4
    exact h
  · have : isS c = false := by
      simp at h1 h2 h3 h4
      cases hs : isS c with
      | false => rfl
      | true => have := isS_iff.1 hs; omega
    rw [this] at h
    exact h
abbrev schT : Nat := 198
abbrev schFresh (c m j : Int) : Array Value := #[.int .u8 c, .int .u32 0, .int .i32 m, .int .u32 0, .string (⟨#[]⟩ : ByteArray), .nilFunc, .nilFunc, .nilFunc, .nilFunc, .nilFunc, .nilFunc, .bool false, .int .u64 j]
abbrev schDone (c d m j : Int) : Array Value := #[.int .u8 c, .int .u32 d, .int .i32 m, .int .u32 0, .string (nameC c), .func (.func (jF c)) (jX c) #[], .func (.func (wF c)) #[] #[], .func (.func (kF c)) #[] #[], .func (.func (pF c)) #[] #[], .func (.func (rF c)) (rX c) #[], .func (.func (mF c)) #[] #[], .bool (tgC c), .int .u64 j]
/-- a scheme that lies in memory -/
def IsSch (c : Int) (b : Nat) (w : World) : Prop := isS c = true ∧ ((∃ j, Blk w b (schFresh c 0 j) schT) ∨ ∃ j, Blk w b (schDone c 1 0 j) schT)
theorem IsSch.lt {c : Int} {b : Nat} {w : World} (h : IsSch c b w) : b < w.heap.size := by
  rcases h.2 with ⟨j, h⟩ | ⟨j, h⟩ <;> exact h.lt
theorem IsSch.ext {c : Int} {b : Nat} {w w' : World} (h : IsSch c b w) (e : Ext w w') : IsSch c b w' := by
  rcases h with ⟨hs, ⟨j, h⟩ | ⟨j, h⟩⟩
  · exact ⟨hs, .inl ⟨j, h.ext e⟩⟩
  · exact ⟨hs, .inr ⟨j, h.ext e⟩⟩
/-- all blocks that were there are as they were, but for that of a scheme -/
abbrev Gs (b : Nat) (w w' : World) : Prop := w.grownBy w' (some b)
theorem Gs.trans {b : Nat} {x y z : World} (g : Gs b x y) (k : Gs b y z) : Gs b x z := grown_trans g k
theorem gs_refl (b : Nat) (w : World) : Gs b w w := grown_refl w _
theorem gs_of {b : Nat} {w w' : World} (e : Ext w w') : Gs b w w' := ⟨e.os, e.tape, e.output, e.size, fun k hk _ => e.block k hk⟩
theorem Gs.size {b : Nat} {w w' : World} (g : Gs b w w') : w.heap.size ≤ w'.heap.size := World.grownBy.size g
theorem blk_fun {w : World} {b : Nat} {c1 c2 : Array Value} {t1 t2 : TypeId} (h1 : Blk w b c1 t1) (h2 : Blk w b c2 t2) : t1 = t2 := by
  unfold Blk at h1 h2
  rw [h1] at h2
  cases h2; rfl
theorem IsSch.ne {c : Int} {b b' : Nat} {w : World} {cs : Array Value} {t : TypeId} (h : IsSch c b w) (hb : Blk w b' cs t) (ht : t ≠ schT) : b' ≠ b := by
  rintro rfl
  rcases h.2 with ⟨j, h⟩ | ⟨j, h⟩ <;> exact ht (blk_fun hb h)
theorem _root_.Go.Sh.IsT.gs {c : Int} {b : Nat} {w w' : World} {p : Option Addr} {t : Tr} (h : IsN w p t) (hs : IsSch c b w) (g : Gs b w w') : IsN w' p t := by
  induction t generalizing p with
  | nil => exact h
  | node l k v gg r ihl ihr =>
    obtain ⟨b', pl, pr, hp, hb, hl, hr⟩ := h
    exact ⟨b', pl, pr, hp, hb.grown g (ne_some (hs.ne hb (by decide))), ihl hl, ihr hr⟩
theorem m_faces_p (c : Int) : ∀ w, (invoke (.fn (.method "joinery/scheme.faces") #[]) #[.iface 241 (.agg (plainA c))]).run Tryz.prog w = .ok (.enter 394 #[.agg (plainA c)]) w := fun w => by kernel_rfl
theorem m_faces_t : ∀ w, (invoke (.fn (.method "joinery/scheme.faces") #[]) #[.iface 242 (.agg #[])]).run Tryz.prog w = .ok (.enter 396 #[.agg #[]]) w := fun w => by kernel_rfl
theorem do_st8 {w : World} {b : Nat} {v0 v1 v2 v3 v4 v5 v6 v7 x0 x1 x2 x3 x4 x5 x6 x7 : Value} {t : TypeId} (h : Blk w b #[v0, v1, v2, v3, v4, v5, v6, v7] t) {K : World → Prop} (k : ∀ w', Blk w' b #[x0, x1, x2, x3, x4, x5, x6, x7] t → w.grownBy w' (some b) → K w') :
    doSt ((blk b).add 0) x0 w fun w1 => doSt ((blk b).add 1) x1 w1 fun w2 => doSt ((blk b).add 2) x2 w2 fun w3 => doSt ((blk b).add 3) x3 w3 fun w4 => doSt ((blk b).add 4) x4 w4 fun w5 => doSt ((blk b).add 5) x5 w5 fun w6 => doSt ((blk b).add 6) x6 w6 fun w7 => doSt ((blk b).add 7) x7 w7 K := by
  refine do_st h (i := 0) (add_blk b 0) (by simp) fun w1 h1 g1 => ?_
  have k1 : Blk w1 b #[x0, v1, v2, v3, v4, v5, v6, v7] t := h1
  refine do_st k1 (i := 1) (add_blk b 1) (by simp) fun w2 h2 g2 => ?_
  have k2 : Blk w2 b #[x0, x1, v2, v3, v4, v5, v6, v7] t := h2
  refine do_st k2 (i := 2) (add_blk b 2) (by simp) fun w3 h3 g3 => ?_
  have k3 : Blk w3 b #[x0, x1, x2, v3, v4, v5, v6, v7] t := h3
  refine do_st k3 (i := 3) (add_blk b 3) (by simp) fun w4 h4 g4 => ?_
  have k4 : Blk w4 b #[x0, x1, x2, x3, v4, v5, v6, v7] t := h4
  refine do_st k4 (i := 4) (add_blk b 4) (by simp) fun w5 h5 g5 => ?_
  have k5 : Blk w5 b #[x0, x1, x2, x3, x4, v5, v6, v7] t := h5
  refine do_st k5 (i := 5) (add_blk b 5) (by simp) fun w6 h6 g6 => ?_
  have k6 : Blk w6 b #[x0, x1, x2, x3, x4, x5, v6, v7] t := h6
  refine do_st k6 (i := 6) (add_blk b 6) (by simp) fun w7 h7 g7 => ?_
  have k7 : Blk w7 b #[x0, x1, x2, x3, x4, x5, x6, v7] t := h7
  refine do_st k7 (i := 7) (add_blk b 7) (by simp) fun w8 h8 g8 => ?_
  exact k _ h8 (grown_trans (grown_trans (grown_trans (grown_trans (grown_trans (grown_trans (grown_trans g1 g2) g3) g4) g5) g6) g7) g8)
set_option maxRecDepth 20000 in
theorem do_faces {c : Int} (hc : isS c = true) {w : World} {R : Ending → World → Prop} (h : ∀ w', Ext w w' → R (.returned (.agg (facesC c))) w') : doGo Tryz.prog (.fn (.method "joinery/scheme.faces") #[]) #[mkV c] w R := by
  by_cases h4 : c = 4
  · subst h4
    refine do_meth m_faces_t (sh396_ok ?_)
    unfold sh396
    refine ⟨⟨?_⟩⟩
    have e0 := ext_alloc w (.cells #[] 242)
    refine do_st8 (blk_alloc _ _ _) fun w2 h2 g2 => ?_
    refine ⟨_, h2.cell (i := 0) (add_blk _ _) rfl, _, _, _, h2.cell (i := 1) (add_blk _ _) rfl, _, _, _, h2.cell (i := 2) (add_blk _ _) rfl, _, _, _, h2.cell (i := 3) (add_blk _ _) rfl, _, _, _, h2.cell (i := 4) (add_blk _ _) rfl, _, _, _, h2.cell (i := 5) (add_blk _ _) rfl, _, _, _, h2.cell (i := 6) (add_blk _ _) rfl, _, h2.cell (i := 7) (add_blk _ _) rfl, ?_⟩
    exact h _ (e0.trans ((ext_alloc _ _).st g2 (Nat.le_refl _)))
  · have e : mkV c = .iface 241 (.agg (plainA c)) := by unfold mkV; rw [if_neg h4]
    rw [e]
    refine do_meth (m_faces_p c) (sh394_ok _ _ _ _ _ _ _ _ _ _ _ _ _ _ _ _ _ _ _ ?_)
    unfold sh394
    refine ⟨⟨?_⟩⟩
    have e0 := ext_alloc w (.cells (plainA c) 241)
    have hb0 := blk_alloc w (plainA c) 241
    have e1 := ext_alloc (w.alloc (.cells (plainA c) 241)) (.cells #[.string (⟨#[]⟩ : ByteArray), .nilFunc, .nilFunc, .nilFunc, .nilFunc, .nilFunc, .nilFunc, .bool false] 193)
    have hb := hb0.ext e1
    refine ⟨_, hb.cell (i := 0) (add_blk _ _) rfl, _, hb.cell (i := 0) (add_blk _ _) rfl, _, _, _, hb.cell (i := 1) (add_blk _ _) rfl, _, _, _, hb.cell (i := 2) (add_blk _ _) rfl, _, _, _, hb.cell (i := 3) (add_blk _ _) rfl, _, _, _, hb.cell (i := 4) (add_blk _ _) rfl, _, _, _, hb.cell (i := 5) (add_blk _ _) rfl, _, _, _, hb.cell (i := 6) (add_blk _ _) rfl, _, _, _, hb.cell (i := 6) (by rw [Sh.add_add, add_blk]) rfl, _, _, _, hb.cell (i := 2) (by rw [Sh.add_add, add_blk]) rfl, _, _, _, hb.cell (i := 3) (by rw [Sh.add_add, add_blk]) rfl, _, _, _, hb.cell (i := 4) (by rw [Sh.add_add, add_blk]) rfl, _, _, _, hb.cell (i := 5) (by rw [Sh.add_add, add_blk]) rfl, ?_⟩
    refine do_st8 (blk_alloc _ _ _) fun w2 h2 g2 => ?_
    refine ⟨_, h2.cell (i := 0) (add_blk _ _) rfl, _, _, _, h2.cell (i := 1) (add_blk _ _) rfl, _, _, _, h2.cell (i := 2) (add_blk _ _) rfl, _, _, _, h2.cell (i := 3) (add_blk _ _) rfl, _, _, _, h2.cell (i := 4) (add_blk _ _) rfl, _, _, _, h2.cell (i := 5) (add_blk _ _) rfl, _, _, _, h2.cell (i := 6) (add_blk _ _) rfl, _, h2.cell (i := 7) (add_blk _ _) rfl, ?_⟩
    have hj : jF c = 395 := by unfold jF; rw [if_neg h4]
    have hx : jX c = #[.agg (plainA c)] := by unfold jX; rw [if_neg h4]
    have hrx : rX c = #[] := by unfold rX; rw [if_neg h4]
    have ht : tgC c = false := by unfold tgC; exact decide_eq_false h4
    have := h _ (e0.trans (e1.st g2 (Nat.le_refl _)))
    unfold facesC at this
    rw [hj, hx, hrx, ht] at this
    exact this
end Go.Proofs.YtlfjaogbehpleaaGreat

namespace Go.Proofs.YtlfjaogbehpleaaGreat
open Go Go.Sh Go.RowKit

theorem blk_set {w : World} {b : Nat} {cs : Array Value} {t : TypeId} (h : Blk w b cs t) (i : Nat) (v : Value) : Blk (w.setCell ⟨b, i, none⟩ v) b (cs.setIfInBounds i v) t := heap_setCell_same w b i cs t v h
theorem grown_set (w : World) (b i : Nat) (v : Value) : w.grownBy (w.setCell ⟨b, i, none⟩ v) (some b) := ⟨rfl, rfl, rfl, by simp, fun k _ hk => heap_setCell_other w ⟨b, i, none⟩ k v (fun e => hk (by simp [e]))⟩
/-- the faces laid into a scheme -/
theorem do_lay8 {w : World} {b : Nat} {c m j : Int} (h : Blk w b (schFresh c m j) schT) {K : World → Prop} (k : ∀ w', Blk w' b (schDone c 0 m j) schT → w.grownBy w' (some b) → K w') :
    doSt (((blk b).add 4).add 0) (.string (nameC c)) w fun w1 => doSt (((blk b).add 4).add 1) (.func (.func (jF c)) (jX c) #[]) w1 fun w2 => doSt (((blk b).add 4).add 2) (.func (.func (wF c)) #[] #[]) w2 fun w3 => doSt (((blk b).add 4).add 3) (.func (.func (kF c)) #[] #[]) w3 fun w4 => doSt (((blk b).add 4).add 4) (.func (.func (pF c)) #[] #[]) w4 fun w5 => doSt (((blk b).add 4).add 5) (.func (.func (rF c)) (rX c) #[]) w5 fun w6 => doSt (((blk b).add 4).add 6) (.func (.func (mF c)) #[] #[]) w6 fun w7 => doSt (((blk b).add 4).add 7) (.bool (tgC c)) w7 K := by

  refine do_st h (i := 4) (by rw [Sh.add_add, add_blk]) (by simp) fun w1 h1 g1 => ?_
  have k1 : Blk w1 b #[.int .u8 c, .int .u32 0, .int .i32 m, .int .u32 0, .string (nameC c), .nilFunc, .nilFunc, .nilFunc, .nilFunc, .nilFunc, .nilFunc, .bool false, .int .u64 j] schT := h1
  clear h1
  refine do_st k1 (i := 5) (by rw [Sh.add_add, add_blk]) (by simp) fun w2 h2 g2 => ?_
  have k2 : Blk w2 b #[.int .u8 c, .int .u32 0, .int .i32 m, .int .u32 0, .string (nameC c), .func (.func (jF c)) (jX c) #[], .nilFunc, .nilFunc, .nilFunc, .nilFunc, .nilFunc, .bool false, .int .u64 j] schT := h2
  clear h2
  refine do_st k2 (i := 6) (by rw [Sh.add_add, add_blk]) (by simp) fun w3 h3 g3 => ?_
  have k3 : Blk w3 b #[.int .u8 c, .int .u32 0, .int .i32 m, .int .u32 0, .string (nameC c), .func (.func (jF c)) (jX c) #[], .func (.func (wF c)) #[] #[], .nilFunc, .nilFunc, .nilFunc, .nilFunc, .bool false, .int .u64 j] schT := h3
  clear h3
  refine do_st k3 (i := 7) (by rw [Sh.add_add, add_blk]) (by simp) fun w4 h4 g4 => ?_
  have k4 : Blk w4 b #[.int .u8 c, .int .u32 0, .int .i32 m, .int .u32 0, .string (nameC c), .func (.func (jF c)) (jX c) #[], .func (.func (wF c)) #[] #[], .func (.func (kF c)) #[] #[], .nilFunc, .nilFunc, .nilFunc, .bool false, .int .u64 j] schT := h4
  clear h4
  refine do_st k4 (i := 8) (by rw [Sh.add_add, add_blk]) (by simp) fun w5 h5 g5 => ?_
  have k5 : Blk w5 b #[.int .u8 c, .int .u32 0, .int .i32 m, .int .u32 0, .string (nameC c), .func (.func (jF c)) (jX c) #[], .func (.func (wF c)) #[] #[], .func (.func (kF c)) #[] #[], .func (.func (pF c)) #[] #[], .nilFunc, .nilFunc, .bool false, .int .u64 j] schT := h5
  clear h5
  refine do_st k5 (i := 9) (by rw [Sh.add_add, add_blk]) (by simp) fun w6 h6 g6 => ?_
  have k6 : Blk w6 b #[.int .u8 c, .int .u32 0, .int .i32 m, .int .u32 0, .string (nameC c), .func (.func (jF c)) (jX c) #[], .func (.func (wF c)) #[] #[], .func (.func (kF c)) #[] #[], .func (.func (pF c)) #[] #[], .func (.func (rF c)) (rX c) #[], .nilFunc, .bool false, .int .u64 j] schT := h6
  clear h6
  refine do_st k6 (i := 10) (by rw [Sh.add_add, add_blk]) (by simp) fun w7 h7 g7 => ?_
  have k7 : Blk w7 b #[.int .u8 c, .int .u32 0, .int .i32 m, .int .u32 0, .string (nameC c), .func (.func (jF c)) (jX c) #[], .func (.func (wF c)) #[] #[], .func (.func (kF c)) #[] #[], .func (.func (pF c)) #[] #[], .func (.func (rF c)) (rX c) #[], .func (.func (mF c)) #[] #[], .bool false, .int .u64 j] schT := h7
  clear h7
  refine do_st k7 (i := 11) (by rw [Sh.add_add, add_blk]) (by simp) fun w8 h8 g8 => ?_
  have k8 : Blk w8 b #[.int .u8 c, .int .u32 0, .int .i32 m, .int .u32 0, .string (nameC c), .func (.func (jF c)) (jX c) #[], .func (.func (wF c)) #[] #[], .func (.func (kF c)) #[] #[], .func (.func (pF c)) #[] #[], .func (.func (rF c)) (rX c) #[], .func (.func (mF c)) #[] #[], .bool (tgC c), .int .u64 j] schT := h8
  clear h8
  exact k _ k8 (grown_trans (grown_trans (grown_trans (grown_trans (grown_trans (grown_trans (grown_trans g1 g2) g3) g4) g5) g6) g7) g8)
set_option maxRecDepth 20000 in
theorem c_face1 {c m j : Int} (hc : isS c = true) {b bp : Nat} {w : World} (hb : Blk w b (schFresh c m j) schT) (hp : Blk w bp #[.pointer (some (blk b))] 65) :
    Calls Tryz.prog 224 #[.pointer (some (blk bp))] w fun e w2 => e = .returned (.tuple #[]) ∧ (Blk w2 b (schDone c 0 m j) schT ∧ w.grownBy w2 (some b)) := by
  refine sh224_ok _ ?_
  unfold sh224
  have d := ext_drew w
  refine ⟨⟨fun w' => Ext w w', d, _, fun w' e => (hp.ext e).cell (i := 0) rfl rfl, _, fun w' e => (hp.ext e).cell (i := 0) rfl rfl, _, rfl, _, fun w' e => (hb.ext e).cell (i := 0) (add_blk _ _) rfl, ?_⟩⟩
  refine do_call Tryz.call126 (c_of82 (retS_ret ⟨_, rfl, d, ?_⟩))
  rw [hc, if_pos rfl]
  refine do_faces hc fun w1 e1 => retS_ret ⟨_, _, _, _, _, _, _, _, _, _, _, _, _, _, _, _, _, _, _, _, rfl, d.trans e1, _, rfl, ?_⟩
  have E := d.trans e1
  exact do_lay8 (hb.ext E) fun w2 h2 g2 => ⟨rfl, h2, grown_trans (gs_of E) g2⟩
set_option maxRecDepth 20000 in
theorem c_face {c : Int} {b : Nat} {w : World} {R : Ending → World → Prop} (hs : IsSch c b w) (h : ∀ w', Gs b w w' → IsSch c b w' → R (.returned (.agg (facesC c))) w') : Calls Tryz.prog 142 #[.pointer (some (blk b))] w R := by
  refine sh142_ok _ ?_
  unfold sh142
  refine ⟨⟨?_⟩⟩
  have e0 := ext_alloc w (.cells #[.pointer (some (blk b))] 65)
  have hp0 := blk_alloc w #[.pointer (some (blk b))] 65
  generalize hbp : w.heap.size = bp at *
  generalize w.alloc (.cells #[.pointer (some (blk b))] 65) = w1 at *
  have e1 := ext_alloc w1 (.cells #[.string (⟨#[]⟩ : ByteArray), .nilFunc, .nilFunc, .nilFunc, .nilFunc, .nilFunc, .nilFunc, .bool false] 193)
  have hf := blk_alloc w1 #[.string (⟨#[]⟩ : ByteArray), .nilFunc, .nilFunc, .nilFunc, .nilFunc, .nilFunc, .nilFunc, .bool false] 193
  generalize hbf : w1.heap.size = bf at *
  generalize w1.alloc (.cells #[.string (⟨#[]⟩ : ByteArray), .nilFunc, .nilFunc, .nilFunc, .nilFunc, .nilFunc, .nilFunc, .bool false] 193) = w2 at *
  have hp2 := hp0.ext e1
  have E2 := e0.trans e1
  have hs2 := hs.ext E2
  have hlt := hs.lt
  have hbpf : w1.heap.size > bp := hp0.lt
  have nbp : some bp ≠ some b := ne_some (by omega)
  have nbf : some bf ≠ some b := ne_some (by omega)
  refine ⟨_, hp2.cell (i := 0) rfl rfl, _, rfl, ?_⟩
  rw [add_blk]
  -- behind Do
  have fin : ∀ w3 j, Blk w3 b (schDone c 1 0 j) schT → w2.grownBy w3 (some b) →
      (∃ (x10 : Option Addr), World.cell? w3 (blk bp) = some (.pointer x10) ∧ (
       ∃ (q11 : Addr), x10 = some q11 ∧ (
       ∃ (x12 : ByteArray), World.cell? w3 ((q11.add 4).add 0) = some (.string x12) ∧ (
       ∃ (xf13 : Fn), ∃ (xx14 : Array Value), ∃ (xc15 : Array Value), World.cell? w3 ((q11.add 4).add 1) = some (.func xf13 xx14 xc15) ∧ (
       ∃ (xf16 : Fn), ∃ (xx17 : Array Value), ∃ (xc18 : Array Value), World.cell? w3 ((q11.add 4).add 2) = some (.func xf16 xx17 xc18) ∧ (
       ∃ (xf19 : Fn), ∃ (xx20 : Array Value), ∃ (xc21 : Array Value), World.cell? w3 ((q11.add 4).add 3) = some (.func xf19 xx20 xc21) ∧ (
       ∃ (xf22 : Fn), ∃ (xx23 : Array Value), ∃ (xc24 : Array Value), World.cell? w3 ((q11.add 4).add 4) = some (.func xf22 xx23 xc24) ∧ (
       ∃ (xf25 : Fn), ∃ (xx26 : Array Value), ∃ (xc27 : Array Value), World.cell? w3 ((q11.add 4).add 5) = some (.func xf25 xx26 xc27) ∧ (
       ∃ (xf28 : Fn), ∃ (xx29 : Array Value), ∃ (xc30 : Array Value), World.cell? w3 ((q11.add 4).add 6) = some (.func xf28 xx29 xc30) ∧ (
       ∃ (x31 : Bool), World.cell? w3 ((q11.add 4).add 7) = some (.bool x31) ∧ (
       doSt ((blk bf).add 0) (.string x12) w3 (fun w32 =>
       doSt ((blk bf).add 1) (.func xf13 xx14 xc15) w32 (fun w33 =>
       doSt ((blk bf).add 2) (.func xf16 xx17 xc18) w33 (fun w34 =>
       doSt ((blk bf).add 3) (.func xf19 xx20 xc21) w34 (fun w35 =>
       doSt ((blk bf).add 4) (.func xf22 xx23 xc24) w35 (fun w36 =>
       doSt ((blk bf).add 5) (.func xf25 xx26 xc27) w36 (fun w37 =>
       doSt ((blk bf).add 6) (.func xf28 xx29 xc30) w37 (fun w38 =>
       doSt ((blk bf).add 7) (.bool x31) w38 (fun w39 =>
       ∃ (x40 : ByteArray), World.cell? w39 ((blk bf).add 0) = some (.string x40) ∧ (
       ∃ (xf41 : Fn), ∃ (xx42 : Array Value), ∃ (xc43 : Array Value), World.cell? w39 ((blk bf).add 1) = some (.func xf41 xx42 xc43) ∧ (
       ∃ (xf44 : Fn), ∃ (xx45 : Array Value), ∃ (xc46 : Array Value), World.cell? w39 ((blk bf).add 2) = some (.func xf44 xx45 xc46) ∧ (
       ∃ (xf47 : Fn), ∃ (xx48 : Array Value), ∃ (xc49 : Array Value), World.cell? w39 ((blk bf).add 3) = some (.func xf47 xx48 xc49) ∧ (
       ∃ (xf50 : Fn), ∃ (xx51 : Array Value), ∃ (xc52 : Array Value), World.cell? w39 ((blk bf).add 4) = some (.func xf50 xx51 xc52) ∧ (
       ∃ (xf53 : Fn), ∃ (xx54 : Array Value), ∃ (xc55 : Array Value), World.cell? w39 ((blk bf).add 5) = some (.func xf53 xx54 xc55) ∧ (
       ∃ (xf56 : Fn), ∃ (xx57 : Array Value), ∃ (xc58 : Array Value), World.cell? w39 ((blk bf).add 6) = some (.func xf56 xx57 xc58) ∧ (
       ∃ (x59 : Bool), World.cell? w39 ((blk bf).add 7) = some (.bool x59) ∧ (
       R (.returned (.agg #[.string x40, .func xf41 xx42 xc43, .func xf44 xx45 xc46, .func xf47 xx48 xc49, .func xf50 xx51 xc52, .func xf53 xx54 xc55, .func xf56 xx57 xc58, .bool x59])) w39))))))))))))))))))))))))))) := by
    intro w3 j h3 g3
    have hp3 := hp2.grown g3 nbp
    have hf3 := hf.grown g3 nbf
    refine ⟨_, hp3.cell (i := 0) rfl rfl, _, rfl, _, h3.cell (i := 4) (by rw [Sh.add_add, add_blk]) rfl, _, _, _, h3.cell (i := 5) (by rw [Sh.add_add, add_blk]) rfl, _, _, _, h3.cell (i := 6) (by rw [Sh.add_add, add_blk]) rfl, _, _, _, h3.cell (i := 7) (by rw [Sh.add_add, add_blk]) rfl, _, _, _, h3.cell (i := 8) (by rw [Sh.add_add, add_blk]) rfl, _, _, _, h3.cell (i := 9) (by rw [Sh.add_add, add_blk]) rfl, _, _, _, h3.cell (i := 10) (by rw [Sh.add_add, add_blk]) rfl, _, h3.cell (i := 11) (by rw [Sh.add_add, add_blk]) rfl, ?_⟩
    refine do_st8 hf3 fun w4 h4 g4 => ?_
    refine ⟨_, h4.cell (i := 0) (add_blk _ _) rfl, _, _, _, h4.cell (i := 1) (add_blk _ _) rfl, _, _, _, h4.cell (i := 2) (add_blk _ _) rfl, _, _, _, h4.cell (i := 3) (add_blk _ _) rfl, _, _, _, h4.cell (i := 4) (add_blk _ _) rfl, _, _, _, h4.cell (i := 5) (add_blk _ _) rfl, _, _, _, h4.cell (i := 6) (add_blk _ _) rfl, _, h4.cell (i := 7) (add_blk _ _) rfl, ?_⟩
    refine h _ ?_ ⟨hs.1, .inr ⟨j, h3.grown g4 (ne_some (by omega))⟩⟩
    -- what was there before is as it was, but for the scheme
    have g23 : w.grownBy w3 (some b) := grown_trans (gs_of E2) g3
    refine ⟨g4.os.trans g23.os, g4.tape.trans g23.tape, g4.output.trans g23.output, Nat.le_trans (World.grownBy.size g23) (World.grownBy.size g4), fun k hk hne => ?_⟩
    rw [g4.block k (Nat.lt_of_lt_of_le hk (World.grownBy.size g23)) (ne_some (by omega)), g23.block k hk hne]
  rcases hs2 with ⟨hss, ⟨j, hb⟩ | ⟨j, hb⟩⟩
  · have hl := blk_set hb 2 (.int .i32 1)
    have hl : Blk (w2.setCell ⟨b, 2, none⟩ (.int .i32 1)) b (schFresh c 1 j) schT := hl
    have gl := grown_set w2 b 2 (.int .i32 1)
    have hfirst := o_first b 1 (blk bp) w2 (fun w3 => Blk w3 b (schDone c 0 1 j) schT ∧ (w2.setCell ⟨b, 2, none⟩ (.int .i32 1)).grownBy w3 (some b)) (hb.cell (i := 1) rfl rfl) (hb.cell (i := 2) rfl rfl) (hb.frozen (i := 1) rfl) (hb.frozen (i := 2) rfl)
      (c_face1 hs.1 hl (hp2.grown gl nbp)) (fun w3 h3 => ⟨h3.1.cell (i := 1) rfl rfl, h3.1.cell (i := 2) rfl rfl, h3.1.frozen (i := 1) rfl, h3.1.frozen (i := 2) rfl⟩)
    refine do_call Tryz.call223 (hfirst.mono ?_)
    rintro e w' ⟨rfl, w3, ⟨h3, g3⟩, rfl⟩
    refine ⟨rfl, ?_⟩
    have h4 : Blk w3.drew b (schDone c 0 1 j) schT := h3
    have h5 : Blk (w3.drew.setCell ⟨b, 1, none⟩ (.int .u32 1)) b (schDone c 1 1 j) schT := blk_set h4 1 _
    have h6 : Blk ((w3.drew.setCell ⟨b, 1, none⟩ (.int .u32 1)).setCell ⟨b, 2, none⟩ (.int .i32 0)) b (schDone c 1 0 j) schT := blk_set h5 2 _
    exact fin _ j h6 (grown_trans (grown_trans (grown_trans (grown_trans gl g3) (grown_drew _ _)) (grown_set _ _ _ _)) (grown_set _ _ _ _))
  · refine do_call Tryz.call223 ((o_done ⟨b, 1, none⟩ _ w2 (hb.cell (i := 1) rfl rfl)).mono ?_)
    rintro e w' ⟨rfl, rfl⟩
    exact ⟨rfl, fin _ j hb (grown_refl _ _)⟩
end Go.Proofs.YtlfjaogbehpleaaGreat

namespace Go.Proofs.YtlfjaogbehpleaaGreat
open Go Go.Sh Go.RowKit

theorem OkP.of1 {t : Tr} (h : OkP 1 t) : Avl t := by simpa [OkP] using h
theorem OkP.of2 {t : Tr} (h : OkP 2 t) : Rb t := by simpa [OkP] using h
theorem OkP.of3 {t : Tr} (h : OkP 3 t) : Wb t := by simpa [OkP] using h
theorem do_plain {c : Int} (h123 : c = 1 ∨ c = 2 ∨ c = 3) {l r : Tr} {k v g : Int} {pl pr : Option Addr} {w : World} {R : Ending → World → Prop} (hl : IsN w pl l) (hr : IsN w pr r) (okl : OkP c l) (okr : OkP c r) (hB : l.size + r.size + 5 ≤ BIG)
    (h : ∀ q w', Ext w w' → IsN w' q (joinC c l (k, v, g) r) → R (.returned (.pointer q)) w') : doCall Tryz.prog (.func (.func (pjF c)) #[] #[]) #[.pointer pl, .int .i64 k, .int .i64 v, .pointer pr] w R := by
  rcases h123 with rfl | rfl | rfl
  · exact do_call Tryz.call193 (c_ajoin hl hr okl.of1 okr.of1 hB h)
  · exact do_call Tryz.call199 (c_rjoin hl hr okl.of2 okr.of2 hB h)
  · exact do_call Tryz.call205 (c_wjoin hl hr okl.of3 okr.of3 hB h)
set_option maxRecDepth 20000 in
theorem do_joinF {c : Int} {l r : Tr} {k v g : Int} {pl pr : Option Addr} {w : World} {R : Ending → World → Prop} (hl : IsN w pl l) (hr : IsN w pr r) (okl : OkP c l) (okr : OkP c r) (hB : l.size + r.size + 5 ≤ BIG)
    (h : ∀ q w', Ext w w' → IsN w' q (joinC c l (k, v, g) r) → R (.returned (.pointer q)) w') : doCall Tryz.prog (.func (.func (jF c)) (jX c) #[]) #[.pointer pl, .agg #[.int .i64 k, .int .i64 v, .int .u64 g], .pointer pr] w R := by
  by_cases h4 : c = 4
  · subst h4
    have hj : jF 4 = 397 := by unfold jF; rw [if_pos rfl]
    have hx : jX 4 = #[] := by unfold jX; rw [if_pos rfl]
    have ej : joinC 4 l (k, v, g) r = joinT (l.size + r.size) l k v g r := by
      unfold joinC
      rw [if_neg (by decide), if_neg (by decide), if_neg (by decide)]
    rw [hj, hx]
    rw [ej] at h
    exact do_call Tryz.call397 (c_tjoin (l.size + r.size) (Nat.le_refl _) hl hr hB h)
  · have h123 : c = 1 ∨ c = 2 ∨ c = 3 := by have := isS_iff.1 okl.s; omega
    have hj : jF c = 395 := by unfold jF; rw [if_neg h4]
    have hx : jX c = #[.agg (plainA c)] := by unfold jX; rw [if_neg h4]
    rw [hj, hx]
    refine ⟨callV_func Tryz.call395 ?_⟩
    refine sh395_ok _ _ _ _ _ _ _ _ _ _ _ _ _ _ _ _ _ _ _ _ _ _ _ _ ?_
    unfold sh395
    have e0 := ext_alloc w (.cells (plainA c) 241)
    have hb0 := blk_alloc w (plainA c) 241
    refine ⟨⟨?_⟩⟩
    have e1 := ext_alloc (w.alloc (.cells (plainA c) 241)) (.cells #[.int .i64 k, .int .i64 v, .int .u64 g] 133)
    have hb1 := blk_alloc (w.alloc (.cells (plainA c) 241)) #[.int .i64 k, .int .i64 v, .int .u64 g] 133
    have E := e0.trans e1
    refine ⟨_, _, _, (hb0.ext e1).cell (i := 1) (add_blk _ _) rfl, _, hb1.cell (i := 0) (add_blk _ _) rfl, _, hb1.cell (i := 1) (add_blk _ _) rfl, ?_⟩
    exact do_plain h123 (g := g) (hl.ext E) (hr.ext E) okl okr hB fun q w2 e2 h2 => retS_ret ⟨_, rfl, h _ _ (E.trans e2) h2⟩
theorem do_wholeF {c : Int} {t : Tr} {p : Option Addr} {w : World} {R : Ending → World → Prop} (ht : IsN w p t) (ok : OkP c t) (hB : t.size + 5 ≤ BIG) (h : ∀ q w', Ext w w' → IsN w' q (wholeC c t) → (c = 2 → redR t = true) ∨ q = p → R (.returned (.pointer q)) w') :
    doCall Tryz.prog (.func (.func (wF c)) #[] #[]) #[.pointer p] w R := by
  by_cases h2 : c = 2
  · subst h2
    refine do_call Tryz.call204 (c_rblk ht (ok.of2.tg (by omega)) (by omega) fun q w1 e1 h1 hq => h _ _ e1 h1 ?_)
    cases hr : redR t with
    | true => exact .inl fun _ => rfl
    | false => exact .inr (hq hr)
  · have e : wF c = 198 := by unfold wF; rw [if_neg h2]
    rw [e]
    refine do_call Tryz.call198 (sh198_ok _ ?_)
    unfold sh198
    refine h _ _ (ext_refl _) ?_ (.inr rfl)
    unfold wholeC; rw [if_neg h2]; exact ht
set_option maxRecDepth 20000 in
theorem c_sjoin {c : Int} {b : Nat} {l r : Tr} {k v g : Int} {pl pr : Option Addr} {w : World} {R : Ending → World → Prop} (hs : IsSch c b w) (hl : IsN w pl l) (hr : IsN w pr r) (okl : OkP c l) (okr : OkP c r) (hB : l.size + r.size + 5 ≤ BIG)
    (h : ∀ q w', Gs b w w' → IsSch c b w' → IsN w' q (joinC c l (k, v, g) r) → R (.returned (.pointer q)) w') : Calls Tryz.prog 145 #[.pointer (some (blk b)), .pointer pl, .agg #[.int .i64 k, .int .i64 v, .int .u64 g], .pointer pr] w R := by
  refine sh145_ok _ _ _ _ _ _ ?_
  unfold sh145
  refine ⟨ifB_f rfl ⟨_, rfl, ?_⟩⟩
  have e0 := ext_alloc w (.cells #[.int .i64 k, .int .i64 v, .int .u64 g] 133)
  have hi := blk_alloc w #[.int .i64 k, .int .i64 v, .int .u64 g] 133
  have hlt := hs.lt
  generalize hbi : w.heap.size = bi at *
  generalize w.alloc (.cells #[.int .i64 k, .int .i64 v, .int .u64 g] 133) = w1 at *
  have nbi : some bi ≠ some b := ne_some (by omega)
  have hs1 := hs.ext e0
  -- behind the count
  have hK : ∀ w2, IsSch c b w2 → w1.grownBy w2 (some b) → doDr w2 (fun w14 =>
      ∃ (C13 : World → Prop), C13 w14 ∧ (
      ∃ (x15 : Int), (∀ w, C13 w → World.cell? w ((blk bi).add 0) = some (.int .i64 x15)) ∧ (
      ∃ (x16 : Int), (∀ w, C13 w → World.cell? w ((blk bi).add 1) = some (.int .i64 x16)) ∧ (
      ∃ (x17 : Int), (∀ w, C13 w → World.cell? w ((blk bi).add 2) = some (.int .u64 x17)) ∧ (
      doCall Tryz.prog (.func (.func 142) #[] #[]) #[.pointer (some (blk b))] w14 (retS (fun v38 w39 => ∃ (x18 : ByteArray), ∃ (xf19 : Fn), ∃ (xx20 : Array Value), ∃ (xc21 : Array Value), ∃ (xf22 : Fn), ∃ (xx23 : Array Value), ∃ (xc24 : Array Value), ∃ (xf25 : Fn), ∃ (xx26 : Array Value), ∃ (xc27 : Array Value), ∃ (xf28 : Fn), ∃ (xx29 : Array Value), ∃ (xc30 : Array Value), ∃ (xf31 : Fn), ∃ (xx32 : Array Value), ∃ (xc33 : Array Value), ∃ (xf34 : Fn), ∃ (xx35 : Array Value), ∃ (xc36 : Array Value), ∃ (x37 : Bool), v38 = (.agg #[.string x18, .func xf19 xx20 xc21, .func xf22 xx23 xc24, .func xf25 xx26 xc27, .func xf28 xx29 xc30, .func xf31 xx32 xc33, .func xf34 xx35 xc36, .bool x37] : Value) ∧ (
      C13 w39 ∧ (
      doCall Tryz.prog (.func xf19 xx20 xc21) #[.pointer pl, .agg #[.int .i64 x15, .int .i64 x16, .int .u64 x17], .pointer pr] w39 (retS (fun v41 w42 => ∃ (x40 : Option Addr), v41 = (.pointer x40 : Value) ∧ (
      R (.returned (.pointer x40)) w42)) (fun ch w => Kfn R ch [] w))))) (fun ch w => Kfn R ch [] w))))))) := by
    intro w2 hs2 g2
    have hi2 := hi.grown g2 nbi
    refine ⟨⟨fun w' => Blk w' bi #[.int .i64 k, .int .i64 v, .int .u64 g] 133, hi2, _, fun w' e => e.cell (i := 0) (add_blk _ _) rfl, _, fun w' e => e.cell (i := 1) (add_blk _ _) rfl, _, fun w' e => e.cell (i := 2) (add_blk _ _) rfl, ?_⟩⟩
    have hsd : IsSch c b w2.drew := hs2
    refine do_call Tryz.call142 (c_face hsd fun w3 g3 hs3 => retS_ret ⟨_, _, _, _, _, _, _, _, _, _, _, _, _, _, _, _, _, _, _, _, rfl, (show Blk w2.drew bi _ _ from hi2).grown g3 nbi, ?_⟩)
    have gt : Gs b w w3 := ((Gs.trans (gs_of e0) g2).trans (gs_of (ext_drew w2))).trans g3
    exact do_joinF (hl.gs hs gt) (hr.gs hs gt) okl okr hB fun q w4 e4 h4 => retS_ret ⟨_, rfl, h _ _ (gt.trans (gs_of e4)) (hs3.ext e4) h4⟩
  refine do_call Tryz.call225 (sh225_ok _ _ ?_)
  unfold sh225
  refine ⟨_, rfl, ?_⟩
  rw [add_zero', add_blk]
  rcases hs1 with ⟨hss, ⟨j, hb⟩ | ⟨j, hb⟩⟩
  · have hb2 := blk_set hb 12 (.int .u64 (IntKind.wrap .u64 (j + 1)))
    have hb2 : Blk (w1.setCell ⟨b, 12, none⟩ (.int .u64 (IntKind.wrap .u64 (j + 1)))) b (schFresh c 0 (IntKind.wrap .u64 (j + 1))) schT := hb2
    exact o_add (hb.cell (i := 12) rfl rfl) (hb.frozen (i := 12) rfl) (retS_ret ⟨_, rfl, retS_ret ⟨_, rfl, hK _ ⟨hss, .inl ⟨_, hb2⟩⟩ (grown_set _ _ _ _)⟩⟩)
  · have hb2 := blk_set hb 12 (.int .u64 (IntKind.wrap .u64 (j + 1)))
    have hb2 : Blk (w1.setCell ⟨b, 12, none⟩ (.int .u64 (IntKind.wrap .u64 (j + 1)))) b (schDone c 1 0 (IntKind.wrap .u64 (j + 1))) schT := hb2
    exact o_add (hb.cell (i := 12) rfl rfl) (hb.frozen (i := 12) rfl) (retS_ret ⟨_, rfl, retS_ret ⟨_, rfl, hK _ ⟨hss, .inr ⟨_, hb2⟩⟩ (grown_set _ _ _ _)⟩⟩)
theorem c_swhole {c : Int} {b : Nat} {t : Tr} {p : Option Addr} {w : World} {R : Ending → World → Prop} (hs : IsSch c b w) (ht : IsN w p t) (ok : OkP c t) (hB : t.size + 5 ≤ BIG)
    (h : ∀ q w', Gs b w w' → IsSch c b w' → IsN w' q (wholeC c t) → R (.returned (.pointer q)) w') : Calls Tryz.prog 72 #[.pointer (some (blk b)), .pointer p] w R := by
  refine sh72_ok _ _ ?_
  unfold sh72
  refine ifB_f rfl (do_call Tryz.call142 (c_face hs fun w1 g1 hs1 => retS_ret ⟨_, _, _, _, _, _, _, _, _, _, _, _, _, _, _, _, _, _, _, _, rfl, ?_⟩))
  exact do_wholeF (ht.gs hs g1) ok hB fun q w2 e2 h2 _ => retS_ret ⟨_, rfl, h _ _ (g1.trans (gs_of e2)) (hs1.ext e2) h2⟩
set_option maxRecDepth 20000 in
theorem c_sitem {c : Int} {b : Nat} {t : Tr} {p : Option Addr} {w : World} {R : Ending → World → Prop} (hs : IsSch c b w) (ht : IsN w p t)
    (h : ∀ w', Gs b w w' → IsSch c b w' → R (.returned (agI (rootC c t))) w') : Calls Tryz.prog 144 #[.pointer (some (blk b)), .pointer p] w R := by
  refine sh144_ok _ _ ?_
  unfold sh144
  refine ⟨?_⟩
  have e0 := ext_alloc w (.cells #[.int .i64 0, .int .i64 0, .int .u64 0] 133)
  have hx := blk_alloc w #[.int .i64 0, .int .i64 0, .int .u64 0] 133
  have hlt := hs.lt
  generalize hbx : w.heap.size = bx at *
  generalize w.alloc (.cells #[.int .i64 0, .int .i64 0, .int .u64 0] 133) = w1 at *
  have nbx : some bx ≠ some b := ne_some (by omega)
  intro K7
  refine ifB_f rfl ?_
  unfold rootC at h
  rw [ht.isNone]
  cases hn : t.nn with
  | false =>
    rw [hn] at h
    refine ifB_t rfl (do_st3 hx fun w2 h2 g2 => ⟨_, h2.cell (i := 0) (add_blk _ _) rfl, _, h2.cell (i := 1) (add_blk _ _) rfl, _, h2.cell (i := 2) (add_blk _ _) rfl, ?_⟩)
    have e2 : Ext w w2 := e0.st g2 (by omega)
    exact h _ (gs_of e2) (hs.ext e2)
  | true =>
    rw [hn] at h
    refine ifB_f rfl (do_call Tryz.call131 (c_key (ht.ext e0) fun w2 e2 => retS_ret ⟨_, rfl, ?_⟩))
    have E2 := e0.trans e2
    refine do_call Tryz.call132 (c_val (ht.ext E2) fun w3 e3 => retS_ret ⟨_, rfl, ⟨?_⟩⟩)
    have E3 := E2.trans e3
    have hx3 := hx.ext (e2.trans e3)
    have hx3lt := hx3.lt
    refine do_st3 (blk_alloc w3 _ _) fun w4 h4 g4 => ?_
    have e4 : Ext w3 w4 := (ext_alloc w3 _).st g4 (Nat.le_refl _)
    have E4 := E3.trans e4
    have hs4 := hs.ext E4
    have hx4 := hx3.ext e4
    have hwlt : w.heap.size ≤ w3.heap.size := E3.size
    have nby : some w3.heap.size ≠ some b := ne_some (by omega)
    intro K26
    have hK26 : ∀ (g' : Int) w5, Blk w5 w3.heap.size #[.int .i64 t.key, .int .i64 t.val, .int .u64 g'] 133 → Blk w5 bx #[.int .i64 0, .int .i64 0, .int .u64 0] 133 → Gs b w w5 → IsSch c b w5 → (t.key, t.val, g') = itC c (t.key, t.val, t.tag) → K26 w5 := by
      intro g' w5 hy hx5 g5 hs5 hg
      refine ⟨_, hy.cell (i := 0) (add_blk _ _) rfl, _, hy.cell (i := 1) (add_blk _ _) rfl, _, hy.cell (i := 2) (add_blk _ _) rfl, do_st3 hx5 fun w6 h6 g6 => ⟨_, h6.cell (i := 0) (add_blk _ _) rfl, _, h6.cell (i := 1) (add_blk _ _) rfl, _, h6.cell (i := 2) (add_blk _ _) rfl, ?_⟩⟩
      have hr := h w6 ?_ ?_
      · rw [if_pos rfl, ← hg] at hr
        exact hr
      · refine ⟨g6.os.trans g5.os, g6.tape.trans g5.tape, g6.output.trans g5.output, Nat.le_trans (World.grownBy.size g5) (World.grownBy.size g6), fun k hk hne => ?_⟩
        rw [g6.block k (Nat.lt_of_lt_of_le hk (World.grownBy.size g5)) (ne_some (by omega)), g5.block k hk hne]
      · rcases hs5 with ⟨hss, ⟨j, hb⟩ | ⟨j, hb⟩⟩
        · exact ⟨hss, .inl ⟨j, hb.grown g6 (ne_some (by omega))⟩⟩
        · exact ⟨hss, .inr ⟨j, hb.grown g6 (ne_some (by omega))⟩⟩
    refine do_call Tryz.call142 (c_face hs4 fun w5 g5 hs5 => retS_ret ⟨_, _, _, _, _, _, _, _, _, _, _, _, _, _, _, _, _, _, _, _, rfl, ?_⟩)
    have gt := (gs_of E4).trans g5
    have hx5 := hx4.grown g5 nbx
    have hy5 := h4.grown g5 nby
    unfold tgC
    refine ifB_intro (fun htag => ?_) fun htag => ?_
    · have h4c : c = 4 := of_decide_eq_true htag
      refine do_call Tryz.call214 (c_tag (ht.gs hs gt) fun w6 e6 => retS_ret ⟨_, rfl, ?_⟩)
      refine do_st (i := 2) (hy5.ext e6) (by rw [Sh.add_add, add_blk]) (by simp) fun w7 h7 g7 => ?_
      refine hK26 t.tag w7 h7 ((hx5.ext e6).grown g7 (ne_some (by omega))) ?_ ?_ (by unfold itC; rw [if_pos h4c])
      · have g6 := gt.trans (gs_of e6)
        refine ⟨g7.os.trans g6.os, g7.tape.trans g6.tape, g7.output.trans g6.output, Nat.le_trans (World.grownBy.size g6) (World.grownBy.size g7), fun k hk hne => ?_⟩
        rw [g7.block k (Nat.lt_of_lt_of_le hk (World.grownBy.size g6)) (ne_some (by omega)), g6.block k hk hne]
      · rcases hs5.ext e6 with ⟨hss, ⟨j, hb⟩ | ⟨j, hb⟩⟩
        · exact ⟨hss, .inl ⟨j, hb.grown g7 (ne_some (by omega))⟩⟩
        · exact ⟨hss, .inr ⟨j, hb.grown g7 (ne_some (by omega))⟩⟩
    · have h4c : c ≠ 4 := of_decide_eq_false htag
      exact hK26 0 w5 hy5 hx5 gt hs5 (by unfold itC; rw [if_neg h4c])
/-! ### Of -/
theorem eqn_some (t : TypeId) (v : Value) : ∀ w, (do eqGuard .eql 173 (.tmp 5) (.const .nilIface) (.iface t v) .nilIface; binOp .eql 173 (.iface t v) .nilIface).run Tryz.prog w = .ok (.bool false) w := fun w => by kernel_rfl
theorem eqn_none : ∀ w, (do eqGuard .eql 173 (.tmp 5) (.const .nilIface) .nilIface .nilIface; binOp .eql 173 .nilIface .nilIface).run Tryz.prog w = .ok (.bool true) w := fun w => by kernel_rfl
theorem c_schOf {c : Int} {w : World} {R : Ending → World → Prop} (h0 : isS c = false → R (.returned (.tuple #[.pointer none, .int .i64 2])) w)
    (h1 : isS c = true → ∀ b w', Ext w w' → w.heap.size = b → IsSch c b w' → R (.returned (.tuple #[.pointer (some (blk b)), .int .i64 0])) w') : Calls Tryz.prog 65 #[.int .u8 c] w R := by
  refine sh65_ok _ ?_
  unfold sh65
  refine do_call Tryz.call126 (c_of82 (retS_ret ⟨_, rfl, ?_⟩))
  cases hc : isS c with
  | false => exact ⟨true, eqn_none, ifB_t rfl (h0 hc)⟩
  | true =>
    refine ⟨false, ?_, ifB_f rfl ⟨h1 hc _ _ (ext_alloc w _) rfl ⟨hc, .inl ⟨0, blk_alloc w _ _⟩⟩⟩⟩
    unfold mkV
    rw [if_pos rfl]
    split
    · exact eqn_some _ _
    · exact eqn_some _ _
theorem c_l22of {c : Int} {w : World} {R : Ending → World → Prop} (h0 : isS c = false → R (.returned (.tuple #[.pointer none, .bool false])) w)
    (h1 : isS c = true → ∀ b w', Ext w w' → w.heap.size = b → IsSch c b w' → R (.returned (.tuple #[.pointer (some (blk b)), .bool true])) w') : Calls Tryz.prog 26 #[.int .u8 c] w R := by
  refine sh26_ok _ ?_
  unfold sh26
  exact do_call Tryz.call65 (c_schOf (fun hc => retS_ret ⟨_, _, rfl, ifB_f rfl (h0 hc)⟩) fun hc b w1 e1 hb hs => retS_ret ⟨_, _, rfl, ifB_t rfl (h1 hc _ _ e1 hb hs)⟩)
end Go.Proofs.YtlfjaogbehpleaaGreat

