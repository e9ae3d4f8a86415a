/-
  wb, wbjoin: what a join makes.
-/
/-
  treap, treapjoin: what a join makes.
-/
/-
  scheme: what a scheme is, and what it does.
-/
import Derived.Test.YtlddfgfmkapoiaaGreatZ14
import Derived.Test.YtlddfgfmkapoiaaGreatZ15

namespace Go.Proofs.YtlddfgfmkapoiaaGreat
open Go Go.Sh Go.RowKit

theorem c_wmake {pl pr : Option Addr} {l r : Tr} {k v : Int} {w : World} {R : Ending → World → Prop} (hl : IsN w pl l) (hr : IsN w pr r) (hs : l.size + 1 + r.size ≤ BIG)
    (h : ∀ q w', Ext w w' → IsN w' q (mkW l k v r) → R (.returned (.pointer q)) w') : Calls Tryz.prog 276 #[.pointer pl, .int .i64 k, .int .i64 v, .pointer pr] w R := by
  refine sh276_ok _ _ _ _ ?_
  unfold sh276
  simp only [BIG] at hs
  exact do_call Tryz.call105 (c_new hl hr (by omega) fun b w1 e1 h1 _ => retS_ret ⟨_, rfl, h _ _ e1 h1⟩)
theorem c_weight {p : Option Addr} {t : Tr} {w : World} {R : Ending → World → Prop} (ht : IsN w p t) (hs : t.size ≤ BIG) (h : ∀ w', Ext w w' → R (.returned (.int .i64 (wtW t : Nat))) w') : Calls Tryz.prog 277 #[.pointer p] w R := by
  refine sh277_ok _ ?_
  unfold sh277
  refine do_call Tryz.call91 (c_tsize ht fun w1 e1 => retS_ret ⟨_, rfl, ?_⟩)
  simp only [BIG] at hs
  rw [wrap_of (by omega) (by omega)]
  exact h _ e1
/-- all of two numbers from one to another one -/
theorem c_within {a b lo hi : Int} {p : Option Addr} {c : Nat} {w : World} {R : Ending → World → Prop} (hl : Cs w p (ints [a, b])) (h : R (.returned (.bool (decide (lo ≤ a) && decide (a ≤ hi) && decide (lo ≤ b) && decide (b ≤ hi)))) w) :
    Calls Tryz.prog 327 #[.int .i64 lo, .int .i64 hi, .slice p 2 c] w R := by
  refine sh327_ok _ _ _ _ _ ?_
  unfold sh327
  refine ⟨fun vs w' => w' = w ∧ ((vs = [.int .i64 0]) ∨ (vs = [.int .i64 1] ∧ lo ≤ a ∧ a ≤ hi) ∨ (vs = [.int .i64 2] ∧ lo ≤ a ∧ a ≤ hi ∧ lo ≤ b ∧ b ≤ hi)), fun vs _ => 2 - (intOf (vs.getD 0 undef)).toNat, ⟨rfl, .inl rfl⟩, ?_⟩
  rintro i _ w2 ⟨rfl, hv⟩
  rcases hv with hv | ⟨hv, h1, h2⟩ | ⟨hv, h1, h2, h3, h4⟩ <;> (simp only [List.cons.injEq, Value.int.injEq, true_and, and_true] at hv; subst hv)
  · refine ifB_t (by decide) (ix_int hl rfl (by decide) (by decide) fun ad _ hr => ⟨a, hr, ?_⟩)
    intro K15
    refine ifB_intro (fun hc => ?_) fun hc => ifB_intro (fun hd => ?_) fun hd => ⟨⟨rfl, .inr (.inl ⟨rfl, by have := of_decide_eq_false hc; omega, by have := of_decide_eq_false hd; omega⟩)⟩, by show 2 - (1 : Nat) < 2 - 0; omega⟩
    · have hc := of_decide_eq_true hc
      rw [decide_eq_false (p := lo ≤ a) (by omega)] at h; exact h
    · have hd := of_decide_eq_true hd
      rw [decide_eq_false (p := a ≤ hi) (by omega)] at h; simpa using h
  · refine ifB_t (by decide) (ix_int hl rfl (by decide) (by decide) fun ad _ hr => ⟨b, hr, ?_⟩)
    intro K15
    refine ifB_intro (fun hc => ?_) fun hc => ifB_intro (fun hd => ?_) fun hd => ⟨⟨rfl, .inr (.inr ⟨rfl, h1, h2, by have := of_decide_eq_false hc; omega, by have := of_decide_eq_false hd; omega⟩)⟩, by show 2 - (2 : Nat) < 2 - 1; omega⟩
    · have hc := of_decide_eq_true hc
      rw [decide_eq_false (p := lo ≤ b) (by omega)] at h; simpa using h
    · have hd := of_decide_eq_true hd
      rw [decide_eq_false (p := b ≤ hi) (by omega)] at h; simpa using h
  · refine ifB_f (by decide) ?_
    rw [decide_eq_true h1, decide_eq_true h2, decide_eq_true h3, decide_eq_true h4] at h
    exact h
theorem c_like {a b : Nat} {w : World} {R : Ending → World → Prop} (h1 : 1 ≤ a ∧ a ≤ 1099511627776) (h2 : 1 ≤ b ∧ b ≤ 1099511627776) (h : ∀ w', Ext w w' → R (.returned (.bool (likeW a b))) w') : Calls Tryz.prog 279 #[.int .i64 (a : Nat), .int .i64 (b : Nat)] w R := by
  refine sh279_ok _ _ ?_
  unfold sh279
  intro K5
  refine ⟨?_⟩
  have e1 := ext_alloc w (.cells #[.int .i64 (a : Nat), .int .i64 (b : Nat)] 3)
  have hc : Cs (w.alloc (.cells #[.int .i64 (a : Nat), .int .i64 (b : Nat)] 3)) (some (blk w.heap.size)) (ints [(a : Int), (b : Int)]) := cs_alloc w #[.int .i64 (a : Nat), .int .i64 (b : Nat)] 3
  refine do_call Tryz.call327 (c_within hc (retS_ret ⟨_, rfl, ?_⟩))
  refine ifB_t (by simp; omega) (do_mink (retS_ret ⟨_, rfl, ?_⟩))
  have e : decide (IntKind.wrap .i64 (29 * IntKind.wrap .i64 ((a : Int) + b)) ≤ IntKind.wrap .i64 (100 * min (a : Int) b)) = likeW a b := by
    rw [wrap_of (x := (a : Int) + b) (by omega) (by omega), wrap_of (x := 29 * ((a : Int) + b)) (by omega) (by omega), wrap_of (x := 100 * min (a : Int) b) (by omega) (by omega)]
    unfold likeW
    exact decide_eq_decide.2 (by omega)
  show R (.returned (.bool _)) _
  rw [e]
  exact h _ e1
/-! ### sides -/
def sW (s : Bool) : Int := cond s 1 0
theorem c_other (s : Bool) {w : World} {R : Ending → World → Prop} (h : R (.returned (.int .i64 (sW (!s)))) w) : Calls Tryz.prog 323 #[.int .i64 (sW s)] w R := by
  refine sh323_ok _ ?_
  cases s <;> exact h
theorem outS_not (s : Bool) (t : Tr) : outS (!s) t = inS s t := by cases s <;> rfl
theorem ix_two (s : Bool) (p0 p1 : Option Addr) : ∀ w, (Instr.index 376 (.agg #[.pointer p0, .pointer p1]) (.int .i64 (sW s))).run Tryz.prog w = .ok (.pointer (cond s p1 p0)) w := fun w => by
  cases s
  · kernel_rfl
  · kernel_rfl
theorem c_at (s : Bool) {p : Option Addr} {t : Tr} {w : World} {R : Ending → World → Prop} (ht : IsN w p t) (h : ∀ q w', Ext w w' → IsN w' q (outS s t) → R (.returned (.pointer q)) w') : Calls Tryz.prog 324 #[.int .i64 (sW s), .pointer p] w R := by
  refine sh324_ok _ _ ?_
  unfold sh324
  refine do_call Tryz.call343 (sh343_ok _ ?_)
  unfold sh343
  refine ⟨?_⟩
  have e1 := ext_alloc w (.cells #[.pointer none, .pointer none] 376)
  have hb := blk_alloc w #[.pointer none, .pointer none] 376
  refine do_call Tryz.call123 (c_left0 ht e1 fun ql hl => retS_ret ⟨_, rfl, ?_⟩)
  refine do_call Tryz.call125 (c_right0 ht e1 fun qr hr => retS_ret ⟨_, rfl, ?_⟩)
  refine do_st2 hb fun w2 h2 g2 => ⟨_, h2.cell (i := 0) (add_blk _ _) rfl, _, h2.cell (i := 1) (add_blk _ _) rfl, retS_ret ⟨_, _, rfl, ⟨_, ix_two s _ _, _, rfl, ?_⟩⟩⟩
  have E2 : Ext w w2 := e1.st g2 (Nat.le_refl _)
  cases s
  · exact h _ _ E2 (hl.ext E2)
  · exact h _ _ E2 (hr.ext E2)
theorem mkWS_size (s : Bool) (i o : Tr) (k v : Int) : (mkWS s i k v o).size = i.size + 1 + o.size := by cases s <;> simp [mkWS, mkW, Tr.size] <;> omega
theorem c_mkW (s : Bool) {pi pp po : Option Addr} {i o pr : Tr} {w : World} {R : Ending → World → Prop} (hi : IsN w pi i) (hp : IsN w pp pr) (ho : IsN w po o) (hs : i.size + 1 + o.size ≤ BIG)
    (h : ∀ q w', Ext w w' → IsN w' q (mkWS s i pr.key pr.val o) → R (.returned (.pointer q)) w') : Calls Tryz.prog 322 #[.int .i64 (sW s), .pointer pi, .pointer pp, .pointer po] w R := by
  refine sh322_ok _ _ _ _ ?_
  unfold sh322
  refine ⟨do_st2 (blk_alloc w _ _) fun w1 h1 g1 => ?_⟩
  have e1 : Ext w w1 := (ext_alloc w _).st g1 (Nat.le_refl _)
  have d := ext_drew w1
  have E := e1.trans d
  have c0 : ∀ w', Ext w1 w' → w'.cell? ((blk w.heap.size).add (0 * 1)) = some (.pointer pi) := fun w' e => (h1.ext e).cell (i := 0) (by rw [Nat.zero_mul, add_blk]) rfl
  have c1 : ∀ w', Ext w1 w' → w'.cell? ((blk w.heap.size).add (1 * 1)) = some (.pointer po) := fun w' e => (h1.ext e).cell (i := 1) (by rw [Nat.one_mul, add_blk]) rfl
  cases s
  · refine ⟨⟨fun w' => Ext w1 w', d, ⟨_, rfl, by decide, by decide, _, c0, ?_⟩⟩⟩
    refine do_call Tryz.call323 (c_other false (retS_ret ⟨_, rfl, d, ⟨_, rfl, by decide, by decide, _, c1, ?_⟩⟩))
    refine do_call Tryz.call108 (c_key (hp.ext E) fun w3 e3 => retS_ret ⟨_, rfl, d.trans e3, ?_⟩)
    refine do_call Tryz.call126 (c_val (hp.ext (E.trans e3)) fun w4 e4 => retS_ret ⟨_, rfl, (d.trans e3).trans e4, ?_⟩)
    have E4 := (E.trans e3).trans e4
    exact do_call Tryz.call276 (c_wmake (ho.ext E4) (hi.ext E4) (by omega) fun q w5 e5 h5 => retS_ret ⟨_, rfl, h _ _ (E4.trans e5) h5⟩)
  · refine ⟨⟨fun w' => Ext w1 w', d, ⟨_, rfl, by decide, by decide, _, c1, ?_⟩⟩⟩
    refine do_call Tryz.call323 (c_other true (retS_ret ⟨_, rfl, d, ⟨_, rfl, by decide, by decide, _, c0, ?_⟩⟩))
    refine do_call Tryz.call108 (c_key (hp.ext E) fun w3 e3 => retS_ret ⟨_, rfl, d.trans e3, ?_⟩)
    refine do_call Tryz.call126 (c_val (hp.ext (E.trans e3)) fun w4 e4 => retS_ret ⟨_, rfl, (d.trans e3).trans e4, ?_⟩)
    have E4 := (E.trans e3).trans e4
    exact do_call Tryz.call276 (c_wmake (hi.ext E4) (ho.ext E4) hs fun q w5 e5 h5 => retS_ret ⟨_, rfl, h _ _ (E4.trans e5) h5⟩)
theorem c_once (s : Bool) {pi pt px : Option Addr} {i t x : Tr} {w : World} {R : Ending → World → Prop} (hi : IsN w pi i) (ht : IsN w pt t) (hx : IsN w px x) (hs : i.size + 1 + x.size + 1 ≤ BIG)
    (h : ∀ q w', Ext w w' → IsN w' q (onceW s i t.key t.val x) → R (.returned (.pointer q)) w') : Calls Tryz.prog 325 #[.int .i64 (sW s), .pointer pi, .pointer pt, .pointer px] w R := by
  refine sh325_ok _ _ _ _ ?_
  unfold sh325
  have hz := size_two s x
  refine do_call Tryz.call323 (c_other s (retS_ret ⟨_, rfl, ?_⟩))
  refine do_call Tryz.call324 (c_at (!s) hx fun q1 w1 e1 h1 => retS_ret ⟨_, rfl, ?_⟩)
  rw [outS_not] at h1
  refine do_call Tryz.call322 (c_mkW s (hi.ext e1) (ht.ext e1) h1 (by omega) fun q2 w2 e2 h2 => retS_ret ⟨_, rfl, ?_⟩)
  have E2 := e1.trans e2
  refine do_call Tryz.call324 (c_at s (hx.ext E2) fun q3 w3 e3 h3 => retS_ret ⟨_, rfl, ?_⟩)
  have E3 := E2.trans e3
  exact do_call Tryz.call322 (c_mkW s (h2.ext e3) (hx.ext E3) h3 (by rw [mkWS_size]; omega) fun q4 w4 e4 h4 => retS_ret ⟨_, rfl, h _ _ (E3.trans e4) h4⟩)
theorem c_twice (s : Bool) {pi pt px : Option Addr} {i t x : Tr} {w : World} {R : Ending → World → Prop} (hi : IsN w pi i) (ht : IsN w pt t) (hx : IsN w px x) (hs : i.size + 1 + x.size + 2 ≤ BIG)
    (h : ∀ q w', Ext w w' → IsN w' q (twiceW s i t.key t.val x) → R (.returned (.pointer q)) w') : Calls Tryz.prog 326 #[.int .i64 (sW s), .pointer pi, .pointer pt, .pointer px] w R := by
  refine sh326_ok _ _ _ _ ?_
  unfold sh326
  have hz := size_two s x
  have hz2 := size_two s (inS s x)
  refine do_call Tryz.call323 (c_other s (retS_ret ⟨_, rfl, ?_⟩))
  refine do_call Tryz.call324 (c_at (!s) hx fun qm w1 e1 hm => retS_ret ⟨_, rfl, ?_⟩)
  rw [outS_not] at hm
  refine do_call Tryz.call323 (c_other s (retS_ret ⟨_, rfl, ?_⟩))
  refine do_call Tryz.call324 (c_at (!s) hm fun q2 w2 e2 h2 => retS_ret ⟨_, rfl, ?_⟩)
  rw [outS_not] at h2
  have E2 := e1.trans e2
  refine do_call Tryz.call322 (c_mkW s (hi.ext E2) (ht.ext E2) h2 (by omega) fun q3 w3 e3 h3 => retS_ret ⟨_, rfl, ?_⟩)
  have E3 := E2.trans e3
  refine do_call Tryz.call324 (c_at s (hm.ext (e2.trans e3)) fun q4 w4 e4 h4 => retS_ret ⟨_, rfl, ?_⟩)
  have E4 := E3.trans e4
  refine do_call Tryz.call324 (c_at s (hx.ext E4) fun q5 w5 e5 h5 => retS_ret ⟨_, rfl, ?_⟩)
  have E5 := E4.trans e5
  refine do_call Tryz.call322 (c_mkW s (h4.ext e5) (hx.ext E5) h5 (by omega) fun q6 w6 e6 h6 => retS_ret ⟨_, rfl, ?_⟩)
  have E6 := E5.trans e6
  exact do_call Tryz.call322 (c_mkW s (h3.ext ((e4.trans e5).trans e6)) (hm.ext ((((e2.trans e3).trans e4).trans e5).trans e6)) h6 (by rw [mkWS_size, mkWS_size]; omega) fun q7 w7 e7 h7 => retS_ret ⟨_, rfl, h _ _ (E6.trans e7) h7⟩)
def turnEs (s : Bool) : Array MapEntry := #[{ key := .bool true, val := .func (.func 325) #[.int .i64 (sW s)] #[], born := 0 }, { key := .bool false, val := .func (.func 326) #[.int .i64 (sW s)] #[], born := 1 }]
set_option maxRecDepth 20000 in
theorem c_hangW (s : Bool) {k v : Int} {low pair : Tr} (hlow : Wb low) (hpk : pair.key = k) (hpv : pair.val = v) : ∀ (n : Nat) (t : Tr) {p pp pl : Option Addr} {w : World} {R : Ending → World → Prop} (_hn : t.size ≤ n) (_ht : IsN w p t) (_hp : IsN w pp pair) (_hl : IsN w pl low)
    (_ha : Wb t) (_hg : 29 * wtW low ≤ 71 * wtW t) (_hs : t.size + low.size + 5 ≤ BIG) (_h : ∀ q w', Ext w w' → IsN w' q (hangW s k v low t) → R (.returned (.pointer q)) w'),
    Calls Tryz.prog 278 #[.int .i64 (sW s), .pointer p, .pointer pp, .pointer pl] w R := fun n => by
  induction n with
  | zero =>
    intro t p pp pl w R hn ht hp hl ha hg hs h
    have : t = .nil := by
      cases t with
      | nil => rfl
      | node l a b c r => simp [Tr.size] at hn
    subst this
    obtain rfl : p = none := ht
    refine sh278_ok _ _ _ _ ?_
    unfold sh278
    intro K7
    refine ifB_t rfl (do_call Tryz.call322 (c_mkW s (i := .nil) rfl hp hl (by simp only [Tr.size]; omega) fun q w1 e1 h1 => retS_ret ⟨_, rfl, h _ _ e1 ?_⟩))
    rw [hpk, hpv] at h1
    exact h1
  | succ n ih =>
    intro t p pp pl w R hn ht hp hl ha hg hs h
    refine sh278_ok _ _ _ _ ?_
    unfold sh278
    intro K7
    cases hnn : t.nn with
    | false =>
      have := Tr.size0 hnn
      subst this
      obtain rfl : p = none := ht
      refine ifB_t rfl (do_call Tryz.call322 (c_mkW s (i := .nil) rfl hp hl (by simp only [Tr.size]; omega) fun q w1 e1 h1 => retS_ret ⟨_, rfl, h _ _ e1 ?_⟩))
      rw [hpk, hpv] at h1
      exact h1
    | true =>
    obtain ⟨hi, ho, hwt, hlk⟩ := ha.sides s hnn
    have hlk' := likeW_iff.1 hlk
    have hsz := size_nn2 s hnn
    rw [hangW_eq s k v low hnn] at h
    refine ifB_f (by rw [ht.isNone, hnn]; rfl) ?_
    simp only [BIG] at hs
    refine do_call Tryz.call277 (c_weight ht (by simp only [BIG]; omega) fun w1 e1 => retS_ret ⟨_, rfl, ?_⟩)
    refine do_call Tryz.call277 (c_weight (hl.ext e1) (by simp only [BIG]; omega) fun w2 e2 => retS_ret ⟨_, rfl, ?_⟩)
    refine do_call Tryz.call279 (c_like (by unfold wtW; omega) (by unfold wtW; omega) fun w3 e3 => retS_ret ⟨_, rfl, ?_⟩)
    have E3 := (e1.trans e2).trans e3
    cases hb : likeW (wtW t) (wtW low) with
    | true =>
      rw [hb, if_pos rfl] at h
      refine ifB_t rfl (do_call Tryz.call322 (c_mkW s (ht.ext E3) (hp.ext E3) (hl.ext E3) (by simp only [BIG]; omega) fun q w4 e4 h4 => retS_ret ⟨_, rfl, h _ _ (E3.trans e4) ?_⟩))
      rw [hpk, hpv] at h4
      exact h4
    | false =>
      rw [hb, if_neg (by simp)] at h
      rw [likeW_not] at hb
      have hok := hangW_ok s k v low hlow n (outS s t) (by omega) ho (by omega)
      have hxs : wtW (hangW s k v low (outS s t)) = wtW (outS s t) + wtW low := hok.wt
      have hxz := size_two s (hangW s k v low (outS s t))
      refine ifB_f rfl ?_
      refine do_call Tryz.call323 (c_other s (retS_ret ⟨_, rfl, ?_⟩))
      refine do_call Tryz.call324 (c_at (!s) (ht.ext E3) fun qi w4 e4 h4 => retS_ret ⟨_, rfl, ?_⟩)
      rw [outS_not] at h4
      have E4 := E3.trans e4
      refine do_call Tryz.call324 (c_at s (ht.ext E4) fun qo w5 e5 h5 => retS_ret ⟨_, rfl, ?_⟩)
      have E5 := E4.trans e5
      refine do_call Tryz.call278 (ih (outS s t) (by omega) h5 (hp.ext E5) (hl.ext E5) ho (by omega) (by simp only [BIG]; omega) fun qx w6 e6 h6 => retS_ret ⟨_, rfl, ?_⟩)
      have E6 := E5.trans e6
      have h4 := h4.ext (e5.trans e6)
      generalize hangW s k v low (outS s t) = x at *
      have hxsz : x.size = (outS s t).size + low.size + 1 := by unfold wtW at hxs; omega
      refine do_call Tryz.call277 (c_weight h4 (by simp only [BIG]; omega) fun w7 e7 => retS_ret ⟨_, rfl, ?_⟩)
      refine do_call Tryz.call277 (c_weight (h6.ext e7) (by simp only [BIG]; omega) fun w8 e8 => retS_ret ⟨_, rfl, ?_⟩)
      refine do_call Tryz.call279 (c_like (by unfold wtW; omega) (by unfold wtW; omega) fun w9 e9 => retS_ret ⟨_, rfl, ?_⟩)
      have e69 := (e7.trans e8).trans e9
      have E9 := E6.trans e69
      have h4 := h4.ext e69
      have h6 := h6.ext e69
      unfold backW at h
      cases hc : likeW (wtW (inS s t)) (wtW x) with
      | true =>
        rw [hc, if_pos rfl] at h
        exact ifB_t rfl (do_call Tryz.call322 (c_mkW s h4 (ht.ext E9) h6 (by simp only [BIG]; omega) fun q w10 e10 h10 => retS_ret ⟨_, rfl, h _ _ (E9.trans e10) h10⟩))
      | false =>
        rw [hc, if_neg (by simp)] at h
        refine ifB_f rfl ?_
        refine do_call Tryz.call323 (c_other s (retS_ret ⟨_, rfl, ?_⟩))
        refine do_call Tryz.call324 (c_at (!s) h6 fun qa w10 e10 ha' => retS_ret ⟨_, rfl, ?_⟩)
        rw [outS_not] at ha'
        refine do_call Tryz.call277 (c_weight ha' (by simp only [BIG]; omega) fun w11 e11 => retS_ret ⟨_, rfl, ?_⟩)
        have e911 := e10.trans e11
        refine do_call Tryz.call324 (c_at s (h6.ext e911) fun qb w12 e12 hb' => retS_ret ⟨_, rfl, ?_⟩)
        refine do_call Tryz.call277 (c_weight hb' (by simp only [BIG]; omega) fun w13 e13 => retS_ret ⟨_, rfl, ⟨?_⟩⟩)
        have e913 := (e911.trans e12).trans e13
        refine do_mu_new Tryz.underlying367 Tryz.underlying4 (heap_alloc_new w13 _) (by trivial) (by rfl) fun w14 h14 g14 => ?_
        refine do_mu_new Tryz.underlying367 Tryz.underlying4 h14 (by trivial) (by rfl) fun w15 h15 g15 => ?_
        have e15 : Ext w13 w15 := ((ext_alloc w13 _).st g14 (Nat.le_refl _)).st g15 (Nat.le_refl _)
        have h15 : w15.heap[w13.heap.size]? = some (.map (turnEs s) 2) := h15
        have e915 := e913.trans e15
        intro K56
        refine do_call Tryz.call279 (c_like (by unfold wtW; omega) (by unfold wtW; omega) fun w16 e16 => retS_ret ⟨_, rfl, ?_⟩)
        have e916 := e915.trans e16
        have htwice : ∀ w', Ext w15 w' → (likeW (wtW (inS s t)) (wtW (inS s x)) && likeW (wtW (inS s t) + wtW (inS s x)) (wtW (outS s x))) = false →
            doLk Tryz.prog 367 (.map (some w13.heap.size)) (.bool false) false w' (fun v76 => (∃ (xf73 : Fn), ∃ (xx74 : Array Value), ∃ (xc75 : Array Value), v76 = (.func xf73 xx74 xc75 : Value) ∧ (
              doCall Tryz.prog (.func xf73 xx74 xc75) #[.pointer qi, .pointer p, .pointer qx] w' (retS (fun v78 w79 => ∃ (x77 : Option Addr), v78 = (.pointer x77 : Value) ∧ (K56 x77 w79)) (fun ch w => Kfn R ch [] w)))) ∨ (v76 = (.nilFunc : Value) ∧ (
              doCall Tryz.prog (.nilFunc) #[.pointer qi, .pointer p, .pointer qx] w' (retS (fun v81 w82 => ∃ (x80 : Option Addr), v81 = (.pointer x80 : Value) ∧ (K56 x80 w82)) (fun ch w => Kfn R ch [] w))))) := by
          intro w' e' hd
          rw [hd, if_neg (by simp)] at h
          have e9' := e915.trans e'
          refine do_lk1_hit Tryz.underlying367 Tryz.underlying4 (e'.heap h15) (by trivial) (i := 1) (v := .func (.func 326) #[.int .i64 (sW s)] #[]) (by rfl) (.inl ⟨_, _, _, rfl, ⟨?_⟩⟩)
          exact callV_func Tryz.call326 (c_twice s (h4.ext e9') (ht.ext (E9.trans e9')) (h6.ext e9') (by simp only [BIG]; omega) fun q w17 e17 h17 => retS_ret ⟨_, rfl, h _ _ ((E9.trans e9').trans e17) h17⟩)
        refine ifB_intro (fun hla => ?_) fun hla => htwice w16 e16 (by rw [hla]; rfl)
        have ew : IntKind.wrap .i64 (((wtW (inS s t) : Nat) : Int) + ((wtW (inS s x) : Nat) : Int)) = ((wtW (inS s t) + wtW (inS s x) : Nat) : Int) := by
          unfold wtW; rw [wrap_of (by omega) (by omega)]; omega
        rw [ew]
        refine do_call Tryz.call279 (c_like (by unfold wtW; omega) (by unfold wtW; omega) fun w17 e17 => retS_ret ⟨_, rfl, ?_⟩)
        have e917 := e916.trans e17
        cases hlb : likeW (wtW (inS s t) + wtW (inS s x)) (wtW (outS s x)) with
        | false => exact htwice w17 (e16.trans e17) (by rw [hla, hlb]; rfl)
        | true =>
          rw [hla, hlb, if_pos (by rfl)] at h
          refine do_lk1_hit Tryz.underlying367 Tryz.underlying4 ((e16.trans e17).heap h15) (by trivial) (i := 0) (v := .func (.func 325) #[.int .i64 (sW s)] #[]) (by rfl) (.inl ⟨_, _, _, rfl, ⟨?_⟩⟩)
          exact callV_func Tryz.call325 (c_once s (h4.ext e917) (ht.ext (E9.trans e917)) (h6.ext e917) (by simp only [BIG]; omega) fun q w18 e18 h18 => retS_ret ⟨_, rfl, h _ _ ((E9.trans e917).trans e18) h18⟩)
theorem c_wjoin {k v : Int} {l r : Tr} {pl pr : Option Addr} {w : World} {R : Ending → World → Prop} (hl : IsN w pl l) (hr : IsN w pr r) (al : Wb l) (ar : Wb r) (hs : l.size + r.size + 5 ≤ BIG)
    (h : ∀ q w', Ext w w' → IsN w' q (joinW l k v r) → R (.returned (.pointer q)) w') : Calls Tryz.prog 230 #[.pointer pl, .int .i64 k, .int .i64 v, .pointer pr] w R := by
  refine sh230_ok _ _ _ _ ?_
  unfold sh230
  refine do_call Tryz.call276 (c_wmake (l := .nil) (r := .nil) rfl rfl (by decide) fun qp w1 e1 hp => retS_ret ⟨_, rfl, ?_⟩)
  refine do_call Tryz.call277 (c_weight (hl.ext e1) (by omega) fun w2 e2 => retS_ret ⟨_, rfl, ?_⟩)
  refine do_call Tryz.call277 (c_weight (hr.ext (e1.trans e2)) (by omega) fun w3 e3 => retS_ret ⟨_, rfl, ?_⟩)
  have E3 := (e1.trans e2).trans e3
  have hp3 := hp.ext (e2.trans e3)
  unfold joinW at h
  refine ifB_intro (fun hc => ?_) fun hc => ?_
  · have hc : wtW l < wtW r := by have := of_decide_eq_true hc; omega
    rw [if_pos hc] at h
    exact do_call Tryz.call278 (c_hangW false al rfl rfl r.size r (Nat.le_refl _) (hr.ext E3) hp3 (hl.ext E3) ar (by omega) (by omega) fun q w5 e5 h5 => retS_ret ⟨_, rfl, h _ _ (E3.trans e5) h5⟩)
  · have hc : ¬ wtW l < wtW r := by have := of_decide_eq_false hc; omega
    rw [if_neg hc] at h
    exact do_call Tryz.call278 (c_hangW true ar rfl rfl l.size l (Nat.le_refl _) (hl.ext E3) hp3 (hr.ext E3) al (by omega) (by omega) fun q w5 e5 h5 => retS_ret ⟨_, rfl, h _ _ (E3.trans e5) h5⟩)
end Go.Proofs.YtlddfgfmkapoiaaGreat

namespace Go.Proofs.YtlddfgfmkapoiaaGreat
open Go Go.Sh Go.RowKit

abbrev agI (x : It) : Value := .agg #[.int .i64 x.1, .int .i64 x.2.1, .int .u64 x.2.2]
theorem c_titem {p : Option Addr} {t : Tr} {w : World} {R : Ending → World → Prop} (ht : IsN w p t) (h : ∀ w', Ext w w' → R (.returned (agI (t.key, t.val, t.tag))) w') : Calls Tryz.prog 306 #[.pointer p] w R := by
  refine sh306_ok _ ?_
  unfold sh306
  have e0 := ext_alloc w (.cells #[.int .i64 0, .int .i64 0, .int .u64 0] 114)
  have hb := blk_alloc w #[.int .i64 0, .int .i64 0, .int .u64 0] 114
  refine ⟨do_call Tryz.call108 (c_key (ht.ext e0) fun w1 e1 => retS_ret ⟨_, rfl, ?_⟩)⟩
  have E1 := e0.trans e1
  refine do_call Tryz.call126 (c_val (ht.ext E1) fun w2 e2 => retS_ret ⟨_, rfl, ?_⟩)
  have E2 := E1.trans e2
  refine do_call Tryz.call196 (c_tag (ht.ext E2) fun w3 e3 => retS_ret ⟨_, rfl, ?_⟩)
  have E3 := E2.trans e3
  refine do_st3 (hb.ext ((e1.trans e2).trans e3)) fun w4 h4 g4 => ⟨_, h4.cell (i := 0) (add_blk _ _) rfl, _, h4.cell (i := 1) (add_blk _ _) rfl, _, h4.cell (i := 2) (add_blk _ _) rfl, h _ (E3.st g4 (Nat.le_refl _))⟩
theorem c_tabove {a b : It} {w : World} {R : Ending → World → Prop} (h : ∀ w', Ext w w' → R (.returned (.bool (decide (b.2.2 < a.2.2) || (decide (a.2.2 = b.2.2) && decide (b.1 < a.1))))) w') : Calls Tryz.prog 305 #[agI a, agI b] w R := by
  refine sh305_ok _ _ _ _ _ _ ?_
  unfold sh305
  have e0 := ext_alloc w (.cells #[.int .i64 a.1, .int .i64 a.2.1, .int .u64 a.2.2] 114)
  have hb := blk_alloc w #[.int .i64 a.1, .int .i64 a.2.1, .int .u64 a.2.2] 114
  refine ⟨⟨?_⟩⟩
  intro K13
  generalize w.alloc (.cells #[.int .i64 a.1, .int .i64 a.2.1, .int .u64 a.2.2] 114) = w1 at *
  have e1 := ext_alloc w1 (.cells #[.int .i64 b.1, .int .i64 b.2.1, .int .u64 b.2.2] 114)
  have hc := blk_alloc w1 #[.int .i64 b.1, .int .i64 b.2.1, .int .u64 b.2.2] 114
  have hb := hb.ext e1
  have hr := h _ (e0.trans e1)
  refine ⟨_, hb.cell (i := 2) (add_blk _ _) rfl, _, hc.cell (i := 2) (add_blk _ _) rfl, ifB_intro (fun h1 => ?_) fun h1 => ?_⟩
  · have h1 : b.2.2 < a.2.2 := of_decide_eq_true h1
    rw [decide_eq_true h1] at hr; exact hr
  · have h1 : ¬ b.2.2 < a.2.2 := of_decide_eq_false h1
    rw [decide_eq_false h1, Bool.false_or] at hr
    refine ⟨_, hb.cell (i := 2) (add_blk _ _) rfl, _, hc.cell (i := 2) (add_blk _ _) rfl, ifB_intro (fun h2 => ?_) fun h2 => ?_⟩
    · have h2 : a.2.2 = b.2.2 := by simpa using h2
      rw [decide_eq_true h2, Bool.true_and] at hr
      exact ⟨_, hb.cell (i := 0) (add_blk _ _) rfl, _, hc.cell (i := 0) (add_blk _ _) rfl, hr⟩
    · have h2 : ¬ a.2.2 = b.2.2 := by simpa using h2
      rw [decide_eq_false h2, Bool.false_and] at hr; exact hr
theorem c_abT {p q : Option Addr} {a b : Tr} {w : World} {R : Ending → World → Prop} (ha : IsN w p a) (hb : IsN w q b) (h : ∀ w', Ext w w' → R (.returned (.bool (abT a b))) w') : Calls Tryz.prog 253 #[.pointer p, .pointer q] w R := by
  refine sh253_ok _ _ ?_
  unfold sh253
  intro K5
  rw [ha.isNone, hb.isNone]
  unfold abT at h
  cases hn : a.nn with
  | false => rw [hn] at h; exact ifB_f rfl (h _ (ext_refl _))
  | true =>
    refine ifB_t rfl ?_
    cases hm : b.nn with
    | false => rw [hn, hm] at h; exact ifB_f rfl (h _ (ext_refl _))
    | true =>
      rw [hn, hm] at h
      refine ifB_t rfl (do_call Tryz.call306 (c_titem ha fun w1 e1 => retS_ret ⟨_, _, _, rfl, ?_⟩))
      refine do_call Tryz.call306 (c_titem (hb.ext e1) fun w2 e2 => retS_ret ⟨_, _, _, rfl, ?_⟩)
      exact do_call Tryz.call305 (c_tabove (a := (a.key, a.val, a.tag)) (b := (b.key, b.val, b.tag)) fun w3 e3 => retS_ret ⟨_, rfl, h _ ((e1.trans e2).trans e3)⟩)
set_option maxRecDepth 20000 in
/-- does a root stand above two others? -/
theorem c_tis {pa pb pm q : Option Addr} {c : Nat} {a b m : Tr} {w : World} {R : Ending → World → Prop} (ha : IsN w pa a) (hb : IsN w pb b) (hm : IsN w pm m) (hmn : m.nn = true) (hc : Cs w q [.pointer pm, .pointer pb])
    (h : ∀ w', Ext w w' → R (.returned (.bool (topT a b m))) w') : Calls Tryz.prog 390 #[.pointer pa, .slice q 2 c] w R := by
  refine sh390_ok _ _ _ _ ?_
  unfold sh390
  refine ⟨fun vs w' => Ext w w' ∧ ((vs = [.int .i64 0]) ∨ (vs = [.int .i64 1] ∧ abT a m = true) ∨ (vs = [.int .i64 2] ∧ abT a m = true ∧ (b.nn = true → abT a b = true))), fun vs _ => 2 - (intOf (vs.getD 0 undef)).toNat, ⟨ext_refl _, .inl rfl⟩, ?_⟩
  rintro i _ w2 ⟨E, hv⟩
  rcases hv with hv | ⟨hv, h1⟩ | ⟨hv, h1, h2⟩ <;> (simp only [List.cons.injEq, Value.int.injEq, true_and, and_true] at hv; subst hv)
  · refine ifB_t (by decide) ?_
    intro K11
    obtain ⟨ad, rfl, hr⟩ := hc 0 _ rfl
    refine ⟨_, rfl, by decide, by decide, _, (by have := E.cell hr; exact this), ?_⟩
    intro K16
    refine ifB_t (by rw [hm.isNone, hmn]; rfl) (do_call Tryz.call253 (c_abT (ha.ext E) (hm.ext E) fun w3 e3 => retS_ret ⟨_, rfl, ?_⟩))
    cases hab : abT a m with
    | false =>
      have := h _ (E.trans e3)
      unfold topT at this; rw [hab] at this
      exact ifB_t rfl this
    | true => exact ifB_f rfl ⟨⟨E.trans e3, .inr (.inl ⟨rfl, hab⟩)⟩, by show 2 - (1 : Nat) < 2 - 0; omega⟩
  · refine ifB_t (by decide) ?_
    intro K11
    obtain ⟨ad, rfl, hr⟩ := hc 1 _ rfl
    refine ⟨_, rfl, by decide, by decide, _, (by have := E.cell hr; exact this), ?_⟩
    intro K16
    refine ifB_intro (fun hbn => ?_) fun hbn => ?_
    · have hbn : b.nn = true := by rw [hb.isNone] at hbn; simpa using hbn
      refine do_call Tryz.call253 (c_abT (ha.ext E) (hb.ext E) fun w3 e3 => retS_ret ⟨_, rfl, ?_⟩)
      cases hab : abT a b with
      | false =>
        have := h _ (E.trans e3)
        unfold topT at this; rw [h1, hbn, hab] at this
        exact ifB_t rfl this
      | true => exact ifB_f rfl ⟨⟨E.trans e3, .inr (.inr ⟨rfl, h1, fun _ => hab⟩)⟩, by show 2 - (2 : Nat) < 2 - 1; omega⟩
    · have hbn : b.nn = false := by rw [hb.isNone] at hbn; simpa using hbn
      exact ⟨⟨E, .inr (.inr ⟨rfl, h1, fun h => by rw [hbn] at h; cases h⟩)⟩, by show 2 - (2 : Nat) < 2 - 1; omega⟩
  · refine ifB_f (by decide) ?_
    have := h _ E
    unfold topT at this
    have e : (!b.nn || abT a b) = true := by
      cases hbn : b.nn with
      | false => rfl
      | true => rw [h2 hbn]; rfl
    rw [h1, e] at this
    have hn := (abT_iff.1 h1).1
    rw [ha.isNone, hn]
    exact this
theorem joinT_eq {n : Nat} {l r : Tr} (k v g : Int) (hs : l.size + r.size ≤ n) : joinT n l k v g r =
    if topT l r (midT k v g) then .node l.left l.key l.val l.tag (joinT (n - 1) l.right k v g r)
    else if topT r l (midT k v g) then .node (joinT (n - 1) l k v g r.left) r.key r.val r.tag r.right
    else if abT l (midT k v g) then .node l.left l.key l.val l.tag (joinT (n - 1) l.right k v g r)
    else if abT r (midT k v g) then .node (joinT (n - 1) l k v g r.left) r.key r.val r.tag r.right
    else .node l k v g r := by
  cases n with
  | zero =>
    obtain rfl : l = .nil := by cases l <;> simp [Tr.size] at hs ⊢
    obtain rfl : r = .nil := by cases r <;> simp [Tr.size] at hs ⊢
    rfl
  | succ n => rfl
theorem joinT_size : ∀ (n : Nat) {l r : Tr} {k v g : Int}, l.size + r.size ≤ n → (joinT n l k v g r).size = l.size + 1 + r.size := fun n => by
  induction n with
  | zero => intro l r k v g hs; rfl
  | succ n ih =>
    intro l r k v g hs
    have hl : abT l (midT k v g) = true → (Tr.node l.left l.key l.val l.tag (joinT n l.right k v g r)).size = l.size + 1 + r.size := fun h => by
      have := size_nn (abT_iff.1 h).1
      show l.left.size + 1 + (joinT n l.right k v g r).size = _
      rw [ih (by omega)]; omega
    have hr : abT r (midT k v g) = true → (Tr.node (joinT n l k v g r.left) r.key r.val r.tag r.right).size = l.size + 1 + r.size := fun h => by
      have := size_nn (abT_iff.1 h).1
      show (joinT n l k v g r.left).size + 1 + r.right.size = _
      rw [ih (by omega)]; omega
    have no {a b : Tr} (h : topT a b (midT k v g) = true) : abT a (midT k v g) = true := by
      unfold topT at h
      revert h
      cases abT a (midT k v g) <;> simp
    unfold joinT
    split
    · rename_i h; exact hl (no h)
    · split
      · rename_i h; exact hr (no h)
      · split
        · rename_i h; exact hl h
        · split
          · rename_i h; exact hr h
          · rfl
abbrev RecT (k v g : Int) (n : Nat) : Prop := n ≠ 0 → ∀ {l r : Tr} {pl pr : Option Addr} {w : World} {R : Ending → World → Prop}, l.size + r.size ≤ n - 1 → IsN w pl l → IsN w pr r → l.size + r.size + 5 ≤ BIG →
  (∀ q w', Ext w w' → IsN w' q (joinT (n - 1) l k v g r) → R (.returned (.pointer q)) w') → Calls Tryz.prog 387 #[.pointer pl, .agg #[.int .i64 k, .int .i64 v, .int .u64 g], .pointer pr] w R
set_option maxRecDepth 20000 in
theorem c_tboth {k v g : Int} {n : Nat} (rec : RecT k v g n) {l r : Tr} {pl pm pr : Option Addr} {w : World} {R : Ending → World → Prop} (hs : l.size + r.size ≤ n) (hl : IsN w pl l) (hm : IsN w pm (midT k v g)) (hr : IsN w pr r) (hB : l.size + r.size + 5 ≤ BIG)
    (t1 : topT l r (midT k v g) = false) (t2 : topT r l (midT k v g) = false) (h : ∀ q w', Ext w w' → IsN w' q (joinT n l k v g r) → R (.returned (.pointer q)) w') : Calls Tryz.prog 391 #[.pointer pl, .pointer pm, .pointer pr] w R := by
  refine sh391_ok _ _ _ ?_
  unfold sh391
  rw [joinT_eq k v g hs, t1, t2] at h
  simp only [Bool.false_eq_true, if_false] at h
  simp only [BIG] at hB
  refine do_call Tryz.call108 (c_key hm fun w1 e1 => retS_ret ⟨_, rfl, ?_⟩)
  refine do_call Tryz.call126 (c_val (hm.ext e1) fun w2 e2 => retS_ret ⟨_, rfl, ?_⟩)
  refine do_call Tryz.call196 (c_tag (hm.ext (e1.trans e2)) fun w3 e3 => retS_ret ⟨_, rfl, ⟨?_⟩⟩)
  have E3 := (e1.trans e2).trans e3
  refine do_st3 (blk_alloc w3 _ _) fun w4 h4 g4 => ?_
  have E4 : Ext w w4 := E3.trans ((ext_alloc w3 _).st g4 (Nat.le_refl _))
  have h4 : Blk w4 w3.heap.size #[.int .i64 k, .int .i64 v, .int .u64 g] 114 := h4
  refine do_call Tryz.call253 (c_abT (hl.ext E4) (hm.ext E4) fun w5 e5 => retS_ret ⟨_, rfl, ?_⟩)
  have E5 := E4.trans e5
  have h5b := h4.ext e5
  have hl5 := hl.ext E5
  have hr5 := hr.ext E5
  cases ha : abT l (midT k v g) with
  | true =>
    have hln := (abT_iff.1 ha).1
    rw [ha, if_pos rfl] at h
    refine ifB_t rfl ?_
    refine ⟨⟨fun w' => Ext w5 w', ext_drew _, _, fun w' e => (h5b.ext e).cell (i := 0) (add_blk _ _) rfl, _, fun w' e => (h5b.ext e).cell (i := 1) (add_blk _ _) rfl, _, fun w' e => (h5b.ext e).cell (i := 2) (add_blk _ _) rfl, ?_⟩⟩
    have d := ext_drew w5
    refine do_call Tryz.call123 (c_left (hl5.ext d) fun q1 h1 => retS_ret ⟨_, rfl, d, ?_⟩)
    refine do_call Tryz.call108 (c_key (hl5.ext d) fun w2 e2 => retS_ret ⟨_, rfl, d.trans e2, ?_⟩)
    have d2 := d.trans e2
    refine do_call Tryz.call126 (c_val (hl5.ext d2) fun w3 e3 => retS_ret ⟨_, rfl, d2.trans e3, ?_⟩)
    have d3 := d2.trans e3
    refine do_call Tryz.call196 (c_tag (hl5.ext d3) fun w4 e4 => retS_ret ⟨_, rfl, d3.trans e4, ?_⟩)
    have d4 := d3.trans e4
    refine do_call Tryz.call125 (c_right (hl5.ext d4) fun q5 h5 => retS_ret ⟨_, rfl, d4, ?_⟩)
    have hsz := size_nn hln
    refine do_call Tryz.call387 (rec (by omega) (by omega) h5 (hr5.ext d4) (by simp only [BIG]; omega) fun q6 w6 e6 h6 => retS_ret ⟨_, rfl, ?_⟩)
    have d6 := d4.trans e6
    have hjs : (joinT (n - 1) l.right k v g r).size = l.right.size + 1 + r.size := joinT_size _ (by omega)
    exact do_call Tryz.call105 (c_new (h1.ext (((e2.trans e3).trans e4).trans e6)) h6 (by rw [hjs]; omega) fun b7 w7 e7 h7 _ => retS_ret ⟨_, rfl, d6.trans e7, h _ _ ((E5.trans d6).trans e7) h7⟩)
  | false =>
    rw [ha, if_neg (by simp)] at h
    refine ifB_f rfl (do_call Tryz.call253 (c_abT hr5 (hm.ext E5) fun w6 e6 => retS_ret ⟨_, rfl, ?_⟩))
    have E6 := E5.trans e6
    have h6b := h5b.ext e6
    have hl6 := hl5.ext e6
    have hr6 := hr5.ext e6
    cases hb : abT r (midT k v g) with
    | true =>
      have hrn := (abT_iff.1 hb).1
      rw [hb, if_pos rfl] at h
      refine ifB_t rfl ?_
      refine ⟨⟨fun w' => Ext w6 w', ext_drew _, _, fun w' e => (h6b.ext e).cell (i := 0) (add_blk _ _) rfl, _, fun w' e => (h6b.ext e).cell (i := 1) (add_blk _ _) rfl, _, fun w' e => (h6b.ext e).cell (i := 2) (add_blk _ _) rfl, ?_⟩⟩
      have d := ext_drew w6
      have hsz := size_nn hrn
      refine do_call Tryz.call123 (c_left (hr6.ext d) fun q1 h1 => retS_ret ⟨_, rfl, d, ?_⟩)
      refine do_call Tryz.call387 (rec (by omega) (by omega) (hl6.ext d) h1 (by simp only [BIG]; omega) fun q2 w2 e2 h2 => retS_ret ⟨_, rfl, ?_⟩)
      have d2 := d.trans e2
      have hjs : (joinT (n - 1) l k v g r.left).size = l.size + 1 + r.left.size := joinT_size _ (by omega)
      refine do_call Tryz.call108 (c_key (hr6.ext d2) fun w3 e3 => retS_ret ⟨_, rfl, d2.trans e3, ?_⟩)
      have d3 := d2.trans e3
      refine do_call Tryz.call126 (c_val (hr6.ext d3) fun w4 e4 => retS_ret ⟨_, rfl, d3.trans e4, ?_⟩)
      have d4 := d3.trans e4
      refine do_call Tryz.call196 (c_tag (hr6.ext d4) fun w5 e5 => retS_ret ⟨_, rfl, d4.trans e5, ?_⟩)
      have d5 := d4.trans e5
      refine do_call Tryz.call125 (c_right (hr6.ext d5) fun q6 h6 => retS_ret ⟨_, rfl, d5, ?_⟩)
      exact do_call Tryz.call105 (c_new (h2.ext ((e3.trans e4).trans e5)) h6 (by rw [hjs]; omega) fun b7 w7 e7 h7 _ => retS_ret ⟨_, rfl, d5.trans e7, h _ _ ((E6.trans d5).trans e7) h7⟩)
    | false =>
      rw [hb, if_neg (by simp)] at h
      refine ifB_f rfl ⟨_, h6b.cell (i := 0) (add_blk _ _) rfl, _, h6b.cell (i := 1) (add_blk _ _) rfl, _, h6b.cell (i := 2) (add_blk _ _) rfl, ?_⟩
      exact do_call Tryz.call105 (c_new hl6 hr6 (by omega) fun b7 w7 e7 h7 _ => retS_ret ⟨_, rfl, h _ _ (E6.trans e7) h7⟩)
set_option maxRecDepth 20000 in
theorem c_tstep {k v g : Int} {n : Nat} (rec : RecT k v g n) {l r : Tr} {pl pr : Option Addr} {w : World} {R : Ending → World → Prop} (hs : l.size + r.size ≤ n) (hl : IsN w pl l) (hr : IsN w pr r) (hB : l.size + r.size + 5 ≤ BIG)
    (h : ∀ q w', Ext w w' → IsN w' q (joinT n l k v g r) → R (.returned (.pointer q)) w') : Calls Tryz.prog 387 #[.pointer pl, .agg #[.int .i64 k, .int .i64 v, .int .u64 g], .pointer pr] w R := by
  refine sh387_ok _ _ _ _ _ ?_
  unfold sh387
  have hh := h
  rw [joinT_eq k v g hs] at h
  have hB' := hB
  simp only [BIG] at hB
  refine ⟨?_⟩
  have e0 := ext_alloc w (.cells #[.int .i64 k, .int .i64 v, .int .u64 g] 114)
  have hb := blk_alloc w #[.int .i64 k, .int .i64 v, .int .u64 g] 114
  refine ⟨_, hb.cell (i := 0) (add_blk _ _) rfl, _, hb.cell (i := 1) (add_blk _ _) rfl, _, hb.cell (i := 2) (add_blk _ _) rfl, ?_⟩
  refine do_call Tryz.call105 (c_new (l := .nil) (r := .nil) rfl rfl (by decide) fun bm w1 e1 hm _ => retS_ret ⟨_, rfl, ⟨?_⟩⟩)
  have hm : IsN w1 (some (blk bm)) (midT k v g) := hm
  have E1 := e0.trans e1
  have e2 := ext_alloc w1 (.cells #[.pointer (some (blk bm)), .pointer pr] 35)
  have hc := cs_alloc w1 #[.pointer (some (blk bm)), .pointer pr] 35
  have E2 := E1.trans e2
  refine do_call Tryz.call390 (c_tis (hl.ext E2) (hr.ext E2) (hm.ext e2) rfl hc fun w3 e3 => retS_ret ⟨_, rfl, ⟨?_⟩⟩)
  have E3 := E2.trans e3
  have e4 := ext_alloc w3 (.cells #[.pointer (some (blk bm)), .pointer pl] 35)
  have hc := cs_alloc w3 #[.pointer (some (blk bm)), .pointer pl] 35
  have E4 := E3.trans e4
  refine do_call Tryz.call390 (c_tis (hr.ext E4) (hl.ext E4) (hm.ext ((e2.trans e3).trans e4)) rfl hc fun w5 e5 => retS_ret ⟨_, rfl, ?_⟩)
  have E5 := E4.trans e5
  have h5b := hb.ext ((((e1.trans e2).trans e3).trans e4).trans e5)
  have hl5 := hl.ext E5
  have hr5 := hr.ext E5
  have hm5 := hm.ext (((e2.trans e3).trans e4).trans e5)
  have no {a b : Tr} (h : topT a b (midT k v g) = true) : abT a (midT k v g) = true := by
    unfold topT at h
    revert h
    cases abT a (midT k v g) <;> simp
  have notboth : topT l r (midT k v g) = true → topT r l (midT k v g) = true → False := by
    intro h1 h2
    unfold topT at h1 h2
    have h1 : abT l (midT k v g) = true ∧ (r.nn = false ∨ abT l r = true) := by simpa using h1
    have h2 : abT r (midT k v g) = true ∧ (l.nn = false ∨ abT r l = true) := by simpa using h2
    have n1 := (abT_iff.1 h1.1).1
    have n2 := (abT_iff.1 h2.1).1
    rw [n2] at h1
    rw [n1] at h2
    have a1 := (abT_iff.1 (h1.2.resolve_left (by simp))).2.2
    have a2 := (abT_iff.1 (h2.2.resolve_left (by simp))).2.2
    omega
  cases t1 : topT l r (midT k v g) with
  | true =>
    have t2 : topT r l (midT k v g) = false := by
      cases t2 : topT r l (midT k v g) with
      | false => rfl
      | true => exact (notboth t1 t2).elim
    have hln := (abT_iff.1 (no t1)).1
    rw [t1, if_pos rfl] at h
    rw [t2]
    refine ifB_t rfl ?_
    refine ⟨⟨fun w' => Ext w5 w', ext_drew _, _, fun w' e => (h5b.ext e).cell (i := 0) (add_blk _ _) rfl, _, fun w' e => (h5b.ext e).cell (i := 1) (add_blk _ _) rfl, _, fun w' e => (h5b.ext e).cell (i := 2) (add_blk _ _) rfl, ?_⟩⟩
    have d := ext_drew w5
    refine do_call Tryz.call123 (c_left (hl5.ext d) fun q1 h1 => retS_ret ⟨_, rfl, d, ?_⟩)
    refine do_call Tryz.call108 (c_key (hl5.ext d) fun w2 e2 => retS_ret ⟨_, rfl, d.trans e2, ?_⟩)
    have d2 := d.trans e2
    refine do_call Tryz.call126 (c_val (hl5.ext d2) fun w3 e3 => retS_ret ⟨_, rfl, d2.trans e3, ?_⟩)
    have d3 := d2.trans e3
    refine do_call Tryz.call196 (c_tag (hl5.ext d3) fun w4 e4 => retS_ret ⟨_, rfl, d3.trans e4, ?_⟩)
    have d4 := d3.trans e4
    refine do_call Tryz.call125 (c_right (hl5.ext d4) fun q5 h5 => retS_ret ⟨_, rfl, d4, ?_⟩)
    have hsz := size_nn hln
    refine do_call Tryz.call387 (rec (by omega) (by omega) h5 (hr5.ext d4) (by simp only [BIG]; omega) fun q6 w6 e6 h6 => retS_ret ⟨_, rfl, ?_⟩)
    have d6 := d4.trans e6
    have hjs : (joinT (n - 1) l.right k v g r).size = l.right.size + 1 + r.size := joinT_size _ (by omega)
    exact do_call Tryz.call105 (c_new (h1.ext (((e2.trans e3).trans e4).trans e6)) h6 (by rw [hjs]; omega) fun b7 w7 e7 h7 _ => retS_ret ⟨_, rfl, d6.trans e7, h _ _ ((E5.trans d6).trans e7) h7⟩)
  | false =>
    rw [t1, if_neg (by simp)] at h
    cases t2 : topT r l (midT k v g) with
    | true =>
      have hrn := (abT_iff.1 (no t2)).1
      rw [t2, if_pos rfl] at h
      refine ifB_f rfl (ifB_t rfl ?_)
      refine ⟨⟨fun w' => Ext w5 w', ext_drew _, _, fun w' e => (h5b.ext e).cell (i := 0) (add_blk _ _) rfl, _, fun w' e => (h5b.ext e).cell (i := 1) (add_blk _ _) rfl, _, fun w' e => (h5b.ext e).cell (i := 2) (add_blk _ _) rfl, ?_⟩⟩
      have d := ext_drew w5
      have hsz := size_nn hrn
      refine do_call Tryz.call123 (c_left (hr5.ext d) fun q1 h1 => retS_ret ⟨_, rfl, d, ?_⟩)
      refine do_call Tryz.call387 (rec (by omega) (by omega) (hl5.ext d) h1 (by simp only [BIG]; omega) fun q2 w2 e2 h2 => retS_ret ⟨_, rfl, ?_⟩)
      have d2 := d.trans e2
      have hjs : (joinT (n - 1) l k v g r.left).size = l.size + 1 + r.left.size := joinT_size _ (by omega)
      refine do_call Tryz.call108 (c_key (hr5.ext d2) fun w3 e3 => retS_ret ⟨_, rfl, d2.trans e3, ?_⟩)
      have d3 := d2.trans e3
      refine do_call Tryz.call126 (c_val (hr5.ext d3) fun w4 e4 => retS_ret ⟨_, rfl, d3.trans e4, ?_⟩)
      have d4 := d3.trans e4
      refine do_call Tryz.call196 (c_tag (hr5.ext d4) fun w5 e5 => retS_ret ⟨_, rfl, d4.trans e5, ?_⟩)
      have d5 := d4.trans e5
      refine do_call Tryz.call125 (c_right (hr5.ext d5) fun q6 h6 => retS_ret ⟨_, rfl, d5, ?_⟩)
      exact do_call Tryz.call105 (c_new (h2.ext ((e3.trans e4).trans e5)) h6 (by rw [hjs]; omega) fun b7 w7 e7 h7 _ => retS_ret ⟨_, rfl, d5.trans e7, h _ _ ((E5.trans d5).trans e7) h7⟩)
    | false =>
      refine ifB_f rfl (ifB_f rfl ?_)
      exact do_call Tryz.call391 (c_tboth rec hs hl5 hm5 hr5 hB' t1 t2 fun q w6 e6 h6 => retS_ret ⟨_, rfl, hh _ _ (E5.trans e6) h6⟩)
theorem c_tjoin {k v g : Int} : ∀ (n : Nat) {l r : Tr} {pl pr : Option Addr} {w : World} {R : Ending → World → Prop} (_hs : l.size + r.size ≤ n) (_hl : IsN w pl l) (_hr : IsN w pr r) (_hB : l.size + r.size + 5 ≤ BIG)
    (_h : ∀ q w', Ext w w' → IsN w' q (joinT n l k v g r) → R (.returned (.pointer q)) w'), Calls Tryz.prog 387 #[.pointer pl, .agg #[.int .i64 k, .int .i64 v, .int .u64 g], .pointer pr] w R
  | 0, _, _, _, _, _, _, hs, hl, hr, hB, h => c_tstep (fun h0 => absurd rfl h0) hs hl hr hB h
  | n + 1, _, _, _, _, _, _, hs, hl, hr, hB, h => c_tstep (n := n + 1) (fun _ {_ _ _ _ _ _} hs hl hr hB h => c_tjoin n hs hl hr hB h) hs hl hr hB h
end Go.Proofs.YtlddfgfmkapoiaaGreat

namespace Go.Proofs.YtlddfgfmkapoiaaGreat
open Go Go.Sh Go.RowKit

def nameC (c : Int) : ByteArray := if c = 1 then ⟨#[97, 118, 108]⟩ else if c = 2 then ⟨#[114, 101, 100, 98, 108, 97, 99, 107]⟩ else if c = 3 then ⟨#[119, 101, 105, 103, 104, 116]⟩ else ⟨#[116, 114, 101, 97, 112]⟩
def pjF (c : Int) : Nat := if c = 1 then 218 else if c = 2 then 224 else 230
def kF (c : Int) : Nat := if c = 1 then 219 else if c = 2 then 225 else if c = 3 then 231 else 195
def pF (c : Int) : Nat := if c = 1 then 220 else if c = 2 then 226 else if c = 3 then 232 else 118
def rF (c : Int) : Nat := if c = 1 then 221 else if c = 2 then 227 else if c = 3 then 233 else 388
def mF (c : Int) : Nat := if c = 1 then 222 else if c = 2 then 228 else if c = 3 then 234 else 389
def wF (c : Int) : Nat := if c = 2 then 229 else 223
def plainA (c : Int) : Array Value := #[.string (nameC c), .func (.func (pjF c)) #[] #[], .func (.func (kF c)) #[] #[], .func (.func (pF c)) #[] #[], .func (.func (rF c)) #[] #[], .func (.func (mF c)) #[] #[], .func (.func (wF c)) #[] #[]]
def jF (c : Int) : Nat := if c = 4 then 387 else 385
def jX (c : Int) : Array Value := if c = 4 then #[] else #[.agg (plainA c)]
def rX (c : Int) : Array Value := if c = 4 then #[.agg #[]] else #[]
def tgC (c : Int) : Bool := decide (c = 4)
abbrev facesC (c : Int) : Array Value := #[.string (nameC c), .func (.func (jF c)) (jX c) #[], .func (.func (wF c)) #[] #[], .func (.func (kF c)) #[] #[], .func (.func (pF c)) #[] #[], .func (.func (rF c)) (rX c) #[], .func (.func (mF c)) #[] #[], .bool (tgC c)]
def mkV (c : Int) : Value := if c = 4 then .iface 296 (.agg #[]) else .iface 295 (.agg (plainA c))
theorem c_of82 {c : Int} {w : World} {R : Ending → World → Prop} (h : R (.returned (if isS c then mkV c else .nilIface)) w) : Calls Tryz.prog 167 #[.int .u8 c] w R := by
  refine sh167_ok _ ?_
  unfold sh167
  refine ifB_intro (fun h1 => ?_) fun h1 => ifB_intro (fun h2 => ?_) fun h2 => ifB_intro (fun h3 => ?_) fun h3 => ifB_intro (fun h4 => ?_) fun h4 => ?_
  · obtain rfl : c = 1 := by simpa using h1
    exact h
  · obtain rfl : c = 2 := by simpa using h2
    exact h
  · obtain rfl : c = 3 := by simpa using h3
    exact h
  · obtain rfl : c = 4 := by simpa using h4
    exact h
  · have : isS c = false := by
      simp at h1 h2 h3 h4
      cases hs : isS c with
      | false => rfl
      | true => have := isS_iff.1 hs; omega
    rw [this] at h
    exact h
abbrev schT : Nat := 231
abbrev schFresh (c m j : Int) : Array Value := #[.int .u8 c, .int .u32 0, .int .i32 m, .int .u32 0, .string (⟨#[]⟩ : ByteArray), .nilFunc, .nilFunc, .nilFunc, .nilFunc, .nilFunc, .nilFunc, .bool false, .int .u64 j]
abbrev schDone (c d m j : Int) : Array Value := #[.int .u8 c, .int .u32 d, .int .i32 m, .int .u32 0, .string (nameC c), .func (.func (jF c)) (jX c) #[], .func (.func (wF c)) #[] #[], .func (.func (kF c)) #[] #[], .func (.func (pF c)) #[] #[], .func (.func (rF c)) (rX c) #[], .func (.func (mF c)) #[] #[], .bool (tgC c), .int .u64 j]
/-- a scheme that lies in memory -/
def IsSch (c : Int) (b : Nat) (w : World) : Prop := isS c = true ∧ ((∃ j, Blk w b (schFresh c 0 j) schT) ∨ ∃ j, Blk w b (schDone c 1 0 j) schT)
theorem IsSch.lt {c : Int} {b : Nat} {w : World} (h : IsSch c b w) : b < w.heap.size := by
  rcases h.2 with ⟨j, h⟩ | ⟨j, h⟩ <;> exact h.lt
theorem IsSch.ext {c : Int} {b : Nat} {w w' : World} (h : IsSch c b w) (e : Ext w w') : IsSch c b w' := by
  rcases h with ⟨hs, ⟨j, h⟩ | ⟨j, h⟩⟩
  · exact ⟨hs, .inl ⟨j, h.ext e⟩⟩
  · exact ⟨hs, .inr ⟨j, h.ext e⟩⟩
/-- all blocks that were there are as they were, but for that of a scheme -/
abbrev Gs (b : Nat) (w w' : World) : Prop := w.grownBy w' (some b)
theorem Gs.trans {b : Nat} {x y z : World} (g : Gs b x y) (k : Gs b y z) : Gs b x z := grown_trans g k
theorem gs_refl (b : Nat) (w : World) : Gs b w w := grown_refl w _
theorem gs_of {b : Nat} {w w' : World} (e : Ext w w') : Gs b w w' := ⟨e.os, e.tape, e.output, e.size, fun k hk _ => e.block k hk⟩
theorem Gs.size {b : Nat} {w w' : World} (g : Gs b w w') : w.heap.size ≤ w'.heap.size := World.grownBy.size g
theorem blk_fun {w : World} {b : Nat} {c1 c2 : Array Value} {t1 t2 : TypeId} (h1 : Blk w b c1 t1) (h2 : Blk w b c2 t2) : t1 = t2 := by
  unfold Blk at h1 h2
  rw [h1] at h2
  cases h2; rfl
theorem IsSch.ne {c : Int} {b b' : Nat} {w : World} {cs : Array Value} {t : TypeId} (h : IsSch c b w) (hb : Blk w b' cs t) (ht : t ≠ schT) : b' ≠ b := by
  rintro rfl
  rcases h.2 with ⟨j, h⟩ | ⟨j, h⟩ <;> exact ht (blk_fun hb h)
theorem _root_.Go.Sh.IsT.gs {c : Int} {b : Nat} {w w' : World} {p : Option Addr} {t : Tr} (h : IsN w p t) (hs : IsSch c b w) (g : Gs b w w') : IsN w' p t := by
  induction t generalizing p with
  | nil => exact h
  | node l k v gg r ihl ihr =>
    obtain ⟨b', pl, pr, hp, hb, hl, hr⟩ := h
    exact ⟨b', pl, pr, hp, hb.grown g (ne_some (hs.ne hb (by decide))), ihl hl, ihr hr⟩
theorem m_faces_p (c : Int) : ∀ w, (invoke (.fn (.method "joinery/scheme.faces") #[]) #[.iface 295 (.agg (plainA c))]).run Tryz.prog w = .ok (.enter 384 #[.agg (plainA c)]) w := fun w => by kernel_rfl
theorem m_faces_t : ∀ w, (invoke (.fn (.method "joinery/scheme.faces") #[]) #[.iface 296 (.agg #[])]).run Tryz.prog w = .ok (.enter 386 #[.agg #[]]) w := fun w => by kernel_rfl
theorem do_st8 {w : World} {b : Nat} {v0 v1 v2 v3 v4 v5 v6 v7 x0 x1 x2 x3 x4 x5 x6 x7 : Value} {t : TypeId} (h : Blk w b #[v0, v1, v2, v3, v4, v5, v6, v7] t) {K : World → Prop} (k : ∀ w', Blk w' b #[x0, x1, x2, x3, x4, x5, x6, x7] t → w.grownBy w' (some b) → K w') :
    doSt ((blk b).add 0) x0 w fun w1 => doSt ((blk b).add 1) x1 w1 fun w2 => doSt ((blk b).add 2) x2 w2 fun w3 => doSt ((blk b).add 3) x3 w3 fun w4 => doSt ((blk b).add 4) x4 w4 fun w5 => doSt ((blk b).add 5) x5 w5 fun w6 => doSt ((blk b).add 6) x6 w6 fun w7 => doSt ((blk b).add 7) x7 w7 K := by
  refine do_st h (i := 0) (add_blk b 0) (by simp) fun w1 h1 g1 => ?_
  have k1 : Blk w1 b #[x0, v1, v2, v3, v4, v5, v6, v7] t := h1
  refine do_st k1 (i := 1) (add_blk b 1) (by simp) fun w2 h2 g2 => ?_
  have k2 : Blk w2 b #[x0, x1, v2, v3, v4, v5, v6, v7] t := h2
  refine do_st k2 (i := 2) (add_blk b 2) (by simp) fun w3 h3 g3 => ?_
  have k3 : Blk w3 b #[x0, x1, x2, v3, v4, v5, v6, v7] t := h3
  refine do_st k3 (i := 3) (add_blk b 3) (by simp) fun w4 h4 g4 => ?_
  have k4 : Blk w4 b #[x0, x1, x2, x3, v4, v5, v6, v7] t := h4
  refine do_st k4 (i := 4) (add_blk b 4) (by simp) fun w5 h5 g5 => ?_
  have k5 : Blk w5 b #[x0, x1, x2, x3, x4, v5, v6, v7] t := h5
  refine do_st k5 (i := 5) (add_blk b 5) (by simp) fun w6 h6 g6 => ?_
  have k6 : Blk w6 b #[x0, x1, x2, x3, x4, x5, v6, v7] t := h6
  refine do_st k6 (i := 6) (add_blk b 6) (by simp) fun w7 h7 g7 => ?_
  have k7 : Blk w7 b #[x0, x1, x2, x3, x4, x5, x6, v7] t := h7
  refine do_st k7 (i := 7) (add_blk b 7) (by simp) fun w8 h8 g8 => ?_
  exact k _ h8 (grown_trans (grown_trans (grown_trans (grown_trans (grown_trans (grown_trans (grown_trans g1 g2) g3) g4) g5) g6) g7) g8)
set_option maxRecDepth 20000 in
theorem do_faces {c : Int} (hc : isS c = true) {w : World} {R : Ending → World → Prop} (h : ∀ w', Ext w w' → R (.returned (.agg (facesC c))) w') : doGo Tryz.prog (.fn (.method "joinery/scheme.faces") #[]) #[mkV c] w R := by
  by_cases h4 : c = 4
  · subst h4
    refine do_meth m_faces_t (sh386_ok ?_)
    unfold sh386
    refine ⟨⟨?_⟩⟩
    have e0 := ext_alloc w (.cells #[] 296)
    refine do_st8 (blk_alloc _ _ _) fun w2 h2 g2 => ?_
    refine ⟨_, h2.cell (i := 0) (add_blk _ _) rfl, _, _, _, h2.cell (i := 1) (add_blk _ _) rfl, _, _, _, h2.cell (i := 2) (add_blk _ _) rfl, _, _, _, h2.cell (i := 3) (add_blk _ _) rfl, _, _, _, h2.cell (i := 4) (add_blk _ _) rfl, _, _, _, h2.cell (i := 5) (add_blk _ _) rfl, _, _, _, h2.cell (i := 6) (add_blk _ _) rfl, _, h2.cell (i := 7) (add_blk _ _) rfl, ?_⟩
    exact h _ (e0.trans ((ext_alloc _ _).st g2 (Nat.le_refl _)))
  · have e : mkV c = .iface 295 (.agg (plainA c)) := by unfold mkV; rw [if_neg h4]
    rw [e]
    refine do_meth (m_faces_p c) (sh384_ok _ _ _ _ _ _ _ _ _ _ _ _ _ _ _ _ _ _ _ ?_)
    unfold sh384
    refine ⟨⟨?_⟩⟩
    have e0 := ext_alloc w (.cells (plainA c) 295)
    have hb0 := blk_alloc w (plainA c) 295
    have e1 := ext_alloc (w.alloc (.cells (plainA c) 295)) (.cells #[.string (⟨#[]⟩ : ByteArray), .nilFunc, .nilFunc, .nilFunc, .nilFunc, .nilFunc, .nilFunc, .bool false] 226)
    have hb := hb0.ext e1
    refine ⟨_, hb.cell (i := 0) (add_blk _ _) rfl, _, hb.cell (i := 0) (add_blk _ _) rfl, _, _, _, hb.cell (i := 1) (add_blk _ _) rfl, _, _, _, hb.cell (i := 2) (add_blk _ _) rfl, _, _, _, hb.cell (i := 3) (add_blk _ _) rfl, _, _, _, hb.cell (i := 4) (add_blk _ _) rfl, _, _, _, hb.cell (i := 5) (add_blk _ _) rfl, _, _, _, hb.cell (i := 6) (add_blk _ _) rfl, _, _, _, hb.cell (i := 6) (by rw [Sh.add_add, add_blk]) rfl, _, _, _, hb.cell (i := 2) (by rw [Sh.add_add, add_blk]) rfl, _, _, _, hb.cell (i := 3) (by rw [Sh.add_add, add_blk]) rfl, _, _, _, hb.cell (i := 4) (by rw [Sh.add_add, add_blk]) rfl, _, _, _, hb.cell (i := 5) (by rw [Sh.add_add, add_blk]) rfl, ?_⟩
    refine do_st8 (blk_alloc _ _ _) fun w2 h2 g2 => ?_
    refine ⟨_, h2.cell (i := 0) (add_blk _ _) rfl, _, _, _, h2.cell (i := 1) (add_blk _ _) rfl, _, _, _, h2.cell (i := 2) (add_blk _ _) rfl, _, _, _, h2.cell (i := 3) (add_blk _ _) rfl, _, _, _, h2.cell (i := 4) (add_blk _ _) rfl, _, _, _, h2.cell (i := 5) (add_blk _ _) rfl, _, _, _, h2.cell (i := 6) (add_blk _ _) rfl, _, h2.cell (i := 7) (add_blk _ _) rfl, ?_⟩
    have hj : jF c = 385 := by unfold jF; rw [if_neg h4]
    have hx : jX c = #[.agg (plainA c)] := by unfold jX; rw [if_neg h4]
    have hrx : rX c = #[] := by unfold rX; rw [if_neg h4]
    have ht : tgC c = false := by unfold tgC; exact decide_eq_false h4
    have := h _ (e0.trans (e1.st g2 (Nat.le_refl _)))
    unfold facesC at this
    rw [hj, hx, hrx, ht] at this
    exact this
end Go.Proofs.YtlddfgfmkapoiaaGreat

