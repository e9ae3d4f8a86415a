/-
  wb, wbjoin: what a join makes.
-/
/-
  treap, treapjoin: what a join makes.
-/
import Derived.Test.YtbaoihmffobneaaGreatPl
import Derived.Test.YtbaoihmffobneaaGreatPn
import Derived.Test.YtbaoihmffobneaaGreatPm

namespace Go.Proofs.YtbaoihmffobneaaGreat
open Go Go.Sh Go.RowKit

theorem c_wmake {pl pr : Option Addr} {l r : Tr} {k v : Int} {w : World} {R : Ending → World → Prop} (hl : IsN w pl l) (hr : IsN w pr r) (hs : l.size + 1 + r.size ≤ BIG)
    (h : ∀ q w', Ext w w' → IsN w' q (mkW l k v r) → R (.returned (.pointer q)) w') : Calls Tryz.prog 192 #[.pointer pl, .int .i64 k, .int .i64 v, .pointer pr] w R := by
  refine sh192_ok _ _ _ _ ?_
  unfold sh192
  simp only [BIG] at hs
  exact do_call Tryz.call60 (c_new hl hr (by omega) fun b w1 e1 h1 _ => retS_ret ⟨_, rfl, h _ _ e1 h1⟩)
theorem c_weight {p : Option Addr} {t : Tr} {w : World} {R : Ending → World → Prop} (ht : IsN w p t) (hs : t.size ≤ BIG) (h : ∀ w', Ext w w' → R (.returned (.int .i64 (wtW t : Nat))) w') : Calls Tryz.prog 193 #[.pointer p] w R := by
  refine sh193_ok _ ?_
  unfold sh193
  refine do_call Tryz.call80 (c_tsize ht fun w1 e1 => retS_ret ⟨_, rfl, ?_⟩)
  simp only [BIG] at hs
  rw [wrap_of (by omega) (by omega)]
  exact h _ e1
/-- all of two numbers from one to another one -/
theorem c_within {a b lo hi : Int} {p : Option Addr} {c : Nat} {w : World} {R : Ending → World → Prop} (hl : Cs w p (ints [a, b])) (h : R (.returned (.bool (decide (lo ≤ a) && decide (a ≤ hi) && decide (lo ≤ b) && decide (b ≤ hi)))) w) :
    Calls Tryz.prog 245 #[.int .i64 lo, .int .i64 hi, .slice p 2 c] w R := by
  refine sh245_ok _ _ _ _ _ ?_
  unfold sh245
  refine ⟨fun vs w' => w' = w ∧ ((vs = [.int .i64 0]) ∨ (vs = [.int .i64 1] ∧ lo ≤ a ∧ a ≤ hi) ∨ (vs = [.int .i64 2] ∧ lo ≤ a ∧ a ≤ hi ∧ lo ≤ b ∧ b ≤ hi)), fun vs _ => 2 - (intOf (vs.getD 0 undef)).toNat, ⟨rfl, .inl rfl⟩, ?_⟩
  rintro i _ w2 ⟨rfl, hv⟩
  rcases hv with hv | ⟨hv, h1, h2⟩ | ⟨hv, h1, h2, h3, h4⟩ <;> (simp only [List.cons.injEq, Value.int.injEq, true_and, and_true] at hv; subst hv)
  · refine ifB_t (by decide) (ix_int hl rfl (by decide) (by decide) fun ad _ hr => ⟨a, hr, ?_⟩)
    intro K15
    refine ifB_intro (fun hc => ?_) fun hc => ifB_intro (fun hd => ?_) fun hd => ⟨⟨rfl, .inr (.inl ⟨rfl, by have := of_decide_eq_false hc; omega, by have := of_decide_eq_false hd; omega⟩)⟩, by show 2 - (1 : Nat) < 2 - 0; omega⟩
    · have hc := of_decide_eq_true hc
      rw [decide_eq_false (p := lo ≤ a) (by omega)] at h; exact h
    · have hd := of_decide_eq_true hd
      rw [decide_eq_false (p := a ≤ hi) (by omega)] at h; simpa using h
  · refine ifB_t (by decide) (ix_int hl rfl (by decide) (by decide) fun ad _ hr => ⟨b, hr, ?_⟩)
    intro K15
    refine ifB_intro (fun hc => ?_) fun hc => ifB_intro (fun hd => ?_) fun hd => ⟨⟨rfl, .inr (.inr ⟨rfl, h1, h2, by have := of_decide_eq_false hc; omega, by have := of_decide_eq_false hd; omega⟩)⟩, by show 2 - (2 : Nat) < 2 - 1; omega⟩
    · have hc := of_decide_eq_true hc
      rw [decide_eq_false (p := lo ≤ b) (by omega)] at h; simpa using h
    · have hd := of_decide_eq_true hd
      rw [decide_eq_false (p := b ≤ hi) (by omega)] at h; simpa using h
  · refine ifB_f (by decide) ?_
    rw [decide_eq_true h1, decide_eq_true h2, decide_eq_true h3, decide_eq_true h4] at h
    exact h
theorem c_like {a b : Nat} {w : World} {R : Ending → World → Prop} (h1 : 1 ≤ a ∧ a ≤ 1099511627776) (h2 : 1 ≤ b ∧ b ≤ 1099511627776) (h : ∀ w', Ext w w' → R (.returned (.bool (likeW a b))) w') : Calls Tryz.prog 195 #[.int .i64 (a : Nat), .int .i64 (b : Nat)] w R := by
  refine sh195_ok _ _ ?_
  unfold sh195
  intro K5
  refine ⟨?_⟩
  have e1 := ext_alloc w (.cells #[.int .i64 (a : Nat), .int .i64 (b : Nat)] 3)
  have hc : Cs (w.alloc (.cells #[.int .i64 (a : Nat), .int .i64 (b : Nat)] 3)) (some (blk w.heap.size)) (ints [(a : Int), (b : Int)]) := cs_alloc w #[.int .i64 (a : Nat), .int .i64 (b : Nat)] 3
  refine do_call Tryz.call245 (c_within hc (retS_ret ⟨_, rfl, ?_⟩))
  refine ifB_t (by simp; omega) (do_mink (retS_ret ⟨_, rfl, ?_⟩))
  have e : decide (IntKind.wrap .i64 (29 * IntKind.wrap .i64 ((a : Int) + b)) ≤ IntKind.wrap .i64 (100 * min (a : Int) b)) = likeW a b := by
    rw [wrap_of (x := (a : Int) + b) (by omega) (by omega), wrap_of (x := 29 * ((a : Int) + b)) (by omega) (by omega), wrap_of (x := 100 * min (a : Int) b) (by omega) (by omega)]
    unfold likeW
    exact decide_eq_decide.2 (by omega)
  show R (.returned (.bool _)) _
  rw [e]
  exact h _ e1
/-! ### sides -/
def sW (s : Bool) : Int := cond s 1 0
theorem c_other (s : Bool) {w : World} {R : Ending → World → Prop} (h : R (.returned (.int .i64 (sW (!s)))) w) : Calls Tryz.prog 241 #[.int .i64 (sW s)] w R := by
  refine sh241_ok _ ?_
  cases s <;> exact h
theorem outS_not (s : Bool) (t : Tr) : outS (!s) t = inS s t := by cases s <;> rfl
theorem ix_two (s : Bool) (p0 p1 : Option Addr) : ∀ w, (Instr.index 301 (.agg #[.pointer p0, .pointer p1]) (.int .i64 (sW s))).run Tryz.prog w = .ok (.pointer (cond s p1 p0)) w := fun w => by
  cases s
  · kernel_rfl
  · kernel_rfl
theorem c_at (s : Bool) {p : Option Addr} {t : Tr} {w : World} {R : Ending → World → Prop} (ht : IsN w p t) (h : ∀ q w', Ext w w' → IsN w' q (outS s t) → R (.returned (.pointer q)) w') : Calls Tryz.prog 242 #[.int .i64 (sW s), .pointer p] w R := by
  refine sh242_ok _ _ ?_
  unfold sh242
  refine do_call Tryz.call263 (sh263_ok _ ?_)
  unfold sh263
  refine ⟨?_⟩
  have e1 := ext_alloc w (.cells #[.pointer none, .pointer none] 301)
  have hb := blk_alloc w #[.pointer none, .pointer none] 301
  refine do_call Tryz.call108 (c_left0 ht e1 fun ql hl => retS_ret ⟨_, rfl, ?_⟩)
  refine do_call Tryz.call109 (c_right0 ht e1 fun qr hr => retS_ret ⟨_, rfl, ?_⟩)
  refine do_st2 hb fun w2 h2 g2 => ⟨_, h2.cell (i := 0) (add_blk _ _) rfl, _, h2.cell (i := 1) (add_blk _ _) rfl, retS_ret ⟨_, _, rfl, ⟨_, ix_two s _ _, _, rfl, ?_⟩⟩⟩
  have E2 : Ext w w2 := e1.st g2 (Nat.le_refl _)
  cases s
  · exact h _ _ E2 (hl.ext E2)
  · exact h _ _ E2 (hr.ext E2)
theorem mkWS_size (s : Bool) (i o : Tr) (k v : Int) : (mkWS s i k v o).size = i.size + 1 + o.size := by cases s <;> simp [mkWS, mkW, Tr.size] <;> omega
theorem c_mkW (s : Bool) {pi pp po : Option Addr} {i o pr : Tr} {w : World} {R : Ending → World → Prop} (hi : IsN w pi i) (hp : IsN w pp pr) (ho : IsN w po o) (hs : i.size + 1 + o.size ≤ BIG)
    (h : ∀ q w', Ext w w' → IsN w' q (mkWS s i pr.key pr.val o) → R (.returned (.pointer q)) w') : Calls Tryz.prog 240 #[.int .i64 (sW s), .pointer pi, .pointer pp, .pointer po] w R := by
  refine sh240_ok _ _ _ _ ?_
  unfold sh240
  refine ⟨do_st2 (blk_alloc w _ _) fun w1 h1 g1 => ?_⟩
  have e1 : Ext w w1 := (ext_alloc w _).st g1 (Nat.le_refl _)
  have d := ext_drew w1
  have E := e1.trans d
  have c0 : ∀ w', Ext w1 w' → w'.cell? ((blk w.heap.size).add (0 * 1)) = some (.pointer pi) := fun w' e => (h1.ext e).cell (i := 0) (by rw [Nat.zero_mul, add_blk]) rfl
  have c1 : ∀ w', Ext w1 w' → w'.cell? ((blk w.heap.size).add (1 * 1)) = some (.pointer po) := fun w' e => (h1.ext e).cell (i := 1) (by rw [Nat.one_mul, add_blk]) rfl
  cases s
  · refine ⟨⟨fun w' => Ext w1 w', d, ⟨_, rfl, by decide, by decide, _, c0, ?_⟩⟩⟩
    refine do_call Tryz.call241 (c_other false (retS_ret ⟨_, rfl, d, ⟨_, rfl, by decide, by decide, _, c1, ?_⟩⟩))
    refine do_call Tryz.call107 (c_key (hp.ext E) fun w3 e3 => retS_ret ⟨_, rfl, d.trans e3, ?_⟩)
    refine do_call Tryz.call165 (c_val (hp.ext (E.trans e3)) fun w4 e4 => retS_ret ⟨_, rfl, (d.trans e3).trans e4, ?_⟩)
    have E4 := (E.trans e3).trans e4
    exact do_call Tryz.call192 (c_wmake (ho.ext E4) (hi.ext E4) (by omega) fun q w5 e5 h5 => retS_ret ⟨_, rfl, h _ _ (E4.trans e5) h5⟩)
  · refine ⟨⟨fun w' => Ext w1 w', d, ⟨_, rfl, by decide, by decide, _, c1, ?_⟩⟩⟩
    refine do_call Tryz.call241 (c_other true (retS_ret ⟨_, rfl, d, ⟨_, rfl, by decide, by decide, _, c0, ?_⟩⟩))
    refine do_call Tryz.call107 (c_key (hp.ext E) fun w3 e3 => retS_ret ⟨_, rfl, d.trans e3, ?_⟩)
    refine do_call Tryz.call165 (c_val (hp.ext (E.trans e3)) fun w4 e4 => retS_ret ⟨_, rfl, (d.trans e3).trans e4, ?_⟩)
    have E4 := (E.trans e3).trans e4
    exact do_call Tryz.call192 (c_wmake (hi.ext E4) (ho.ext E4) hs fun q w5 e5 h5 => retS_ret ⟨_, rfl, h _ _ (E4.trans e5) h5⟩)
theorem c_once (s : Bool) {pi pt px : Option Addr} {i t x : Tr} {w : World} {R : Ending → World → Prop} (hi : IsN w pi i) (ht : IsN w pt t) (hx : IsN w px x) (hs : i.size + 1 + x.size + 1 ≤ BIG)
    (h : ∀ q w', Ext w w' → IsN w' q (onceW s i t.key t.val x) → R (.returned (.pointer q)) w') : Calls Tryz.prog 243 #[.int .i64 (sW s), .pointer pi, .pointer pt, .pointer px] w R := by
  refine sh243_ok _ _ _ _ ?_
  unfold sh243
  have hz := size_two s x
  refine do_call Tryz.call241 (c_other s (retS_ret ⟨_, rfl, ?_⟩))
  refine do_call Tryz.call242 (c_at (!s) hx fun q1 w1 e1 h1 => retS_ret ⟨_, rfl, ?_⟩)
  rw [outS_not] at h1
  refine do_call Tryz.call240 (c_mkW s (hi.ext e1) (ht.ext e1) h1 (by omega) fun q2 w2 e2 h2 => retS_ret ⟨_, rfl, ?_⟩)
  have E2 := e1.trans e2
  refine do_call Tryz.call242 (c_at s (hx.ext E2) fun q3 w3 e3 h3 => retS_ret ⟨_, rfl, ?_⟩)
  have E3 := E2.trans e3
  exact do_call Tryz.call240 (c_mkW s (h2.ext e3) (hx.ext E3) h3 (by rw [mkWS_size]; omega) fun q4 w4 e4 h4 => retS_ret ⟨_, rfl, h _ _ (E3.trans e4) h4⟩)
theorem c_twice (s : Bool) {pi pt px : Option Addr} {i t x : Tr} {w : World} {R : Ending → World → Prop} (hi : IsN w pi i) (ht : IsN w pt t) (hx : IsN w px x) (hs : i.size + 1 + x.size + 2 ≤ BIG)
    (h : ∀ q w', Ext w w' → IsN w' q (twiceW s i t.key t.val x) → R (.returned (.pointer q)) w') : Calls Tryz.prog 244 #[.int .i64 (sW s), .pointer pi, .pointer pt, .pointer px] w R := by
  refine sh244_ok _ _ _ _ ?_
  unfold sh244
  have hz := size_two s x
  have hz2 := size_two s (inS s x)
  refine do_call Tryz.call241 (c_other s (retS_ret ⟨_, rfl, ?_⟩))
  refine do_call Tryz.call242 (c_at (!s) hx fun qm w1 e1 hm => retS_ret ⟨_, rfl, ?_⟩)
  rw [outS_not] at hm
  refine do_call Tryz.call241 (c_other s (retS_ret ⟨_, rfl, ?_⟩))
  refine do_call Tryz.call242 (c_at (!s) hm fun q2 w2 e2 h2 => retS_ret ⟨_, rfl, ?_⟩)
  rw [outS_not] at h2
  have E2 := e1.trans e2
  refine do_call Tryz.call240 (c_mkW s (hi.ext E2) (ht.ext E2) h2 (by omega) fun q3 w3 e3 h3 => retS_ret ⟨_, rfl, ?_⟩)
  have E3 := E2.trans e3
  refine do_call Tryz.call242 (c_at s (hm.ext (e2.trans e3)) fun q4 w4 e4 h4 => retS_ret ⟨_, rfl, ?_⟩)
  have E4 := E3.trans e4
  refine do_call Tryz.call242 (c_at s (hx.ext E4) fun q5 w5 e5 h5 => retS_ret ⟨_, rfl, ?_⟩)
  have E5 := E4.trans e5
  refine do_call Tryz.call240 (c_mkW s (h4.ext e5) (hx.ext E5) h5 (by omega) fun q6 w6 e6 h6 => retS_ret ⟨_, rfl, ?_⟩)
  have E6 := E5.trans e6
  exact do_call Tryz.call240 (c_mkW s (h3.ext ((e4.trans e5).trans e6)) (hm.ext ((((e2.trans e3).trans e4).trans e5).trans e6)) h6 (by rw [mkWS_size, mkWS_size]; omega) fun q7 w7 e7 h7 => retS_ret ⟨_, rfl, h _ _ (E6.trans e7) h7⟩)
def turnEs (s : Bool) : Array MapEntry := #[{ key := .bool true, val := .func (.func 243) #[.int .i64 (sW s)] #[], born := 0 }, { key := .bool false, val := .func (.func 244) #[.int .i64 (sW s)] #[], born := 1 }]
set_option maxRecDepth 20000 in
theorem c_hangW (s : Bool) {k v : Int} {low pair : Tr} (hlow : Wb low) (hpk : pair.key = k) (hpv : pair.val = v) : ∀ (n : Nat) (t : Tr) {p pp pl : Option Addr} {w : World} {R : Ending → World → Prop} (_hn : t.size ≤ n) (_ht : IsN w p t) (_hp : IsN w pp pair) (_hl : IsN w pl low)
    (_ha : Wb t) (_hg : 29 * wtW low ≤ 71 * wtW t) (_hs : t.size + low.size + 5 ≤ BIG) (_h : ∀ q w', Ext w w' → IsN w' q (hangW s k v low t) → R (.returned (.pointer q)) w'),
    Calls Tryz.prog 194 #[.int .i64 (sW s), .pointer p, .pointer pp, .pointer pl] w R := fun n => by
  induction n with
  | zero =>
    intro t p pp pl w R hn ht hp hl ha hg hs h
    have : t = .nil := by
      cases t with
      | nil => rfl
      | node l a b c r => simp [Tr.size] at hn
    subst this
    obtain rfl : p = none := ht
    refine sh194_ok _ _ _ _ ?_
    unfold sh194
    intro K7
    refine ifB_t rfl (do_call Tryz.call240 (c_mkW s (i := .nil) rfl hp hl (by simp only [Tr.size]; omega) fun q w1 e1 h1 => retS_ret ⟨_, rfl, h _ _ e1 ?_⟩))
    rw [hpk, hpv] at h1
    exact h1
  | succ n ih =>
    intro t p pp pl w R hn ht hp hl ha hg hs h
    refine sh194_ok _ _ _ _ ?_
    unfold sh194
    intro K7
    cases hnn : t.nn with
    | false =>
      have := Tr.size0 hnn
      subst this
      obtain rfl : p = none := ht
      refine ifB_t rfl (do_call Tryz.call240 (c_mkW s (i := .nil) rfl hp hl (by simp only [Tr.size]; omega) fun q w1 e1 h1 => retS_ret ⟨_, rfl, h _ _ e1 ?_⟩))
      rw [hpk, hpv] at h1
      exact h1
    | true =>
    obtain ⟨hi, ho, hwt, hlk⟩ := ha.sides s hnn
    have hlk' := likeW_iff.1 hlk
    have hsz := size_nn2 s hnn
    rw [hangW_eq s k v low hnn] at h
    refine ifB_f (by rw [ht.isNone, hnn]; rfl) ?_
    simp only [BIG] at hs
    refine do_call Tryz.call193 (c_weight ht (by simp only [BIG]; omega) fun w1 e1 => retS_ret ⟨_, rfl, ?_⟩)
    refine do_call Tryz.call193 (c_weight (hl.ext e1) (by simp only [BIG]; omega) fun w2 e2 => retS_ret ⟨_, rfl, ?_⟩)
    refine do_call Tryz.call195 (c_like (by unfold wtW; omega) (by unfold wtW; omega) fun w3 e3 => retS_ret ⟨_, rfl, ?_⟩)
    have E3 := (e1.trans e2).trans e3
    cases hb : likeW (wtW t) (wtW low) with
    | true =>
      rw [hb, if_pos rfl] at h
      refine ifB_t rfl (do_call Tryz.call240 (c_mkW s (ht.ext E3) (hp.ext E3) (hl.ext E3) (by simp only [BIG]; omega) fun q w4 e4 h4 => retS_ret ⟨_, rfl, h _ _ (E3.trans e4) ?_⟩))
      rw [hpk, hpv] at h4
      exact h4
    | false =>
      rw [hb, if_neg (by simp)] at h
      rw [likeW_not] at hb
      have hok := hangW_ok s k v low hlow n (outS s t) (by omega) ho (by omega)
      have hxs : wtW (hangW s k v low (outS s t)) = wtW (outS s t) + wtW low := hok.wt
      have hxz := size_two s (hangW s k v low (outS s t))
      refine ifB_f rfl ?_
      refine do_call Tryz.call241 (c_other s (retS_ret ⟨_, rfl, ?_⟩))
      refine do_call Tryz.call242 (c_at (!s) (ht.ext E3) fun qi w4 e4 h4 => retS_ret ⟨_, rfl, ?_⟩)
      rw [outS_not] at h4
      have E4 := E3.trans e4
      refine do_call Tryz.call242 (c_at s (ht.ext E4) fun qo w5 e5 h5 => retS_ret ⟨_, rfl, ?_⟩)
      have E5 := E4.trans e5
      refine do_call Tryz.call194 (ih (outS s t) (by omega) h5 (hp.ext E5) (hl.ext E5) ho (by omega) (by simp only [BIG]; omega) fun qx w6 e6 h6 => retS_ret ⟨_, rfl, ?_⟩)
      have E6 := E5.trans e6
      have h4 := h4.ext (e5.trans e6)
      generalize hangW s k v low (outS s t) = x at *
      have hxsz : x.size = (outS s t).size + low.size + 1 := by unfold wtW at hxs; omega
      refine do_call Tryz.call193 (c_weight h4 (by simp only [BIG]; omega) fun w7 e7 => retS_ret ⟨_, rfl, ?_⟩)
      refine do_call Tryz.call193 (c_weight (h6.ext e7) (by simp only [BIG]; omega) fun w8 e8 => retS_ret ⟨_, rfl, ?_⟩)
      refine do_call Tryz.call195 (c_like (by unfold wtW; omega) (by unfold wtW; omega) fun w9 e9 => retS_ret ⟨_, rfl, ?_⟩)
      have e69 := (e7.trans e8).trans e9
      have E9 := E6.trans e69
      have h4 := h4.ext e69
      have h6 := h6.ext e69
      unfold backW at h
      cases hc : likeW (wtW (inS s t)) (wtW x) with
      | true =>
        rw [hc, if_pos rfl] at h
        exact ifB_t rfl (do_call Tryz.call240 (c_mkW s h4 (ht.ext E9) h6 (by simp only [BIG]; omega) fun q w10 e10 h10 => retS_ret ⟨_, rfl, h _ _ (E9.trans e10) h10⟩))
      | false =>
        rw [hc, if_neg (by simp)] at h
        refine ifB_f rfl ?_
        refine do_call Tryz.call241 (c_other s (retS_ret ⟨_, rfl, ?_⟩))
        refine do_call Tryz.call242 (c_at (!s) h6 fun qa w10 e10 ha' => retS_ret ⟨_, rfl, ?_⟩)
        rw [outS_not] at ha'
        refine do_call Tryz.call193 (c_weight ha' (by simp only [BIG]; omega) fun w11 e11 => retS_ret ⟨_, rfl, ?_⟩)
        have e911 := e10.trans e11
        refine do_call Tryz.call242 (c_at s (h6.ext e911) fun qb w12 e12 hb' => retS_ret ⟨_, rfl, ?_⟩)
        refine do_call Tryz.call193 (c_weight hb' (by simp only [BIG]; omega) fun w13 e13 => retS_ret ⟨_, rfl, ⟨?_⟩⟩)
        have e913 := (e911.trans e12).trans e13
        refine do_mu_new Tryz.underlying286 Tryz.underlying4 (heap_alloc_new w13 _) (by trivial) (by rfl) fun w14 h14 g14 => ?_
        refine do_mu_new Tryz.underlying286 Tryz.underlying4 h14 (by trivial) (by rfl) fun w15 h15 g15 => ?_
        have e15 : Ext w13 w15 := ((ext_alloc w13 _).st g14 (Nat.le_refl _)).st g15 (Nat.le_refl _)
        have h15 : w15.heap[w13.heap.size]? = some (.map (turnEs s) 2) := h15
        have e915 := e913.trans e15
        intro K56
        refine do_call Tryz.call195 (c_like (by unfold wtW; omega) (by unfold wtW; omega) fun w16 e16 => retS_ret ⟨_, rfl, ?_⟩)
        have e916 := e915.trans e16
        have htwice : ∀ w', Ext w15 w' → (likeW (wtW (inS s t)) (wtW (inS s x)) && likeW (wtW (inS s t) + wtW (inS s x)) (wtW (outS s x))) = false →
            doLk Tryz.prog 286 (.map (some w13.heap.size)) (.bool false) false w' (fun v76 => (∃ (xf73 : Fn), ∃ (xx74 : Array Value), ∃ (xc75 : Array Value), v76 = (.func xf73 xx74 xc75 : Value) ∧ (
              doCall Tryz.prog (.func xf73 xx74 xc75) #[.pointer qi, .pointer p, .pointer qx] w' (retS (fun v78 w79 => ∃ (x77 : Option Addr), v78 = (.pointer x77 : Value) ∧ (K56 x77 w79)) (fun ch w => Kfn R ch [] w)))) ∨ (v76 = (.nilFunc : Value) ∧ (
              doCall Tryz.prog (.nilFunc) #[.pointer qi, .pointer p, .pointer qx] w' (retS (fun v81 w82 => ∃ (x80 : Option Addr), v81 = (.pointer x80 : Value) ∧ (K56 x80 w82)) (fun ch w => Kfn R ch [] w))))) := by
          intro w' e' hd
          rw [hd, if_neg (by simp)] at h
          have e9' := e915.trans e'
          refine do_lk1_hit Tryz.underlying286 Tryz.underlying4 (e'.heap h15) (by trivial) (i := 1) (v := .func (.func 244) #[.int .i64 (sW s)] #[]) (by rfl) (.inl ⟨_, _, _, rfl, ⟨?_⟩⟩)
          exact callV_func Tryz.call244 (c_twice s (h4.ext e9') (ht.ext (E9.trans e9')) (h6.ext e9') (by simp only [BIG]; omega) fun q w17 e17 h17 => retS_ret ⟨_, rfl, h _ _ ((E9.trans e9').trans e17) h17⟩)
        refine ifB_intro (fun hla => ?_) fun hla => htwice w16 e16 (by rw [hla]; rfl)
        have ew : IntKind.wrap .i64 (((wtW (inS s t) : Nat) : Int) + ((wtW (inS s x) : Nat) : Int)) = ((wtW (inS s t) + wtW (inS s x) : Nat) : Int) := by
          unfold wtW; rw [wrap_of (by omega) (by omega)]; omega
        rw [ew]
        refine do_call Tryz.call195 (c_like (by unfold wtW; omega) (by unfold wtW; omega) fun w17 e17 => retS_ret ⟨_, rfl, ?_⟩)
        have e917 := e916.trans e17
        cases hlb : likeW (wtW (inS s t) + wtW (inS s x)) (wtW (outS s x)) with
        | false => exact htwice w17 (e16.trans e17) (by rw [hla, hlb]; rfl)
        | true =>
          rw [hla, hlb, if_pos (by rfl)] at h
          refine do_lk1_hit Tryz.underlying286 Tryz.underlying4 ((e16.trans e17).heap h15) (by trivial) (i := 0) (v := .func (.func 243) #[.int .i64 (sW s)] #[]) (by rfl) (.inl ⟨_, _, _, rfl, ⟨?_⟩⟩)
          exact callV_func Tryz.call243 (c_once s (h4.ext e917) (ht.ext (E9.trans e917)) (h6.ext e917) (by simp only [BIG]; omega) fun q w18 e18 h18 => retS_ret ⟨_, rfl, h _ _ ((E9.trans e917).trans e18) h18⟩)
theorem c_wjoin {k v : Int} {l r : Tr} {pl pr : Option Addr} {w : World} {R : Ending → World → Prop} (hl : IsN w pl l) (hr : IsN w pr r) (al : Wb l) (ar : Wb r) (hs : l.size + r.size + 5 ≤ BIG)
    (h : ∀ q w', Ext w w' → IsN w' q (joinW l k v r) → R (.returned (.pointer q)) w') : Calls Tryz.prog 150 #[.pointer pl, .int .i64 k, .int .i64 v, .pointer pr] w R := by
  refine sh150_ok _ _ _ _ ?_
  unfold sh150
  refine do_call Tryz.call192 (c_wmake (l := .nil) (r := .nil) rfl rfl (by decide) fun qp w1 e1 hp => retS_ret ⟨_, rfl, ?_⟩)
  refine do_call Tryz.call193 (c_weight (hl.ext e1) (by omega) fun w2 e2 => retS_ret ⟨_, rfl, ?_⟩)
  refine do_call Tryz.call193 (c_weight (hr.ext (e1.trans e2)) (by omega) fun w3 e3 => retS_ret ⟨_, rfl, ?_⟩)
  have E3 := (e1.trans e2).trans e3
  have hp3 := hp.ext (e2.trans e3)
  unfold joinW at h
  refine ifB_intro (fun hc => ?_) fun hc => ?_
  · have hc : wtW l < wtW r := by have := of_decide_eq_true hc; omega
    rw [if_pos hc] at h
    exact do_call Tryz.call194 (c_hangW false al rfl rfl r.size r (Nat.le_refl _) (hr.ext E3) hp3 (hl.ext E3) ar (by omega) (by omega) fun q w5 e5 h5 => retS_ret ⟨_, rfl, h _ _ (E3.trans e5) h5⟩)
  · have hc : ¬ wtW l < wtW r := by have := of_decide_eq_false hc; omega
    rw [if_neg hc] at h
    exact do_call Tryz.call194 (c_hangW true ar rfl rfl l.size l (Nat.le_refl _) (hl.ext E3) hp3 (hr.ext E3) al (by omega) (by omega) fun q w5 e5 h5 => retS_ret ⟨_, rfl, h _ _ (E3.trans e5) h5⟩)
end Go.Proofs.YtbaoihmffobneaaGreat

namespace Go.Proofs.YtbaoihmffobneaaGreat
open Go Go.Sh Go.RowKit

abbrev agI (x : It) : Value := .agg #[.int .i64 x.1, .int .i64 x.2.1, .int .u64 x.2.2]
theorem c_titem {p : Option Addr} {t : Tr} {w : World} {R : Ending → World → Prop} (ht : IsN w p t) (h : ∀ w', Ext w w' → R (.returned (agI (t.key, t.val, t.tag))) w') : Calls Tryz.prog 321 #[.pointer p] w R := by
  refine sh321_ok _ ?_
  unfold sh321
  have e0 := ext_alloc w (.cells #[.int .i64 0, .int .i64 0, .int .u64 0] 93)
  have hb := blk_alloc w #[.int .i64 0, .int .i64 0, .int .u64 0] 93
  refine ⟨do_call Tryz.call107 (c_key (ht.ext e0) fun w1 e1 => retS_ret ⟨_, rfl, ?_⟩)⟩
  have E1 := e0.trans e1
  refine do_call Tryz.call165 (c_val (ht.ext E1) fun w2 e2 => retS_ret ⟨_, rfl, ?_⟩)
  have E2 := E1.trans e2
  refine do_call Tryz.call166 (c_tag (ht.ext E2) fun w3 e3 => retS_ret ⟨_, rfl, ?_⟩)
  have E3 := E2.trans e3
  refine do_st3 (hb.ext ((e1.trans e2).trans e3)) fun w4 h4 g4 => ⟨_, h4.cell (i := 0) (add_blk _ _) rfl, _, h4.cell (i := 1) (add_blk _ _) rfl, _, h4.cell (i := 2) (add_blk _ _) rfl, h _ (E3.st g4 (Nat.le_refl _))⟩
theorem c_tabove {a b : It} {w : World} {R : Ending → World → Prop} (h : ∀ w', Ext w w' → R (.returned (.bool (decide (b.2.2 < a.2.2) || (decide (a.2.2 = b.2.2) && decide (b.1 < a.1))))) w') : Calls Tryz.prog 320 #[agI a, agI b] w R := by
  refine sh320_ok _ _ _ _ _ _ ?_
  unfold sh320
  have e0 := ext_alloc w (.cells #[.int .i64 a.1, .int .i64 a.2.1, .int .u64 a.2.2] 93)
  have hb := blk_alloc w #[.int .i64 a.1, .int .i64 a.2.1, .int .u64 a.2.2] 93
  refine ⟨⟨?_⟩⟩
  intro K13
  generalize w.alloc (.cells #[.int .i64 a.1, .int .i64 a.2.1, .int .u64 a.2.2] 93) = w1 at *
  have e1 := ext_alloc w1 (.cells #[.int .i64 b.1, .int .i64 b.2.1, .int .u64 b.2.2] 93)
  have hc := blk_alloc w1 #[.int .i64 b.1, .int .i64 b.2.1, .int .u64 b.2.2] 93
  have hb := hb.ext e1
  have hr := h _ (e0.trans e1)
  refine ⟨_, hb.cell (i := 2) (add_blk _ _) rfl, _, hc.cell (i := 2) (add_blk _ _) rfl, ifB_intro (fun h1 => ?_) fun h1 => ?_⟩
  · have h1 : b.2.2 < a.2.2 := of_decide_eq_true h1
    rw [decide_eq_true h1] at hr; exact hr
  · have h1 : ¬ b.2.2 < a.2.2 := of_decide_eq_false h1
    rw [decide_eq_false h1, Bool.false_or] at hr
    refine ⟨_, hb.cell (i := 2) (add_blk _ _) rfl, _, hc.cell (i := 2) (add_blk _ _) rfl, ifB_intro (fun h2 => ?_) fun h2 => ?_⟩
    · have h2 : a.2.2 = b.2.2 := by simpa using h2
      rw [decide_eq_true h2, Bool.true_and] at hr
      exact ⟨_, hb.cell (i := 0) (add_blk _ _) rfl, _, hc.cell (i := 0) (add_blk _ _) rfl, hr⟩
    · have h2 : ¬ a.2.2 = b.2.2 := by simpa using h2
      rw [decide_eq_false h2, Bool.false_and] at hr; exact hr
theorem c_abT {p q : Option Addr} {a b : Tr} {w : World} {R : Ending → World → Prop} (ha : IsN w p a) (hb : IsN w q b) (h : ∀ w', Ext w w' → R (.returned (.bool (abT a b))) w') : Calls Tryz.prog 316 #[.pointer p, .pointer q] w R := by
  refine sh316_ok _ _ ?_
  unfold sh316
  intro K5
  rw [ha.isNone, hb.isNone]
  unfold abT at h
  cases hn : a.nn with
  | false => rw [hn] at h; exact ifB_f rfl (h _ (ext_refl _))
  | true =>
    refine ifB_t rfl ?_
    cases hm : b.nn with
    | false => rw [hn, hm] at h; exact ifB_f rfl (h _ (ext_refl _))
    | true =>
      rw [hn, hm] at h
      refine ifB_t rfl (do_call Tryz.call321 (c_titem ha fun w1 e1 => retS_ret ⟨_, _, _, rfl, ?_⟩))
      refine do_call Tryz.call321 (c_titem (hb.ext e1) fun w2 e2 => retS_ret ⟨_, _, _, rfl, ?_⟩)
      exact do_call Tryz.call320 (c_tabove (a := (a.key, a.val, a.tag)) (b := (b.key, b.val, b.tag)) fun w3 e3 => retS_ret ⟨_, rfl, h _ ((e1.trans e2).trans e3)⟩)
set_option maxRecDepth 20000 in
/-- does a root stand above two others? -/
theorem c_tis {pa pb pm q : Option Addr} {c : Nat} {a b m : Tr} {w : World} {R : Ending → World → Prop} (ha : IsN w pa a) (hb : IsN w pb b) (hm : IsN w pm m) (hmn : m.nn = true) (hc : Cs w q [.pointer pm, .pointer pb])
    (h : ∀ w', Ext w w' → R (.returned (.bool (topT a b m))) w') : Calls Tryz.prog 315 #[.pointer pa, .slice q 2 c] w R := by
  refine sh315_ok _ _ _ _ ?_
  unfold sh315
  refine ⟨fun vs w' => Ext w w' ∧ ((vs = [.int .i64 0]) ∨ (vs = [.int .i64 1] ∧ abT a m = true) ∨ (vs = [.int .i64 2] ∧ abT a m = true ∧ (b.nn = true → abT a b = true))), fun vs _ => 2 - (intOf (vs.getD 0 undef)).toNat, ⟨ext_refl _, .inl rfl⟩, ?_⟩
  rintro i _ w2 ⟨E, hv⟩
  rcases hv with hv | ⟨hv, h1⟩ | ⟨hv, h1, h2⟩ <;> (simp only [List.cons.injEq, Value.int.injEq, true_and, and_true] at hv; subst hv)
  · refine ifB_t (by decide) ?_
    intro K11
    obtain ⟨ad, rfl, hr⟩ := hc 0 _ rfl
    refine ⟨_, rfl, by decide, by decide, _, (by have := E.cell hr; exact this), ?_⟩
    intro K16
    refine ifB_t (by rw [hm.isNone, hmn]; rfl) (do_call Tryz.call316 (c_abT (ha.ext E) (hm.ext E) fun w3 e3 => retS_ret ⟨_, rfl, ?_⟩))
    cases hab : abT a m with
    | false =>
      have := h _ (E.trans e3)
      unfold topT at this; rw [hab] at this
      exact ifB_t rfl this
    | true => exact ifB_f rfl ⟨⟨E.trans e3, .inr (.inl ⟨rfl, hab⟩)⟩, by show 2 - (1 : Nat) < 2 - 0; omega⟩
  · refine ifB_t (by decide) ?_
    intro K11
    obtain ⟨ad, rfl, hr⟩ := hc 1 _ rfl
    refine ⟨_, rfl, by decide, by decide, _, (by have := E.cell hr; exact this), ?_⟩
    intro K16
    refine ifB_intro (fun hbn => ?_) fun hbn => ?_
    · have hbn : b.nn = true := by rw [hb.isNone] at hbn; simpa using hbn
      refine do_call Tryz.call316 (c_abT (ha.ext E) (hb.ext E) fun w3 e3 => retS_ret ⟨_, rfl, ?_⟩)
      cases hab : abT a b with
      | false =>
        have := h _ (E.trans e3)
        unfold topT at this; rw [h1, hbn, hab] at this
        exact ifB_t rfl this
      | true => exact ifB_f rfl ⟨⟨E.trans e3, .inr (.inr ⟨rfl, h1, fun _ => hab⟩)⟩, by show 2 - (2 : Nat) < 2 - 1; omega⟩
    · have hbn : b.nn = false := by rw [hb.isNone] at hbn; simpa using hbn
      exact ⟨⟨E, .inr (.inr ⟨rfl, h1, fun h => by rw [hbn] at h; cases h⟩)⟩, by show 2 - (2 : Nat) < 2 - 1; omega⟩
  · refine ifB_f (by decide) ?_
    have := h _ E
    unfold topT at this
    have e : (!b.nn || abT a b) = true := by
      cases hbn : b.nn with
      | false => rfl
      | true => rw [h2 hbn]; rfl
    rw [h1, e] at this
    have hn := (abT_iff.1 h1).1
    rw [ha.isNone, hn]
    exact this
theorem joinT_eq {n : Nat} {l r : Tr} (k v g : Int) (hs : l.size + r.size ≤ n) : joinT n l k v g r =
    if topT l r (midT k v g) then .node l.left l.key l.val l.tag (joinT (n - 1) l.right k v g r)
    else if topT r l (midT k v g) then .node (joinT (n - 1) l k v g r.left) r.key r.val r.tag r.right
    else if abT l (midT k v g) then .node l.left l.key l.val l.tag (joinT (n - 1) l.right k v g r)
    else if abT r (midT k v g) then .node (joinT (n - 1) l k v g r.left) r.key r.val r.tag r.right
    else .node l k v g r := by
  cases n with
  | zero =>
    obtain rfl : l = .nil := by cases l <;> simp [Tr.size] at hs ⊢
    obtain rfl : r = .nil := by cases r <;> simp [Tr.size] at hs ⊢
    rfl
  | succ n => rfl
theorem joinT_size : ∀ (n : Nat) {l r : Tr} {k v g : Int}, l.size + r.size ≤ n → (joinT n l k v g r).size = l.size + 1 + r.size := fun n => by
  induction n with
  | zero => intro l r k v g hs; rfl
  | succ n ih =>
    intro l r k v g hs
    have hl : abT l (midT k v g) = true → (Tr.node l.left l.key l.val l.tag (joinT n l.right k v g r)).size = l.size + 1 + r.size := fun h => by
      have := size_nn (abT_iff.1 h).1
      show l.left.size + 1 + (joinT n l.right k v g r).size = _
      rw [ih (by omega)]; omega
    have hr : abT r (midT k v g) = true → (Tr.node (joinT n l k v g r.left) r.key r.val r.tag r.right).size = l.size + 1 + r.size := fun h => by
      have := size_nn (abT_iff.1 h).1
      show (joinT n l k v g r.left).size + 1 + r.right.size = _
      rw [ih (by omega)]; omega
    have no {a b : Tr} (h : topT a b (midT k v g) = true) : abT a (midT k v g) = true := by
      unfold topT at h
      revert h
      cases abT a (midT k v g) <;> simp
    unfold joinT
    split
    · rename_i h; exact hl (no h)
    · split
      · rename_i h; exact hr (no h)
      · split
        · rename_i h; exact hl h
        · split
          · rename_i h; exact hr h
          · rfl
abbrev RecT (k v g : Int) (n : Nat) : Prop := n ≠ 0 → ∀ {l r : Tr} {pl pr : Option Addr} {w : World} {R : Ending → World → Prop}, l.size + r.size ≤ n - 1 → IsN w pl l → IsN w pr r → l.size + r.size + 5 ≤ BIG →
  (∀ q w', Ext w w' → IsN w' q (joinT (n - 1) l k v g r) → R (.returned (.pointer q)) w') → Calls Tryz.prog 310 #[.pointer pl, .agg #[.int .i64 k, .int .i64 v, .int .u64 g], .pointer pr] w R
set_option maxRecDepth 20000 in
theorem c_tboth {k v g : Int} {n : Nat} (rec : RecT k v g n) {l r : Tr} {pl pm pr : Option Addr} {w : World} {R : Ending → World → Prop} (hs : l.size + r.size ≤ n) (hl : IsN w pl l) (hm : IsN w pm (midT k v g)) (hr : IsN w pr r) (hB : l.size + r.size + 5 ≤ BIG)
    (t1 : topT l r (midT k v g) = false) (t2 : topT r l (midT k v g) = false) (h : ∀ q w', Ext w w' → IsN w' q (joinT n l k v g r) → R (.returned (.pointer q)) w') : Calls Tryz.prog 317 #[.pointer pl, .pointer pm, .pointer pr] w R := by
  refine sh317_ok _ _ _ ?_
  unfold sh317
  rw [joinT_eq k v g hs, t1, t2] at h
  simp only [Bool.false_eq_true, if_false] at h
  simp only [BIG] at hB
  refine do_call Tryz.call107 (c_key hm fun w1 e1 => retS_ret ⟨_, rfl, ?_⟩)
  refine do_call Tryz.call165 (c_val (hm.ext e1) fun w2 e2 => retS_ret ⟨_, rfl, ?_⟩)
  refine do_call Tryz.call166 (c_tag (hm.ext (e1.trans e2)) fun w3 e3 => retS_ret ⟨_, rfl, ⟨?_⟩⟩)
  have E3 := (e1.trans e2).trans e3
  refine do_st3 (blk_alloc w3 _ _) fun w4 h4 g4 => ?_
  have E4 : Ext w w4 := E3.trans ((ext_alloc w3 _).st g4 (Nat.le_refl _))
  have h4 : Blk w4 w3.heap.size #[.int .i64 k, .int .i64 v, .int .u64 g] 93 := h4
  refine do_call Tryz.call316 (c_abT (hl.ext E4) (hm.ext E4) fun w5 e5 => retS_ret ⟨_, rfl, ?_⟩)
  have E5 := E4.trans e5
  have h5b := h4.ext e5
  have hl5 := hl.ext E5
  have hr5 := hr.ext E5
  cases ha : abT l (midT k v g) with
  | true =>
    have hln := (abT_iff.1 ha).1
    rw [ha, if_pos rfl] at h
    refine ifB_t rfl ?_
    refine ⟨⟨fun w' => Ext w5 w', ext_drew _, _, fun w' e => (h5b.ext e).cell (i := 0) (add_blk _ _) rfl, _, fun w' e => (h5b.ext e).cell (i := 1) (add_blk _ _) rfl, _, fun w' e => (h5b.ext e).cell (i := 2) (add_blk _ _) rfl, ?_⟩⟩
    have d := ext_drew w5
    refine do_call Tryz.call108 (c_left (hl5.ext d) fun q1 h1 => retS_ret ⟨_, rfl, d, ?_⟩)
    refine do_call Tryz.call107 (c_key (hl5.ext d) fun w2 e2 => retS_ret ⟨_, rfl, d.trans e2, ?_⟩)
    have d2 := d.trans e2
    refine do_call Tryz.call165 (c_val (hl5.ext d2) fun w3 e3 => retS_ret ⟨_, rfl, d2.trans e3, ?_⟩)
    have d3 := d2.trans e3
    refine do_call Tryz.call166 (c_tag (hl5.ext d3) fun w4 e4 => retS_ret ⟨_, rfl, d3.trans e4, ?_⟩)
    have d4 := d3.trans e4
    refine do_call Tryz.call109 (c_right (hl5.ext d4) fun q5 h5 => retS_ret ⟨_, rfl, d4, ?_⟩)
    have hsz := size_nn hln
    refine do_call Tryz.call310 (rec (by omega) (by omega) h5 (hr5.ext d4) (by simp only [BIG]; omega) fun q6 w6 e6 h6 => retS_ret ⟨_, rfl, ?_⟩)
    have d6 := d4.trans e6
    have hjs : (joinT (n - 1) l.right k v g r).size = l.right.size + 1 + r.size := joinT_size _ (by omega)
    exact do_call Tryz.call60 (c_new (h1.ext (((e2.trans e3).trans e4).trans e6)) h6 (by rw [hjs]; omega) fun b7 w7 e7 h7 _ => retS_ret ⟨_, rfl, d6.trans e7, h _ _ ((E5.trans d6).trans e7) h7⟩)
  | false =>
    rw [ha, if_neg (by simp)] at h
    refine ifB_f rfl (do_call Tryz.call316 (c_abT hr5 (hm.ext E5) fun w6 e6 => retS_ret ⟨_, rfl, ?_⟩))
    have E6 := E5.trans e6
    have h6b := h5b.ext e6
    have hl6 := hl5.ext e6
    have hr6 := hr5.ext e6
    cases hb : abT r (midT k v g) with
    | true =>
      have hrn := (abT_iff.1 hb).1
      rw [hb, if_pos rfl] at h
      refine ifB_t rfl ?_
      refine ⟨⟨fun w' => Ext w6 w', ext_drew _, _, fun w' e => (h6b.ext e).cell (i := 0) (add_blk _ _) rfl, _, fun w' e => (h6b.ext e).cell (i := 1) (add_blk _ _) rfl, _, fun w' e => (h6b.ext e).cell (i := 2) (add_blk _ _) rfl, ?_⟩⟩
      have d := ext_drew w6
      have hsz := size_nn hrn
      refine do_call Tryz.call108 (c_left (hr6.ext d) fun q1 h1 => retS_ret ⟨_, rfl, d, ?_⟩)
      refine do_call Tryz.call310 (rec (by omega) (by omega) (hl6.ext d) h1 (by simp only [BIG]; omega) fun q2 w2 e2 h2 => retS_ret ⟨_, rfl, ?_⟩)
      have d2 := d.trans e2
      have hjs : (joinT (n - 1) l k v g r.left).size = l.size + 1 + r.left.size := joinT_size _ (by omega)
      refine do_call Tryz.call107 (c_key (hr6.ext d2) fun w3 e3 => retS_ret ⟨_, rfl, d2.trans e3, ?_⟩)
      have d3 := d2.trans e3
      refine do_call Tryz.call165 (c_val (hr6.ext d3) fun w4 e4 => retS_ret ⟨_, rfl, d3.trans e4, ?_⟩)
      have d4 := d3.trans e4
      refine do_call Tryz.call166 (c_tag (hr6.ext d4) fun w5 e5 => retS_ret ⟨_, rfl, d4.trans e5, ?_⟩)
      have d5 := d4.trans e5
      refine do_call Tryz.call109 (c_right (hr6.ext d5) fun q6 h6 => retS_ret ⟨_, rfl, d5, ?_⟩)
      exact do_call Tryz.call60 (c_new (h2.ext ((e3.trans e4).trans e5)) h6 (by rw [hjs]; omega) fun b7 w7 e7 h7 _ => retS_ret ⟨_, rfl, d5.trans e7, h _ _ ((E6.trans d5).trans e7) h7⟩)
    | false =>
      rw [hb, if_neg (by simp)] at h
      refine ifB_f rfl ⟨_, h6b.cell (i := 0) (add_blk _ _) rfl, _, h6b.cell (i := 1) (add_blk _ _) rfl, _, h6b.cell (i := 2) (add_blk _ _) rfl, ?_⟩
      exact do_call Tryz.call60 (c_new hl6 hr6 (by omega) fun b7 w7 e7 h7 _ => retS_ret ⟨_, rfl, h _ _ (E6.trans e7) h7⟩)
set_option maxRecDepth 20000 in
theorem c_tstep {k v g : Int} {n : Nat} (rec : RecT k v g n) {l r : Tr} {pl pr : Option Addr} {w : World} {R : Ending → World → Prop} (hs : l.size + r.size ≤ n) (hl : IsN w pl l) (hr : IsN w pr r) (hB : l.size + r.size + 5 ≤ BIG)
    (h : ∀ q w', Ext w w' → IsN w' q (joinT n l k v g r) → R (.returned (.pointer q)) w') : Calls Tryz.prog 310 #[.pointer pl, .agg #[.int .i64 k, .int .i64 v, .int .u64 g], .pointer pr] w R := by
  refine sh310_ok _ _ _ _ _ ?_
  unfold sh310
  have hh := h
  rw [joinT_eq k v g hs] at h
  have hB' := hB
  simp only [BIG] at hB
  refine ⟨?_⟩
  have e0 := ext_alloc w (.cells #[.int .i64 k, .int .i64 v, .int .u64 g] 93)
  have hb := blk_alloc w #[.int .i64 k, .int .i64 v, .int .u64 g] 93
  refine ⟨_, hb.cell (i := 0) (add_blk _ _) rfl, _, hb.cell (i := 1) (add_blk _ _) rfl, _, hb.cell (i := 2) (add_blk _ _) rfl, ?_⟩
  refine do_call Tryz.call60 (c_new (l := .nil) (r := .nil) rfl rfl (by decide) fun bm w1 e1 hm _ => retS_ret ⟨_, rfl, ⟨?_⟩⟩)
  have hm : IsN w1 (some (blk bm)) (midT k v g) := hm
  have E1 := e0.trans e1
  have e2 := ext_alloc w1 (.cells #[.pointer (some (blk bm)), .pointer pr] 30)
  have hc := cs_alloc w1 #[.pointer (some (blk bm)), .pointer pr] 30
  have E2 := E1.trans e2
  refine do_call Tryz.call315 (c_tis (hl.ext E2) (hr.ext E2) (hm.ext e2) rfl hc fun w3 e3 => retS_ret ⟨_, rfl, ⟨?_⟩⟩)
  have E3 := E2.trans e3
  have e4 := ext_alloc w3 (.cells #[.pointer (some (blk bm)), .pointer pl] 30)
  have hc := cs_alloc w3 #[.pointer (some (blk bm)), .pointer pl] 30
  have E4 := E3.trans e4
  refine do_call Tryz.call315 (c_tis (hr.ext E4) (hl.ext E4) (hm.ext ((e2.trans e3).trans e4)) rfl hc fun w5 e5 => retS_ret ⟨_, rfl, ?_⟩)
  have E5 := E4.trans e5
  have h5b := hb.ext ((((e1.trans e2).trans e3).trans e4).trans e5)
  have hl5 := hl.ext E5
  have hr5 := hr.ext E5
  have hm5 := hm.ext (((e2.trans e3).trans e4).trans e5)
  have no {a b : Tr} (h : topT a b (midT k v g) = true) : abT a (midT k v g) = true := by
    unfold topT at h
    revert h
    cases abT a (midT k v g) <;> simp
  have notboth : topT l r (midT k v g) = true → topT r l (midT k v g) = true → False := by
    intro h1 h2
    unfold topT at h1 h2
    have h1 : abT l (midT k v g) = true ∧ (r.nn = false ∨ abT l r = true) := by simpa using h1
    have h2 : abT r (midT k v g) = true ∧ (l.nn = false ∨ abT r l = true) := by simpa using h2
    have n1 := (abT_iff.1 h1.1).1
    have n2 := (abT_iff.1 h2.1).1
    rw [n2] at h1
    rw [n1] at h2
    have a1 := (abT_iff.1 (h1.2.resolve_left (by simp))).2.2
    have a2 := (abT_iff.1 (h2.2.resolve_left (by simp))).2.2
    omega
  cases t1 : topT l r (midT k v g) with
  | true =>
    have t2 : topT r l (midT k v g) = false := by
      cases t2 : topT r l (midT k v g) with
      | false => rfl
      | true => exact (notboth t1 t2).elim
    have hln := (abT_iff.1 (no t1)).1
    rw [t1, if_pos rfl] at h
    rw [t2]
    refine ifB_t rfl ?_
    refine ⟨⟨fun w' => Ext w5 w', ext_drew _, _, fun w' e => (h5b.ext e).cell (i := 0) (add_blk _ _) rfl, _, fun w' e => (h5b.ext e).cell (i := 1) (add_blk _ _) rfl, _, fun w' e => (h5b.ext e).cell (i := 2) (add_blk _ _) rfl, ?_⟩⟩
    have d := ext_drew w5
    refine do_call Tryz.call108 (c_left (hl5.ext d) fun q1 h1 => retS_ret ⟨_, rfl, d, ?_⟩)
    refine do_call Tryz.call107 (c_key (hl5.ext d) fun w2 e2 => retS_ret ⟨_, rfl, d.trans e2, ?_⟩)
    have d2 := d.trans e2
    refine do_call Tryz.call165 (c_val (hl5.ext d2) fun w3 e3 => retS_ret ⟨_, rfl, d2.trans e3, ?_⟩)
    have d3 := d2.trans e3
    refine do_call Tryz.call166 (c_tag (hl5.ext d3) fun w4 e4 => retS_ret ⟨_, rfl, d3.trans e4, ?_⟩)
    have d4 := d3.trans e4
    refine do_call Tryz.call109 (c_right (hl5.ext d4) fun q5 h5 => retS_ret ⟨_, rfl, d4, ?_⟩)
    have hsz := size_nn hln
    refine do_call Tryz.call310 (rec (by omega) (by omega) h5 (hr5.ext d4) (by simp only [BIG]; omega) fun q6 w6 e6 h6 => retS_ret ⟨_, rfl, ?_⟩)
    have d6 := d4.trans e6
    have hjs : (joinT (n - 1) l.right k v g r).size = l.right.size + 1 + r.size := joinT_size _ (by omega)
    exact do_call Tryz.call60 (c_new (h1.ext (((e2.trans e3).trans e4).trans e6)) h6 (by rw [hjs]; omega) fun b7 w7 e7 h7 _ => retS_ret ⟨_, rfl, d6.trans e7, h _ _ ((E5.trans d6).trans e7) h7⟩)
  | false =>
    rw [t1, if_neg (by simp)] at h
    cases t2 : topT r l (midT k v g) with
    | true =>
      have hrn := (abT_iff.1 (no t2)).1
      rw [t2, if_pos rfl] at h
      refine ifB_f rfl (ifB_t rfl ?_)
      refine ⟨⟨fun w' => Ext w5 w', ext_drew _, _, fun w' e => (h5b.ext e).cell (i := 0) (add_blk _ _) rfl, _, fun w' e => (h5b.ext e).cell (i := 1) (add_blk _ _) rfl, _, fun w' e => (h5b.ext e).cell (i := 2) (add_blk _ _) rfl, ?_⟩⟩
      have d := ext_drew w5
      have hsz := size_nn hrn
      refine do_call Tryz.call108 (c_left (hr5.ext d) fun q1 h1 => retS_ret ⟨_, rfl, d, ?_⟩)
      refine do_call Tryz.call310 (rec (by omega) (by omega) (hl5.ext d) h1 (by simp only [BIG]; omega) fun q2 w2 e2 h2 => retS_ret ⟨_, rfl, ?_⟩)
      have d2 := d.trans e2
      have hjs : (joinT (n - 1) l k v g r.left).size = l.size + 1 + r.left.size := joinT_size _ (by omega)
      refine do_call Tryz.call107 (c_key (hr5.ext d2) fun w3 e3 => retS_ret ⟨_, rfl, d2.trans e3, ?_⟩)
      have d3 := d2.trans e3
      refine do_call Tryz.call165 (c_val (hr5.ext d3) fun w4 e4 => retS_ret ⟨_, rfl, d3.trans e4, ?_⟩)
      have d4 := d3.trans e4
      refine do_call Tryz.call166 (c_tag (hr5.ext d4) fun w5 e5 => retS_ret ⟨_, rfl, d4.trans e5, ?_⟩)
      have d5 := d4.trans e5
      refine do_call Tryz.call109 (c_right (hr5.ext d5) fun q6 h6 => retS_ret ⟨_, rfl, d5, ?_⟩)
      exact do_call Tryz.call60 (c_new (h2.ext ((e3.trans e4).trans e5)) h6 (by rw [hjs]; omega) fun b7 w7 e7 h7 _ => retS_ret ⟨_, rfl, d5.trans e7, h _ _ ((E5.trans d5).trans e7) h7⟩)
    | false =>
      refine ifB_f rfl (ifB_f rfl ?_)
      exact do_call Tryz.call317 (c_tboth rec hs hl5 hm5 hr5 hB' t1 t2 fun q w6 e6 h6 => retS_ret ⟨_, rfl, hh _ _ (E5.trans e6) h6⟩)
theorem c_tjoin {k v g : Int} : ∀ (n : Nat) {l r : Tr} {pl pr : Option Addr} {w : World} {R : Ending → World → Prop} (_hs : l.size + r.size ≤ n) (_hl : IsN w pl l) (_hr : IsN w pr r) (_hB : l.size + r.size + 5 ≤ BIG)
    (_h : ∀ q w', Ext w w' → IsN w' q (joinT n l k v g r) → R (.returned (.pointer q)) w'), Calls Tryz.prog 310 #[.pointer pl, .agg #[.int .i64 k, .int .i64 v, .int .u64 g], .pointer pr] w R
  | 0, _, _, _, _, _, _, hs, hl, hr, hB, h => c_tstep (fun h0 => absurd rfl h0) hs hl hr hB h
  | n + 1, _, _, _, _, _, _, hs, hl, hr, hB, h => c_tstep (n := n + 1) (fun _ {_ _ _ _ _ _} hs hl hr hB h => c_tjoin n hs hl hr hB h) hs hl hr hB h
end Go.Proofs.YtbaoihmffobneaaGreat
