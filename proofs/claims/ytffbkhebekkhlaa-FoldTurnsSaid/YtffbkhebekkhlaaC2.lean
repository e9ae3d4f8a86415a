/-
  The three laws of fold: the walks.
-/
import Derived.Test.YtffbkhebekkhlaaLw
namespace Go.Proofs.Ytffbkhebekkhlaa
open Go Go.Sh Go.RowKit

theorem cs3 (w : World) (a b c : Int) : Cs (w.alloc (.cells #[.int .i64 a, .int .i64 b, .int .i64 c] 2)) (some (blk w.heap.size)) (ints [a, b, c]) := cs_alloc _ _ _
theorem c_alive {w : World} {R : Ending → World → Prop} (h : ∀ w', Ext w w' → R (.returned (.bool true)) w') : Calls Try.prog 6 #[] w R := by
  refine sh6_ok ?_
  unfold sh6
  refine do_call Try.call8 (c_comb fun w1 e1 => retS_ret ⟨_, _, rfl, ⟨?_⟩⟩)
  refine do_call Try.call7 (c_run (cs3 _ _ _ _) rfl (by omega) (by omega) fun w2 e2 => retS_ret ⟨_, _, rfl, ⟨?_⟩⟩)
  refine do_call Try.call7 (c_run (cs3 _ _ _ _) rfl (by omega) (by omega) fun w3 e3 => retS_ret ⟨_, _, rfl, ?_⟩)
  refine do_call Try.call7 (c_run (l := []) (cs_nil _ _) rfl (by omega) (by omega) fun w4 e4 => retS_ret ⟨_, _, rfl, ?_⟩)
  refine ifB_t (by decide) (ifB_t (by decide) (ifB_t (by decide) (ifB_t (by decide) (ifB_t (by decide) (ifB_t (by decide) (ifB_t (by decide) ⟨?_⟩))))))
  refine do_call Try.call11 (c_sums (cs3 _ _ _ _) rfl (by omega) fun p c w5 e5 hr => retS_ret ⟨_, _, _, rfl, ⟨?_⟩⟩)
  refine do_call Try.call16 (c_rsame (Cs.of_row (hr.alloc _)) rfl (cs3 _ _ _ _) rfl (by omega) fun w6 e6 => retS_ret ⟨_, rfl, ?_⟩)
  refine ifB_t (by decide) ⟨?_⟩
  refine do_call Try.call9 (c_sum (l := [9223372036854775807, 1]) (cs_alloc _ _ _) rfl (by omega) fun w7 e7 => retS_ret ⟨_, rfl, ?_⟩)
  have e := ((((ext_alloc _ _).trans e2).trans ((ext_alloc _ _).trans e3)).trans e4).trans (((((ext_alloc _ _).trans e5).trans (ext_alloc _ _)).trans e6).trans ((ext_alloc _ _).trans e7))
  exact h _ (e1.trans e)

/-- a slice that came in -/
structure Arg (w : World) (q : Option Addr) (n c : Nat) (l : List Int) : Prop where
  cs : Cs w q (ints l)
  len : l.length = n
  cap : n ≤ c
  nil : q = none → n = 0 ∧ c = 0
  big : n ≤ 9223372036854775807
  fits : ∀ x ∈ l, In x
theorem walk5 {p a b : Int} {q : Option Addr} {n c : Nat} {l : List Int} {w : World} (hl : Arg w q n c l) :
    Calls Try.prog 5 #[.int .u8 p, .int .i64 a, .int .i64 b, .slice q n c] w fun e w' => e = .returned (.bool true) ∧ Ext w w' := by
  refine sh5_ok _ _ _ _ _ _ ?_
  unfold sh5
  refine ifB_intro (fun _ => do_call Try.call6 (c_alive fun w1 e1 => retS_ret ⟨_, rfl, rfl, e1⟩)) fun h0 => ?_
  have h0 : n ≤ 300 := by simp at h0; omega
  refine do_call Try.call8 (c_comb fun w1 e1 => retS_ret ⟨_, _, rfl, ?_⟩)
  refine do_call Try.call10 (c_own (hl.cs.ext e1) hl.len hl.nil (by omega) fun p2 c2 w2 e2 hr2 => retS_ret ⟨_, _, _, rfl, ?_⟩)
  refine do_call Try.call7 (c_run (Cs.of_row hr2) hl.len (row_cap hr2) hl.big fun w3 e3 => retS_ret ⟨_, _, rfl, ?_⟩)
  have E3 := (e1.trans e2).trans e3
  refine do_call Try.call12 (c_rrun (hl.cs.ext E3) hl.len hl.big (retS_ret ⟨_, _, rfl, ?_⟩))
  refine do_call Try.call13 (c_fmay fun w4 e4 => retS_ret ⟨_, rfl, ?_⟩)
  refine do_call Try.call14 (c_rmay (retS_ret ⟨_, rfl, ?_⟩))
  refine ifB_f (by simp) (ifB_f (by simp) (ifB_f (by simp) ?_))
  have E4 := E3.trans e4
  refine do_call Try.call9 (c_sum (hl.cs.ext E4) hl.len hl.big fun w5 e5 => retS_ret ⟨_, rfl, ?_⟩)
  have E5 := E4.trans e5
  refine do_call Try.call15 (c_rsum (hl.cs.ext E5) hl.len hl.big (retS_ret ⟨_, rfl, ?_⟩))
  refine ifB_f (by simp) ?_
  refine do_call Try.call11 (c_sums (hl.cs.ext E5) hl.len (by omega) fun p6 c6 w6 e6 hr6 => retS_ret ⟨_, _, _, rfl, ?_⟩)
  have E6 := E5.trans e6
  refine do_call Try.call17 (c_rsums (hl.cs.ext E6) hl.len hl.cap (by omega) fun p7 c7 w7 e7 hr7 => retS_ret ⟨_, _, _, rfl, ?_⟩)
  refine do_call Try.call16 (c_rsame (Cs.of_row (e7.row hr6)) (by simpa using hl.len) (Cs.of_row hr7) (by simpa using hl.len) hl.big fun w8 e8 => retS_ret ⟨_, rfl, ?_⟩)
  have E8 := (E6.trans e7).trans e8
  refine ifB_f (by simp) ?_
  refine do_call Try.call14 (c_rmay (retS_ret ⟨_, rfl, ?_⟩))
  cases hm : may p
  · refine ifB_t rfl (ifB_t rfl (ifB_t rfl (do_call Try.call6 (c_alive fun w9 e9 => retS_ret ⟨_, rfl, rfl, E8.trans e9⟩))))
  · refine ifB_f rfl (do_call Try.call18 (c_rcomb (retS_ret ⟨_, rfl, ifB_t (by simp) (ifB_t rfl (do_call Try.call6 (c_alive fun w9 e9 => retS_ret ⟨_, rfl, rfl, E8.trans e9⟩)))⟩)))

theorem at_lt {i : Int} {n : Nat} (hi : 0 ≤ i ∧ i < 256) (hn : 0 < n) : ∃ k : Nat, Int.tmod (IntKind.wrap .i64 i) (n : Int) = (k : Int) ∧ k < n := by
  rw [wrap_of (by omega) (by omega)]
  have h1 : 0 ≤ Int.tmod i n := Int.tmod_nonneg _ hi.1
  have h2 : Int.tmod i n < n := Int.tmod_lt_of_pos _ (by omega)
  exact ⟨(Int.tmod i n).toNat, by omega, by omega⟩
theorem getD_eq {l : List Int} {k : Nat} (h : k < l.length) : l.getD k 0 = l[k] := by simp [List.getElem?_eq_getElem h]
theorem walk4 {i k v : Int} {q : Option Addr} {n c : Nat} {l : List Int} {w : World} (hl : Arg w q n c l) (hi : 0 ≤ i ∧ i < 256) (hk : 0 ≤ k ∧ k < 256) :
    Calls Try.prog 4 #[.slice q n c, .int .u8 i, .int .u8 k, .int .i64 v] w fun e w' => e = .returned (.bool true) ∧ Ext w w' := by
  refine sh4_ok _ _ _ _ _ _ ?_
  unfold sh4
  refine ifB_intro (fun _ => do_call Try.call6 (c_alive fun w1 e1 => retS_ret ⟨_, rfl, rfl, e1⟩)) fun h0 => ?_
  refine ifB_intro (fun _ => do_call Try.call6 (c_alive fun w1 e1 => retS_ret ⟨_, rfl, rfl, e1⟩)) fun h1 => ?_
  have h0 : n ≤ 300 := by simp at h0; omega
  have h1 : 2 ≤ n := by simp at h1; omega
  obtain ⟨x, hx, hxn⟩ := at_lt hi (show 0 < n by omega)
  obtain ⟨y, hy, hyn⟩ := at_lt hk (show 0 < n by omega)
  rw [hx, hy]
  have hn := hl.len
  refine do_call Try.call10 (c_own hl.cs hl.len hl.nil (by omega) fun p1 c1 w1 e1 hr1 => retS_ret ⟨_, _, _, rfl, ?_⟩)
  obtain ⟨b1, rfl, hb1, hb3⟩ := row_some hr1 (by omega)
  refine do_call Try.call10 (c_own (hl.cs.ext e1) hl.len hl.nil (by omega) fun p2 c2 w2 e2 hr2 => retS_ret ⟨_, _, _, rfl, ?_⟩)
  have E2 := e1.trans e2
  have hr1 := e2.row hr1
  refine ⟨⟨by omega, by omega, ⟨fun w' => Ext w2 w', (ext_drew _).drew, ?_⟩⟩⟩
  refine ix_int (Cs.of_row hr1) hn (by omega) (by omega) fun a _ hx1 => ⟨_, fun w' e' => e'.cell hx1, ix_int (Cs.of_row hr1) hn (by omega) (by omega) fun a' _ hx' => ⟨_, fun w' e' => e'.cell hx', ?_⟩⟩
  have E3 : Ext w w2.drew.drew := E2.drew.drew
  have hr3 : w2.drew.drew.ownsRow w.heap.size 2 1 (.slice (some (blk b1)) n c1) n (ints l) := hr1
  have hr3' : w2.drew.drew.ownsRow w1.heap.size 2 1 (.slice p2 n c2) n (ints l) := hr2
  have e23 : Ext w1 w2.drew.drew := e2.drew.drew
  generalize w2.drew.drew = w3 at E3 hr3 hr3' e23 ⊢
  simp only [Int.toNat_natCast, Nat.mul_one] at *
  rw [getD_eq (by omega), getD_eq (by omega)]
  refine ix_int (Cs.of_row hr3) hn (by omega) (by omega) fun a ha _ => ?_
  cases ha
  rw [Int.toNat_natCast, Nat.mul_one]
  refine do_st_row hr3 hxn rfl _ fun w4 hr4 g4 => ?_
  refine ix_int (Cs.of_row hr4) (by simpa using hn) (by omega) (by omega) fun a ha _ => ?_
  cases ha
  rw [Int.toNat_natCast, Nat.mul_one]
  refine do_st_row hr4 hyn rfl _ fun w5 hr5 g5 => ?_
  have E5 : Ext w w5 := (E3.grown g4 (by rintro _ ⟨⟩; exact hb1)).grown g5 (by rintro _ ⟨⟩; exact hb1)
  have hne : (Value.slice p2 n c2).ownBlock ≠ some b1 := fun e => by have := (hr3'.lt b1 e).1; omega
  have hr5' := (hr3'.kept g4 (.inr hne)).kept g5 (.inr hne)
  have hnp : l ≠ [] := by rintro rfl; simp at hn; omega
  refine do_call Try.call7 (c_run (hl.cs.ext E5) hn hl.cap hl.big fun w6 e6 => retS_ret ⟨_, _, rfl, ?_⟩)
  refine do_call Try.call7 (c_run (Cs.of_row (e6.row hr5)) (by simpa using hn) (row_cap hr5) hl.big fun w7 e7 => retS_ret ⟨_, _, rfl, ?_⟩)
  have hrr := e7.row (e6.row hr5')
  have hrs := e7.row (e6.row hr5)
  have E7 := (E5.trans e6).trans e7
  have gx : l.getD x 0 = l[x] := getD_eq (by omega)
  have gy : l.getD y 0 = l[y] := getD_eq (by omega)
  have hsw : sumL ((l.set x l[y]).set y l[x]) = sumL l := by rw [sumL_eq, sumL_eq, sum_swap]
  have hin : ∀ z ∈ (l.set x l[y]).set y l[x], In z := set_in (set_in hl.fits (hl.fits _ (List.getElem_mem _))) (hl.fits _ (List.getElem_mem _))
  have hne2 : (l.set x l[y]).set y l[x] ≠ [] := by intro e; apply hnp; simpa using e
  have hrun : runV 3 l = sumL l := by simp [runV, may, runL3 hl.fits hnp]
  have hrun' : runV 3 ((l.set x l[y]).set y l[x]) = sumL l := by rw [← hsw]; simp [runV, may, runL3 hin hne2]
  have hE : ∀ {m : List Int}, m ≠ [] → runE 3 m = 0 := fun {m} h => by cases m with | nil => exact absurd rfl h | cons z zs => rfl
  rw [hrun, hrun', hE hnp, hE hne2]
  refine ifB_f (by simp) (ifB_f (by simp) (ifB_f (by simp) ?_))
  refine do_call Try.call9 (c_sum (Cs.of_row hrs) (by simpa using hn) hl.big fun w8 e8 => retS_ret ⟨_, rfl, ?_⟩)
  rw [hsw]
  refine ifB_f (by simp) ?_
  have hr8 := e8.row hrr
  have E8 := E7.trans e8
  obtain ⟨b2, rfl, hb2, hb2'⟩ := row_some hr8 (by omega)
  rw [wrap_of (by omega) (by omega)]
  refine ix_int (Cs.of_row hr8) hn (by omega) (by omega) fun a ha _ => ?_
  cases ha
  rw [Nat.mul_one, show ((n : Int) - 1).toNat = n - 1 by omega]
  refine do_st_row hr8 (by omega) rfl _ fun w9 hr9 g9 => ?_
  have E9 := E8.grown g9 (by rintro _ ⟨⟩; exact Nat.le_trans e1.size hb2)
  refine do_call Try.call7 (c_run (hl.cs.ext E9) hn hl.cap hl.big fun w10 e10 => retS_ret ⟨_, _, rfl, ?_⟩)
  refine do_call Try.call7 (c_run (Cs.of_row (e10.row hr9)) (by simpa using hn) (row_cap hr9) hl.big fun w11 e11 => retS_ret ⟨_, _, rfl, ?_⟩)
  have E11 := (E9.trans e10).trans e11
  have hleft : runV 1 l = runV 1 (l.set (n - 1) v) := by
    obtain ⟨x1, xs, rfl⟩ := List.exists_cons_of_ne_nil hnp
    obtain ⟨m, hm⟩ : ∃ m, n - 1 = m + 1 := ⟨n - 2, by omega⟩
    rw [hm, List.set_cons_succ]
    simp [runV, may, runL1]
  rw [← hleft]
  refine ifB_f (by simp) ?_
  refine do_call Try.call10 (c_own (hl.cs.ext E11) hl.len hl.nil (by omega) fun p12 c12 w12 e12 hr12 => retS_ret ⟨_, _, _, rfl, ?_⟩)
  have E12 := E11.trans e12
  obtain ⟨b3, rfl, hb3, hb3'⟩ := row_some hr12 (by omega)
  refine ix_int (Cs.of_row hr12) hn (by omega) (by omega) fun a ha _ => ?_
  cases ha
  rw [Nat.mul_one, show ((0 : Int)).toNat = 0 by omega]
  refine do_st_row hr12 (by omega) rfl _ fun w13 hr13 g13 => ?_
  have E13 := E12.grown g13 (by rintro _ ⟨⟩; exact Nat.le_trans E11.size hb3)
  refine do_call Try.call7 (c_run (hl.cs.ext E13) hn hl.cap hl.big fun w14 e14 => retS_ret ⟨_, _, rfl, ?_⟩)
  refine do_call Try.call7 (c_run (Cs.of_row (e14.row hr13)) (by simpa using hn) (row_cap hr13) hl.big fun w15 e15 => retS_ret ⟨_, _, rfl, ?_⟩)
  have E15 := (E13.trans e14).trans e15
  have hright : runV 2 l = runV 2 (l.set 0 v) := by
    have hne3 : l.set 0 v ≠ [] := by intro e; apply hnp; simpa using e
    have hne4 : l.tail ≠ [] := by intro e; have : l.tail.length = n - 1 := by simp [hn]
                                  rw [e] at this; simp at this; omega
    simp only [runV, runL2 hnp, runL2 hne3]
    obtain ⟨x1, xs, rfl⟩ := List.exists_cons_of_ne_nil hnp
    simp only [List.set_cons_zero, List.tail_cons] at hne4 ⊢
    rw [List.getLast_cons hne4, List.getLast_cons hne4]
  rw [← hright]
  refine do_call Try.call11 (c_sums (hl.cs.ext E15) hl.len (by omega) fun p16 c16 w16 e16 hr16 => retS_ret ⟨_, _, _, rfl, ?_⟩)
  have E16 := E15.trans e16
  have h00 : (sumsL l).getD 0 0 = l.getD 0 0 := by
    rw [getD_eq (by simp; omega), getD_eq (by omega)]
    have : l.take 1 = [l[0]] := by rw [take_succ (by omega)]; simp
    simp only [sumsL, List.getElem_map, List.getElem_range, Nat.zero_add, this]
    simp only [sumL, List.foldl_cons, List.foldl_nil, Int.zero_add]
    exact w64_in (hl.fits _ (List.getElem_mem _))
  refine ⟨⟨fun w' => Ext w16 w', ext_drew _, ?_⟩⟩
  refine ifB_f (by simp) (ifB_f (by simp) ?_)
  refine ix_int (Cs.of_row hr16) (by simpa using hn) (by omega) (by omega) fun a _ hx1 => ⟨_, fun w' e' => e'.cell hx1, ix_int (hl.cs.ext E16) hn (by omega) (by omega) fun a' _ hx' => ⟨_, fun w' e' => e'.cell hx', ?_⟩⟩
  rw [show ((0 : Int)).toNat = 0 by omega, h00]
  refine ifB_f (by simp) ?_
  clear hx1 hx'
  refine ⟨fun vs w' => ∃ i : Nat, vs = [.int .i64 i] ∧ 1 ≤ i ∧ i ≤ n ∧ Ext w16 w', fun vs _ => n - (intOf (vs.getD 0 undef)).toNat, ⟨1, rfl, by omega, by omega, ext_drew _⟩, ?_⟩
  rintro i j w17 ⟨m, hm, hm1, hmn, e17⟩
  simp only [List.cons.injEq, Value.int.injEq, true_and, and_true] at hm
  obtain rfl := hm
  refine ifB_intro (fun h2 => ?_) fun h2 => do_call Try.call6 (c_alive fun w18 e18 => retS_ret ⟨_, rfl, rfl, (E16.trans e17).trans e18⟩)
  have h2 : m < n := by simpa using h2
  refine ⟨⟨fun w' => Ext w17 w', ext_drew _, ?_⟩⟩
  have hr17 := e17.row hr16
  rw [show IntKind.wrap .i64 ((m : Int) - 1) = ((m - 1 : Nat) : Int) by rw [wrap_of (by omega) (by omega)]; omega]
  refine ix_int (Cs.of_row hr17) (by simpa using hn) (by omega) (by omega) fun a _ hx1 => ⟨_, fun w' e' => e'.cell hx1, ?_⟩
  refine ix_int (Cs.of_row hr17) (by simpa using hn) (by omega) (by omega) fun a _ hx2 => ⟨_, fun w' e' => e'.cell hx2, ?_⟩
  refine ix_int ((hl.cs.ext E16).ext e17) hn (by omega) (by omega) fun a' _ hx' => ⟨_, fun w' e' => e'.cell hx', ?_⟩
  simp only [Int.toNat_natCast]
  have hd : W64 ((sumsL l).getD m 0 - (sumsL l).getD (m - 1) 0) = l.getD m 0 := by
    rw [getD_eq (by simp; omega), getD_eq (by simp; omega), getD_eq (by omega)]
    simp only [sumsL, List.getElem_map, List.getElem_range]
    rw [sumL_take (by omega), show m - 1 + 1 = m by omega]
    have := hl.fits l[m] (List.getElem_mem _)
    have := w64_def (sumL (l.take m) + l[m])
    have := w64_def (W64 (sumL (l.take m) + l[m]) - sumL (l.take m))
    unfold In at *
    omega
  refine ifB_f (by rw [show IntKind.wrap .i64 _ = _ from hd]; simp) ⟨⟨m + 1, by rw [wrap_succ h2 hl.big], by omega, by omega, e17.drew⟩, ?_⟩
  rw [wrap_succ h2 hl.big]
  simp [intOf]; omega

theorem walk3 {p : Int} {q : Option Addr} {n c : Nat} {l : List Int} {i k : Int} {w : World} (hl : Arg w q n c l) (hp : 0 ≤ p ∧ p < 256) (hi : 0 ≤ i ∧ i < 256) (hk : 0 ≤ k ∧ k < 256) :
    Calls Try.prog 3 #[.int .u8 p, .slice q n c, .int .u8 i, .int .u8 k] w fun e w' => e = .returned (.bool true) ∧ Ext w w' := by
  refine sh3_ok _ _ _ _ _ _ ?_
  unfold sh3
  refine ⟨by omega, ?_⟩
  refine ifB_intro (fun _ => do_call Try.call6 (c_alive fun w1 e1 => retS_ret ⟨_, rfl, rfl, e1⟩)) fun h0 => ?_
  refine ifB_intro (fun _ => do_call Try.call6 (c_alive fun w1 e1 => retS_ret ⟨_, rfl, rfl, e1⟩)) fun h1 => ?_
  have h0 : n ≤ 300 := by simp at h0; omega
  have h1 : 3 ≤ n := by simp at h1; omega
  have hn := hl.len
  obtain ⟨p', hp', hm⟩ : ∃ p' : Int, IntKind.wrap .u8 (1 + Int.tmod p 3) = p' ∧ may p' = true := by
    refine ⟨_, rfl, ?_⟩
    have h1 : 0 ≤ Int.tmod p 3 := Int.tmod_nonneg _ hp.1
    have h2 : Int.tmod p 3 < 3 := Int.tmod_lt_of_pos _ (by omega)
    have : Int.tmod p 3 = 0 ∨ Int.tmod p 3 = 1 ∨ Int.tmod p 3 = 2 := by omega
    rcases this with h | h | h <;> rw [h] <;> rfl
  rw [hp']
  have f1 : IntKind.wrap .i64 ((n : Int) - 2) = ((n - 2 : Nat) : Int) := by rw [wrap_of (by omega) (by omega)]; omega
  rw [f1]
  obtain ⟨x, hx, hxn⟩ := at_lt hi (show 0 < n - 2 by omega)
  rw [hx]
  have f2 : IntKind.wrap .i64 (1 + (x : Int)) = ((x + 1 : Nat) : Int) := by rw [wrap_of (by omega) (by omega)]; omega
  rw [f2]
  have f3 : IntKind.wrap .i64 ((n : Int) - ((x + 1 : Nat) : Int)) = ((n - (x + 1) : Nat) : Int) := by rw [wrap_of (by omega) (by omega)]; omega
  rw [f3]
  have f4 : IntKind.wrap .i64 (((n - (x + 1) : Nat) : Int) - 1) = ((n - (x + 1) - 1 : Nat) : Int) := by rw [wrap_of (by omega) (by omega)]; omega
  rw [f4]
  obtain ⟨y, hy, hyn⟩ := at_lt hk (show 0 < n - (x + 1) - 1 by omega)
  rw [hy]
  have f5 : IntKind.wrap .i64 (((x + 1 : Nat) : Int) + 1) = ((x + 2 : Nat) : Int) := by rw [wrap_of (by omega) (by omega)]; omega
  rw [f5]
  have f6 : IntKind.wrap .i64 (((x + 2 : Nat) : Int) + (y : Int)) = ((x + 2 + y : Nat) : Int) := by rw [wrap_of (by omega) (by omega)]; omega
  rw [f6]
  obtain ⟨i', hi'⟩ : ∃ i', x + 1 = i' := ⟨_, rfl⟩
  obtain ⟨k', hk'⟩ : ∃ k', x + 2 + y = k' := ⟨_, rfl⟩
  rw [hi', hk']
  have hcap := hl.cap
  have hik : 1 ≤ i' ∧ i' < k' ∧ k' < n := by omega
  refine ⟨by omega, by omega, ?_⟩
  refine sl_int hl.cs hn hl.cap (by omega) (by omega) (by omega) fun p1 h1c => ?_
  refine do_call Try.call7 (c_run h1c (by simp; omega) (by omega) (by omega) fun w1 e1 => retS_ret ⟨_, _, rfl, ?_⟩)
  refine sl_int (hl.cs.ext e1) hn hl.cap (by omega) (by omega) (by omega) fun p2 h2c => ?_
  refine do_call Try.call7 (c_run h2c (by simp; omega) (by omega) (by omega) fun w2 e2 => retS_ret ⟨_, _, rfl, ?_⟩)
  have E2 := e1.trans e2
  refine sl_int (hl.cs.ext E2) hn hl.cap (by omega) (by omega) (by omega) fun p3 h3c => ?_
  refine do_call Try.call7 (c_run h3c (by simp; omega) (by omega) (by omega) fun w3 e3 => retS_ret ⟨_, _, rfl, ?_⟩)
  have E3 := E2.trans e3
  refine do_call Try.call7 (c_run (hl.cs.ext E3) hn hl.cap hl.big fun w4 e4 => retS_ret ⟨_, _, rfl, ?_⟩)
  have E4 := E3.trans e4
  simp only [Int.toNat_natCast, Int.toNat_zero, List.drop_zero]
  have t3 : (l.take n).drop k' = l.drop k' := by rw [List.take_of_length_le (by omega)]
  rw [t3]
  have hE : ∀ {m : List Int}, m ≠ [] → runE p' m = 0 := fun {m} h => by cases m with | nil => exact absurd rfl h | cons z zs => simp [runE, hm]
  have n1 : l.take i' ≠ [] := by intro e; have := congrArg List.length e; simp only [List.length_take, List.length_nil] at this; omega
  have n2 : (l.take k').drop i' ≠ [] := by intro e; have := congrArg List.length e; simp only [List.length_drop, List.length_take, List.length_nil] at this; omega
  have n3 : l.drop k' ≠ [] := by intro e; have := congrArg List.length e; simp only [List.length_drop, List.length_nil] at this; omega
  have n4 : l ≠ [] := by intro e; subst e; simp at hn; omega
  rw [hE n1, hE n2, hE n3, hE n4]
  refine ifB_f rfl (ifB_f rfl (ifB_f rfl (ifB_f rfl ?_)))
  refine do_call Try.call8 (c_comb fun w5 e5 => retS_ret ⟨_, _, rfl, ?_⟩)
  refine do_call Try.call8 (c_comb fun w6 e6 => retS_ret ⟨_, _, rfl, ?_⟩)
  refine do_call Try.call8 (c_comb fun w7 e7 => retS_ret ⟨_, _, rfl, ?_⟩)
  refine do_call Try.call8 (c_comb fun w8 e8 => retS_ret ⟨_, _, rfl, ⟨?_⟩⟩)
  have E8 := ((((E4.trans e5).trans e6).trans e7).trans e8).drew
  generalize w8.drew = w9 at E8 ⊢
  have hcat : l = l.take i' ++ (l.take k').drop i' ++ l.drop k' := by
    conv => lhs; rw [← List.take_append_drop k' l]
    congr 1
    conv => lhs; rw [← List.take_append_drop i' (l.take k')]
    rw [List.take_take, Nat.min_eq_left (by omega)]
  have hall : runL p' l = comb p' (comb p' (runL p' (l.take i')) (runL p' ((l.take k').drop i'))) (runL p' (l.drop k')) := by
    conv => lhs; rw [hcat]
    rw [runL_append (by simp [n1]) n3, runL_append n1 n2]
  simp only [runV, hm, cond_true]
  rw [← hall, ← comb_assoc, ← hall]
  refine ifB_t (by simp) (ifB_t (by simp) ?_)
  refine sl_int (hl.cs.ext E8) hn hl.cap (by omega) (by omega) (by omega) fun p5 h5c => ?_
  refine sl_int (hl.cs.ext E8) hn hl.cap (by omega) (by omega) (by omega) fun p6 h6c => ?_
  refine do_call Try.call9 (c_sum (hl.cs.ext E8) hn hl.big fun w10 e10 => retS_ret ⟨_, rfl, ?_⟩)
  refine do_call Try.call9 (c_sum (h5c.ext e10) (by simp; omega) (by omega) fun w11 e11 => retS_ret ⟨_, rfl, ?_⟩)
  refine do_call Try.call9 (c_sum ((h6c.ext e10).ext e11) (by simp; omega) (by omega) fun w12 e12 => retS_ret ⟨_, rfl, ?_⟩)
  simp only [Int.toNat_natCast, Int.toNat_zero, List.drop_zero]
  rw [t3]
  have hs : sumL l = W64 (sumL (l.take k') + sumL (l.drop k')) := by rw [← sumL_append, List.take_append_drop]
  refine ifB_t (by rw [hs]; simp) (do_call Try.call6 (c_alive fun w13 e13 => retS_ret ⟨_, rfl, rfl, (((E8.trans e10).trans e11).trans e12).trans e13⟩))
end Go.Proofs.Ytffbkhebekkhlaa
