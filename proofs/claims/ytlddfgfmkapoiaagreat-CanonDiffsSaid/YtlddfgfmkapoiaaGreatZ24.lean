/-
  The document's answers of layer 41, of beads: digests, and which are canonical.
-/
/-
  CanonTells: the walk.
-/
/-
  Arguments opened to cells: slices of structs. No claim of its own.
-/
/-
  The arguments of the statements, opened.
-/
/-
  The document's difference of two rows; canon.Diff of trees of which one is not canonical.
-/
/-
  Printed by a program (gen.py): what the functions of the program do, as formulas; each with the proof that its call is what the formula says.
-/
/-
  CanonDiffs: the walk.
-/
import Derived.Test.YtlddfgfmkapoiaaGreatZ23
import Derived.Test.YtlddfgfmkapoiaaGreatZ14
import Derived.Test.YtlddfgfmkapoiaaGreatZ03
import Derived.Deep.Slices
import Derived.Deep.Fields
import Derived.ChangeSame
import Derived.Lib.SmallJoins
import Derived.Test.YtlddfgfmkapoiaaGreatZ12
import Derived.Test.YtlddfgfmkapoiaaGreatZ13
import Derived.SizedLaws
import Derived.Test.YtlddfgfmkapoiaaGreatZ02
import Derived.Test.YtlddfgfmkapoiaaGreatProg

namespace Go.Proofs.YtlddfgfmkapoiaaGreat
open Go Go.Sh Go.RowKit

/-! ### turning -/
def turnG (s x i : Nat) : Nat := if i ≤ 64 - s then x % 2 ^ i * 2 ^ s else x % 2 ^ (64 - s) * 2 ^ s + x / 2 ^ (64 - s) % 2 ^ (i - (64 - s))
theorem turnG_step {s x i : Nat} (h0 : 0 < s) (hs : s < 64) (hi : i < 64) : turnG s x (i + 1) = turnG s x i + x / 2 ^ i % 2 * 2 ^ ((i + s) % 64) := by
  unfold turnG
  rcases Nat.lt_trichotomy i (64 - s) with h | h | h
  · rw [if_pos (by omega), if_pos (by omega), Nat.mod_pow_succ, show (i + s) % 64 = i + s by omega, Nat.pow_add, Nat.add_mul, Nat.mul_comm (2 ^ i), Nat.mul_assoc]
  · rw [if_neg (by omega), if_pos (by omega), show i + 1 - (64 - s) = 1 by omega, show (i + s) % 64 = 0 by omega, ← h]
    simp
  · rw [if_neg (by omega), if_neg (by omega), show i + 1 - (64 - s) = (i - (64 - s)) + 1 by omega, Nat.mod_pow_succ, show (i + s) % 64 = i - (64 - s) by omega]
    have : x / 2 ^ (64 - s) / 2 ^ (i - (64 - s)) = x / 2 ^ i := by
      rw [Nat.div_div_eq_div_mul, ← Nat.pow_add, show 64 - s + (i - (64 - s)) = i by omega]
    rw [this, Nat.mul_comm (2 ^ (i - (64 - s)))]
    omega
theorem pow_split {s : Nat} (hs : s < 64) : 2 ^ (64 - s) * 2 ^ s = 18446744073709551616 := by
  rw [← Nat.pow_add, show 64 - s + s = 64 by omega]
theorem turnG_lt {s x i : Nat} (hs : s < 64) (hi : i ≤ 64) : turnG s x i < 18446744073709551616 := by
  have e := pow_split hs
  unfold turnG
  split
  · rename_i h
    have h1 : x % 2 ^ i < 2 ^ i := Nat.mod_lt _ (Nat.two_pow_pos _)
    have h2 : 2 ^ i ≤ 2 ^ (64 - s) := Nat.pow_le_pow_right (by omega) h
    have h3 : x % 2 ^ i * 2 ^ s < 2 ^ (64 - s) * 2 ^ s := Nat.mul_lt_mul_of_pos_right (by omega) (Nat.two_pow_pos _)
    omega
  · have h1 : x % 2 ^ (64 - s) < 2 ^ (64 - s) := Nat.mod_lt _ (Nat.two_pow_pos _)
    have h2 : x / 2 ^ (64 - s) % 2 ^ (i - (64 - s)) < 2 ^ (i - (64 - s)) := Nat.mod_lt _ (Nat.two_pow_pos _)
    have h3 : 2 ^ (i - (64 - s)) ≤ 2 ^ s := Nat.pow_le_pow_right (by omega) (by omega)
    have h4 : (x % 2 ^ (64 - s) + 1) * 2 ^ s ≤ 2 ^ (64 - s) * 2 ^ s := Nat.mul_le_mul_right _ (by omega)
    rw [Nat.add_mul, Nat.one_mul] at h4
    omega
theorem turnB_G {s : Nat} (h0 : 0 < s) (hs : s < 64) (x : BitVec 64) : (turnB s x).toNat = turnG s x.toNat 64 := by
  have hx := x.isLt
  have e := pow_split hs
  unfold turnB turnG
  rw [if_neg (by omega), BitVec.toNat_or, BitVec.toNat_shiftLeft, BitVec.toNat_ushiftRight, Nat.shiftLeft_eq, Nat.shiftRight_eq_div_pow, show 64 - (64 - s) = s by omega]
  have e1 : x.toNat * 2 ^ s % 2 ^ 64 = x.toNat % 2 ^ (64 - s) * 2 ^ s := by
    rw [show (2 : Nat) ^ 64 = 2 ^ (64 - s) * 2 ^ s from e.symm, Nat.mul_mod_mul_right]
  have h2 : x.toNat / 2 ^ (64 - s) < 2 ^ s := by
    rw [Nat.div_lt_iff_lt_mul (Nat.two_pow_pos _), Nat.mul_comm, e]
    exact hx
  rw [e1, Nat.mod_eq_of_lt h2]
  have := Nat.shiftLeft_add_eq_or_of_lt h2 (x.toNat % 2 ^ (64 - s))
  rw [Nat.shiftLeft_eq] at this
  exact this.symm
theorem c_rturnG {x : BitVec 64} {n : Int} {s : Nat} (h0 : 0 < s) (hs : s < 64) (he : Int.tmod (IntKind.wrap .i64 (Int.tmod n 64 + 64)) 64 = (s : Int)) {w : World} {R : Ending → World → Prop} (h : R (.returned (.int .u64 (U (turnB s x)))) w) : Calls Tryz.prog 132 #[.int .u64 (U x), .int .i64 n] w R := by
  refine sh132_ok _ _ ?_
  unfold sh132
  have hxl := x.isLt
  unfold U at h ⊢
  rw [turnB_G h0 hs] at h
  generalize x.toNat = X at *
  refine ⟨by omega, by omega, fun vs w' => ∃ i : Nat, vs = [.int .u64 ((turnG s X i : Nat) : Int), .int .i64 i] ∧ i ≤ 64 ∧ w' = w, fun vs _ => 64 - (intOf (vs.getD 1 undef)).toNat,
    ⟨0, by simp [turnG, Nat.mod_one], by omega, rfl⟩, ?_⟩
  rintro y i j w3 ⟨m, hv, hm, rfl⟩
  simp only [List.cons.injEq, Value.int.injEq, true_and, and_true] at hv
  obtain ⟨rfl, rfl⟩ := hv
  refine ifB_intro (fun h1 => ?_) fun h1 => ?_
  · have h1 : m < 64 := by have := of_decide_eq_true h1; omega
    have e2 : IntKind.wrap .i64 ((m : Int) + (s : Int)) = ((m + s : Nat) : Int) := by rw [wrap_of (by omega) (by omega)]; simp
    have e3 : IntKind.wrap .u64 (Int.tmod ((m + s : Nat) : Int) 64) = (((m + s) % 64 : Nat) : Int) := by
      rw [wrap64u, Int.tmod_eq_emod_of_nonneg (by omega)]; omega
    have e4 : IntKind.wrap .u64 (m : Int) = (m : Int) := by rw [wrap64u]; omega
    rw [he, e2, e3, e4, wrap_succ h1 (by omega)]
    refine ⟨by omega, by omega, by omega, by omega, ?_⟩
    have e5 : Int.fdiv (X : Int) (2 ^ (min ((m : Nat) : Int).toNat (IntKind.bits .u64))) = ((X / 2 ^ m : Nat) : Int) := by
      rw [bits_u64, Int.toNat_natCast, Nat.min_eq_left (by omega), Int.fdiv_eq_ediv_of_nonneg _ (Int.pow_nonneg (by omega))]
      simp
    have e6 : Int.tmod ((X / 2 ^ m : Nat) : Int) 2 = ((X / 2 ^ m % 2 : Nat) : Int) := by
      generalize X / 2 ^ m = q
      rw [Int.tmod_eq_emod_of_nonneg (by omega)]; omega
    have hlt : X / 2 ^ m % 2 * 2 ^ ((m + s) % 64) < 18446744073709551616 := by
      have h2 : X / 2 ^ m % 2 ≤ 1 := by omega
      have h3 : 2 ^ ((m + s) % 64) ≤ 2 ^ 63 := Nat.pow_le_pow_right (by omega) (by omega)
      have := Nat.mul_le_mul h2 h3
      omega
    have e7 : IntKind.wrap .u64 (((X / 2 ^ m % 2 : Nat) : Int) * 2 ^ (min (((m + s) % 64 : Nat) : Int).toNat (IntKind.bits .u64))) = ((X / 2 ^ m % 2 * 2 ^ ((m + s) % 64) : Nat) : Int) := by
      rw [bits_u64, Int.toNat_natCast, Nat.min_eq_left (by omega), wrap64u]
      have : (((X / 2 ^ m % 2 : Nat) : Int) * 2 ^ ((m + s) % 64)) = ((X / 2 ^ m % 2 * 2 ^ ((m + s) % 64) : Nat) : Int) := by simp
      rw [this]
      generalize X / 2 ^ m % 2 * 2 ^ ((m + s) % 64) = q at hlt ⊢
      omega
    have e8 : IntKind.wrap .u64 (((turnG s X m : Nat) : Int) + ((X / 2 ^ m % 2 * 2 ^ ((m + s) % 64) : Nat) : Int)) = ((turnG s X (m + 1) : Nat) : Int) := by
      have h2 := turnG_step (x := X) h0 hs h1
      have h3 := turnG_lt (x := X) hs (show m + 1 ≤ 64 by omega)
      rw [h2] at h3 ⊢
      rw [wrap64u]
      generalize X / 2 ^ m % 2 * 2 ^ ((m + s) % 64) = q at h3 ⊢
      omega
    rw [e5, e6, e7, e8]
    exact ⟨⟨m + 1, rfl, by omega, rfl⟩, by simp [intOf]; omega⟩
  · have h1 : m = 64 := by have := of_decide_eq_false h1; omega
    subst h1
    exact h
/-! ### digests -/
set_option maxRecDepth 20000 in
theorem c_r41dig : ∀ (t : BT) {q : Option Addr} {n c : Nat} {w : World} {R : Ending → World → Prop} (_hl : Cs w q (bds t.beads)) (_hn : t.size = n) (_hnc : n ≤ c) (_hw : t.wf = true) (_hm : n ≤ 5000)
    (_h : ∀ w', Ext w w' → R (.returned (.int .u64 (U (digT t.tr)))) w'), Calls Tryz.prog 57 #[.slice q n c] w R
  | .nil, q, n, c, w, R, hl, hn, hnc, hw, hm, h => by
    refine sh57_ok _ _ _ ?_
    unfold sh57
    have : n = 0 := by rw [← hn]; rfl
    subst this
    exact ifB_t rfl (h _ (ext_refl w))
  | .node x L Rt, q, n, c, w, R, hl, hn, hnc, hw, hm, h => by
    refine sh57_ok _ _ _ ?_
    unfold sh57
    have hsz := BT.size_node x L Rt
    obtain ⟨_, _, w2f, w3f⟩ := BT.wf_node hw
    refine ifB_f (by simp; omega) ?_
    refine do_call Tryz.call109 (c_parts hl hn hnc hw hm fun p1 c1 p2 c2 w1 e1 hp h1 h2 => retS_ret ⟨_, _, _, _, _, _, _, _, _, _, _, _, _, rfl, ⟨?_⟩⟩)
    refine do_st7 (blk_alloc w1 _ _) fun w2 hb2 g2 => ?_
    have e2 : Ext w1 w2 := (ext_alloc w1 _).st g2 (Nat.le_refl _)
    have E2 := e1.trans e2
    have hcs := fun (w'' : World) (e : Ext w2 w'') => hp w'' (hl.ext (E2.trans e))
    have d := ext_drew w2
    refine ⟨⟨fun w' => Ext w2 w', d, _, fun w' e => (hb2.ext e).cell (i := 0) (add_blk _ _) rfl, _, fun w' e => (hb2.ext e).cell (i := 1) (add_blk _ _) rfl, ?_⟩⟩
    refine do_call Tryz.call57 (c_r41dig L (hcs _ d).1 rfl h1 w2f (by omega) fun w3 e3 => retS_ret ⟨_, rfl, d.trans e3, ?_⟩)
    have x3 := d.trans e3
    refine do_call Tryz.call57 (c_r41dig Rt (hcs _ x3).2 rfl h2 w3f (by omega) fun w4 e4 => retS_ret ⟨_, rfl, x3.trans e4, ?_⟩)
    have x4 := x3.trans e4
    refine do_call Tryz.call132 (c_rturnG (s := 17) (by omega) (by omega) (by decide) (retS_ret ⟨_, rfl, x4, ?_⟩))
    rw [wrap_U x.key, wrap_U x.val]
    refine do_call Tryz.call131 (c_rmix (retS_ret ⟨_, rfl, x4, ?_⟩))
    refine do_call Tryz.call131 (c_rmix (retS_ret ⟨_, rfl, x4, ?_⟩))
    refine do_call Tryz.call132 (c_rturnG (s := 31) (by omega) (by omega) (by decide) (retS_ret ⟨_, rfl, x4, ?_⟩))
    rw [show (1 : Int) = U 1#64 from rfl, add_U, add_U, add_U, add_U]
    exact do_call Tryz.call131 (c_rmix (retS_ret ⟨_, rfl, x4, h w4 (E2.trans x4)⟩))
/-! ### canonical beads -/
theorem mix_beads : ∀ {t : BT}, MixT t.tr ↔ ∀ x ∈ t.beads, x.tag = mixK x.key
  | .nil => by simp [BT.tr, MixT, BT.beads]
  | .node x L Rt => by
    show x.tag = mixK x.key ∧ MixT L.tr ∧ MixT Rt.tr ↔ _
    rw [mix_beads (t := L), mix_beads (t := Rt)]
    simp only [BT.beads, List.mem_cons, List.mem_append]
    constructor
    · rintro ⟨a, b, c⟩ y (rfl | hy | hy)
      · exact a
      · exact b y hy
      · exact c y hy
    · intro h
      exact ⟨h x (.inl rfl), fun y hy => h y (.inr (.inl hy)), fun y hy => h y (.inr (.inr hy))⟩
theorem c_r20mixed {l : List Bd} {q : Option Addr} {n c : Nat} {w : World} {R : Ending → World → Prop} (hl : Cs w q (bds l)) (hn : l.length = n) (hm : n ≤ 1000000)
    (h : ∀ r w', Ext w w' → (r = true ↔ ∀ x ∈ l, x.tag = mixK x.key) → R (.returned (.bool r)) w') : Calls Tryz.prog 130 #[.slice q n c] w R := by
  refine sh130_ok _ _ _ ?_
  unfold sh130
  refine ⟨fun vs w' => ∃ k : Nat, vs = [.int .i64 k] ∧ k ≤ n ∧ Ext w w' ∧ ∀ x ∈ l.take k, x.tag = mixK x.key, fun vs _ => n - (intOf (vs.getD 0 undef)).toNat, ⟨0, rfl, by omega, ext_refl w, by simp⟩, ?_⟩
  rintro i _ w2 ⟨k, hv, hkn, E, hlo⟩
  simp only [List.cons.injEq, Value.int.injEq, true_and, and_true] at hv
  subst hv
  refine ifB_intro (fun hlt => ?_) fun hge => ?_
  · have hlt : k < n := by have := of_decide_eq_true hlt; omega
    have hkl : k < l.length := by omega
    have d := ext_drew w2
    refine ⟨⟨fun w' => Ext w2 w', d, ?_⟩⟩
    refine ix_flatC ecB_len (by omega) (C := fun w' => Ext w2 w') (fun w' e => (hl.ext E).ext e) (ext_refl _) hn rfl hlt fun a r => ⟨_, fun w' e => r w' e 4 _ rfl, ?_⟩
    refine ix_flatC ecB_len (by omega) (C := fun w' => Ext w2 w') (fun w' e => (hl.ext E).ext e) (ext_refl _) hn rfl hlt fun a' r' => ⟨_, fun w' e => r' w' e 0 _ rfl, ?_⟩
    refine do_call Tryz.call186 (c_r1of (retS_ret ⟨_, rfl, d, ?_⟩))
    refine ifB_intro (fun hne => ?_) fun he => ?_
    · have hne : l[k].tag ≠ mixK l[k].key := by simpa using hne
      exact h _ _ (E.trans d) ⟨fun q => (by cases q), fun q => absurd (q _ (List.getElem_mem hkl)) hne⟩
    · have he : l[k].tag = mixK l[k].key := by simpa using he
      refine ⟨⟨k + 1, by rw [wrap_succ hlt (by omega)], by omega, E.trans d, fun x hx => ?_⟩, by rw [wrap_succ hlt (by omega)]; simp [intOf]; omega⟩
      rw [show l.take (k + 1) = l.take k ++ [l[k]] from (List.take_append_getElem hkl).symm] at hx
      rcases List.mem_append.1 hx with hx | hx
      · exact hlo x hx
      · have : x = l[k] := by simpa using hx
        rw [this]; exact he
  · have hge : k = n := by have := of_decide_eq_false hge; omega
    subst hge
    rw [List.take_of_length_le (by omega)] at hlo
    exact h _ _ E ⟨fun _ => hlo, fun _ => rfl⟩
theorem c_r41is {o : Int} (t : BT) {q : Option Addr} {n c : Nat} {w : World} {R : Ending → World → Prop} (hl : Cs w q (bds t.beads)) (hn : t.size = n) (hnc : n ≤ c) (hw : t.wf = true) (hm : n ≤ 5000) (hf : FitB t)
    (h : ∀ r w', Ext w w' → (r = true ↔ canT o t.tr) → R (.returned (.bool r)) w') : Calls Tryz.prog 56 #[.int .u8 o, .slice q n c] w R := by
  refine sh56_ok _ _ _ _ ?_
  unfold sh56
  intro K7
  have hln : t.beads.length = n := hn
  refine do_call Tryz.call127 (c_r2may (retS_ret ⟨_, rfl, ?_⟩))
  cases ho : isO o with
  | false => exact ifB_f rfl (h _ _ (ext_refl w) (by simp [canT, ho]))
  | true =>
  refine ifB_t rfl (do_call Tryz.call128 (sh128_ok _ _ _ _ ?_))
  unfold sh128
  refine do_call Tryz.call60 (c_pairs t hl hn hnc hw (by omega) fun p2 n2 c2 w2 h2 e2 => retS_ret ⟨_, _, _, rfl, ?_⟩)
  have hn2 := ownP_len h2
  have hz := t.tr.pairs_length
  have hsz := BT.tr_size t
  refine do_call Tryz.call199 (c_rises (ownP_cs h2) hn2 (by omega) hf.inP fun w3 e3 => retS_ret ⟨_, rfl, retS_ret ⟨_, rfl, ?_⟩⟩)
  have E3 := e2.trans e3
  cases hch : chain o t.tr.pairs with
  | false =>
    have : ¬ (t.tr.pairs.map (·.1)).Pairwise (ltO o) := fun q => by rw [chain_pw.2 q] at hch; cases hch
    exact ifB_f rfl (h _ _ E3 ⟨fun q => (by cases q), fun q => absurd q.2.1 this⟩)
  | true =>
  have hasc := chain_pw.1 hch
  refine ifB_t rfl (do_call Tryz.call129 (sh129_ok _ _ _ ?_))
  unfold sh129
  refine do_call Tryz.call200 (c_r20check t (hl.ext E3) hn hnc hw hm fun k e w4 e4 i4 => retS_ret ⟨_, _, rfl, retS_ret ⟨_, rfl, ?_⟩⟩)
  have E4 := E3.trans e4
  refine ifB_intro (fun q => ?_) fun q => ?_
  · have tp := i4.1 (by simpa using q)
    refine do_call Tryz.call130 (c_r20mixed (hl.ext E4) hln (by omega) fun r w5 e5 i5 => retS_ret ⟨_, rfl, h _ _ (E4.trans e5) ?_⟩)
    rw [i5, ← mix_beads]
    exact ⟨fun m => ⟨ho, hasc, tp, m⟩, fun c => c.2.2.2⟩
  · have tp : ¬ Tp t.tr := fun c => by have := i4.2 c; simp [this] at q
    exact h _ _ E4 ⟨fun c => (by cases c), fun c => absurd c.2.2.1 tp⟩
/-! ### are beads the same? -/
set_option maxRecDepth 20000 in
theorem c_r9sameG {l r : List Bd} {q q' : Option Addr} {n c n' c' : Nat} {w : World} {R : Ending → World → Prop} (hl : Cs w q (bds l)) (hn : l.length = n) (hr : Cs w q' (bds r)) (hn' : r.length = n') (hm : n ≤ 1000000000000)
    (h : ∀ b w', Ext w w' → (b = true ↔ l = r) → R (.returned (.bool b)) w') : Calls Tryz.prog 53 #[.slice q n c, .slice q' n' c'] w R := by
  refine sh53_ok _ _ _ _ _ _ ?_
  unfold sh53
  refine ifB_intro (fun hne => ?_) fun heq => ?_
  · have hne : l ≠ r := fun e => by subst e; simp [← hn, ← hn'] at hne
    exact h _ w (ext_refl w) ⟨fun q => (by cases q), fun q => absurd q hne⟩
  have heq : n = n' := by simp at heq; omega
  subst heq
  refine ⟨fun vs w' => ∃ k : Nat, vs = [.int .i64 k] ∧ k ≤ n ∧ Ext w w' ∧ l.take k = r.take k, fun vs _ => n - (intOf (vs.getD 0 undef)).toNat, ⟨0, rfl, by omega, ext_refl w, by simp⟩, ?_⟩
  rintro i _ w2 ⟨k, hv, hkn, E, hlo⟩
  simp only [List.cons.injEq, Value.int.injEq, true_and, and_true] at hv
  subst hv
  refine ifB_intro (fun hlt => ?_) fun hge => ?_
  · have hlt : k < n := by have := of_decide_eq_true hlt; omega
    have d := ext_drew w2
    refine ⟨⟨fun w' => Ext w2 w', d, ?_⟩⟩
    refine ix_flatC ecB_len (by omega) (C := fun w' => Ext w2 w') (fun w' e => (hl.ext E).ext e) (ext_refl _) hn rfl hlt fun a r1 => ?_
    refine ⟨_, fun w' e => r1 w' e 0 _ rfl, _, fun w' e => r1 w' e 1 _ rfl, _, fun w' e => r1 w' e 2 _ rfl, _, fun w' e => r1 w' e 3 _ rfl, _, fun w' e => r1 w' e 4 _ rfl, _, fun w' e => r1 w' e 5 _ rfl, _, fun w' e => r1 w' e 6 _ rfl, ?_⟩
    refine ix_flatC ecB_len (by omega) (C := fun w' => Ext w2 w') (fun w' e => (hr.ext E).ext e) (ext_refl _) hn' rfl (by omega) fun a' r2 => ?_
    refine ⟨_, fun w' e => r2 w' e 0 _ rfl, _, fun w' e => r2 w' e 1 _ rfl, _, fun w' e => r2 w' e 2 _ rfl, _, fun w' e => r2 w' e 3 _ rfl, _, fun w' e => r2 w' e 4 _ rfl, _, fun w' e => r2 w' e 5 _ rfl, _, fun w' e => r2 w' e 6 _ rfl, ?_⟩
    rw [bd_eq]
    refine ifB_intro (fun hne => ?_) fun he => ?_
    · have hne : l[k]'(by omega) ≠ r[k]'(by omega) := by simpa using hne
      exact h _ _ (E.trans d) ⟨fun q => (by cases q), fun q => by subst q; exact absurd rfl hne⟩
    · have he : l[k]'(by omega) = r[k]'(by omega) := by simpa using he
      refine ⟨⟨k + 1, by rw [wrap_succ hlt (by omega)], by omega, E.trans d, ?_⟩, by rw [wrap_succ hlt (by omega)]; simp [intOf]; omega⟩
      rw [show l.take (k + 1) = l.take k ++ [l[k]'(by omega)] from (List.take_append_getElem (by omega)).symm, show r.take (k + 1) = r.take k ++ [r[k]'(by omega)] from (List.take_append_getElem (by omega)).symm, hlo, he]
  · have hge : k = n := by have := of_decide_eq_false hge; omega
    subst hge
    rw [List.take_of_length_le (by omega), List.take_of_length_le (by omega)] at hlo
    exact h _ _ E ⟨fun _ => hlo, fun _ => rfl⟩
theorem beads_app : ∀ {a b : Tr} {r s : List Bd}, a.nn = b.nn → (btT a).beads ++ r = (btT b).beads ++ s → a = b ∧ r = s
  | .nil, .nil, r, s, _, h => ⟨rfl, h⟩
  | .nil, .node .., _, _, hn, _ => by cases hn
  | .node .., .nil, _, _, hn, _ => by cases hn
  | .node l k v g rr, .node l' k' v' g' rr', r, s, _, h => by
    simp only [btT, BT.beads, List.cons_append, List.append_assoc, List.cons.injEq, Bd.mk.injEq] at h
    obtain ⟨⟨e1, e2, _, _, e5, e6, e7⟩, h⟩ := h
    obtain ⟨h1, h⟩ := beads_app e6 h
    obtain ⟨h2, h⟩ := beads_app e7 h
    rw [e1, e2, e5, h1, h2]
    exact ⟨rfl, h⟩
theorem beads_inj {a b : Tr} : (btT a).beads = (btT b).beads ↔ a = b := by
  constructor
  · intro h
    have hn : a.nn = b.nn := by
      cases a with
      | nil => cases b with
        | nil => rfl
        | node l k v g r => simp [btT, BT.beads] at h
      | node l k v g r => cases b with
        | nil => simp [btT, BT.beads] at h
        | node l k v g r => rfl
    exact (beads_app (r := []) (s := []) hn (by rw [h])).1
  · rintro rfl; rfl
end Go.Proofs.YtlddfgfmkapoiaaGreat

namespace Go.Proofs.YtlddfgfmkapoiaaGreat
open Go Go.Sh Go.RowKit

set_option maxRecDepth 20000 in
set_option maxHeartbeats 1000000 in
theorem c_canonTells {o : Int} {l m : List Bd} {q1 q2 : Option Addr} {n1 c1 n2 c2 : Nat} {w : World} {R : Ending → World → Prop} (hl : Cs w q1 (bds l)) (hn1 : l.length = n1) (hc1 : n1 ≤ c1) (hF1 : ∀ t : BT, l = t.beads → FitB t) (hm : Cs w q2 (bds m)) (hn2 : m.length = n2) (hc2 : n2 ≤ c2) (hF2 : ∀ t : BT, m = t.beads → FitB t)
    (h : ∀ w', Ext w w' → R (.returned (.bool true)) w') : Calls Tryz.prog 8 #[.int .u8 o, .slice q1 n1 c1, .slice q2 n2 c2] w R := by
  refine sh8_ok _ _ _ _ _ _ _ ?_
  unfold sh8
  have hal : ∀ w2, Ext w w2 → doCall Tryz.prog (.func (.func 48) #[] #[]) #[] w2 (retS (fun v22 w23 => ∃ (x21 : Bool), v22 = (.bool x21 : Value) ∧ (
 R (.returned (.bool x21)) w23)) (fun ch w => Kfn R ch [] w)) := fun w2 e2 => do_call Tryz.call48 (c_alive41 fun w3 e3 => retS_ret ⟨_, rfl, h _ (e2.trans e3)⟩)
  intro K10
  refine do_call Tryz.call52 (c_long hl hn1 fun b1 hb1 => retS_ret ⟨_, rfl, ?_⟩)
  rcases hb1 with rfl | ⟨rfl, z1, t, hw1, rfl⟩
  · exact ifB_t rfl (hal _ (ext_refl w))
  refine ifB_f rfl ?_
  refine do_call Tryz.call52 (c_long hm hn2 fun b2 hb2 => retS_ret ⟨_, rfl, ?_⟩)
  rcases hb2 with rfl | ⟨rfl, z2, u, hw2, rfl⟩
  · simp -zeta -zetaHave only [K10]
    exact ifB_t rfl (hal _ (ext_refl w))
  simp -zeta -zetaHave only [K10]
  refine ifB_f rfl ?_
  have f1 := hF1 t rfl
  have f2 := hF2 u rfl
  have s1 : t.size = n1 := hn1
  have s2 : u.size = n2 := hn2
  refine do_call Tryz.call39 (c_make t hl s1 hc1 hw1 (by omega) fun pa w1 e1 ha => retS_ret ⟨_, rfl, ?_⟩)
  refine do_call Tryz.call39 (c_make u (hm.ext e1) s2 hc2 hw2 (by omega) fun pb w2 e2 hb => retS_ret ⟨_, rfl, ?_⟩)
  have E2 := e1.trans e2
  refine do_call Tryz.call47 (c_r9of t (hl.ext E2) s1 hc1 hw1 (by omega) fun p3 n3 c3 w3 h3 e3 => retS_ret ⟨_, _, _, rfl, ?_⟩)
  have E3 := E2.trans e3
  refine do_call Tryz.call47 (c_r9of u (hm.ext E3) s2 hc2 hw2 (by omega) fun p4 n4 c4 w4 h4 e4 => retS_ret ⟨_, _, _, rfl, ?_⟩)
  have E4 := E3.trans e4
  have hz3 := ownB_len h3
  have hz4 := ownB_len h4
  have x3 : t.of.beads.length = t.size := BT.of_size t
  refine do_call Tryz.call53 (c_r9sameG ((ownB_cs h3).ext e4) hz3 (ownB_cs h4) hz4 (by omega) fun r5 w5 e5 i5 => retS_ret ⟨_, rfl, ?_⟩)
  have E5 := E4.trans e5
  have e25 := (e3.trans e4).trans e5
  have hbt : t.of.beads = u.of.beads ↔ t.tr = u.tr := by rw [← btT_of_wf hw1, ← btT_of_wf hw2]; exact beads_inj
  rw [hbt] at i5
  have ha5 := ha.ext (e2.trans e25)
  have hb5 := hb.ext e25
  intro K34 K55
  refine do_call Tryz.call54 (sh54_ok _ _ ?_)
  unfold sh54
  refine do_call Tryz.call121 (c_shsame t.tr u.tr ha5 hb5 fun r6 w6 e6 i6 => retS_ret ⟨_, rfl, retS_ret ⟨_, rfl, ?_⟩⟩)
  have hrr : r6 = r5 := by rw [Bool.eq_iff_iff, i5, i6]
  subst hrr
  refine ifB_f (by simp) ?_
  have E6 := E5.trans e6
  have hK34 : ∀ w7, Ext w6 w7 → K34 w7 := fun w7 e7 => by
    simp -zeta -zetaHave only [K34]
    intro K37
    have E7 := E6.trans e7
    refine do_call Tryz.call51 (c_cis (ha5.ext (e6.trans e7)) f1.inK fun r8 w8 e8 i8 => retS_ret ⟨_, rfl, ?_⟩)
    have E8 := E7.trans e8
    refine do_call Tryz.call56 (c_r41is t (hl.ext E8) s1 hc1 hw1 (by omega) f1 fun r9 w9 e9 i9 => retS_ret ⟨_, rfl, ?_⟩)
    have E9 := E8.trans e9
    have hr9 : r8 = r9 := by rw [Bool.eq_iff_iff, i8, i9]
    refine ifB_t (by rw [hr9]; simp) ?_
    refine do_call Tryz.call55 (c_digest t.tr (ha5.ext (((e6.trans e7).trans e8).trans e9)) fun w10 e10 => retS_ret ⟨_, rfl, ?_⟩)
    have E10 := E9.trans e10
    refine do_call Tryz.call57 (c_r41dig t (hl.ext E10) s1 hc1 hw1 (by omega) fun w11 e11 => retS_ret ⟨_, rfl, ifB_t (by simp) ?_⟩)
    exact hal _ (E10.trans e11)
  refine ifB_intro (fun hy => ?_) fun hno => hK34 _ (ext_refl _)
  have htu := i6.1 hy
  refine do_call Tryz.call55 (c_digest t.tr (ha5.ext e6) fun w7 e7 => retS_ret ⟨_, rfl, ?_⟩)
  refine do_call Tryz.call55 (c_digest u.tr (hb5.ext (e6.trans e7)) fun w8 e8 => retS_ret ⟨_, rfl, ?_⟩)
  simp -zeta -zetaHave only [K55]
  exact ifB_f (by rw [htu]; simp) (hK34 _ (e7.trans e8))
end Go.Proofs.YtlddfgfmkapoiaaGreat

namespace Go.Sh
open Go Go.RowKit Go.ChangeShapes Go.WideShapes Go.Deep

theorem cs_flat {α : Type} {enc : α → List Value} {s : Nat} (hs : ∀ x, (enc x).length = s) {w : World} {a : Addr} {l : List α}
    (h : ∀ i (hi : i < l.length), ∀ j, j < s → w.cell? (a.add (i * s + j)) = (enc l[i])[j]?) : Cs w (some a) (l.flatMap enc) := by
  induction l generalizing a with
  | nil => intro i v hv; simp at hv
  | cons x xs ih =>
    intro i v hv
    refine ⟨a, rfl, ?_⟩
    rw [List.flatMap_cons] at hv
    rcases Nat.lt_or_ge i s with hi | hi
    · rw [List.getElem?_append_left (by rw [hs]; exact hi)] at hv
      have := h 0 (by simp) i hi
      simp only [Nat.zero_mul, Nat.zero_add, List.getElem_cons_zero] at this
      rw [this]; exact hv
    · rw [List.getElem?_append_right (by rw [hs]; exact hi), hs] at hv
      have := ih (a := a.add s) (fun i hi j hj => by
        have := h (i + 1) (by simpa using hi) j hj
        simp only [List.getElem_cons_succ] at this
        rw [Sh.add_add, show s + (i * s + j) = (i + 1) * s + j by rw [Nat.add_mul]; omega]
        exact this) (i - s) v hv
      obtain ⟨b, hb, hc⟩ := this
      cases hb
      rw [Sh.add_add, show s + (i - s) = i by omega] at hc
      exact hc
theorem list_of {α : Type} {p : Nat → α → Prop} (n : Nat) (h : ∀ i, i < n → ∃ x, p i x) : ∃ l : List α, l.length = n ∧ ∀ i (hi : i < l.length), p i l[i] := by
  induction n with
  | zero => exact ⟨[], rfl, fun i hi => by simp at hi⟩
  | succ n ih =>
    obtain ⟨l, hl, hp⟩ := ih fun i hi => h i (by omega)
    obtain ⟨x, hx⟩ := h n (by omega)
    refine ⟨l ++ [x], by simp [hl], fun i hi => ?_⟩
    rcases Nat.lt_or_ge i l.length with h1 | h1
    · rw [List.getElem_append_left h1]; exact hp i h1
    · have : i = l.length := by simp at hi; omega
      subst this
      simp [hl]; exact hx
variable {H : Type} {enc : TypeId × Value → H} {P : Program} {w : World} {base : Nat} {spare : Nat → Bool} {held : Bool}
/-- A slice of structs, each element read. -/
theorem arg_slice {α : Type} {ec : α → List Value} {Pr : α → Prop} {s : Nat} (hs : ∀ x, (ec x).length = s) {t e : TypeId} (ht : P.underlying t = some (.slice e)) (hc : P.cellsOf e = s)
    (hdec : ∀ n cs y, DataW.trod enc P w base spare held n e cs = some y → ∃ x : α, cs = ec x ∧ Pr x) {q : Option Addr} {len cap : Nat} {d : DataW H} {p : List MemPlace} (h : DataW.Trod enc P w base spare held t (.slice q len cap) d p) :
    ∃ l : List α, l.length = len ∧ Cs w q (l.flatMap ec) ∧ (∀ x ∈ l, Pr x) ∧ len ≤ cap ∧ cap ≤ maxLen ∧ (q = none → len = 0 ∧ cap = 0) := by
  obtain ⟨fuel, hf⟩ := h
  rcases open_slice ht hf with ⟨hcs, _⟩ | ⟨a, l', c', m, n, D, Pl, hcs, hb, hl, hm, hmm, hx, hi⟩
  · simp [Value.cells] at hcs
    obtain ⟨rfl, rfl, rfl⟩ := hcs
    exact ⟨[], rfl, Sh.cs_nil _ _, by simp, Nat.le_refl _, Nat.zero_le _, fun _ => ⟨rfl, rfl⟩⟩
  · simp [Value.cells] at hcs
    obtain ⟨rfl, rfl, rfl⟩ := hcs
    have hlm : len ≤ m := by rw [hmm]; split <;> omega
    obtain ⟨l, hll, hp⟩ := list_of (p := fun i (x : α) => (∀ j, j < s → w.cell? (a.add (i * s + j)) = (ec x)[j]?) ∧ Pr x) len (fun i hil => by
      obtain ⟨cs', hcc, htr⟩ := hi i (by omega)
      rw [hc] at hcc
      obtain ⟨_, hcl, hat⟩ := World.cells?_some hcc
      obtain ⟨x, rfl, hpx⟩ := hdec _ _ _ htr
      refine ⟨x, fun j hj => ?_, hpx⟩
      rw [← Sh.add_add]; exact hat j hj)
    refine ⟨l, hll, cs_flat hs fun i hi j hj => (hp i hi).1 j hj, fun x hx => ?_, hl, hm, by simp⟩
    obtain ⟨i, hi, rfl⟩ := List.getElem_of_mem hx
    exact (hp i hi).2
theorem in64_of {x : Int} (h : (Lit.int .i64 x).wf = true) : -9223372036854775808 ≤ x ∧ x < 9223372036854775808 := by
  simp [Lit.wf, IntKind.min, IntKind.max, IntKind.signed, IntKind.bits] at h
  omega
theorem u64_of {x : Int} (h : (Lit.int .u64 x).wf = true) : 0 ≤ x ∧ x < 18446744073709551616 := by
  simp [Lit.wf, IntKind.min, IntKind.max, IntKind.signed, IntKind.bits] at h
  omega
end Go.Sh

namespace Go.Proofs.YtlddfgfmkapoiaaGreat
open Go Go.Sh Go.RowKit Go.ChangeShapes Go.WideShapes

variable {H : Type} {enc : TypeId × Value → H} {w : World} {base : Nat} {spare : Nat → Bool} {held : Bool}
/-- a slice of beads that came in -/
def Is_beads (w : World) (q : Option Addr) (len cap : Nat) (l : List Bd) : Prop :=
  l.length = len ∧ Cs w q (bds l) ∧ (∀ x ∈ l, In x.key ∧ In x.val ∧ (0 ≤ x.tag ∧ x.tag < 18446744073709551616)) ∧ len ≤ cap ∧ cap ≤ maxLen ∧ (q = none → len = 0 ∧ cap = 0)
set_option maxRecDepth 100000 in
theorem beads_arg {q : Option Addr} {len cap : Nat} {d : DataW H} {p : List MemPlace} (h : DataW.Trod enc Tryz.prog w base spare held 57 (.slice q len cap) d p) : ∃ l, Is_beads w q len cap l := by
  refine arg_slice (ec := ecB) (Pr := fun x => In x.key ∧ In x.val ∧ (0 ≤ x.tag ∧ x.tag < 18446744073709551616)) (s := 7) (fun _ => rfl) Tryz.underlying57 (by kernel_rfl) (fun n cs y hy => ?_) h
  obtain ⟨xs, n', _, hx, hl, hlen, hf⟩ := DataW.trod_struct Tryz.underlying150 hy
  have hce : Tryz.prog.cellsOf 150 = 7 := by kernel_rfl
  have hc1 : Tryz.prog.cellsOf 2 = 1 := by kernel_rfl
  have hc2 : Tryz.prog.cellsOf 3 = 1 := by kernel_rfl
  have hc3 : Tryz.prog.cellsOf 75 = 1 := by kernel_rfl
  have hc4 : Tryz.prog.cellsOf 4 = 1 := by kernel_rfl
  rw [hce] at hl
  match cs, hl, xs, hlen with
  | [c0, c1, c2, c3, c4, c5, c6], _, [y0, y1, y2, y3, y4, y5, y6], _ =>
    have h0 : DataW.trod enc Tryz.prog w base spare held n' 2 [c0] = some y0 := by simpa [hc1] using hf 0 _ rfl
    have h1 : DataW.trod enc Tryz.prog w base spare held n' 2 [c1] = some y1 := by simpa [hc1] using hf 1 _ rfl
    have h2 : DataW.trod enc Tryz.prog w base spare held n' 2 [c2] = some y2 := by simpa [hc1] using hf 2 _ rfl
    have h3 : DataW.trod enc Tryz.prog w base spare held n' 3 [c3] = some y3 := by simpa [hc2] using hf 3 _ rfl
    have h4 : DataW.trod enc Tryz.prog w base spare held n' 75 [c4] = some y4 := by simpa [hc3] using hf 4 _ rfl
    have h5 : DataW.trod enc Tryz.prog w base spare held n' 4 [c5] = some y5 := by simpa [hc4] using hf 5 _ rfl
    have h6 : DataW.trod enc Tryz.prog w base spare held n' 4 [c6] = some y6 := by simpa [hc4] using hf 6 _ rfl
    obtain ⟨m0, e0, _, w0⟩ := DataW.trod_int Tryz.underlying2 h0
    obtain ⟨m1, e1, _, w1⟩ := DataW.trod_int Tryz.underlying2 h1
    obtain ⟨m2, e2, _, w2⟩ := DataW.trod_int Tryz.underlying2 h2
    obtain ⟨m3, e3, _, w3⟩ := DataW.trod_int Tryz.underlying3 h3
    obtain ⟨m4, e4, _, w4⟩ := DataW.trod_int Tryz.underlying75 h4
    obtain ⟨b5, e5, _⟩ := DataW.trod_bool Tryz.underlying4 h5
    obtain ⟨b6, e6, _⟩ := DataW.trod_bool Tryz.underlying4 h6
    simp only [List.cons.injEq, and_true] at e0 e1 e2 e3 e4 e5 e6
    subst e0 e1 e2 e3 e4 e5 e6
    exact ⟨⟨m0, m1, m2, m3, m4, b5, b6⟩, rfl, in64_of w0, in64_of w1, u64_of w4⟩
end Go.Proofs.YtlddfgfmkapoiaaGreat

namespace Go.Proofs.YtlddfgfmkapoiaaGreat
open Go Go.Sh Go.RowKit

/-- have two rows a pair of a key in common? -/
def comB (A B : List Pr) (k : Int) : Bool := A.any fun x => decide (x.1 = k) && decide (x ∈ B)
theorem comB_iff {A B : List Pr} {k : Int} : comB A B k = true ↔ ∃ v, (k, v) ∈ A ∧ (k, v) ∈ B := by
  unfold comB
  rw [List.any_eq_true]
  constructor
  · rintro ⟨x, hx, h⟩
    simp at h
    obtain ⟨rfl, h⟩ := h
    exact ⟨x.2, hx, h⟩
  · rintro ⟨v, h1, h2⟩
    exact ⟨(k, v), h1, by simp [h2]⟩
section
variable {o : Int} {a b : List Pr} {qa qb : Option Addr} {na ca nb cb : Nat} {w : World} {R : Ending → World → Prop}
theorem c_r5unY {p : Int} (hp : may p = true) (hla : Cs w qa (prs a)) (hna : a.length = na) (hma : na ≤ 1000000) (hIa : InP a) (hlb : Cs w qb (prs b)) (hnb : b.length = nb) (hmb : nb ≤ 1000000) (hIb : InP b) (ha : mayR o a = true) (hb : mayR o b = true)
    (h : ∀ p' n' c' w', OwnP w' w.heap.size p' n' c' (sortL o p (a ++ b)) → Ext w w' → R (.returned (.tuple #[.slice p' n' c', .int .i64 0])) w') :
    Calls Tryz.prog 134 #[.int .u8 o, .int .u8 p, .slice qa na ca, .slice qb nb cb] w R := by
  refine sh134_ok _ _ _ _ _ _ _ _ ?_
  unfold sh134
  refine do_call Tryz.call203 (sh203_ok _ _ _ _ _ _ _ ?_)
  unfold sh203
  intro K10
  refine do_call Tryz.call30 (c_r4may hla hna (by omega) hIa fun w1 e1 => retS_ret ⟨_, rfl, ifB_t ha ?_⟩)
  refine do_call Tryz.call30 (c_r4may (hlb.ext e1) hnb (by omega) hIb fun w2 e2 => retS_ret ⟨_, rfl, ?_⟩)
  rw [hb]
  simp -zeta -zetaHave only [K10]
  refine retS_ret ⟨_, rfl, ifB_f rfl ?_⟩
  have E2 := e1.trans e2
  have ho : isO o = true := by
    unfold mayR at ha
    simp at ha
    exact ha.1
  refine do_app elP (World.ownsRow_nil w2 w2.heap.size 46 2) (m := na) (hla.ext E2) (by rw [prs_length]; omega) prs_one (by simp only [maxLen]; omega) (by omega) (Nat.le_refl _) fun q3 c3 w3 h3 g3 => retS_ret ⟨_, _, _, rfl, ?_⟩
  have e3 : Ext w2 w3 := (ext_refl w2).grown g3 (by intro k hk; cases hk)
  refine do_app elP h3 (m := nb) ((hlb.ext E2).ext e3) (by rw [prs_length]; omega) prs_one (by simp only [maxLen]; omega) (by omega) e3.size fun q4 c4 w4 h4 g4 => retS_ret ⟨_, _, _, rfl, ?_⟩
  have e4 : Ext w2 w4 := e3.grown g4 (fun k hk => (World.ownsRow.lt h3 k hk).1)
  rw [List.nil_append, ← prs_append] at h4
  have hIab : InP (a ++ b) := fun x hx => by
    rcases List.mem_append.1 hx with hx | hx
    · exact hIa x hx
    · exact hIb x hx
  refine do_call Tryz.call96 (c_r5sort (l := a ++ b) (Cs.of_row h4) (by simp; omega) (by omega) hIab fun p5 n5 c5 w5 h5 e5 => retS_ret ⟨_, _, _, _, rfl, ?_⟩)
  rw [ho, hp] at h5 ⊢
  exact h _ _ _ _ (row_mono h5 (Nat.le_trans E2.size e4.size)) ((E2.trans e4).trans e5)
theorem c_r41has {x : Pr} {l : List Pr} {q : Option Addr} {n c : Nat} (hl : Cs w q (prs l)) (hn : l.length = n) (hm : n ≤ 1000000000000)
    (h : ∀ w', Ext w w' → R (.returned (.bool (decide (x ∈ l)))) w') : Calls Tryz.prog 135 #[.slice q n c, .agg #[.int .i64 x.1, .int .i64 x.2]] w R := by
  refine sh135_ok _ _ _ _ _ ?_
  unfold sh135
  refine ⟨?_⟩
  have e0 := ext_alloc w (.cells #[.int .i64 x.1, .int .i64 x.2] 46)
  have h0 := blk_alloc w #[.int .i64 x.1, .int .i64 x.2] 46
  generalize w.heap.size = b6 at h0 ⊢
  generalize w.alloc (.cells #[.int .i64 x.1, .int .i64 x.2] 46) = w0 at *
  refine ⟨fun vs w' => ∃ k : Nat, vs = [.int .i64 k] ∧ k ≤ n ∧ Ext w0 w' ∧ x ∉ l.take k, fun vs _ => n - (intOf (vs.getD 0 undef)).toNat, ⟨0, rfl, by omega, ext_refl w0, by simp⟩, ?_⟩
  rintro i _ w2 ⟨k, hv, hkn, E, hno⟩
  simp only [List.cons.injEq, Value.int.injEq, true_and, and_true] at hv
  subst hv
  refine ifB_intro (fun hlt => ?_) fun hge => ?_
  · have hlt : k < n := by have := of_decide_eq_true hlt; omega
    have hkl : k < l.length := by omega
    have d := ext_drew w2
    refine ⟨⟨fun w' => Ext w2 w', d, ?_⟩⟩
    refine ix_prC (C := fun w' => Ext w2 w') (fun w' e => ((hl.ext e0).ext E).ext e) (ext_refl _) hn rfl hlt fun a r0 r1 => ⟨_, r0, _, r1, _, fun w' e => (h0.ext (E.trans e)).cell (i := 0) (add_blk _ _) rfl, _, fun w' e => (h0.ext (E.trans e)).cell (i := 1) (add_blk _ _) rfl, ?_⟩
    refine ifB_intro (fun he => ?_) fun hne => ?_
    · have he : l[k] = x := by
        simp at he
        exact Prod.ext he.1 he.2
      have := h _ ((e0.trans E).trans d)
      rw [decide_eq_true (by rw [← he]; exact List.getElem_mem hkl)] at this
      exact this
    · have hne : ¬ l[k] = x := fun q => by rw [q] at hne; simp at hne
      refine ⟨⟨k + 1, by rw [wrap_succ hlt (by omega)], by omega, E.trans d, ?_⟩, by rw [wrap_succ hlt (by omega)]; simp [intOf]; omega⟩
      rw [show l.take (k + 1) = l.take k ++ [l[k]] from (List.take_append_getElem hkl).symm, List.mem_append, List.mem_singleton]
      rintro (q | q)
      · exact hno q
      · exact hne q.symm
  · have hge : k = n := by have := of_decide_eq_false hge; omega
    subst hge
    rw [List.take_of_length_le (by omega)] at hno
    have := h _ (e0.trans E)
    rw [decide_eq_false hno] at this
    exact this
/-- what two rows have in common, both of their unions have -/
theorem un_com {p k v : Int} (ho : isO o = true) (hp : p = 1 ∨ p = 2) (ha : mayR o a = true) (hb : mayR o b = true) (hIa : InP a) (hIb : InP b) (h1 : (k, v) ∈ a) (h2 : (k, v) ∈ b) : (k, v) ∈ sortL o p (a ++ b) := by
  have hpm : may p = true := by rcases hp with rfl | rfl <;> rfl
  have hI : InP (a ++ b) := fun x hx => (List.mem_append.1 hx).elim (hIa x) (hIb x)
  rw [← lk_iff (sortL_may ho hpm hI).1, sortL_lk0 ho hpm hI, List.filter_append, List.map_append, lk_filt ha, lk_filt hb, (lk_iff ha).2 h1, (lk_iff hb).2 h2]
  rcases hp with rfl | rfl
  · show some (comb 1 v v) = some v
    simp [comb]
  · show some (comb 2 v v) = some v
    simp [comb]
theorem un_keys {p k : Int} (ho : isO o = true) (hp : may p = true) (hIa : InP a) (hIb : InP b) : (∃ y ∈ sortL o p (a ++ b), y.1 = k) ↔ (∃ v, (k, v) ∈ a) ∨ ∃ v, (k, v) ∈ b := by
  have hI : InP (a ++ b) := fun x hx => (List.mem_append.1 hx).elim (hIa x) (hIb x)
  rw [sortL_mem ho hp hI]
  constructor
  · rintro ⟨z, hz, rfl⟩
    rcases List.mem_append.1 hz with q | q
    · exact .inl ⟨z.2, q⟩
    · exact .inr ⟨z.2, q⟩
  · rintro (⟨v, hv⟩ | ⟨v, hv⟩)
    · exact ⟨(k, v), List.mem_append_left _ hv, rfl⟩
    · exact ⟨(k, v), List.mem_append_right _ hv, rfl⟩
set_option maxRecDepth 20000 in
set_option maxHeartbeats 1000000 in
theorem c_r41diff (ho : isO o = true) (hla : Cs w qa (prs a)) (hna : a.length = na) (hma : na ≤ 1000000) (hIa : InP a) (hlb : Cs w qb (prs b)) (hnb : b.length = nb) (hmb : nb ≤ 1000000) (hIb : InP b) (ha : mayR o a = true) (hb : mayR o b = true)
    (h : ∀ p m d w' L, Ext w w' → RK w' p m d L → L.Pairwise (ltO o) → (∀ k, k ∈ L ↔ ((∃ v, (k, v) ∈ a) ∨ ∃ v, (k, v) ∈ b) ∧ ¬ ∃ v, (k, v) ∈ a ∧ (k, v) ∈ b) → m ≤ na + nb → R (.returned (.slice p m d)) w') :
    Calls Tryz.prog 59 #[.int .u8 o, .slice qa na ca, .slice qb nb cb] w R := by
  refine sh59_ok _ _ _ _ _ _ _ ?_
  unfold sh59
  have hI : InP (a ++ b) := fun x hx => (List.mem_append.1 hx).elim (hIa x) (hIb x)
  have M1 := sortL_may (p := 1) ho (by decide) hI
  have M2 := sortL_may (p := 2) ho (by decide) hI
  refine do_call Tryz.call134 (c_r5unY (p := 1) (by decide) hla hna hma hIa hlb hnb hmb hIb ha hb fun p1 n1 c1 w1 h1 e1 => retS_ret ⟨_, _, _, _, rfl, ?_⟩)
  have hn1 := ownP_len h1
  have a1 := chain_pw.1 (mayR_chain M1.1)
  have a2 := chain_pw.1 (mayR_chain M2.1)
  have hk12 : (sortL o 1 (a ++ b)).map (·.1) = (sortL o 2 (a ++ b)).map (·.1) := keys_ext a1 a2 fun k => by
    rw [List.mem_map, List.mem_map, un_keys ho (by decide) hIa hIb, un_keys ho (by decide) hIa hIb]
  have u1 : ∀ v, (v.1, v.2) ∈ a → (v.1, v.2) ∈ b → v ∈ sortL o 1 (a ++ b) := fun v q r => un_com ho (.inl rfl) ha hb hIa hIb q r
  have u2 : ∀ v, (v.1, v.2) ∈ a → (v.1, v.2) ∈ b → v ∈ sortL o 2 (a ++ b) := fun v q r => un_com ho (.inr rfl) ha hb hIa hIb q r
  have hkeys : ∀ k, (∃ y ∈ sortL o 1 (a ++ b), y.1 = k) ↔ (∃ v, (k, v) ∈ a) ∨ ∃ v, (k, v) ∈ b := fun k => un_keys ho (by decide) hIa hIb
  have hlen : (sortL o 1 (a ++ b)).length ≤ na + nb := by have := M1.2.2; rw [List.length_append] at this; omega
  have un1 : ∀ k v v', (k, v) ∈ sortL o 1 (a ++ b) → (k, v') ∈ sortL o 1 (a ++ b) → v = v' := fun k v v' q r => by
    have q' := (lk_iff M1.1).2 q
    rw [(lk_iff M1.1).2 r] at q'
    exact (Option.some.inj q').symm
  have un2 : ∀ k v v', (k, v) ∈ sortL o 2 (a ++ b) → (k, v') ∈ sortL o 2 (a ++ b) → v = v' := fun k v v' q r => by
    have q' := (lk_iff M2.1).2 q
    rw [(lk_iff M2.1).2 r] at q'
    exact (Option.some.inj q').symm
  have hlen2 : (sortL o 2 (a ++ b)).length = (sortL o 1 (a ++ b)).length := by have := congrArg List.length hk12; rw [List.length_map, List.length_map] at this; exact this.symm
  have h2gen : ∀ {w' : World} {R' : Ending → World → Prop}, Ext w w' → (∀ p' n' c' w'', OwnP w'' w'.heap.size p' n' c' (sortL o 2 (a ++ b)) → Ext w' w'' → R' (.returned (.tuple #[.slice p' n' c', .int .i64 0])) w'') → Calls Tryz.prog 134 #[.int .u8 o, .int .u8 2, .slice qa na ca, .slice qb nb cb] w' R' := fun E hR => c_r5unY (p := 2) (by decide) (hla.ext E) hna hma hIa (hlb.ext E) hnb hmb hIb ha hb hR
  clear M1 M2 hI
  generalize sortL o 1 (a ++ b) = L1 at *
  generalize sortL o 2 (a ++ b) = L2 at *
  refine ⟨fun vs w' => ∃ (k : Nat) (p : Option Addr) (m d : Nat), vs = [.slice p m d, .int .i64 k] ∧ k ≤ n1 ∧ m ≤ k ∧ Ext w1 w' ∧ OwnK w' w1.heap.size p m d (((L1.take k).filter fun x => !comB a b x.1).map (·.1)), fun vs _ => n1 - (intOf (vs.getD 1 undef)).toNat, ⟨0, none, 0, 0, rfl, by omega, by omega, ext_refl w1, ownK_nil _ _⟩, ?_⟩
  rintro p m d i _ w2 ⟨k, p', m', d', hv, hkn, hmk, E, ho2⟩
  simp only [List.cons.injEq, Value.slice.injEq, Value.int.injEq, true_and, and_true] at hv
  obtain ⟨⟨rfl, rfl, rfl⟩, rfl⟩ := hv
  refine ifB_intro (fun hlt => ?_) fun hge => ?_
  · have hlt : k < n1 := by have := of_decide_eq_true hlt; omega
    have hkl : k < L1.length := by omega
    have et : L1.take (k + 1) = L1.take k ++ [L1[k]] := (List.take_append_getElem hkl).symm
    intro K26
    refine do_call Tryz.call134 (h2gen (e1.trans E) fun p3 n3 c3 w3 h3 e3 => retS_ret ⟨_, _, _, _, rfl, ?_⟩)
    have hn3 := ownP_len h3
    have E3 := E.trans e3
    have hk2 : k < L2.length := by omega
    have hkk : L2[k].1 = L1[k].1 := by
      have hh : (L1.map (·.1))[k]? = (L2.map (·.1))[k]? := by rw [hk12]
      rw [List.getElem?_map, List.getElem?_map, List.getElem?_eq_getElem hkl, List.getElem?_eq_getElem hk2] at hh
      simpa using hh.symm
    intro K35
    have hadd : ∀ w', Ext w3 w' → comB a b L1[k].1 = false → K35 true w' := fun w' e' hc => by
      simp -zeta -zetaHave only [K35]
      refine ifB_t rfl ?_
      refine ix_pr ((ownP_cs h1).ext (E3.trans e')) hn1 (k := k) rfl hlt fun a0 r0 _ _ => ⟨_, r0, ⟨?_⟩⟩
      have e4 := ext_alloc w' (.cells #[.int .i64 L1[k].1] 2)
      have c4 : Cs (w'.alloc (.cells #[.int .i64 L1[k].1] 2)) (some (blk w'.heap.size)) (ints [L1[k].1]) := cs_alloc w' _ _
      have E4 := (E3.trans e').trans e4
      refine do_appK ((e3.trans e').trans e4 |>.row ho2) (m := 1) c4 rfl (by omega) E4.size fun p5 d5 w5 h5 g5 => retS_ret ⟨_, _, _, rfl, ?_⟩
      refine ⟨⟨k + 1, p5, _, d5, by rw [wrap_succ hlt (by omega)], by omega, by omega, g5 w1 E4 (Nat.le_refl _), ?_⟩, by rw [wrap_succ hlt (by omega)]; simp [intOf]; omega⟩
      rw [et, List.filter_append, List.map_append]
      simp only [List.filter_cons, hc, Bool.not_false, if_true, List.filter_nil, List.map_cons, List.map_nil]
      exact h5
    have hskip : ∀ w', Ext w3 w' → comB a b L1[k].1 = true → K35 false w' := fun w' e' hc => by
      simp -zeta -zetaHave only [K35]
      refine ifB_f rfl ?_
      refine ⟨⟨k + 1, p, m, d, by rw [wrap_succ hlt (by omega)], by omega, by omega, E3.trans e', ?_⟩, by rw [wrap_succ hlt (by omega)]; simp [intOf]; omega⟩
      rw [et, List.filter_append, List.map_append]
      simp only [List.filter_cons, hc, Bool.not_true, Bool.false_eq_true, if_false, List.filter_nil, List.map_nil, List.append_nil]
      exact (e3.trans e').row ho2
    have hcom1 : ∀ v, (L1[k].1, v) ∈ a → (L1[k].1, v) ∈ b → v = L1[k].2 := fun v q r => un1 L1[k].1 v L1[k].2 (u1 (L1[k].1, v) q r) (List.getElem_mem hkl)
    have hnc : (L1[k] ∉ a ∨ L1[k] ∉ b) → comB a b L1[k].1 = false := fun q => by
      cases hc : comB a b L1[k].1 with
      | false => rfl
      | true =>
        obtain ⟨v, q1, q2⟩ := comB_iff.1 hc
        have := hcom1 v q1 q2
        subst this
        rcases q with q | q
        · exact absurd q1 q
        · exact absurd q2 q
    have d3 := ext_drew w3
    have c1' : ∀ w', Ext w3 w' → Cs w' p1 (prs L1) := fun w' e => (ownP_cs h1).ext (E3.trans e)
    have c2' : ∀ w', Ext w3 w' → Cs w' p3 (prs L2) := fun w' e => (ownP_cs h3).ext e
    refine ⟨⟨fun w' => Ext w3 w', d3, ?_⟩⟩
    refine ix_prC (C := fun w' => Ext w3 w') c1' (ext_refl _) hn1 (k := k) rfl hlt fun a0 r0 r1 => ⟨_, r0, _, r1, ?_⟩
    refine do_call Tryz.call135 (c_r41has (x := L1[k]) (hla.ext ((e1.trans E3).trans d3)) hna (by omega) fun w4 e4 => retS_ret ⟨_, rfl, d3.trans e4, ?_⟩)
    have x4 := d3.trans e4
    refine ifB_intro (fun q => ?_) fun q => ?_
    · have q : L1[k] ∉ a := by simpa using q
      exact hadd _ x4 (hnc (.inl q))
    have qa' : L1[k] ∈ a := by simpa using q
    refine ix_prC (C := fun w' => Ext w3 w') c1' (ext_refl _) hn1 (k := k) rfl hlt fun a2 r2 r3 => ⟨_, r2, _, r3, ?_⟩
    refine do_call Tryz.call135 (c_r41has (x := L1[k]) (hlb.ext ((e1.trans E3).trans x4)) hnb (by omega) fun w5 e5 => retS_ret ⟨_, rfl, x4.trans e5, ?_⟩)
    have x5 := x4.trans e5
    refine ifB_intro (fun q => ?_) fun q => ?_
    · have q : L1[k] ∉ b := by simpa using q
      exact hadd _ x5 (hnc (.inr q))
    have qb' : L1[k] ∈ b := by simpa using q
    refine ix_prC (C := fun w' => Ext w3 w') c2' (ext_refl _) hn3 (k := k) rfl (by omega) fun a4 r4 r5 => ⟨_, r4, _, r5, ?_⟩
    refine ix_prC (C := fun w' => Ext w3 w') c1' (ext_refl _) hn1 (k := k) rfl hlt fun a6 r6 r7 => ⟨_, r6, _, r7, ?_⟩
    have hv2 : L2[k].2 = L1[k].2 := un2 L1[k].1 _ _ (by rw [← hkk]; exact List.getElem_mem hk2) (u2 L1[k] qa' qb')
    have hc : comB a b L1[k].1 = true := comB_iff.2 ⟨L1[k].2, qa', qb'⟩
    rw [hkk, hv2]
    simp only [beq_self_eq_true, Bool.and_self, Bool.not_true]
    exact hskip _ x5 hc
  · have hge : k = n1 := by have := of_decide_eq_false hge; omega
    subst hge
    rw [List.take_of_length_le (by omega)] at ho2
    refine h _ _ _ _ _ (e1.trans E) (ownK_rk ho2) (List.Pairwise.sublist (List.Sublist.map _ List.filter_sublist) a1) (fun x => ?_) (by omega)
    rw [← comB_iff, ← hkeys, List.mem_map]
    constructor
    · rintro ⟨y, hy, rfl⟩
      have := List.mem_filter.1 hy
      exact ⟨⟨y, this.1, rfl⟩, by simpa using this.2⟩
    · rintro ⟨⟨y, hy, rfl⟩, hc⟩
      exact ⟨y, List.mem_filter.2 ⟨hy, by simpa using hc⟩, rfl⟩
end
theorem c_cdiff_no {o : Int} {a b : Tr} {pa pb : Option Addr} {w : World} {R : Ending → World → Prop} (ha : IsN w pa a) (hb : IsN w pb b) (ka : InK a) (kb : InK b) (hno : ¬ (canT o a ∧ canT o b))
    (h : ∀ w', Ext w w' → R (.returned (.tuple #[.slice none 0 0, .int .i64 2])) w') : Calls Tryz.prog 58 #[.int .u8 o, .pointer pa, .pointer pb] w R := by
  refine sh58_ok _ _ _ ?_
  unfold sh58
  refine ⟨?_⟩
  have e1 := ext_alloc w (.cells #[.slice none 0 0] 24)
  have h1 := blk_alloc w #[.slice none 0 0] 24
  obtain ⟨b4, hb4⟩ : ∃ b4, b4 = w.heap.size := ⟨_, rfl⟩
  rw [← hb4] at h1 ⊢
  generalize w.alloc (.cells #[.slice none 0 0] 24) = w1 at *
  refine do_call Tryz.call92 (c_schOf (fun hc => by cases hc) fun _ bs w2 e2 hbs hs2 => retS_ret ⟨_, _, rfl, ?_⟩)
  intro K22 K55
  refine ifB_f rfl ?_
  have E2 := e1.trans e2
  have hout : ∀ w', Ext w2 w' → doSt ((blk b4).add 0) (.slice none 0 0) w' (fun w56 => ∃ (xp57 : Option Addr), ∃ (xn58 : Nat), ∃ (xc59 : Nat), World.cell? w56 (blk b4) = some (.slice xp57 xn58 xc59) ∧ (
 R (.returned (.tuple #[.slice xp57 xn58 xc59, .int .i64 2])) w56)) := fun w' e' => by
    refine do_st ((h1.ext e2).ext e') (i := 0) (add_blk _ _) (by simp) fun w3 h3 g3 => ?_
    exact ⟨_, _, _, h3.cell (i := 0) rfl rfl, h _ ((E2.trans e').st g3 (by omega))⟩
  refine do_call Tryz.call51 (c_cis (ha.ext E2) ka fun r3 w3 e3 i3 => retS_ret ⟨_, rfl, ?_⟩)
  cases r3 with
  | false => exact ifB_t rfl (hout _ e3)
  | true =>
  refine ifB_f rfl ?_
  refine do_call Tryz.call51 (c_cis (hb.ext (E2.trans e3)) kb fun r4 w4 e4 i4 => retS_ret ⟨_, rfl, ?_⟩)
  have : r4 = false := by
    cases r4 with
    | false => rfl
    | true => exact absurd ⟨i3.1 rfl, i4.1 rfl⟩ hno
  subst this
  simp -zeta -zetaHave only [K55]
  exact ifB_t rfl (hout _ (e3.trans e4))
end Go.Proofs.YtlddfgfmkapoiaaGreat

namespace Go.Proofs.YtlddfgfmkapoiaaGreat
open Go Go.Sh
set_option maxRecDepth 100000 in
/-- joinery/joinerylaw41.CanonDiffs -/
def sh9 (o_1 : Int) (l_p2 : Option Addr) (l_n3 : Nat) (l_c4 : Nat) (m_p5 : Option Addr) (m_n6 : Nat) (m_c7 : Nat) (R : Ending → World → Prop) (w : World) : Prop :=
 let K10 : Bool → World → Prop := fun (x8 : Bool) (w9 : World) => 
 ifB x8 (
 doCall Tryz.prog (.func (.func 48) #[] #[]) #[] w9 (retS (fun v12 w13 => ∃ (x11 : Bool), v12 = (.bool x11 : Value) ∧ (
 R (.returned (.bool x11)) w13)) (fun ch w => Kfn R ch [] w))) (
 doCall Tryz.prog (.func (.func 39) #[] #[]) #[.slice l_p2 l_n3 l_c4] w9 (retS (fun v15 w16 => ∃ (x14 : Option Addr), v15 = (.pointer x14 : Value) ∧ (
 doCall Tryz.prog (.func (.func 39) #[] #[]) #[.slice m_p5 m_n6 m_c7] w16 (retS (fun v18 w19 => ∃ (x17 : Option Addr), v18 = (.pointer x17 : Value) ∧ (
 doCall Tryz.prog (.func (.func 58) #[] #[]) #[.int .u8 o_1, .pointer x14, .pointer x17] w19 (retS (fun v24 w25 => ∃ (xp20 : Option Addr), ∃ (xn21 : Nat), ∃ (xc22 : Nat), ∃ (x23 : Int), v24 = (.tuple #[.slice xp20 xn21 xc22, .int .i64 x23] : Value) ∧ (
 doCall Tryz.prog (.func (.func 58) #[] #[]) #[.int .u8 o_1, .pointer x17, .pointer x14] w25 (retS (fun v30 w31 => ∃ (xp26 : Option Addr), ∃ (xn27 : Nat), ∃ (xc28 : Nat), ∃ (x29 : Int), v30 = (.tuple #[.slice xp26 xn27 xc28, .int .i64 x29] : Value) ∧ (
 let K34 : Bool → World → Prop := fun (x32 : Bool) (w33 : World) => 
 ifB x32 (
 let K37 : Bool → World → Prop := fun (x35 : Bool) (w36 : World) => 
 R (.returned (.bool x35)) w36
 ifB (((IntKind.wrap .i64 (((xn21 : Nat) : Int) + ((xn27 : Nat) : Int))) : Int) == 0) (
 ifB ((x23 : Int) == 2) (
 ifB ((x29 : Int) == x23) (
 doCall Tryz.prog (.func (.func 48) #[] #[]) #[] w33 (retS (fun v39 w40 => ∃ (x38 : Bool), v39 = (.bool x38 : Value) ∧ (
 K37 x38 w40)) (fun ch w => Kfn R ch [] w))) (
 R (.returned (.bool false)) w33)) (
 R (.returned (.bool false)) w33)) (
 R (.returned (.bool false)) w33)) (
 doCall Tryz.prog (.func (.func 60) #[] #[]) #[.slice l_p2 l_n3 l_c4] w33 (retS (fun v44 w45 => ∃ (xp41 : Option Addr), ∃ (xn42 : Nat), ∃ (xc43 : Nat), v44 = (.slice xp41 xn42 xc43 : Value) ∧ (
 doCall Tryz.prog (.func (.func 60) #[] #[]) #[.slice m_p5 m_n6 m_c7] w45 (retS (fun v49 w50 => ∃ (xp46 : Option Addr), ∃ (xn47 : Nat), ∃ (xc48 : Nat), v49 = (.slice xp46 xn47 xc48 : Value) ∧ (
 doCall Tryz.prog (.func (.func 59) #[] #[]) #[.int .u8 o_1, .slice xp41 xn42 xc43, .slice xp46 xn47 xc48] w50 (retS (fun v54 w55 => ∃ (xp51 : Option Addr), ∃ (xn52 : Nat), ∃ (xc53 : Nat), v54 = (.slice xp51 xn52 xc53 : Value) ∧ (
 doCall Tryz.prog (.func (.func 58) #[] #[]) #[.int .u8 o_1, .pointer x14, .pointer x14] w55 (retS (fun v60 w61 => ∃ (xp56 : Option Addr), ∃ (xn57 : Nat), ∃ (xc58 : Nat), ∃ (x59 : Int), v60 = (.tuple #[.slice xp56 xn57 xc58, .int .i64 x59] : Value) ∧ (
 let K64 : Bool → World → Prop := fun (x62 : Bool) (w63 : World) => 
 R (.returned (.bool x62)) w63
 ifB ((x23 : Int) == 0) (
 ifB ((x29 : Int) == 0) (
 ifB ((x59 : Int) == 0) (
 ifB ((((xn57 : Nat) : Int) : Int) == 0) (
 doCall Tryz.prog (.func (.func 61) #[] #[]) #[.slice xp20 xn21 xc22, .slice xp51 xn52 xc53] w61 (retS (fun v66 w67 => ∃ (x65 : Bool), v66 = (.bool x65 : Value) ∧ (
 ifB x65 (
 doCall Tryz.prog (.func (.func 61) #[] #[]) #[.slice xp26 xn27 xc28, .slice xp51 xn52 xc53] w67 (retS (fun v69 w70 => ∃ (x68 : Bool), v69 = (.bool x68 : Value) ∧ (
 ifB x68 (
 doCall Tryz.prog (.func (.func 48) #[] #[]) #[] w70 (retS (fun v72 w73 => ∃ (x71 : Bool), v72 = (.bool x71 : Value) ∧ (
 K64 x71 w73)) (fun ch w => Kfn R ch [] w))) (
 R (.returned (.bool false)) w70))) (fun ch w => Kfn R ch [] w))) (
 R (.returned (.bool false)) w67))) (fun ch w => Kfn R ch [] w))) (
 R (.returned (.bool false)) w61)) (
 R (.returned (.bool false)) w61)) (
 R (.returned (.bool false)) w61)) (
 R (.returned (.bool false)) w61))) (fun ch w => Kfn R ch [] w)))) (fun ch w => Kfn R ch [] w)))) (fun ch w => Kfn R ch [] w)))) (fun ch w => Kfn R ch [] w)))
 doCall Tryz.prog (.func (.func 56) #[] #[]) #[.int .u8 o_1, .slice l_p2 l_n3 l_c4] w31 (retS (fun v75 w76 => ∃ (x74 : Bool), v75 = (.bool x74 : Value) ∧ (
 ifB (!x74) (
 K34 true w76) (
 doCall Tryz.prog (.func (.func 56) #[] #[]) #[.int .u8 o_1, .slice m_p5 m_n6 m_c7] w76 (retS (fun v78 w79 => ∃ (x77 : Bool), v78 = (.bool x77 : Value) ∧ (
 K34 (!x77) w79)) (fun ch w => Kfn R ch [] w))))) (fun ch w => Kfn R ch [] w)))) (fun ch w => Kfn R ch [] w)))) (fun ch w => Kfn R ch [] w)))) (fun ch w => Kfn R ch [] w)))) (fun ch w => Kfn R ch [] w)))
 doCall Tryz.prog (.func (.func 52) #[] #[]) #[.slice l_p2 l_n3 l_c4] w (retS (fun v81 w82 => ∃ (x80 : Bool), v81 = (.bool x80 : Value) ∧ (
 ifB x80 (
 doCall Tryz.prog (.func (.func 48) #[] #[]) #[] w82 (retS (fun v84 w85 => ∃ (x83 : Bool), v84 = (.bool x83 : Value) ∧ (
 R (.returned (.bool x83)) w85)) (fun ch w => Kfn R ch [] w))) (
 doCall Tryz.prog (.func (.func 52) #[] #[]) #[.slice m_p5 m_n6 m_c7] w82 (retS (fun v87 w88 => ∃ (x86 : Bool), v87 = (.bool x86 : Value) ∧ (
 ifB x86 (
 doCall Tryz.prog (.func (.func 48) #[] #[]) #[] w88 (retS (fun v90 w91 => ∃ (x89 : Bool), v90 = (.bool x89 : Value) ∧ (
 R (.returned (.bool x89)) w91)) (fun ch w => Kfn R ch [] w))) (
 K10 (decide (((IntKind.wrap .i64 (((l_n3 : Nat) : Int) + ((m_n6 : Nat) : Int))) : Int) > 150)) w88))) (fun ch w => Kfn R ch [] w))))) (fun ch w => Kfn R ch [] w))
set_option maxRecDepth 100000 in
theorem sh9_ok (o_1 : Int) (l_p2 : Option Addr) (l_n3 : Nat) (l_c4 : Nat) (m_p5 : Option Addr) (m_n6 : Nat) (m_c7 : Nat) {R : Ending → World → Prop} {w : World} : sh9 o_1 l_p2 l_n3 l_c4 m_p5 m_n6 m_c7 R w → Calls Tryz.prog 9 #[.int .u8 o_1, .slice l_p2 l_n3 l_c4, .slice m_p5 m_n6 m_c7] w R :=
  calls_of_eq (ann := fun _ => []) (fn := Tryz.f9) (c := bodyOf Tryz.f9) (args := #[.int .u8 o_1, .slice l_p2 l_n3 l_c4, .slice m_p5 m_n6 m_c7]) 400 follows_mixed Tryz.func9 (by kernel_rfl) (by kernel_rfl)
end Go.Proofs.YtlddfgfmkapoiaaGreat

namespace Go.Proofs.YtlddfgfmkapoiaaGreat
open Go Go.Sh Go.RowKit

set_option maxRecDepth 20000 in
set_option maxHeartbeats 1000000 in
theorem c_canonDiffs {o : Int} {l m : List Bd} {q1 q2 : Option Addr} {n1 c1 n2 c2 : Nat} {w : World} {R : Ending → World → Prop} (hl : Cs w q1 (bds l)) (hn1 : l.length = n1) (hc1 : n1 ≤ c1) (hF1 : ∀ t : BT, l = t.beads → FitB t) (hm : Cs w q2 (bds m)) (hn2 : m.length = n2) (hc2 : n2 ≤ c2) (hF2 : ∀ t : BT, m = t.beads → FitB t)
    (h : ∀ w', Ext w w' → R (.returned (.bool true)) w') : Calls Tryz.prog 9 #[.int .u8 o, .slice q1 n1 c1, .slice q2 n2 c2] w R := by
  refine sh9_ok _ _ _ _ _ _ _ ?_
  unfold sh9
  have hal : ∀ w2, Ext w w2 → doCall Tryz.prog (.func (.func 48) #[] #[]) #[] w2 (retS (fun v22 w23 => ∃ (x21 : Bool), v22 = (.bool x21 : Value) ∧ (
 R (.returned (.bool x21)) w23)) (fun ch w => Kfn R ch [] w)) := fun w2 e2 => do_call Tryz.call48 (c_alive41 fun w3 e3 => retS_ret ⟨_, rfl, h _ (e2.trans e3)⟩)
  intro K10
  refine do_call Tryz.call52 (c_long hl hn1 fun b1 hb1 => retS_ret ⟨_, rfl, ?_⟩)
  rcases hb1 with rfl | ⟨rfl, z1, t, hw1, rfl⟩
  · exact ifB_t rfl (hal _ (ext_refl w))
  refine ifB_f rfl ?_
  refine do_call Tryz.call52 (c_long hm hn2 fun b2 hb2 => retS_ret ⟨_, rfl, ?_⟩)
  rcases hb2 with rfl | ⟨rfl, z2, u, hw2, rfl⟩
  · exact ifB_t rfl (hal _ (ext_refl w))
  refine ifB_f rfl ?_
  simp -zeta -zetaHave only [K10]
  refine ifB_intro (fun _ => hal _ (ext_refl w)) fun _ => ?_
  have f1 := hF1 t rfl
  have f2 := hF2 u rfl
  have s1 : t.size = n1 := hn1
  have s2 : u.size = n2 := hn2
  have ts := BT.tr_size t
  have us := BT.tr_size u
  refine do_call Tryz.call39 (c_make t hl s1 hc1 hw1 (by omega) fun pa w1 e1 ha => retS_ret ⟨_, rfl, ?_⟩)
  refine do_call Tryz.call39 (c_make u (hm.ext e1) s2 hc2 hw2 (by omega) fun pb w2 e2 hb => retS_ret ⟨_, rfl, ?_⟩)
  have E2 := e1.trans e2
  have ha2 := ha.ext e2
  by_cases hc : canT o t.tr ∧ canT o u.tr
  · have ct := canT_can f1.inK hc.1
    have cu := canT_can f2.inK hc.2
    have ho := hc.1.1
    have aT := hc.1.2.1
    have aU := hc.2.2.1
    refine do_call Tryz.call58 (c_cdiff ho ha2 hb ct cu (by omega) (by omega) fun q3 n3 c3 w3 e3 o3 => retS_ret ⟨_, _, _, _, rfl, ?_⟩)
    refine do_call Tryz.call58 (c_cdiff ho (hb.ext e3) (ha2.ext e3) cu ct (by omega) (by omega) fun q4 n4 c4 w4 e4 o4 => retS_ret ⟨_, _, _, _, rfl, ?_⟩)
    have e24 := e3.trans e4
    have E4 := E2.trans e24
    intro K34
    refine do_call Tryz.call56 (c_r41is t (hl.ext E4) s1 hc1 hw1 (by omega) f1 fun r5 w5 e5 i5 => retS_ret ⟨_, rfl, ?_⟩)
    obtain rfl : r5 = true := i5.2 hc.1
    refine ifB_f rfl ?_
    refine do_call Tryz.call56 (c_r41is u (hm.ext (E4.trans e5)) s2 hc2 hw2 (by omega) f2 fun r6 w6 e6 i6 => retS_ret ⟨_, rfl, ?_⟩)
    obtain rfl : r6 = true := i6.2 hc.2
    simp -zeta -zetaHave only [K34]
    refine ifB_f rfl ?_
    have E6 := (E4.trans e5).trans e6
    refine do_call Tryz.call60 (c_pairs t (hl.ext E6) s1 hc1 hw1 (by omega) fun p7 n7 c7 w7 h7 e7 => retS_ret ⟨_, _, _, rfl, ?_⟩)
    have E7 := E6.trans e7
    refine do_call Tryz.call60 (c_pairs u (hm.ext E7) s2 hc2 hw2 (by omega) fun p8 n8 c8 w8 h8 e8 => retS_ret ⟨_, _, _, rfl, ?_⟩)
    have E8 := E7.trans e8
    have hn7 := ownP_len h7
    have hn8 := ownP_len h8
    have zt := t.tr.pairs_length
    have zu := u.tr.pairs_length
    have mT : mayR o t.tr.pairs = true := mayR_iff.2 ⟨ho, aT⟩
    have mU : mayR o u.tr.pairs = true := mayR_iff.2 ⟨ho, aU⟩
    refine do_call Tryz.call59 (c_r41diff ho ((ownP_cs h7).ext e8) hn7 (by omega) f1.inP (ownP_cs h8) hn8 (by omega) f2.inP mT mU fun p9 n9 c9 w9 W e9 r9 a9 m9 z9 => retS_ret ⟨_, _, _, rfl, ?_⟩)
    have E9 := E8.trans e9
    have e49 := (((e5.trans e6).trans e7).trans e8).trans e9
    refine do_call Tryz.call58 (c_cdiff ho (ha2.ext (e24.trans e49)) (ha2.ext (e24.trans e49)) ct ct (by omega) (by omega) fun q10 n10 c10 w10 e10 o10 => retS_ret ⟨_, _, _, _, rfl, ?_⟩)
    rw [difT_self ho aT fun x hx => (f1.inP x hx).1] at o10
    have hn10 : 0 = n10 := ownK_len o10
    subst hn10
    intro K64
    have S1 := difT_spec ho aT aU (fun x hx => (f1.inP x hx).1) fun x hx => (f2.inP x hx).1
    have S2 := difT_spec ho aU aT (fun x hx => (f2.inP x hx).1) fun x hx => (f1.inP x hx).1
    have w1' : difT o t.tr u.tr.pairs = W := keys_ext S1.1 a9 fun k => by rw [S1.2, m9]
    have w2' : difT o u.tr t.tr.pairs = W := keys_ext S2.1 a9 fun k => by
      rw [S2.2, m9]
      constructor
      · rintro ⟨q, r⟩; exact ⟨q.symm, fun ⟨v, x, y⟩ => r ⟨v, y, x⟩⟩
      · rintro ⟨q, r⟩; exact ⟨q.symm, fun ⟨v, x, y⟩ => r ⟨v, y, x⟩⟩
    rw [w1'] at o3
    rw [w2'] at o4
    have hn3 := ownK_len o3
    have hn4 := ownK_len o4
    have hn9 := r9.len
    have e410 := e49.trans e10
    refine ifB_t rfl (ifB_t rfl (ifB_t rfl (ifB_t rfl ?_)))
    refine do_call Tryz.call61 (c_samekeys ((Cs.of_row o3).ext (e4.trans e410)) hn3 (r9.cs.ext e10) hn9 (by omega) fun w11 e11 => retS_ret ⟨_, rfl, ?_⟩)
    rw [decide_eq_true rfl]
    refine ifB_t rfl ?_
    refine do_call Tryz.call61 (c_samekeys ((Cs.of_row o4).ext (e410.trans e11)) hn4 (r9.cs.ext (e10.trans e11)) hn9 (by omega) fun w12 e12 => retS_ret ⟨_, rfl, ?_⟩)
    rw [decide_eq_true rfl]
    exact ifB_t rfl (hal _ (((E9.trans e10).trans e11).trans e12))
  · refine do_call Tryz.call58 (c_cdiff_no ha2 hb f1.inK f2.inK hc fun w3 e3 => retS_ret ⟨_, _, _, _, rfl, ?_⟩)
    refine do_call Tryz.call58 (c_cdiff_no (hb.ext e3) (ha2.ext e3) f2.inK f1.inK (fun q => hc ⟨q.2, q.1⟩) fun w4 e4 => retS_ret ⟨_, _, _, _, rfl, ?_⟩)
    have E4 := E2.trans (e3.trans e4)
    intro K34
    have hK34 : ∀ w', Ext w w' → K34 true w' := fun w' e' => by
      simp -zeta -zetaHave only [K34]
      refine ifB_t rfl ?_
      intro K37
      exact ifB_t rfl (ifB_t rfl (ifB_t rfl (hal _ e')))
    refine do_call Tryz.call56 (c_r41is t (hl.ext E4) s1 hc1 hw1 (by omega) f1 fun r5 w5 e5 i5 => retS_ret ⟨_, rfl, ?_⟩)
    have E5 := E4.trans e5
    cases r5 with
    | false => exact ifB_t rfl (hK34 _ E5)
    | true =>
    refine ifB_f rfl ?_
    refine do_call Tryz.call56 (c_r41is u (hm.ext E5) s2 hc2 hw2 (by omega) f2 fun r6 w6 e6 i6 => retS_ret ⟨_, rfl, ?_⟩)
    have : r6 = false := by
      cases r6 with
      | false => rfl
      | true => exact absurd ⟨i5.1 rfl, i6.1 rfl⟩ hc
    subst this
    exact hK34 _ (E5.trans e6)
end Go.Proofs.YtlddfgfmkapoiaaGreat

