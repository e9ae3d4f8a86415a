/-
  Predicates: which may be, and what sift makes of them.
-/
import Derived.Test.YtmkpkmdnapccgaaGreatDoorZ20
import Derived.Test.YtmkpkmdnapccgaaGreatDoorZ16
import Derived.Laws.IdiomStrings

set_option maxRecDepth 100000
set_option maxHeartbeats 6400000
namespace Go.Proofs.YtmkpkmdnapccgaaGreatDoor
open Go Go.Sh Go.RowKit

def takesK (k a b : Int) (x : Pr) : Bool :=
  if k = 2 then decide (a ≤ x.1 ∧ x.1 ≤ b) else if k = 3 then decide (a ≤ x.2 ∧ x.2 ≤ b) else if k = 4 then decide (x.1 % a = b)
  else if k = 5 then decide (BitVec.ofInt 64 x.1 &&& BitVec.ofInt 64 a = BitVec.ofInt 64 b) else true
theorem wrap_bv (v : BitVec 64) : IntKind.wrap .i64 (v.toNat : Int) = v.toInt := by
  have := v.isLt
  rw [BitVec.toInt_eq_toNat_cond]
  simp only [IntKind.wrap, IntKind.signed, IntKind.bits]
  simp
  split <;> omega
theorem ofInt_toInt {a : Int} (h : In a) : (BitVec.ofInt 64 a).toInt = a := by
  unfold In at h
  rw [BitVec.toInt_ofInt]
  simp only [Int.bmod]
  omega
theorem bor_eq {a b : Int} (ha : In a) : ((bOr .i64 a b) == a) = decide (BitVec.ofInt 64 a ||| BitVec.ofInt 64 b = BitVec.ofInt 64 a) := by
  rw [Bool.eq_iff_iff]
  simp only [beq_iff_eq, decide_eq_true_eq]
  show IntKind.wrap .i64 ((BitVec.ofInt 64 a ||| BitVec.ofInt 64 b).toNat : Int) = a ↔ _
  rw [wrap_bv]
  constructor
  · intro h
    apply BitVec.eq_of_toInt_eq
    rw [h, ofInt_toInt ha]
  · intro h
    rw [h, ofInt_toInt ha]
theorem band_eq {a b c : Int} (hc : In c) : ((bAnd .i64 a b) == c) = decide (BitVec.ofInt 64 a &&& BitVec.ofInt 64 b = BitVec.ofInt 64 c) := by
  rw [Bool.eq_iff_iff]
  simp only [beq_iff_eq, decide_eq_true_eq]
  show IntKind.wrap .i64 ((BitVec.ofInt 64 a &&& BitVec.ofInt 64 b).toNat : Int) = c ↔ _
  rw [wrap_bv]
  constructor
  · intro h
    apply BitVec.eq_of_toInt_eq
    rw [h, ofInt_toInt hc]
  · intro h
    rw [h, ofInt_toInt hc]
theorem mod_eq {x a b : Int} (hx : In x) (ha : In a) (h : 1 ≤ a ∧ 0 ≤ b ∧ b < a) : (x.tmod a = b → x % a = b) ∧ (x.tmod a ≠ b → ((IntKind.wrap .i64 (x.tmod a + a)) == b) = decide (x % a = b)) := by
  have h0 := Int.emod_nonneg x (show a ≠ 0 by omega)
  have h1 := Int.emod_lt_of_pos x (show 0 < a by omega)
  have ht := Int.tmod_eq_emod (a := x) (b := a)
  have hw : ∀ y : Int, -9223372036854775808 ≤ y → y < 18446744073709551616 → (IntKind.wrap .i64 y = y ∧ y < 9223372036854775808) ∨ (IntKind.wrap .i64 y = y - 18446744073709551616 ∧ 9223372036854775808 ≤ y) := fun y h1 h2 => by
    by_cases hy : y < 9223372036854775808
    · exact .inl ⟨wrap_of h1 hy, hy⟩
    · right
      simp only [IntKind.wrap, IntKind.signed, IntKind.bits]
      simp
      omega
  unfold In at hx ha
  split at ht
  · rename_i hc
    have ht : x.tmod a = x % a := by simpa using ht
    rw [ht]
    refine ⟨id, fun hne => ?_⟩
    rw [show decide (x % a = b) = false by simpa using hne]
    have := hw (x % a + a) (by omega) (by omega)
    have hne : IntKind.wrap .i64 (x % a + a) ≠ b := by omega
    simpa using hne
  · rename_i hc
    have ht : x.tmod a = x % a - a := by
      rw [ht]
      have : ((a.natAbs : Nat) : Int) = a := by omega
      rw [this]
    have hne0 : x % a ≠ 0 := fun e => hc (.inr (Int.dvd_of_emod_eq_zero e))
    rw [ht]
    refine ⟨fun e => by omega, fun _ => ?_⟩
    rw [wrap_of (by omega) (by omega), show x % a - a + a = x % a by omega]
    by_cases e : x % a = b <;> simp [e]
def siftEs (b : Nat) : Array MapEntry := #[
  { key := .int .u8 1, val := .agg #[.func (.func 86) #[] #[], .func (.func 87) #[] #[]], born := 0 },
  { key := .int .u8 2, val := .agg #[.func (.func 84) #[] #[], .func (.func 88) #[] #[.pointer (some (blk b))]], born := 1 },
  { key := .int .u8 3, val := .agg #[.func (.func 84) #[] #[], .func (.func 89) #[] #[.pointer (some (blk b))]], born := 2 },
  { key := .int .u8 4, val := .agg #[.func (.func 90) #[] #[], .func (.func 91) #[] #[]], born := 3 },
  { key := .int .u8 5, val := .agg #[.func (.func 92) #[] #[], .func (.func 93) #[] #[]], born := 4 }]
abbrev fromV : Array Value := #[.func (.func 85) #[] #[]]
theorem c_skinds {w : World} {R : EW} (h : ∀ b m t w', Ext w w' → w'.heap[m]? = some (.map (siftEs b) 5) → Blk w' b fromV t → R (.returned (.map (some m))) w') : Calls Tryz.prog 57 #[] w R := by
  refine sh57_ok ?_
  unfold sh57
  refine ⟨do_st (blk_alloc w _ _) (i := 0) rfl (by simp) fun w0 h0 g0 => ⟨?_⟩⟩
  have e0 := (ext_alloc w (.cells (Value.cells .nilFunc) _)).st g0 (Nat.le_refl _)
  have hm0 := heap_alloc_new w0 (.map #[] 0)
  have e1 := ext_alloc w0 (.map #[] 0)
  have hb1 := Blk.ext h0 e1
  have hlt := Blk.lt h0
  generalize w0.alloc (.map #[] 0) = wm at *
  refine do_mu_new Tryz.underlying117 Tryz.underlying5 hm0 (by rfl) (by rfl) fun w1 h1 g1 => ?_
  refine do_mu_new Tryz.underlying117 Tryz.underlying5 h1 (by rfl) (by rfl) fun w2 h2 g2 => ?_
  refine do_mu_new Tryz.underlying117 Tryz.underlying5 h2 (by rfl) (by rfl) fun w3 h3 g3 => ?_
  refine do_mu_new Tryz.underlying117 Tryz.underlying5 h3 (by rfl) (by rfl) fun w4 h4 g4 => ?_
  refine do_mu_new Tryz.underlying117 Tryz.underlying5 h4 (by rfl) (by rfl) fun w5 h5 g5 => ?_
  have hne : some w.heap.size ≠ some w0.heap.size := ne_some (by omega)
  have s0 := e0.size
  exact h _ _ _ _ ((((((e0.trans e1).st g1 s0).st g2 s0).st g3 s0).st g4 s0).st g5 s0) h5 (((((hb1.grown g1 hne).grown g2 hne).grown g3 hne).grown g4 hne).grown g5 hne)
theorem find_sift {b : Nat} {k : Int} (hk : 1 ≤ k ∧ k ≤ 5) : ∃ i f g gc, Instr.findNow (.int .u8) (.int .u8 k) (siftEs b).toList 0 = some (some (i, .agg #[.func (.func f) #[] #[], .func (.func g) #[] gc])) ∧
    (∀ (a c : Int), In a → In c → ∀ (w : World) (R : EW), R (.returned (.bool (predMay k a c))) w → doCall Tryz.prog (.func (.func f) #[] #[]) #[.int .i64 a, .int .i64 c] w R) ∧
    ∀ (a c : Int) (x : Pr), In a → In c → In x.1 → predMay k a c = true → ∀ (w : World) (t : TypeId) (R : EW), Blk w b fromV t → (∀ w', Ext w w' → R (.returned (.bool (takesK k a c x))) w') →
      doCall Tryz.prog (.func (.func g) #[] gc) #[.int .i64 a, .int .i64 c, agP x] w R := by
  have any : ∀ (a c : Int) (w : World) (R : EW), R (.returned (.bool true)) w → doCall Tryz.prog (.func (.func 84) #[] #[]) #[.int .i64 a, .int .i64 c] w R := fun a c w R h => do_call Tryz.call84 (sh84_ok _ _ h)
  have from_ : ∀ (a c v : Int) (w : World) (R : EW), R (.returned (.bool (decide (a ≤ v ∧ v ≤ c)))) w → doCall Tryz.prog (.func (.func 85) #[] #[]) #[.int .i64 a, .int .i64 c, .int .i64 v] w R := fun a c v w R h => do_call Tryz.call85 (sh85_ok _ _ _ (by
    unfold sh85
    refine ifB_intro (fun z => ?_) fun z => ?_
    · have z := of_decide_eq_true z
      rw [show decide (a ≤ v ∧ v ≤ c) = decide (v ≤ c) by rw [Bool.eq_iff_iff]; simp; omega] at h
      exact h
    · have z := of_decide_eq_false z
      rw [show decide (a ≤ v ∧ v ≤ c) = false by simp; omega] at h
      exact h))
  rcases (show k = 1 ∨ k = 2 ∨ k = 3 ∨ k = 4 ∨ k = 5 by omega) with rfl | rfl | rfl | rfl | rfl
  · refine ⟨0, 86, 87, #[], rfl, fun a c ha hc w R h => do_call Tryz.call86 (sh86_ok _ _ ?_), fun a c x ha hc hx hp w t R hb h => do_call Tryz.call87 (sh87_ok _ _ _ _ ?_)⟩
    · unfold sh86
      refine ifB_intro (fun z => ?_) fun z => ?_
      · have z : a = 0 := by simpa using z
        rw [show predMay 1 a c = (c == 0) by rw [Bool.eq_iff_iff]; simp [predMay, z]] at h
        exact h
      · have z : a ≠ 0 := by simpa using z
        rw [show predMay 1 a c = false by simp [predMay, z]] at h
        exact h
    · unfold sh87
      exact ⟨h _ (ext_alloc w _)⟩
  · refine ⟨1, 84, 88, #[.pointer (some (blk b))], rfl, fun a c ha hc w R h => any a c w R h, fun a c x ha hc hx hp w t R hb h => do_callc Tryz.call88 rfl (sh88_ok _ _ _ _ _ ?_)⟩
    unfold sh88
    have e1 := ext_alloc w (.cells #[.int .i64 x.1, .int .i64 x.2] 49)
    exact ⟨⟨_, _, _, (hb.ext e1).cell (i := 0) rfl rfl, _, (blk_alloc w _ _).cell (i := 0) rfl rfl, from_ a c x.1 _ _ (retS_ret ⟨_, rfl, h _ e1⟩)⟩⟩
  · refine ⟨2, 84, 89, #[.pointer (some (blk b))], rfl, fun a c ha hc w R h => any a c w R h, fun a c x ha hc hx hp w t R hb h => do_callc Tryz.call89 rfl (sh89_ok _ _ _ _ _ ?_)⟩
    unfold sh89
    have e1 := ext_alloc w (.cells #[.int .i64 x.1, .int .i64 x.2] 49)
    exact ⟨⟨_, _, _, (hb.ext e1).cell (i := 0) rfl rfl, _, (blk_alloc w _ _).cell (i := 1) rfl rfl, from_ a c x.2 _ _ (retS_ret ⟨_, rfl, h _ e1⟩)⟩⟩
  · refine ⟨3, 90, 91, #[], rfl, fun a c ha hc w R h => do_call Tryz.call90 (sh90_ok _ _ ?_), fun a c x ha hc hx hp w t R hb h => do_call Tryz.call91 (sh91_ok _ _ _ _ ?_)⟩
    · unfold sh90
      have hp : predMay 4 a c = decide (1 ≤ a ∧ 0 ≤ c ∧ c < a) := rfl
      rw [hp] at h
      refine ifB_intro (fun z => ifB_intro (fun y => ?_) fun y => ?_) fun z => ?_
      · have z := of_decide_eq_true z
        have y := of_decide_eq_true y
        rw [show decide (1 ≤ a ∧ 0 ≤ c ∧ c < a) = decide (c < a) by rw [Bool.eq_iff_iff]; simp; omega] at h
        exact h
      · have y := of_decide_eq_false y
        rw [show decide (1 ≤ a ∧ 0 ≤ c ∧ c < a) = false by simp; omega] at h
        exact h
      · have z := of_decide_eq_false z
        rw [show decide (1 ≤ a ∧ 0 ≤ c ∧ c < a) = false by simp; omega] at h
        exact h
    · unfold sh91
      have hp : 1 ≤ a ∧ 0 ≤ c ∧ c < a := of_decide_eq_true (show decide (1 ≤ a ∧ 0 ≤ c ∧ c < a) = true from hp)
      have M := mod_eq hx ha hp
      have hb1 := blk_alloc w #[.int .i64 x.1, .int .i64 x.2] 49
      have hr := h _ (ext_alloc w (.cells #[.int .i64 x.1, .int .i64 x.2] 49))
      rw [show takesK 4 a c x = decide (x.1 % a = c) from rfl] at hr
      refine ⟨⟨_, hb1.cell (i := 0) rfl rfl, by omega, ifB_intro (fun z => ?_) fun z => ⟨_, hb1.cell (i := 0) rfl rfl, by omega, ?_⟩⟩⟩
      · rw [show decide (x.1 % a = c) = true by simpa using M.1 (by simpa using z)] at hr
        exact hr
      · show R (.returned (.bool ((IntKind.wrap .i64 (x.1.tmod a + a)) == c))) _
        rw [M.2 (by simpa using z)]
        exact hr
  · refine ⟨4, 92, 93, #[], rfl, fun a c ha hc w R h => do_call Tryz.call92 (sh92_ok _ _ ?_), fun a c x ha hc hx hp w t R hb h => do_call Tryz.call93 (sh93_ok _ _ _ _ ?_)⟩
    · unfold sh92
      rw [bor_eq ha]
      exact h
    · unfold sh93
      refine ⟨⟨_, (blk_alloc w _ _).cell (i := 0) rfl rfl, ?_⟩⟩
      rw [band_eq hc]
      exact h _ (ext_alloc w _)
theorem find_sift_none {b : Nat} {k : Int} (hk : ¬ (1 ≤ k ∧ k ≤ 5)) : Instr.findNow (.int .u8) (.int .u8 k) (siftEs b).toList 0 = some none := by
  have hn : ∀ i : Int, 1 ≤ i → i ≤ 5 → (k == i) = false := fun i h1 h2 => by simp; omega
  simp [siftEs, Instr.findNow, Instr.sameNow, hn]
theorem may_none {k a c : Int} (hk : ¬ (1 ≤ k ∧ k ≤ 5)) : predMay k a c = false := by
  cases h : predMay k a c
  · rfl
  · exact absurd (predMay_kind h).1 hk
theorem c_smay {k a c : Int} {f : Bool} {w : World} {R : EW} (ha : In a) (hc : In c) (h : ∀ w', Ext w w' → R (.returned (.bool (predMay k a c))) w') :
    Calls Tryz.prog 28 #[.agg #[.int .u8 k, .int .i64 a, .int .i64 c, .bool f]] w R := by
  refine sh28_ok _ _ _ _ ?_
  unfold sh28
  refine ⟨?_⟩
  have e1 := ext_alloc w (.cells #[.int .u8 k, .int .i64 a, .int .i64 c, .bool f] 33)
  have hb1 := blk_alloc w #[.int .u8 k, .int .i64 a, .int .i64 c, .bool f] 33
  generalize w.alloc (.cells #[.int .u8 k, .int .i64 a, .int .i64 c, .bool f] 33) = w1 at *
  generalize w.heap.size = b1 at hb1 ⊢
  intro K10
  refine ⟨?_⟩
  have e2 := e1.trans (ext_drew w1)
  have hb2 := hb1.ext (ext_drew w1)
  generalize w1.drew = w2 at *
  have hit : ∀ (w' : World) (bk ff : Nat) (gv : Value), Ext w2 w' → Blk w' bk #[.func (.func ff) #[] #[], gv] 115 → (∀ (a c : Int), In a → In c → ∀ (w : World) (R : EW), R (.returned (.bool (predMay k a c))) w → doCall Tryz.prog (.func (.func ff) #[] #[]) #[.int .i64 a, .int .i64 c] w R) → K10 (blk bk) true w' := fun w' bk ff gv e hbk hf =>
    ifB_t rfl ⟨_, _, _, hbk.cell (i := 0) rfl rfl, _, (hb2.ext e).cell (i := 1) rfl rfl, _, (hb2.ext e).cell (i := 2) rfl rfl, hf a c ha hc _ _ (retS_ret ⟨_, rfl, h _ (e2.trans e)⟩)⟩
  refine ⟨fun w' => Ext w2 w', ext_refl _, _, fun w' e => (hb2.ext e).cell (i := 0) rfl rfl, ⟨?_, ?_⟩⟩
  · refine do_call Tryz.call57 (c_skinds fun b m t w3 e3 hm hbf => retS_ret ⟨_, rfl, e3, ⟨?_, ?_⟩⟩)
    · by_cases hk : 1 ≤ k ∧ k ≤ 5
      · obtain ⟨i, ff, g, gc, hf, h1, _⟩ := find_sift (b := b) hk
        refine do_lk_hit Tryz.underlying117 Tryz.underlying5 hm (by rfl) hf (.inl ⟨_, _, _, _, _, _, _, rfl, ⟨e3.trans (ext_alloc _ _), ?_⟩⟩)
        refine do_st (blk_alloc w3 _ _) (i := 0) rfl (by simp) fun w4 h4 g4 => do_st h4 (i := 1) rfl (by simp) fun w5 h5 g5 => ?_
        exact hit w5 _ ff _ (((e3.alloc (.cells #[.nilFunc, .nilFunc] 115)).st g4 e3.size).st g5 e3.size) h5 h1
      · refine do_lk_miss Tryz.underlying117 Tryz.underlying5 hm (by rfl) (find_sift_none hk) (z := .agg #[.nilFunc, .nilFunc]) (by kernel_rfl) (.inr ⟨rfl, ⟨e3.trans (ext_alloc _ _), ?_⟩⟩)
        refine do_st (blk_alloc w3 _ _) (i := 0) rfl (by simp) fun w4 h4 g4 => do_st h4 (i := 1) rfl (by simp) fun w5 h5 g5 => ?_
        have := h w5 (e2.trans (((e3.alloc (.cells #[.nilFunc, .nilFunc] 115)).st g4 e3.size).st g5 e3.size))
        rw [may_none hk] at this; exact this
    · refine ⟨e3.trans (ext_alloc _ _), ?_⟩
      have e4 := e3.alloc (.cells #[.nilFunc, .nilFunc] 115)
      have hm4 := (ext_alloc w3 (.cells #[.nilFunc, .nilFunc] 115)).heap hm
      by_cases hk : 1 ≤ k ∧ k ≤ 5
      · obtain ⟨i, ff, g, gc, hf, h1, _⟩ := find_sift (b := b) hk
        refine do_lk_hit Tryz.underlying117 Tryz.underlying5 hm4 (by rfl) hf (.inl ⟨_, _, _, _, _, _, _, rfl, ?_⟩)
        refine do_st (blk_alloc w3 _ _) (i := 0) rfl (by simp) fun w4 h4 g4 => do_st h4 (i := 1) rfl (by simp) fun w5 h5 g5 => ?_
        exact hit w5 _ ff _ ((e4.st g4 e3.size).st g5 e3.size) h5 h1
      · refine do_lk_miss Tryz.underlying117 Tryz.underlying5 hm4 (by rfl) (find_sift_none hk) (z := .agg #[.nilFunc, .nilFunc]) (by kernel_rfl) (.inr ⟨rfl, ?_⟩)
        refine do_st (blk_alloc w3 _ _) (i := 0) rfl (by simp) fun w4 h4 g4 => do_st h4 (i := 1) rfl (by simp) fun w5 h5 g5 => ?_
        have := h w5 (e2.trans ((e4.st g4 e3.size).st g5 e3.size))
        rw [may_none hk] at this; exact this
  · refine ⟨ext_alloc _ _, ?_⟩
    have e3 := ext_alloc w2 (.cells #[.nilFunc, .nilFunc] 115)
    have hb3 := blk_alloc w2 #[.nilFunc, .nilFunc] 115
    have s3 : w2.heap.size ≤ w2.heap.size := Nat.le_refl _
    refine do_call Tryz.call57 (c_skinds fun b m t w4 e4 hm hbf => retS_ret ⟨_, rfl, e3.trans e4, ?_⟩)
    have hb4 := hb3.ext e4
    by_cases hk : 1 ≤ k ∧ k ≤ 5
    · obtain ⟨i, ff, g, gc, hf, h1, _⟩ := find_sift (b := b) hk
      refine do_lk_hit Tryz.underlying117 Tryz.underlying5 hm (by rfl) hf (.inl ⟨_, _, _, _, _, _, _, rfl, ?_⟩)
      refine do_st hb4 (i := 0) rfl (by simp) fun w5 h5 g5 => do_st h5 (i := 1) rfl (by simp) fun w6 h6 g6 => ?_
      exact hit w6 _ ff _ (((e3.trans e4).st g5 s3).st g6 s3) h6 h1
    · refine do_lk_miss Tryz.underlying117 Tryz.underlying5 hm (by rfl) (find_sift_none hk) (z := .agg #[.nilFunc, .nilFunc]) (by kernel_rfl) (.inr ⟨rfl, ?_⟩)
      refine do_st hb4 (i := 0) rfl (by simp) fun w5 h5 g5 => do_st h5 (i := 1) rfl (by simp) fun w6 h6 g6 => ?_
      have := h w6 (e2.trans (((e3.trans e4).st g5 s3).st g6 s3))
      rw [may_none hk] at this; exact this
end Go.Proofs.YtmkpkmdnapccgaaGreatDoor

namespace Go.Proofs.YtmkpkmdnapccgaaGreatDoor
open Go Go.Sh Go.RowKit

def opV (x : POp) (pv kv : Value) : Value := .agg (opCells x pv kv)
structure OpRd (w : World) (x : POp) (pv kv : Value) : Prop where
  p : ∃ a c, pv = .slice a x.pairs.length c ∧ x.pairs.length ≤ c ∧ Cs w a (prs x.pairs) ∧ ∀ d, a = some d → prs x.pairs ≠ [] → d.block < w.heap.size
  k : ∃ a c, kv = .slice a x.keys.length c ∧ x.keys.length ≤ c ∧ Cs w a (ints x.keys) ∧ ∀ d, a = some d → ints x.keys ≠ [] → d.block < w.heap.size
theorem OpRd.ext {w w' : World} {x : POp} {pv kv : Value} (h : OpRd w x pv kv) (e : Ext w w') : OpRd w' x pv kv := by
  obtain ⟨a, c, h1, h2, h3, h4⟩ := h.p
  obtain ⟨b, d, g1, g2, g3, g4⟩ := h.k
  exact ⟨⟨a, c, h1, h2, h3.ext e, fun x hx hz => Nat.lt_of_lt_of_le (h4 x hx hz) e.size⟩, ⟨b, d, g1, g2, g3.ext e, fun x hx hz => Nat.lt_of_lt_of_le (g4 x hx hz) e.size⟩⟩
theorem st15 {w : World} {b : Nat} {a0 a1 a2 a3 a4 a5 a6 a7 a8 a9 a10 a11 a12 a13 a14 v0 v1 v2 v3 v4 v5 v6 v7 v8 v9 v10 v11 v12 v13 v14 : Value} {t : TypeId} {K : World → Prop} (h : Blk w b #[a0, a1, a2, a3, a4, a5, a6, a7, a8, a9, a10, a11, a12, a13, a14] t)
    (k : ∀ w', Blk w' b #[v0, v1, v2, v3, v4, v5, v6, v7, v8, v9, v10, v11, v12, v13, v14] t → w.grownBy w' (some b) → K w') :
    doSt ((blk b).add 0) v0 w fun w1 => doSt ((blk b).add 1) v1 w1 fun w2 => doSt ((blk b).add 2) v2 w2 fun w3 => doSt ((blk b).add 3) v3 w3 fun w4 => doSt ((blk b).add 4) v4 w4 fun w5 => doSt ((blk b).add 5) v5 w5 fun w6 => doSt ((blk b).add 6) v6 w6 fun w7 => doSt ((blk b).add 7) v7 w7 fun w8 => doSt ((blk b).add 8) v8 w8 fun w9 => doSt ((blk b).add 9) v9 w9 fun w10 => doSt ((blk b).add 10) v10 w10 fun w11 => doSt ((blk b).add 11) v11 w11 fun w12 => doSt ((blk b).add 12) v12 w12 fun w13 => doSt ((blk b).add 13) v13 w13 fun w14 => doSt ((blk b).add 14) v14 w14 fun w15 => K w15 := by
  refine do_st h (i := 0) rfl (by simp) fun w1 h1 g1 => ?_
  have h1 : Blk w1 b #[v0, a1, a2, a3, a4, a5, a6, a7, a8, a9, a10, a11, a12, a13, a14] t := h1
  refine do_st h1 (i := 1) rfl (by simp) fun w2 h2 g2 => ?_
  have h2 : Blk w2 b #[v0, v1, a2, a3, a4, a5, a6, a7, a8, a9, a10, a11, a12, a13, a14] t := h2
  refine do_st h2 (i := 2) rfl (by simp) fun w3 h3 g3 => ?_
  have h3 : Blk w3 b #[v0, v1, v2, a3, a4, a5, a6, a7, a8, a9, a10, a11, a12, a13, a14] t := h3
  refine do_st h3 (i := 3) rfl (by simp) fun w4 h4 g4 => ?_
  have h4 : Blk w4 b #[v0, v1, v2, v3, a4, a5, a6, a7, a8, a9, a10, a11, a12, a13, a14] t := h4
  refine do_st h4 (i := 4) rfl (by simp) fun w5 h5 g5 => ?_
  have h5 : Blk w5 b #[v0, v1, v2, v3, v4, a5, a6, a7, a8, a9, a10, a11, a12, a13, a14] t := h5
  refine do_st h5 (i := 5) rfl (by simp) fun w6 h6 g6 => ?_
  have h6 : Blk w6 b #[v0, v1, v2, v3, v4, v5, a6, a7, a8, a9, a10, a11, a12, a13, a14] t := h6
  refine do_st h6 (i := 6) rfl (by simp) fun w7 h7 g7 => ?_
  have h7 : Blk w7 b #[v0, v1, v2, v3, v4, v5, v6, a7, a8, a9, a10, a11, a12, a13, a14] t := h7
  refine do_st h7 (i := 7) rfl (by simp) fun w8 h8 g8 => ?_
  have h8 : Blk w8 b #[v0, v1, v2, v3, v4, v5, v6, v7, a8, a9, a10, a11, a12, a13, a14] t := h8
  refine do_st h8 (i := 8) rfl (by simp) fun w9 h9 g9 => ?_
  have h9 : Blk w9 b #[v0, v1, v2, v3, v4, v5, v6, v7, v8, a9, a10, a11, a12, a13, a14] t := h9
  refine do_st h9 (i := 9) rfl (by simp) fun w10 h10 g10 => ?_
  have h10 : Blk w10 b #[v0, v1, v2, v3, v4, v5, v6, v7, v8, v9, a10, a11, a12, a13, a14] t := h10
  refine do_st h10 (i := 10) rfl (by simp) fun w11 h11 g11 => ?_
  have h11 : Blk w11 b #[v0, v1, v2, v3, v4, v5, v6, v7, v8, v9, v10, a11, a12, a13, a14] t := h11
  refine do_st h11 (i := 11) rfl (by simp) fun w12 h12 g12 => ?_
  have h12 : Blk w12 b #[v0, v1, v2, v3, v4, v5, v6, v7, v8, v9, v10, v11, a12, a13, a14] t := h12
  refine do_st h12 (i := 12) rfl (by simp) fun w13 h13 g13 => ?_
  have h13 : Blk w13 b #[v0, v1, v2, v3, v4, v5, v6, v7, v8, v9, v10, v11, v12, a13, a14] t := h13
  refine do_st h13 (i := 13) rfl (by simp) fun w14 h14 g14 => ?_
  have h14 : Blk w14 b #[v0, v1, v2, v3, v4, v5, v6, v7, v8, v9, v10, v11, v12, v13, a14] t := h14
  refine do_st h14 (i := 14) rfl (by simp) fun w15 h15 g15 => ?_
  have h15 : Blk w15 b #[v0, v1, v2, v3, v4, v5, v6, v7, v8, v9, v10, v11, v12, v13, v14] t := h15
  refine k _ h15 ?_
  exact grown_trans (grown_trans (grown_trans (grown_trans (grown_trans (grown_trans (grown_trans (grown_trans (grown_trans (grown_trans (grown_trans (grown_trans (grown_trans (grown_trans g1 g2) g3) g4) g5) g6) g7) g8) g9) g10) g11) g12) g13) g14) g15
theorem cs_grown {w w' : World} {p : OA} {vs : List Value} {b : Nat} (h : Cs w p vs) (g : w.grownBy w' (some b)) (hne : ∀ a, p = some a → vs ≠ [] → a.block ≠ b) : Cs w' p vs := fun i v hv => by
  obtain ⟨a, ha, hc⟩ := h i v hv
  refine ⟨a, ha, ?_⟩
  have hb := hne a ha (by rintro rfl; simp at hv)
  rw [World.cell?_of_block (g.block _ (World.block_lt_of_cell? _ _ hc) (by rw [add_block]; exact ne_some hb))]
  exact hc
theorem cs_not_bool {w : World} {a : Addr} {vs : List Value} {b : Nat} {v : Bool} {t : TypeId} (h : Cs w (some a) vs) (hb : Blk w b #[.bool v] t) (hv : ∀ u ∈ vs, ∃ k n, u = .int k n) (h0 : vs ≠ []) : a.block ≠ b := by
  intro e
  cases vs with
  | nil => exact h0 rfl
  | cons u us =>
    obtain ⟨a', ha, hc⟩ := h 0 u rfl
    cases ha
    rw [add_zero'] at hc
    obtain ⟨k, n, rfl⟩ := hv u (by simp)
    unfold World.cell? at hc
    rw [e, show w.heap[b]? = _ from hb] at hc
    simp only at hc
    split at hc
    · cases hc
    · generalize a.off = o at hc
      cases o with
      | zero => simp at hc
      | succ o => simp at hc
theorem prs_ints (l : List (Int × Int)) : ∀ u ∈ prs l, ∃ k n, u = Value.int k n := fun u hu => by
  simp only [prs, List.mem_flatMap] at hu
  obtain ⟨x, _, hx⟩ := hu
  simp at hx
  rcases hx with rfl | rfl <;> exact ⟨_, _, rfl⟩
theorem ints_ints (l : List Int) : ∀ u ∈ ints l, ∃ k n, u = Value.int k n := fun u hu => by
  simp only [ints, List.mem_map] at hu
  obtain ⟨x, _, rfl⟩ := hu
  exact ⟨_, _, rfl⟩
theorem rd_of {own : World → Nat → Prop} {yb ib : Nat} {w w1 w2 : World} {v : Value} {n : Nat} {vs : List Value} {t : TypeId} {f : Bool} (h : RowAt own yb w v n vs) (g1 : w.grownBy w1 (some yb)) (hb : Blk w1 ib #[.bool f] t) (g2 : w1.grownBy w2 (some ib)) (hi : ∀ u ∈ vs, ∃ k n, u = Value.int k n) :
    ∃ a c, v = .slice a n c ∧ n ≤ c ∧ Cs w2 a vs ∧ ∀ d, a = some d → vs ≠ [] → d.block < w2.heap.size := by
  obtain ⟨p, c, rfl, hn, hc, ha⟩ := h
  have h1 := cs_grown hc g1 fun a e hz => (ha a e hz).2.1
  refine ⟨p, c, rfl, hn, cs_grown h1 g2 fun a e h0 => ?_, fun d e hz => Nat.lt_of_lt_of_le (ha d e hz).2.2 (Nat.le_trans g1.size g2.size)⟩
  subst e
  exact cs_not_bool h1 hb hi h0
theorem zero_in : InO POp.zero := by
  refine ⟨?_, ?_, ?_, ?_, ?_, ?_, ?_, ?_, ?_, ?_, ?_, ?_, ?_, ?_⟩ <;> simp [POp.zero, In, InPs]
theorem below_chg {own : World → Nat → Prop} {S : Nat → Prop} {w0 w w' : World} (e : Ext w0 w) (c : Chg own S w w') (ho : ∀ k, k < w0.heap.size → ¬ own w k) (hs : ∀ k, k < w0.heap.size → ¬ S k) : Ext w0 w' := Below.trans e (c.ext ho hs e.size)
theorem c_copied {x : POp} {pv kv : Value} {w : World} {R : EW} (hx : InO x) (hr : OpRd w x pv kv) (hP : x.pairs.length ≤ 5000) (hK : x.keys.length ≤ 5000)
    (h : ∀ y pv' kv' w', copyO x = some y → Ext w w' → OpRd w' y pv' kv' → R (.returned (.tuple #[opV y pv' kv', .bool true])) w')
    (hn : ∀ y p n c q m c' w', copyO x = none → Ext w w' → R (.returned (.tuple #[opV y (.slice p n c) (.slice q m c'), .bool false])) w') : Calls Tryz.prog 25 #[opV x pv kv] w R := by
  obtain ⟨a, c, rfl, hac, hcs, hab⟩ := hr.p
  obtain ⟨q, c', rfl, hqc, hqs, hqb⟩ := hr.k
  refine sh25_ok _ _ _ _ _ _ _ _ _ _ _ _ _ _ _ _ _ _ _ ?_
  unfold sh25
  refine ⟨⟨⟨⟨?_⟩⟩⟩⟩
  have e1 := ext_alloc w (.cells #[.int .u8 x.op, .int .i64 x.a, .int .i64 x.b, .int .i64 x.key, .int .i64 x.val, .int .i64 x.lo, .int .i64 x.hi, .int .i64 x.n, .int .u8 x.pol, .int .u8 x.pk, .int .i64 x.pa, .int .i64 x.pb, .bool x.pnot, .slice a x.pairs.length c, .slice q x.keys.length c'] 37)
  have h1 : OpAt _ _ x (.slice a x.pairs.length c) (.slice q x.keys.length c') := blk_alloc w #[.int .u8 x.op, .int .i64 x.a, .int .i64 x.b, .int .i64 x.key, .int .i64 x.val, .int .i64 x.lo, .int .i64 x.hi, .int .i64 x.n, .int .u8 x.pol, .int .u8 x.pk, .int .i64 x.pa, .int .i64 x.pb, .bool x.pnot, .slice a x.pairs.length c, .slice q x.keys.length c'] 37
  generalize w.alloc (.cells #[.int .u8 x.op, .int .i64 x.a, .int .i64 x.b, .int .i64 x.key, .int .i64 x.val, .int .i64 x.lo, .int .i64 x.hi, .int .i64 x.n, .int .u8 x.pol, .int .u8 x.pk, .int .i64 x.pa, .int .i64 x.pb, .bool x.pnot, .slice a x.pairs.length c, .slice q x.keys.length c'] 37) = w1 at *
  have e2 := ext_alloc w1 (.cells #[.int .u8 0, .int .i64 0, .int .i64 0, .int .i64 0, .int .i64 0, .int .i64 0, .int .i64 0, .int .i64 0, .int .u8 0, .int .u8 0, .int .i64 0, .int .i64 0, .bool false, .slice none 0 0, .slice none 0 0] 37)
  have h2 : OpAt _ _ POp.zero (.slice none 0 0) (.slice none 0 0) := blk_alloc w1 #[.int .u8 0, .int .i64 0, .int .i64 0, .int .i64 0, .int .i64 0, .int .i64 0, .int .i64 0, .int .i64 0, .int .u8 0, .int .u8 0, .int .i64 0, .int .i64 0, .bool false, .slice none 0 0, .slice none 0 0] 37
  generalize w1.alloc (.cells #[.int .u8 0, .int .i64 0, .int .i64 0, .int .i64 0, .int .i64 0, .int .i64 0, .int .i64 0, .int .i64 0, .int .u8 0, .int .u8 0, .int .i64 0, .int .i64 0, .bool false, .slice none 0 0, .slice none 0 0] 37) = w2 at *
  have e3 := ext_alloc w2 (.cells #[.bool false] 4)
  have h3 := blk_alloc w2 #[.bool false] 4
  generalize w2.alloc (.cells #[.bool false] 4) = w3 at *
  have e4 := ext_alloc w3 (.cells #[.slice none 0 0] 53)
  have h4 := blk_alloc w3 #[.slice none 0 0] 53
  generalize w3.alloc (.cells #[.slice none 0 0] 53) = w4 at *
  have E4 := ((e1.trans e2).trans e3).trans e4
  have l1 := h1.lt
  have l2 := h2.lt
  have l3 := h3.lt
  have l4 := h4.lt
  generalize hxb : w.heap.size = xb at *
  generalize hyb : w1.heap.size = yb at *
  generalize hib : w2.heap.size = ib at *
  generalize hob : w3.heap.size = ob at *
  have own4 : ∀ k, OutOwn ob w4 k → k = ob := fun k hk => ((out_own h4 k).1 hk).resolve_right (by simp [Value.ownBlock])
  have hI4 : OutI ob w4 [] := ⟨none, 0, h4, World.ownsRow_nil _ _ _ _⟩
  have hx4 : OpAt w4 xb x (.slice a x.pairs.length c) (.slice q x.keys.length c') := Blk.ext h1 ((e2.trans e3).trans e4)
  have hy4 : OpAt w4 yb POp.zero (.slice none 0 0) (.slice none 0 0) := Blk.ext h2 (e3.trans e4)
  have hi4 := h3.ext e4
  have hrow : RowsAt (OutOwn ob) xb w4 x (.slice a x.pairs.length c) (.slice q x.keys.length c') := by
    refine ⟨⟨a, c, rfl, hac, hcs.ext E4, fun d ed hz => ?_⟩, ⟨q, c', rfl, hqc, hqs.ext E4, fun d ed hz => ?_⟩⟩
    · have := hab d ed hz
      exact ⟨fun hd => by have := own4 _ hd; omega, by omega, by omega⟩
    · have := hqb d ed hz
      exact ⟨fun hd => by have := own4 _ hd; omega, by omega, by omega⟩
  refine do_call Tryz.call23 (c_opall (OutC ob) (s := []) hI4 (by show 0 + 50000 * 20 ≤ lim; decide) (fun hd => by have := own4 _ hd; omega) hx4 hx hrow hP hK trivial trivial trivial (.inl fun s n s' h => by cases h; exact Nat.le_refl _) (.inl fun s n s' h => by cases h; exact Nat.le_refl _)
    (fun x5 s5 w5 pv5 kv5 hr5 hI5 _ _ _ hl5 c5 => retS_ret ⟨rfl, ?_⟩) fun ch w5 hn5 _ _ _ _ => by rw [all_outB] at hn5; cases hn5)
  rw [all_outB] at hr5
  cases hr5
  have hI5 : OutI ob w5 (wrB x) := hI5
  have hl5 : (wrB x).length ≤ 0 + 30000 * 20 := hl5
  obtain ⟨p5, c5', hb5, hrow5⟩ := hI5.ex
  have hpos : 0 < (wrB x).length := List.length_pos_iff.2 (wrB_ne x)
  obtain ⟨g, rfl, _, _⟩ := row_some hrow5 hpos
  have hcs5 := Cs.of_row hrow5
  refine ⟨_, rfl, _, _, _, hb5.cell (i := 0) rfl rfl, ⟨⟨(wrB x).toArray⟩, run_convert_bytes_back w5 _ _ 5 (blk g) c5' (wrB x) Tryz.underlying51 Tryz.underlying5 Tryz.underlying9 (fun j hj => ?_), ⟨?_⟩⟩⟩
  · obtain ⟨a', ha', hc⟩ := hcs5 j (.int .u8 (((wrB x)[j].toNat : Nat) : Int)) (by simp [bys, List.getElem?_eq_getElem hj])
    cases ha'
    exact hc
  have e6 := ext_alloc w5 (.cells #[.string ⟨(wrB x).toArray⟩] 79)
  have hI6 : InI w5.heap.size _ (wrB x) := blk_alloc w5 #[.string ⟨(wrB x).toArray⟩] 79
  generalize w5.alloc (.cells #[.string ⟨(wrB x).toArray⟩] 79) = w6 at *
  have l5 := c5.size
  generalize hsb : w5.heap.size = sb at *
  have ny : ¬ OutOwn ob w4 yb := fun hd => by have := own4 _ hd; omega
  have ni : ¬ OutOwn ob w4 ib := fun hd => by have := own4 _ hd; omega
  have hy6 : OpAt w6 yb POp.zero (.slice none 0 0) (.slice none 0 0) := Blk.ext (c5.blk hy4 ny (by omega)) e6
  have hi6 := (c5.blk hi4 ni (by omega)).ext e6
  have E5 : Ext w w5 := below_chg E4 c5 (fun k hk hd => by have := own4 _ hd; omega) (fun k hk e => by omega)
  have E6 := E5.trans e6
  have hrow6 : RowsAt (InOwn sb) yb w6 POp.zero (.slice none 0 0) (.slice none 0 0) := ⟨⟨none, 0, rfl, Nat.le_refl _, cs_nil _ _, fun d e => by cases e⟩, ⟨none, 0, rfl, Nat.le_refl _, cs_nil _ _, fun d e => by cases e⟩⟩
  refine do_call Tryz.call23 (c_opall (InC sb) (s := wrB x) hI6 (by show (wrB x).length + 50000 * 0 ≤ 1000000000000; omega) (fun hd => by have : yb = sb := hd; omega) hy6 zero_in hrow6 (Nat.zero_le _) (Nat.zero_le _) trivial trivial trivial (.inr ⟨rfl, rfl⟩) (.inr ⟨rfl, rfl⟩)
    (fun y s7 w7 pv7 kv7 hr7 hI7 hy7 hrow7 hin7 _ c7 => retS_ret ⟨rfl, ?_⟩) fun ch w7 hn7 hch hs7 _ c7 => ?_)
  · have E7 : Ext w w7 := below_chg E6 c7 (fun k hk hd => by have : k = sb := hd; omega) (fun k hk e => by omega)
    have hi7 := c7.blk hi6 (fun hd => by have : ib = sb := hd; omega) (by omega)
    obtain ⟨p7, d7, hpv7, _⟩ := hrow7.p
    obtain ⟨q7, f7, hkv7, _⟩ := hrow7.k
    have hrp := hrow7.p
    have hrk := hrow7.k
    subst hpv7 hkv7
    refine ⟨_, hy7.cell (i := 0) rfl rfl, _, hy7.cell (i := 1) rfl rfl, _, hy7.cell (i := 2) rfl rfl, _, hy7.cell (i := 3) rfl rfl, _, hy7.cell (i := 4) rfl rfl, _, hy7.cell (i := 5) rfl rfl, _, hy7.cell (i := 6) rfl rfl, _, hy7.cell (i := 7) rfl rfl, _, hy7.cell (i := 8) rfl rfl, _, hy7.cell (i := 9) rfl rfl, _, hy7.cell (i := 10) rfl rfl, _, hy7.cell (i := 11) rfl rfl, _, hy7.cell (i := 12) rfl rfl, _, _, _, hy7.cell (i := 13) rfl rfl, _, _, _, hy7.cell (i := 14) rfl rfl, st15 hy7 fun w8 h8 g8 => ?_⟩
    have hi8 := hi7.grown g8 (ne_some (by omega))
    refine do_st hi8 (i := 0) rfl (by simp) fun w9 h9 g9 => c_catch0 ⟨?_⟩
    have h8' : OpAt w9 yb y (.slice p7 y.pairs.length d7) (.slice q7 y.keys.length f7) := Blk.grown h8 g9 (ne_some (by omega))
    refine ⟨_, h8'.cell (i := 0) rfl rfl, _, h8'.cell (i := 1) rfl rfl, _, h8'.cell (i := 2) rfl rfl, _, h8'.cell (i := 3) rfl rfl, _, h8'.cell (i := 4) rfl rfl, _, h8'.cell (i := 5) rfl rfl, _, h8'.cell (i := 6) rfl rfl, _, h8'.cell (i := 7) rfl rfl, _, h8'.cell (i := 8) rfl rfl, _, h8'.cell (i := 9) rfl rfl, _, h8'.cell (i := 10) rfl rfl, _, h8'.cell (i := 11) rfl rfl, _, h8'.cell (i := 12) rfl rfl, _, _, _, h8'.cell (i := 13) rfl rfl, _, _, _, h8'.cell (i := 14) rfl rfl, _, h9.cell (i := 0) rfl rfl, h y _ _ w9 (by unfold copyO; rw [hr7]; rfl) ((E7.st g8 (by omega)).st g9 (by omega)) ⟨rd_of hrp g8 hi8 g9 (prs_ints _), rd_of hrk g8 hi8 g9 (ints_ints _)⟩⟩
  · have E7 : Ext w w7 := below_chg E6 c7 (fun k hk hd => by have : k = sb := hd; omega) (fun k hk e => by omega)
    have hi7 := c7.blk hi6 (fun hd => by have : ib = sb := hd; omega) (by omega)
    obtain ⟨y, p, n, c8, q8, m, c9, hy7⟩ := hs7
    refine c_catch1 hch hi7 fun w8 h8 g8 => ⟨?_⟩
    have h8' : OpAt w8 yb y (.slice p n c8) (.slice q8 m c9) := Blk.grown hy7 g8 (ne_some (by omega))
    exact ⟨_, h8'.cell (i := 0) rfl rfl, _, h8'.cell (i := 1) rfl rfl, _, h8'.cell (i := 2) rfl rfl, _, h8'.cell (i := 3) rfl rfl, _, h8'.cell (i := 4) rfl rfl, _, h8'.cell (i := 5) rfl rfl, _, h8'.cell (i := 6) rfl rfl, _, h8'.cell (i := 7) rfl rfl, _, h8'.cell (i := 8) rfl rfl, _, h8'.cell (i := 9) rfl rfl, _, h8'.cell (i := 10) rfl rfl, _, h8'.cell (i := 11) rfl rfl, _, h8'.cell (i := 12) rfl rfl, _, _, _, h8'.cell (i := 13) rfl rfl, _, _, _, h8'.cell (i := 14) rfl rfl, _, h8.cell (i := 0) rfl rfl, hn y p n c8 q8 m c9 w8 (by unfold copyO; rw [hn7]; rfl) (E7.st g8 (by omega))⟩
end Go.Proofs.YtmkpkmdnapccgaaGreatDoor

namespace Go.Proofs.YtmkpkmdnapccgaaGreatDoor
open Go Go.Sh Go.RowKit

theorem ix_intC {C : World → Prop} {p : OA} {n : Nat} {l : List Int} {K : Addr → Prop} (h : ∀ w, C w → Cs w p (ints l)) {w0 : World} (hw : C w0) (hn : l.length = n) {k : Nat} (h1 : k < n)
    (c : ∀ a : Addr, (∀ w, C w → w.cell? a = some (.int .i64 (l[k]'(by omega)))) → K a) : doIx p n 1 (k : Int) K := by
  obtain ⟨a, ha, _⟩ := (h w0 hw).int (i := k) (by omega)
  refine ⟨a, ha, by omega, by omega, c _ fun w hC => ?_⟩
  obtain ⟨a', ha', hc⟩ := (h w hC).int (i := k) (by omega)
  rw [ha] at ha'; cases ha'
  rw [Int.toNat_natCast, Nat.mul_one]; exact hc
theorem take_eq {α : Type} {l m : List α} {k : Nat} (hl : k < l.length) (hm : k < m.length) (h : l.take k = m.take k) (he : l[k] = m[k]) : l.take (k + 1) = m.take (k + 1) := by
  rw [← List.take_append_getElem hl, ← List.take_append_getElem hm, h, he]
theorem c_osame {x y : POp} {pv kv pv' kv' : Value} {w : World} {R : EW} (hx : OpRd w x pv kv) (hy : OpRd w y pv' kv') (hP : x.pairs.length ≤ 5000) (hK : x.keys.length ≤ 5000)
    (h1 : ∀ w', Ext w w' → x = y → R (.returned (.bool true)) w') (h0 : ∀ w', Ext w w' → x ≠ y → R (.returned (.bool false)) w') : Calls Tryz.prog 26 #[opV x pv kv, opV y pv' kv'] w R := by
  obtain ⟨a, c, rfl, hac, hcs, hab⟩ := hx.p
  obtain ⟨q, c', rfl, hqc, hqs, hqb⟩ := hx.k
  obtain ⟨d, e, rfl, hde, hds, hdb⟩ := hy.p
  obtain ⟨r, e', rfl, hre, hrs, hrb⟩ := hy.k
  refine sh26_ok _ _ _ _ _ _ _ _ _ _ _ _ _ _ _ _ _ _ _ _ _ _ _ _ _ _ _ _ _ _ _ _ _ _ _ _ _ _ ?_
  unfold sh26
  refine ⟨⟨?_⟩⟩
  have e1 := ext_alloc w (.cells #[.int .u8 x.op, .int .i64 x.a, .int .i64 x.b, .int .i64 x.key, .int .i64 x.val, .int .i64 x.lo, .int .i64 x.hi, .int .i64 x.n, .int .u8 x.pol, .int .u8 x.pk, .int .i64 x.pa, .int .i64 x.pb, .bool x.pnot, .slice a x.pairs.length c, .slice q x.keys.length c'] 37)
  have X1 : OpAt _ _ x (.slice a x.pairs.length c) (.slice q x.keys.length c') := blk_alloc w #[.int .u8 x.op, .int .i64 x.a, .int .i64 x.b, .int .i64 x.key, .int .i64 x.val, .int .i64 x.lo, .int .i64 x.hi, .int .i64 x.n, .int .u8 x.pol, .int .u8 x.pk, .int .i64 x.pa, .int .i64 x.pb, .bool x.pnot, .slice a x.pairs.length c, .slice q x.keys.length c'] 37
  generalize w.alloc (.cells #[.int .u8 x.op, .int .i64 x.a, .int .i64 x.b, .int .i64 x.key, .int .i64 x.val, .int .i64 x.lo, .int .i64 x.hi, .int .i64 x.n, .int .u8 x.pol, .int .u8 x.pk, .int .i64 x.pa, .int .i64 x.pb, .bool x.pnot, .slice a x.pairs.length c, .slice q x.keys.length c'] 37) = w1 at *
  generalize w.heap.size = xb at X1 ⊢
  have e2 := ext_alloc w1 (.cells #[.int .u8 y.op, .int .i64 y.a, .int .i64 y.b, .int .i64 y.key, .int .i64 y.val, .int .i64 y.lo, .int .i64 y.hi, .int .i64 y.n, .int .u8 y.pol, .int .u8 y.pk, .int .i64 y.pa, .int .i64 y.pb, .bool y.pnot, .slice d y.pairs.length e, .slice r y.keys.length e'] 37)
  have Y2 : OpAt _ _ y (.slice d y.pairs.length e) (.slice r y.keys.length e') := blk_alloc w1 #[.int .u8 y.op, .int .i64 y.a, .int .i64 y.b, .int .i64 y.key, .int .i64 y.val, .int .i64 y.lo, .int .i64 y.hi, .int .i64 y.n, .int .u8 y.pol, .int .u8 y.pk, .int .i64 y.pa, .int .i64 y.pb, .bool y.pnot, .slice d y.pairs.length e, .slice r y.keys.length e'] 37
  generalize w1.alloc (.cells #[.int .u8 y.op, .int .i64 y.a, .int .i64 y.b, .int .i64 y.key, .int .i64 y.val, .int .i64 y.lo, .int .i64 y.hi, .int .i64 y.n, .int .u8 y.pol, .int .u8 y.pk, .int .i64 y.pa, .int .i64 y.pb, .bool y.pnot, .slice d y.pairs.length e, .slice r y.keys.length e'] 37) = w2 at *
  generalize w1.heap.size = yb at Y2 ⊢
  have X2 : OpAt w2 xb x (.slice a x.pairs.length c) (.slice q x.keys.length c') := Blk.ext X1 e2
  have E2 := e1.trans e2
  have hcs2 := hcs.ext E2
  have hqs2 := hqs.ext E2
  have hds2 := hds.ext E2
  have hrs2 := hrs.ext E2
  intro K45
  refine ⟨_, _, _, X2.cell (i := 13) rfl rfl, _, _, _, Y2.cell (i := 13) rfl rfl, ifB_intro (fun z => h0 _ E2 fun e => by rw [e] at z; simp at z) fun zp => ⟨_, _, _, X2.cell (i := 14) rfl rfl, _, _, _, Y2.cell (i := 14) rfl rfl, ?_⟩⟩
  have zp : x.pairs.length = y.pairs.length := by
    have zp : ((x.pairs.length : Nat) : Int) = ((y.pairs.length : Nat) : Int) := by simpa using zp
    omega
  refine ifB_intro (fun z => h0 _ E2 fun e => by rw [e] at z; simp at z) fun zk => ?_
  have zk : x.keys.length = y.keys.length := by
    have zk : ((x.keys.length : Nat) : Int) = ((y.keys.length : Nat) : Int) := by simpa using zk
    omega
  refine ⟨_, _, _, X2.cell (i := 13) rfl rfl, ?_⟩
  refine ⟨fun vs w' => ∃ k : Nat, vs = [.int .i64 (k : Int)] ∧ k ≤ x.pairs.length ∧ Ext w2 w' ∧ x.pairs.take k = y.pairs.take k, fun vs _ => match vs with | [.int _ i] => x.pairs.length - i.toNat | _ => 0, ⟨0, rfl, Nat.zero_le _, ext_refl _, rfl⟩, ?_⟩
  rintro _ _ w3 ⟨k, hvs, hk, e3, ht⟩
  simp only [List.cons.injEq, Value.int.injEq, true_and, and_true] at hvs
  subst hvs
  refine ifB_intro (fun z => ?_) fun z => ?_
  · have z : k < x.pairs.length := by have := of_decide_eq_true z; omega
    refine ⟨?_⟩
    have e4 := e3.trans (ext_drew w3)
    refine ⟨fun w' => Ext w2 w', e4, _, _, _, fun w' e => (X2.ext e).cell (i := 13) rfl rfl, ?_⟩
    refine ix_prC (l := x.pairs) (fun w' e => hcs2.ext e) e4 rfl rfl z fun ad r1 r2 => ⟨_, r1, _, r2, _, _, _, fun w' e => (Y2.ext e).cell (i := 13) rfl rfl, ?_⟩
    refine ix_prC (l := y.pairs) (fun w' e => hds2.ext e) e4 rfl rfl (by omega) fun ad r3 r4 => ⟨_, r3, _, r4, ifB_intro (fun zz => h0 _ (E2.trans e4) fun e => ?_) fun zz => ?_⟩
    · subst e; simp at zz
    · have he : x.pairs[k] = y.pairs[k]'(by omega) := by
        simp only [Bool.and_true, Bool.not_eq_false', Bool.and_eq_true, beq_iff_eq] at zz
        exact Prod.ext zz.1 zz.2
      rw [wrap_succ (n := 5000) (by omega) (by omega)]
      refine ⟨⟨k + 1, rfl, by omega, e4, take_eq z (by omega) ht he⟩, ?_⟩
      show x.pairs.length - ((k + 1 : Nat) : Int).toNat < x.pairs.length - (k : Int).toNat
      omega
  · have z : k = x.pairs.length := by have := of_decide_eq_false z; omega
    have hpe : x.pairs = y.pairs := by rwa [List.take_of_length_le (by omega), List.take_of_length_le (by omega)] at ht
    clear ht
    refine ⟨_, _, _, (X2.ext e3).cell (i := 14) rfl rfl, ?_⟩
    refine ⟨fun vs w' => ∃ k : Nat, vs = [.int .i64 (k : Int)] ∧ k ≤ x.keys.length ∧ Ext w2 w' ∧ x.keys.take k = y.keys.take k, fun vs _ => match vs with | [.int _ i] => x.keys.length - i.toNat | _ => 0, ⟨0, rfl, Nat.zero_le _, e3, rfl⟩, ?_⟩
    rintro _ _ w4 ⟨k', hvs, hk', e4, ht⟩
    simp only [List.cons.injEq, Value.int.injEq, true_and, and_true] at hvs
    subst hvs
    refine ifB_intro (fun z => ?_) fun z => ?_
    · have z : k' < x.keys.length := by have := of_decide_eq_true z; omega
      refine ⟨?_⟩
      have e5 := e4.trans (ext_drew w4)
      refine ⟨fun w' => Ext w2 w', e5, _, _, _, fun w' e => (X2.ext e).cell (i := 14) rfl rfl, ?_⟩
      refine ix_intC (l := x.keys) (fun w' e => hqs2.ext e) e5 rfl z fun ad r1 => ⟨_, r1, _, _, _, fun w' e => (Y2.ext e).cell (i := 14) rfl rfl, ?_⟩
      refine ix_intC (l := y.keys) (fun w' e => hrs2.ext e) e5 rfl (by omega) fun ad r3 => ⟨_, r3, ifB_intro (fun zz => h0 _ (E2.trans e5) fun e => ?_) fun zz => ?_⟩
      · subst e; simp at zz
      · have he : x.keys[k'] = y.keys[k']'(by omega) := by simpa using zz
        rw [wrap_succ (n := 5000) (by omega) (by omega)]
        refine ⟨⟨k' + 1, rfl, by omega, e5, take_eq z (by omega) ht he⟩, ?_⟩
        show x.keys.length - ((k' + 1 : Nat) : Int).toNat < x.keys.length - (k' : Int).toNat
        omega
    · have z : k' = x.keys.length := by have := of_decide_eq_false z; omega
      have hke : x.keys = y.keys := by rwa [List.take_of_length_le (by omega), List.take_of_length_le (by omega)] at ht
      have X4 : OpAt w4 xb x (.slice a x.pairs.length c) (.slice q x.keys.length c') := Blk.ext X2 e4
      have Y4 : OpAt w4 yb y (.slice d y.pairs.length e) (.slice r y.keys.length e') := Blk.ext Y2 e4
      have E4 := E2.trans e4
      intro K90
      refine ⟨_, X4.cell (i := 0) rfl rfl, _, Y4.cell (i := 0) rfl rfl, ifB_intro (fun z0 => ?_) fun z => h0 _ E4 fun e => by rw [e] at z; simp at z⟩
      refine ⟨_, X4.cell (i := 1) rfl rfl, _, Y4.cell (i := 1) rfl rfl, ifB_intro (fun z1 => ?_) fun z => h0 _ E4 fun e => by rw [e] at z; simp at z⟩
      refine ⟨_, X4.cell (i := 2) rfl rfl, _, Y4.cell (i := 2) rfl rfl, ifB_intro (fun z2 => ?_) fun z => h0 _ E4 fun e => by rw [e] at z; simp at z⟩
      refine ⟨_, X4.cell (i := 3) rfl rfl, _, Y4.cell (i := 3) rfl rfl, ifB_intro (fun z3 => ?_) fun z => h0 _ E4 fun e => by rw [e] at z; simp at z⟩
      refine ⟨_, X4.cell (i := 4) rfl rfl, _, Y4.cell (i := 4) rfl rfl, ifB_intro (fun z4 => ?_) fun z => h0 _ E4 fun e => by rw [e] at z; simp at z⟩
      refine ⟨_, X4.cell (i := 5) rfl rfl, _, Y4.cell (i := 5) rfl rfl, ifB_intro (fun z5 => ?_) fun z => h0 _ E4 fun e => by rw [e] at z; simp at z⟩
      refine ⟨_, X4.cell (i := 6) rfl rfl, _, Y4.cell (i := 6) rfl rfl, ifB_intro (fun z6 => ?_) fun z => h0 _ E4 fun e => by rw [e] at z; simp at z⟩
      refine ⟨_, X4.cell (i := 7) rfl rfl, _, Y4.cell (i := 7) rfl rfl, ifB_intro (fun z7 => ?_) fun z => h0 _ E4 fun e => by rw [e] at z; simp at z⟩
      refine ⟨_, X4.cell (i := 8) rfl rfl, _, Y4.cell (i := 8) rfl rfl, ifB_intro (fun z8 => ?_) fun z => h0 _ E4 fun e => by rw [e] at z; simp at z⟩
      refine ⟨_, X4.cell (i := 9) rfl rfl, _, X4.cell (i := 10) rfl rfl, _, X4.cell (i := 11) rfl rfl, _, X4.cell (i := 12) rfl rfl, _, Y4.cell (i := 9) rfl rfl, _, Y4.cell (i := 10) rfl rfl, _, Y4.cell (i := 11) rfl rfl, _, Y4.cell (i := 12) rfl rfl, ?_⟩
      show R (.returned (.bool ((x.pk == y.pk) && ((x.pa == y.pa) && ((x.pb == y.pb) && ((x.pnot == y.pnot) && true)))))) w4
      cases hb : ((x.pk == y.pk) && ((x.pa == y.pa) && ((x.pb == y.pb) && ((x.pnot == y.pnot) && true))))
      · exact h0 _ E4 fun e => by rw [e] at hb; simp at hb
      · simp only [Bool.and_true, Bool.and_eq_true, beq_iff_eq] at hb
        simp only [beq_iff_eq] at z0 z1 z2 z3 z4 z5 z6 z7 z8
        exact h1 _ E4 (POp.ext' z0 z1 z2 z3 z4 z5 z6 z7 z8 hb.1 hb.2.1 hb.2.2.1 hb.2.2.2 hpe hke)
theorem may_fold (p : Int) : may p = polMay p := rfl
theorem hasP_pol (d : Int) : hasP .pol d = (d == 1 || d == 8 || d == 9 || d == 10 || d == 14) := by
  unfold hasP partsOf
  by_cases h1 : d = 1
  · subst h1; rfl
  by_cases h2 : d = 8
  · subst h2; rfl
  by_cases h3 : d = 9
  · subst h3; rfl
  by_cases h4 : d = 10
  · subst h4; rfl
  by_cases h5 : d = 14
  · subst h5; rfl
  rw [show (d == 1 || d == 8 || d == 9 || d == 10 || d == 14) = false by simp [h1, h2, h3, h4, h5]]
  simp only [h1, h2, h3, h4, h5, if_false, or_self, decide_eq_false_iff_not]
  intro h
  repeat' split at h
  all_goals simp at h
theorem hasP_pred (d : Int) : hasP .pred d = (d == 13) := by
  unfold hasP partsOf
  by_cases h1 : d = 13
  · subst h1; rfl
  rw [show (d == 13) = false by simp [h1]]
  simp only [h1, if_false, decide_eq_false_iff_not]
  intro h
  repeat' split at h
  all_goals simp at h
theorem c_check {x : POp} {pv kv : Value} {w : World} {R : EW} (hx : InO x) (hr : OpRd w x pv kv) (hP : x.pairs.length ≤ 5000) (hK : x.keys.length ≤ 5000)
    (h : ∀ w', Ext w w' → R (.returned (.int .i64 (if mayO x = true then 0 else 2))) w') : Calls Tryz.prog 13 #[opV x pv kv] w R := by
  have hr0 := hr
  obtain ⟨a, c, rfl, hac, hcs, hab⟩ := hr.p
  obtain ⟨q, c', rfl, hqc, hqs, hqb⟩ := hr.k
  refine sh13_ok _ _ _ _ _ _ _ _ _ _ _ _ _ _ _ _ _ _ _ ?_
  unfold sh13
  refine ⟨?_⟩
  have e1 := ext_alloc w (.cells #[.int .u8 x.op, .int .i64 x.a, .int .i64 x.b, .int .i64 x.key, .int .i64 x.val, .int .i64 x.lo, .int .i64 x.hi, .int .i64 x.n, .int .u8 x.pol, .int .u8 x.pk, .int .i64 x.pa, .int .i64 x.pb, .bool x.pnot, .slice a x.pairs.length c, .slice q x.keys.length c'] 37)
  have X1 : OpAt _ _ x (.slice a x.pairs.length c) (.slice q x.keys.length c') := blk_alloc w #[.int .u8 x.op, .int .i64 x.a, .int .i64 x.b, .int .i64 x.key, .int .i64 x.val, .int .i64 x.lo, .int .i64 x.hi, .int .i64 x.n, .int .u8 x.pol, .int .u8 x.pk, .int .i64 x.pa, .int .i64 x.pb, .bool x.pnot, .slice a x.pairs.length c, .slice q x.keys.length c'] 37
  generalize w.alloc (.cells #[.int .u8 x.op, .int .i64 x.a, .int .i64 x.b, .int .i64 x.key, .int .i64 x.val, .int .i64 x.lo, .int .i64 x.hi, .int .i64 x.n, .int .u8 x.pol, .int .u8 x.pk, .int .i64 x.pa, .int .i64 x.pb, .bool x.pnot, .slice a x.pairs.length c, .slice q x.keys.length c'] 37) = w1 at *
  have xlt := X1.lt
  generalize hxb : w.heap.size = xb at *
  rw [← checkO_may hx] at h
  refine ⟨_, X1.cell (i := 0) rfl rfl, _, X1.cell (i := 1) rfl rfl, _, X1.cell (i := 2) rfl rfl, _, X1.cell (i := 3) rfl rfl, _, X1.cell (i := 4) rfl rfl, _, X1.cell (i := 5) rfl rfl, _, X1.cell (i := 6) rfl rfl, _, X1.cell (i := 7) rfl rfl, _, X1.cell (i := 8) rfl rfl, _, X1.cell (i := 9) rfl rfl, _, X1.cell (i := 10) rfl rfl, _, X1.cell (i := 11) rfl rfl, _, X1.cell (i := 12) rfl rfl, _, _, _, X1.cell (i := 13) rfl rfl, _, _, _, X1.cell (i := 14) rfl rfl, ?_⟩
  have R2 : ∀ w', Ext w w' → checkO x = false → R (.returned (.int .i64 2)) w' := fun w' e hc => by
    have := h w' e
    rwa [hc, if_neg (by simp)] at this
  have R0 : ∀ w', Ext w w' → checkO x = true → R (.returned (.int .i64 0)) w' := fun w' e hc => by
    have := h w' e
    rwa [hc, if_pos rfl] at this
  refine do_call Tryz.call25 (c_copied hx (hr0.ext e1) hP hK (fun y pv' kv' w2 hc e2 hy => ?_) fun y p n0 c0 q0 m0 d0 w2 hc e2 => ?_)
  · obtain ⟨p, c0, rfl, _⟩ := hy.p
    obtain ⟨q0, d0, rfl, _⟩ := hy.k
    refine retS_ret ⟨_, _, _, _, _, _, _, _, _, _, _, _, _, _, _, _, _, _, _, _, rfl, ⟨?_⟩⟩
    have e3 := ext_alloc w2 (.cells #[.int .u8 0, .int .i64 0, .int .i64 0, .int .i64 0, .int .i64 0, .int .i64 0, .int .i64 0, .int .i64 0, .int .u8 0, .int .u8 0, .int .i64 0, .int .i64 0, .bool false, .slice none 0 0, .slice none 0 0] 37)
    refine st15 (blk_alloc w2 #[.int .u8 0, .int .i64 0, .int .i64 0, .int .i64 0, .int .i64 0, .int .i64 0, .int .i64 0, .int .i64 0, .int .u8 0, .int .u8 0, .int .i64 0, .int .i64 0, .bool false, .slice none 0 0, .slice none 0 0] 37) fun w4 h4 g4 => ?_
    have e4 : Ext w2 w4 := e3.st g4 (Nat.le_refl _)
    have Y4 : OpAt w4 w2.heap.size y (.slice p y.pairs.length c0) (.slice q0 y.keys.length d0) := h4
    have X4 : OpAt w4 xb x (.slice a x.pairs.length c) (.slice q x.keys.length c') := Blk.ext X1 (e2.trans e4)
    have E4 := (e1.trans e2).trans e4
    have hr4 := hr0.ext E4
    have hy4 := hy.ext e4
    have hchk : checkO x = (decide (1 ≤ x.op ∧ x.op ≤ 22) && sameO x y && (!hasP .pol x.op || polMay x.pol) && (!hasP .pred x.op || predMay x.pk x.pa x.pb)) := by unfold checkO; rw [hc]
    generalize w2.heap.size = yb at *
    intro K82
    have fin : ∀ pol : Bool, pol = hasP .pol x.op → K82 pol w4 := by
      intro pol hpol
      refine ifB_f rfl ⟨_, X4.cell (i := 0) rfl rfl, ifB_intro (fun z => R2 _ E4 ?_) fun z1 => ⟨_, X4.cell (i := 0) rfl rfl, ifB_intro (fun z => R2 _ E4 ?_) fun z2 => ?_⟩⟩
      · have z := of_decide_eq_true z
        rw [hchk, show decide (1 ≤ x.op ∧ x.op ≤ 22) = false by simp; omega]; rfl
      · have z := of_decide_eq_true z
        rw [hchk, show decide (1 ≤ x.op ∧ x.op ≤ 22) = false by simp; omega]; rfl
      have z1 := of_decide_eq_false z1
      have z2 := of_decide_eq_false z2
      rw [show decide (1 ≤ x.op ∧ x.op ≤ 22) = true by simp; omega, Bool.true_and] at hchk
      refine ⟨_, X4.cell (i := 0) rfl rfl, _, X4.cell (i := 1) rfl rfl, _, X4.cell (i := 2) rfl rfl, _, X4.cell (i := 3) rfl rfl, _, X4.cell (i := 4) rfl rfl, _, X4.cell (i := 5) rfl rfl, _, X4.cell (i := 6) rfl rfl, _, X4.cell (i := 7) rfl rfl, _, X4.cell (i := 8) rfl rfl, _, X4.cell (i := 9) rfl rfl, _, X4.cell (i := 10) rfl rfl, _, X4.cell (i := 11) rfl rfl, _, X4.cell (i := 12) rfl rfl, _, _, _, X4.cell (i := 13) rfl rfl, _, _, _, X4.cell (i := 14) rfl rfl, _, Y4.cell (i := 0) rfl rfl, _, Y4.cell (i := 1) rfl rfl, _, Y4.cell (i := 2) rfl rfl, _, Y4.cell (i := 3) rfl rfl, _, Y4.cell (i := 4) rfl rfl, _, Y4.cell (i := 5) rfl rfl, _, Y4.cell (i := 6) rfl rfl, _, Y4.cell (i := 7) rfl rfl, _, Y4.cell (i := 8) rfl rfl, _, Y4.cell (i := 9) rfl rfl, _, Y4.cell (i := 10) rfl rfl, _, Y4.cell (i := 11) rfl rfl, _, Y4.cell (i := 12) rfl rfl, _, _, _, Y4.cell (i := 13) rfl rfl, _, _, _, Y4.cell (i := 14) rfl rfl, do_call Tryz.call26 (c_osame hr4 hy4 hP hK (fun w5 e5 he => retS_ret ⟨true, rfl, ifB_f rfl ?_⟩) fun w5 e5 hne => retS_ret ⟨false, rfl, ifB_t rfl (R2 _ (E4.trans e5) ?_)⟩)⟩
      · rw [show sameO x y = true from sameO_iff.2 he, Bool.true_and, ← hpol] at hchk
        have X5 : OpAt w5 xb x (.slice a x.pairs.length c) (.slice q x.keys.length c') := Blk.ext X4 e5
        cases pol
        · rw [show (!false || polMay x.pol) = true from rfl, Bool.true_and] at hchk
          refine ifB_f rfl ⟨_, (Blk.ext X5 (ext_refl _)).cell (i := 0) rfl rfl, ifB_intro (fun z13 => ⟨_, (Blk.ext X5 (ext_refl _)).cell (i := 9) rfl rfl, _, (Blk.ext X5 (ext_refl _)).cell (i := 10) rfl rfl, _, (Blk.ext X5 (ext_refl _)).cell (i := 11) rfl rfl, _, (Blk.ext X5 (ext_refl _)).cell (i := 12) rfl rfl, do_call Tryz.call28 (c_smay hx.pa hx.pb fun w8 e8 => retS_ret ⟨_, rfl, ?_⟩)⟩) fun z13 => ?_⟩
          · rw [hasP_pred, z13] at hchk
            cases hpm : predMay x.pk x.pa x.pb
            · exact ifB_t rfl (R2 _ ((E4.trans e5).trans e8) (by rw [hchk, hpm]; rfl))
            · exact ifB_f rfl (R0 _ ((E4.trans e5).trans e8) (by rw [hchk, hpm]; rfl))
          · exact R0 _ (E4.trans e5) (by rw [hchk, hasP_pred, z13]; rfl)
        · rw [show (!true || polMay x.pol) = polMay x.pol from rfl] at hchk
          refine ifB_t rfl ⟨_, X5.cell (i := 8) rfl rfl, do_call Tryz.call27 (c_fmay fun w6 e6 => retS_ret ⟨_, rfl, ?_⟩)⟩
          rw [may_fold]
          cases hpp : polMay x.pol
          · exact ifB_t rfl (R2 _ ((E4.trans e5).trans e6) (by rw [hchk, hpp]; rfl))
          rw [hpp, Bool.true_and] at hchk
          refine ifB_f rfl ⟨_, (Blk.ext X5 e6).cell (i := 0) rfl rfl, ifB_intro (fun z13 => ⟨_, (Blk.ext X5 e6).cell (i := 9) rfl rfl, _, (Blk.ext X5 e6).cell (i := 10) rfl rfl, _, (Blk.ext X5 e6).cell (i := 11) rfl rfl, _, (Blk.ext X5 e6).cell (i := 12) rfl rfl, do_call Tryz.call28 (c_smay hx.pa hx.pb fun w8 e8 => retS_ret ⟨_, rfl, ?_⟩)⟩) fun z13 => ?_⟩
          · rw [hasP_pred, z13] at hchk
            cases hpm : predMay x.pk x.pa x.pb
            · exact ifB_t rfl (R2 _ (((E4.trans e5).trans e6).trans e8) (by rw [hchk, hpm]; rfl))
            · exact ifB_f rfl (R0 _ (((E4.trans e5).trans e6).trans e8) (by rw [hchk, hpm]; rfl))
          · exact R0 _ ((E4.trans e5).trans e6) (by rw [hchk, hasP_pred, z13]; rfl)
      · rw [hchk]
        cases hs : sameO x y
        · rfl
        · exact absurd (sameO_iff.1 hs) hne
    have hp := hasP_pol x.op
    refine ⟨_, X4.cell (i := 0) rfl rfl, ifB_intro (fun z => fin true (by rw [hp, z]; rfl)) fun z1 => ⟨_, X4.cell (i := 0) rfl rfl, ifB_intro (fun z => fin true (by rw [hp, z1, z]; rfl)) fun z2 => ⟨_, X4.cell (i := 0) rfl rfl, ifB_intro (fun z => fin true (by rw [hp, z1, z2, z]; rfl)) fun z3 =>
      ⟨_, X4.cell (i := 0) rfl rfl, ifB_intro (fun z => fin true (by rw [hp, z1, z2, z3, z]; rfl)) fun z4 => ⟨_, X4.cell (i := 0) rfl rfl, fin _ (by rw [hp, z1, z2, z3, z4]; rfl)⟩⟩⟩⟩⟩
  · refine retS_ret ⟨_, _, _, _, _, _, _, _, _, _, _, _, _, _, _, _, _, _, _, _, rfl, ⟨?_⟩⟩
    have e3 := ext_alloc w2 (.cells #[.int .u8 0, .int .i64 0, .int .i64 0, .int .i64 0, .int .i64 0, .int .i64 0, .int .i64 0, .int .i64 0, .int .u8 0, .int .u8 0, .int .i64 0, .int .i64 0, .bool false, .slice none 0 0, .slice none 0 0] 37)
    refine st15 (blk_alloc w2 #[.int .u8 0, .int .i64 0, .int .i64 0, .int .i64 0, .int .i64 0, .int .i64 0, .int .i64 0, .int .i64 0, .int .u8 0, .int .u8 0, .int .i64 0, .int .i64 0, .bool false, .slice none 0 0, .slice none 0 0] 37) fun w4 h4 g4 => ?_
    have e4 : Ext w2 w4 := e3.st g4 (Nat.le_refl _)
    have X4 : OpAt w4 xb x (.slice a x.pairs.length c) (.slice q x.keys.length c') := Blk.ext X1 (e2.trans e4)
    have bad := R2 w4 ((e1.trans e2).trans e4) (by unfold checkO; rw [hc])
    intro K82
    have fin : ∀ pol, K82 pol w4 := fun pol => ifB_t rfl bad
    exact ⟨_, X4.cell (i := 0) rfl rfl, ifB_intro (fun z => fin _) fun z1 => ⟨_, X4.cell (i := 0) rfl rfl, ifB_intro (fun z => fin _) fun z2 => ⟨_, X4.cell (i := 0) rfl rfl, ifB_intro (fun z => fin _) fun z3 =>
      ⟨_, X4.cell (i := 0) rfl rfl, ifB_intro (fun z => fin _) fun z4 => ⟨_, X4.cell (i := 0) rfl rfl, fin _⟩⟩⟩⟩⟩
end Go.Proofs.YtmkpkmdnapccgaaGreatDoor

namespace Go.Proofs.YtmkpkmdnapccgaaGreatDoor
open Go Go.Sh Go.RowKit

theorem c_r4same {l r : List Pr} {q q' : OA} {n c n' c' : Nat} {w : World} {R : EW} (hl : Cs w q (prs l)) (hn : l.length = n) (hr : Cs w q' (prs r)) (hn' : r.length = n') (hm : n ≤ 1000000000000)
    (h : ∀ w', Ext w w' → R (.returned (.bool (decide (l = r)))) w') : Calls Tryz.prog 38 #[.slice q n c, .slice q' n' c'] w R := by
  refine sh38_ok _ _ _ _ _ _ ?_
  unfold sh38
  refine ifB_intro (fun hne => ?_) fun heq => ?_
  · have hne : l ≠ r := fun e => by subst e; simp [← hn, ← hn'] at hne
    have := h w (ext_refl w)
    rw [decide_eq_false hne] at this
    exact this
  have heq : n = n' := by simp at heq; omega
  subst heq
  refine ⟨fun vs w' => ∃ k : Nat, vs = [.int .i64 k] ∧ k ≤ n ∧ Ext w w' ∧ l.take k = r.take k, fun vs _ => n - (intOf (vs.getD 0 undef)).toNat, ⟨0, rfl, by omega, ext_refl w, by simp⟩, ?_⟩
  rintro i _ w2 ⟨k, hv, hkn, E, hlo⟩
  simp only [List.cons.injEq, Value.int.injEq, true_and, and_true] at hv
  subst hv
  refine ifB_intro (fun hlt => ?_) fun hge => ?_
  · have hlt : k < n := by have := of_decide_eq_true hlt; omega
    refine ⟨⟨fun w' => Ext w2 w', ext_drew _, ?_⟩⟩
    refine ix_prC (fun w' e => (hl.ext E).ext e) (ext_refl _) hn rfl hlt fun a r1 r2 => ⟨_, r1, _, r2, ?_⟩
    refine ix_prC (fun w' e => (hr.ext E).ext e) (ext_refl _) hn' rfl hlt fun a r3 r4 => ⟨_, r3, _, r4, ?_⟩
    refine ifB_intro (fun h1 => ?_) fun h1 => ?_
    · have hne : l ≠ r := fun e => by subst e; simp at h1
      have := h w2.drew E.drew
      rw [decide_eq_false hne] at this
      exact this
    · have h1 : l[k] = r[k] := by simp at h1; exact Prod.ext h1.1 h1.2
      refine ⟨⟨k + 1, ?_, by omega, E.drew, ?_⟩, ?_⟩
      · rw [wrap_succ hlt (by omega)]
      · rw [← List.take_append_getElem (by omega), ← List.take_append_getElem (by omega), hlo, h1]
      · rw [wrap_succ hlt (by omega)]; simp [intOf]; omega
  · have hge : k = n := by have := of_decide_eq_false hge; omega
    subst hge
    rw [List.take_of_length_le (by omega), List.take_of_length_le (by omega)] at hlo
    have := h w2 E
    rw [decide_eq_true hlo] at this
    exact this
end Go.Proofs.YtmkpkmdnapccgaaGreatDoor

namespace Go.Proofs.YtmkpkmdnapccgaaGreatDoor
open Go Go.Sh Go.RowKit

abbrev OpE := POp × Value × Value
def opC (e : OpE) : List Value := (opCells e.1 e.2.1 e.2.2).toList
theorem do_al {cs : Array Value} {t : TypeId} {w : World} {K : Nat → World → Prop} (h : ∀ b w', Ext w w' → Blk w' b cs t → w.heap.size ≤ b → K b w') : doAl (.cells cs t) w K := ⟨h _ _ (ext_alloc _ _) (blk_alloc _ _ _) (Nat.le_refl _)⟩
theorem cs_blk {w : World} {b : Nat} {cs : Array Value} {t : TypeId} (h : Blk w b cs t) : Cs w (some (blk b)) cs.toList := fun i v hv => ⟨_, rfl, h.cell (add_blk b i) (by simpa using hv)⟩
def OpIn (w : World) (e : OpE) : Prop := InO e.1 ∧ OpRd w e.1 e.2.1 e.2.2 ∧ e.1.pairs.length ≤ 5000 ∧ e.1.keys.length ≤ 5000
end Go.Proofs.YtmkpkmdnapccgaaGreatDoor

