/-
  What the functions of mix and order do.
-/
/-
  What the functions of fold do.
-/
/-
  What the functions of row do.
-/
/-
  copy, clear, append on rows of one's own, cell by cell. No claim of its own.
-/
/-
  What the functions of row do, part 2: at, Find, Get, Floor, Ceil, Sum.
-/
import Derived.Test.YtlfjaogbehpleaaGreatZ13
import Derived.Test.YtlfjaogbehpleaaGreatZ03
import Derived.Lib.AppendZerosOnto
import Derived.Lib.Overlaps
import Derived.Laws.CopyRow

namespace Go.Proofs.YtlfjaogbehpleaaGreat
open Go Go.Sh Go.RowKit

/-! ### mix.Mix: a range over a function -/
def stepsA : Array Value := #[.int .i64 30, .int .u64 13787848793156543929, .int .i64 27, .int .u64 10723151780598845931, .int .i64 31, .int .u64 1]
theorem c_all {w : World} {R : Ending → World → Prop} (h : ∀ w', Ext w w' → R (.returned (.agg stepsA)) w') : Calls Tryz.prog 266 #[] w R := by
  refine sh266_ok ?_
  unfold sh266
  refine ⟨?_⟩
  refine do_st (blk_alloc w _ _) (i := 0) rfl (by decide) fun w1 h1 g1 => ?_
  refine do_st h1 (i := 1) rfl (by decide) fun w2 h2 g2 => ?_
  refine do_st h2 (i := 2) rfl (by decide) fun w3 h3 g3 => ?_
  refine do_st h3 (i := 3) rfl (by decide) fun w4 h4 g4 => ?_
  refine do_st h4 (i := 4) rfl (by decide) fun w5 h5 g5 => ?_
  refine do_st h5 (i := 5) rfl (by decide) fun w6 h6 g6 => ?_
  refine ⟨_, h6.cell (i := 0) rfl rfl, _, h6.cell (i := 1) rfl rfl, _, h6.cell (i := 2) rfl rfl, _, h6.cell (i := 3) rfl rfl, _, h6.cell (i := 4) rfl rfl, _, h6.cell (i := 5) rfl rfl, ?_⟩
  have e := ext_alloc w (.cells #[.int .i64 0, .int .u64 0, .int .i64 0, .int .u64 0, .int .i64 0, .int .u64 0] 315)
  exact h _ ((((((e.st g1 (Nat.le_refl _)).st g2 (Nat.le_refl _)).st g3 (Nat.le_refl _)).st g4 (Nat.le_refl _)).st g5 (Nat.le_refl _)).st g6 (Nat.le_refl _))
theorem c_steps {back : Bool} {w : World} {R : Ending → World → Prop} (h : ∀ b1 b2 w', Ext w w' → w.heap.size ≤ b1 → w.heap.size ≤ b2 → b1 ≠ b2 → Blk w' b1 #[.bool back] 4 → Blk w' b2 stepsA 315 →
    R (.returned (.func (.func 267) #[] #[.pointer (some (blk b1)), .pointer (some (blk b2))])) w') : Calls Tryz.prog 210 #[.bool back] w R := by
  refine sh210_ok _ ?_
  unfold sh210
  refine ⟨?_⟩
  have hb := blk_alloc w #[.bool back] 4
  refine do_call Tryz.call266 (c_all fun w0 e0 => retS_ret ⟨_, _, _, _, _, _, rfl, ⟨?_⟩⟩)
  have E0 := (ext_alloc w (.cells #[.bool back] 4)).trans e0
  have hb0 := (hb.ext e0).ext (ext_alloc w0 (.cells #[.int .i64 0, .int .u64 0, .int .i64 0, .int .u64 0, .int .i64 0, .int .u64 0] 315))
  have hne : w.heap.size ≠ w0.heap.size := by have := (hb.ext e0).lt; omega
  have hle : w.heap.size ≤ w0.heap.size := by have := (hb.ext e0).lt; omega
  refine do_st (blk_alloc w0 _ _) (i := 0) rfl (by decide) fun w1 h1 g1 => ?_
  refine do_st h1 (i := 1) rfl (by decide) fun w2 h2 g2 => ?_
  refine do_st h2 (i := 2) rfl (by decide) fun w3 h3 g3 => ?_
  refine do_st h3 (i := 3) rfl (by decide) fun w4 h4 g4 => ?_
  refine do_st h4 (i := 4) rfl (by decide) fun w5 h5 g5 => ?_
  refine do_st h5 (i := 5) rfl (by decide) fun w6 h6 g6 => ?_
  have hb6 := (((((hb0.grown g1 (ne_some hne)).grown g2 (ne_some hne)).grown g3 (ne_some hne)).grown g4 (ne_some hne)).grown g5 (ne_some hne)).grown g6 (ne_some hne)
  have e := E0.alloc (.cells #[.int .i64 0, .int .u64 0, .int .i64 0, .int .u64 0, .int .i64 0, .int .u64 0] 315)
  exact h _ _ _ ((((((e.st g1 hle).st g2 hle).st g3 hle).st g4 hle).st g5 hle).st g6 hle) (Nat.le_refl _) hle hne hb6 h6
/-- a round of the mixing -/
def stepB (x : BitVec 64) : Nat → BitVec 64
  | 0 => xs 30 x * 13787848793156543929#64
  | 1 => xs 27 x * 10723151780598845931#64
  | _ => xs 31 x * 1#64
def stepsB (x : BitVec 64) : Nat → BitVec 64
  | 0 => x
  | i + 1 => stepB (stepsB x i) i
theorem stepsB_3 (x : BitVec 64) : stepsB x 3 = mixB x := by simp [stepsB, stepB, mixB]
set_option maxRecDepth 20000 in
theorem c_mix {x : BitVec 64} {w : World} {R : Ending → World → Prop} (h : ∀ w', Ext w w' → R (.returned (.int .u64 (U (mixB x)))) w') : Calls Tryz.prog 127 #[.int .u64 (U x)] w R := by
  refine sh127_ok _ ?_
  unfold sh127
  refine ⟨?_⟩
  have hx := blk_alloc w #[.int .u64 (U x)] 79
  refine do_call Tryz.call210 (c_steps fun b1 b2 w1 e1 hb1 hb2 hne h1 h2 => retS_ret ⟨_, _, _, rfl, ⟨fun fn => ?_⟩⟩)
  have hx1 := hx.ext e1
  have E1 := (ext_alloc w (.cells #[.int .u64 (U x)] 79)).trans e1
  have hd : (w1.alloc (.deferred (some []))).heap[w1.heap.size]? = some (.deferred (some [])) := heap_alloc_new _ _
  generalize hrec : mkLoop _ _ _ _ = L
  have hl : ((w1.alloc (.deferred (some []))).alloc (.loop (L fn w1.heap.size))).heap[w1.heap.size + 1]? = some (.loop (L fn w1.heap.size)) := by
    have := heap_alloc_new (w1.alloc (.deferred (some []))) (.loop (L fn w1.heap.size))
    simpa using this
  have e2 := (ext_alloc w1 (.deferred (some []))).trans (ext_alloc _ (.loop (L fn w1.heap.size)))
  have hd := (ext_alloc _ (.loop (L fn w1.heap.size))).heap hd
  have hE : w.heap.size < w1.heap.size := hx1.lt
  have hl1 := h1.lt
  have hl2 := h2.lt
  have hx2 := hx1.ext e2
  have h1 := h1.ext e2
  have h2 := h2.ext e2
  have E2 := E1.trans e2
  simp at hb1 hb2
  generalize (w1.alloc (.deferred (some []))).alloc (.loop (L fn w1.heap.size)) = w2 at hd hl hx2 h1 h2 E2 ⊢
  generalize hsz : w1.heap.size = d at *
  clear e1 hx1 e2 E1 hx
  have hst : (L fn d).state = .ready ∧ (L fn d).pending = none := by rw [← hrec]; exact ⟨rfl, rfl⟩
  refine callE_c Tryz.call267 (by rfl) (sh267_ok _ _ _ _ _ ?_)
  unfold sh267
  refine ⟨fun vs w' => ∃ i : Nat, vs = [.int .i64 i] ∧ i ≤ 3 ∧ Ext w w' ∧ w'.heap[d]? = some (.deferred (some [])) ∧ w'.heap[d + 1]? = some (.loop (L fn d)) ∧ Blk w' b1 #[.bool false] 4 ∧ Blk w' b2 stepsA 315 ∧
      Blk w' w.heap.size #[.int .u64 (U (stepsB x i))] 79, fun vs _ => 3 - (intOf (vs.getD 0 undef)).toNat, ⟨0, rfl, by omega, E2, hd, hl, h1, h2, hx2⟩, ?_⟩
  clear hd hl h1 h2 hx2 E2
  rintro i j w3 ⟨m, hm, hm3, E3, hd, hl, h1, h2, hx⟩
  simp only [List.cons.injEq, Value.int.injEq, true_and, and_true] at hm
  obtain rfl := hm
  refine ifB_intro (fun hlt => ?_) fun hge => ?_
  · have hlt : m < 3 := by have := of_decide_eq_true hlt; omega
    refine ⟨_, h1.cell (i := 0) rfl rfl, ifB_f rfl ?_⟩
    have hA : ∃ (s : Nat) (c : BitVec 64), stepsA[2 * m]? = some (.int .i64 s) ∧ stepsA[2 * m + 1]? = some (.int .u64 (U c)) ∧ s ≤ 64 ∧ stepsB x (m + 1) = xs s (stepsB x m) * c := by
      rcases m with _ | _ | _ | m
      · exact ⟨30, 13787848793156543929#64, rfl, rfl, by omega, rfl⟩
      · exact ⟨27, 10723151780598845931#64, rfl, rfl, by omega, rfl⟩
      · exact ⟨31, 1#64, rfl, rfl, by omega, rfl⟩
      · omega
    obtain ⟨s, c, hs, hc, hs64, hst'⟩ := hA
    have ha : ∀ k, ((blk b2).add ((m : Int).toNat * 2)).add k = ⟨b2, 2 * m + k, none⟩ := fun k => by rw [add_blk]; simp only [Addr.add]; split <;> simp <;> omega
    refine ⟨_, rfl, by omega, by omega, _, h2.cell (ha 0) hs, _, h2.cell (ha 1) hc, ?_⟩
    refine sh127_0_ok (by rw [hl, ← hrec]) ?_
    unfold sh127_0
    refine ⟨?_⟩
    have hw3 := hx.lt
    have hd3 := (Array.getElem?_eq_some_iff.1 hl).1
    refine do_st (blk_alloc w3 _ _) (i := 0) rfl (by simp) fun w5 h5 g5 => do_st h5 (i := 1) rfl (by simp) fun w6 h6 g6 => ?_
    have e6 : Ext w3 w6 := ((ext_alloc w3 _).st g5 (Nat.le_refl _)).st g6 (Nat.le_refl _)
    refine ⟨_, e6.heap hl, hst.1, ?_⟩
    have g7 := put_grown w6 (d + 1) (.loop { L fn d with state := .busy })
    have hl7 := put_heap (o' := .loop { L fn d with state := .busy }) (e6.heap hl)
    have hx7 := (hx.ext e6).grown g7 (ne_some (by omega))
    have h17 := (h1.ext e6).grown g7 (ne_some (by omega))
    have h27 := (h2.ext e6).grown g7 (ne_some (by omega))
    have hd7 := heap_grown g7 (e6.heap hd) (ne_some (by omega))
    have h67 := h6.grown g7 (ne_some (by omega))
    have E7 := (E3.trans e6).st g7 (by omega)
    generalize w6.putObj (d + 1) (.loop { L fn d with state := .busy }) = w7 at hl7 hx7 h17 h27 hd7 h67 E7 ⊢
    refine ⟨⟨fun w' => Ext w7 w', ext_drew _, ?_⟩⟩
    refine ⟨_, fun w' e' => (hx7.ext e').cell (i := 0) rfl rfl, _, fun w' e' => (hx7.ext e').cell (i := 0) rfl rfl, _, fun w' e' => (h67.ext e').cell (i := 0) rfl rfl, by omega, _, fun w' e' => (h67.ext e').cell (i := 1) rfl rfl, ?_⟩
    rw [shr_U _ s hs64, bXor_U, mul_U]
    refine do_st (w := w7.drew) (b := w.heap.size) hx7 (i := 0) rfl (by simp) fun w8 h8 g8 => ?_
    have hl8 := heap_grown (w := w7.drew) g8 hl7 (ne_some (by omega))
    refine ⟨_, hl8, ?_⟩
    rw [rec_back hst.1 hst.2]
    have g9 := put_grown w8 (d + 1) (.loop (L fn d))
    refine retS_ret ⟨_, rfl, ifB_f rfl ⟨⟨m + 1, by rw [wrap_succ hlt (by omega)], by omega, ?_, ?_, put_heap hl8, ?_, ?_, ?_⟩, ?_⟩⟩
    · exact (E7.drew.st g8 (Nat.le_refl _)).st g9 (by omega)
    · exact heap_grown g9 (heap_grown (w := w7.drew) g8 hd7 (ne_some (by omega))) (ne_some (by omega))
    · exact (Blk.grown (w := w7.drew) h17 g8 (ne_some (by omega))).grown g9 (ne_some (by omega))
    · exact (Blk.grown (w := w7.drew) h27 g8 (ne_some (by omega))).grown g9 (ne_some (by omega))
    · have : stepsB x (m + 1) = (xs s (stepsB x m)) * c := hst'
      rw [this]
      exact h8.grown g9 (ne_some (by omega))
    · rw [wrap_succ hlt (by omega)]
      simp [intOf]; omega
  · have hge : m = 3 := by have := of_decide_eq_false hge; omega
    subst hge
    rw [← stepsB_3] at h
    have hd3 := (Array.getElem?_eq_some_iff.1 hl).1
    refine rf_done hl (by rw [hst.1]; simp) hst.2 fun o => ?_
    have g9 := put_grown w3 (d + 1) o
    exact ⟨_, (hx.grown g9 (ne_some (by omega))).cell (i := 0) rfl rfl, heap_grown g9 hd (ne_some (by omega)), h _ ((E3.st g9 (by omega)).put (by omega) _)⟩

/-! ### bits -/
theorem c_revBytes {x : BitVec 64} {w : World} {R : Ending → World → Prop} (h : R (.returned (.int .u64 (U (revBytes x)))) w) : Calls Tryz.prog 307 #[.int .u64 (U x)] w R := by
  refine sh307_ok _ ?_
  unfold sh307
  refine ⟨by omega, by omega, by omega, by omega, by omega, by omega, ?_⟩
  simp only [shr_8, shr_16, shr_32, and_d, and_e, shl_8, shl_16, shl_32, bOr_U]
  exact h
theorem c_rev64 {x : BitVec 64} {w : World} {R : Ending → World → Prop} (h : R (.returned (.int .u64 (U (revB x)))) w) : Calls Tryz.prog 247 #[.int .u64 (U x)] w R := by
  refine sh247_ok _ ?_
  unfold sh247
  refine ⟨by omega, by omega, by omega, by omega, by omega, by omega, ?_⟩
  simp only [shr_1, shr_2, shr_4, and_a, and_b, and_c, shl_1, shl_2, shl_4, bOr_U]
  exact do_call Tryz.call307 (c_revBytes (retS_ret ⟨_, rfl, h⟩))
theorem c_flip {x : BitVec 64} {w : World} {R : Ending → World → Prop} (h : R (.returned (.int .u64 (U (revB x)))) w) : Calls Tryz.prog 181 #[.int .u64 (U x)] w R := by
  refine sh181_ok _ ?_
  unfold sh181
  exact do_call Tryz.call247 (c_rev64 (retS_ret ⟨_, rfl, h⟩))
theorem c_rotl {x : BitVec 64} {k : Int} {s : Nat} (hs : s < 64) (hk : bAnd .u64 (IntKind.wrap .u64 k) 63 = (s : Int)) {w : World} {R : Ending → World → Prop}
    (h : R (.returned (.int .u64 (U ((x <<< s) ||| (x >>> (64 - s)))))) w) : Calls Tryz.prog 211 #[.int .u64 (U x), .int .i64 k] w R := by
  refine sh211_ok _ _ ?_
  unfold sh211
  have e : IntKind.wrap .u64 (64 - (s : Int)) = ((64 - s : Nat) : Int) := by rw [wrap64u]; omega
  rw [hk, e]
  refine ⟨by omega, by omega, ?_⟩
  rw [shl_U x s (by omega), shr_U x (64 - s) (by omega), bOr_U]
  exact h
theorem c_turn {x : BitVec 64} {n : Int} {s : Nat} (hs : s < 64) (hk : bAnd .u64 (IntKind.wrap .u64 (Int.tmod n 64)) 63 = (s : Int)) {w : World} {R : Ending → World → Prop}
    (h : R (.returned (.int .u64 (U ((x <<< s) ||| (x >>> (64 - s)))))) w) : Calls Tryz.prog 129 #[.int .u64 (U x), .int .i64 n] w R := by
  refine sh129_ok _ _ ?_
  unfold sh129
  exact ⟨by omega, do_call Tryz.call211 (c_rotl hs hk (retS_ret ⟨_, rfl, h⟩))⟩

/-! ### the codes -/
theorem c_up {k : Int} (hk : In k) {w : World} {R : Ending → World → Prop} (h : R (.returned (.int .u64 (upI k))) w) : Calls Tryz.prog 174 #[.int .i64 k] w R := by
  refine sh174_ok _ ?_
  unfold sh174
  rw [upB_U hk]
  exact h
theorem up_U {k : Int} (hk : In k) : upI k = U (BitVec.ofInt 64 (upI k)) := by
  rw [U_ofInt]; unfold upI In at *; omega
def kd (nm : ByteArray) (f g : Nat) : Value := .agg #[.string nm, .func (.func f) #[] #[], .func (.func g) #[] #[]]
def orderEs : Array MapEntry := #[
  { key := .int .u8 1, val := kd ⟨#[117, 112]⟩ 174 175, born := 0 },
  { key := .int .u8 2, val := kd ⟨#[100, 111, 119, 110]⟩ 176 177, born := 1 },
  { key := .int .u8 3, val := kd ⟨#[115, 105, 122, 101]⟩ 178 179, born := 2 },
  { key := .int .u8 4, val := kd ⟨#[98, 105, 116, 115]⟩ 180 182, born := 3 },
  { key := .int .u8 5, val := kd ⟨#[101, 118, 101, 110]⟩ 183 184, born := 4 },
  { key := .int .u8 6, val := kd ⟨#[108, 111, 119]⟩ 185 186, born := 5 },
  { key := .int .u8 7, val := kd ⟨#[109, 105, 120]⟩ 187 188, born := 6 }]
theorem c_okinds {w : World} {R : Ending → World → Prop} (h : ∀ b w', Ext w w' → w'.heap[b]? = some (.map orderEs 7) → R (.returned (.map (some b))) w') : Calls Tryz.prog 111 #[] w R := by
  refine sh111_ok ?_
  unfold sh111
  refine ⟨?_⟩
  refine do_mu_new Tryz.underlying156 Tryz.underlying5 (heap_alloc_new w _) (by rfl) (by rfl) fun w1 h1 g1 => ?_
  refine do_mu_new Tryz.underlying156 Tryz.underlying5 h1 (by rfl) (by rfl) fun w2 h2 g2 => ?_
  refine do_mu_new Tryz.underlying156 Tryz.underlying5 h2 (by rfl) (by rfl) fun w3 h3 g3 => ?_
  refine do_mu_new Tryz.underlying156 Tryz.underlying5 h3 (by rfl) (by rfl) fun w4 h4 g4 => ?_
  refine do_mu_new Tryz.underlying156 Tryz.underlying5 h4 (by rfl) (by rfl) fun w5 h5 g5 => ?_
  refine do_mu_new Tryz.underlying156 Tryz.underlying5 h5 (by rfl) (by rfl) fun w6 h6 g6 => ?_
  refine do_mu_new Tryz.underlying156 Tryz.underlying5 h6 (by rfl) (by rfl) fun w7 h7 g7 => ?_
  have e := ext_alloc w (.map #[] 0)
  exact h _ _ (((((((e.st g1 (Nat.le_refl _)).st g2 (Nat.le_refl _)).st g3 (Nat.le_refl _)).st g4 (Nat.le_refl _)).st g5 (Nat.le_refl _)).st g6 (Nat.le_refl _)).st g7 (Nat.le_refl _)) h7
theorem find_order {o : Int} (h : isO o = true) : ∃ i f g, Instr.findNow (.int .u8) (.int .u8 o) orderEs.toList 0 = some (some (i, kd (nameB o) f g)) ∧
    ∀ (k : Int), In k → ∀ (w : World) (R : Ending → World → Prop), (∀ w', Ext w w' → R (.returned (.int .u64 (codeI o k))) w') → doCall Tryz.prog (.func (.func f) #[] #[]) #[.int .i64 k] w R := by
  rcases isO_cases h with rfl | rfl | rfl | rfl | rfl | rfl | rfl
  · exact ⟨0, 174, 175, rfl, fun k hk w R h => do_call Tryz.call174 (c_up hk (h _ (ext_refl _)))⟩
  · refine ⟨1, 176, 177, rfl, fun k hk w R h => do_call Tryz.call176 (sh176_ok _ ?_)⟩
    unfold sh176
    refine do_call Tryz.call174 (c_up hk (retS_ret ⟨_, rfl, ?_⟩))
    rw [not_U (by unfold upI In at *; omega) (by unfold upI In at *; omega)]
    exact h _ (ext_refl _)
  · refine ⟨2, 178, 179, rfl, fun k hk w R h => do_call Tryz.call178 (sh178_ok _ ?_)⟩
    unfold sh178
    refine ⟨by omega, by omega, ?_⟩
    rw [size_U hk]
    exact h _ (ext_refl _)
  · refine ⟨3, 180, 182, rfl, fun k hk w R h => do_call Tryz.call180 (sh180_ok _ ?_)⟩
    unfold sh180
    rw [wrap_U]
    exact do_call Tryz.call181 (c_flip (retS_ret ⟨_, rfl, h _ (ext_refl _)⟩))
  · refine ⟨4, 183, 184, rfl, fun k hk w R h => do_call Tryz.call183 (sh183_ok _ ?_)⟩
    unfold sh183
    refine do_call Tryz.call174 (c_up hk (retS_ret ⟨_, rfl, ?_⟩))
    have hu := up_U hk
    rw [hu]
    refine do_call Tryz.call129 (c_turn (s := 63) (by omega) (by decide) (retS_ret ⟨_, rfl, ?_⟩))
    have := h _ (ext_refl _)
    have e : U ((BitVec.ofInt 64 (upI k)) <<< 63 ||| (BitVec.ofInt 64 (upI k)) >>> (64 - 63)) = codeI 5 k := by
      rw [rot_U _ (by omega) (by omega)]
      have hn : ((BitVec.ofInt 64 (upI k)).toNat : Int) = upI k := hu.symm
      simp only [codeI]
      simp
      unfold upI In at *
      split <;> omega
    rw [e]; exact this
  · refine ⟨5, 185, 186, rfl, fun k hk w R h => do_call Tryz.call185 (sh185_ok _ ?_)⟩
    unfold sh185
    refine do_call Tryz.call174 (c_up hk (retS_ret ⟨_, rfl, ?_⟩))
    have hu := up_U hk
    rw [hu]
    refine do_call Tryz.call129 (c_turn (s := 32) (by omega) (by decide) (retS_ret ⟨_, rfl, ?_⟩))
    have := h _ (ext_refl _)
    have e : U ((BitVec.ofInt 64 (upI k)) <<< 32 ||| (BitVec.ofInt 64 (upI k)) >>> (64 - 32)) = codeI 6 k := by
      rw [rot_U _ (by omega) (by omega)]
      have hn : ((BitVec.ofInt 64 (upI k)).toNat : Int) = upI k := hu.symm
      simp only [codeI]
      simp
      unfold upI In at *
      omega
    rw [e]; exact this
  · refine ⟨6, 187, 188, rfl, fun k hk w R h => do_call Tryz.call187 (sh187_ok _ ?_)⟩
    unfold sh187
    rw [wrap_U]
    exact do_call Tryz.call127 (c_mix fun w' e => retS_ret ⟨_, rfl, h _ e⟩)
theorem find_order_none {o : Int} (h : isO o = false) : Instr.findNow (.int .u8) (.int .u8 o) orderEs.toList 0 = some none := by
  have hn : ∀ i : Int, 1 ≤ i → i ≤ 7 → (o == i) = false := fun i h1 h2 => by
    simp [isO] at h
    simp; omega
  simp [orderEs, Instr.findNow, Instr.sameNow, hn]
theorem c_name {o : Int} {w : World} {R : Ending → World → Prop} (h : ∀ w', Ext w w' → R (.returned (.string (nameB o))) w') : Calls Tryz.prog 40 #[.int .u8 o] w R := by
  refine sh40_ok _ ?_
  unfold sh40
  refine do_call Tryz.call111 (c_okinds fun b w1 e1 hb => retS_ret ⟨_, rfl, ?_⟩)
  cases hm : isO o
  · refine do_lk1_miss Tryz.underlying156 Tryz.underlying5 hb (by rfl) (find_order_none hm) (z := .agg #[.string ⟨#[]⟩, .nilFunc, .nilFunc]) (by kernel_rfl) (.inr ⟨rfl, ?_⟩)
    have : nameB o = ⟨#[]⟩ := by
      simp [isO] at hm
      unfold nameB
      rw [if_neg (by omega), if_neg (by omega), if_neg (by omega), if_neg (by omega), if_neg (by omega), if_neg (by omega), if_neg (by omega)]
    exact this ▸ h _ e1
  · obtain ⟨i, f, g, hf, hc⟩ := find_order hm
    exact do_lk1_hit Tryz.underlying156 Tryz.underlying5 hb (by rfl) hf (.inl ⟨_, _, _, _, _, _, _, rfl, h _ e1⟩)
theorem c_code {o k : Int} (hk : In k) {w : World} {R : Ending → World → Prop} (h : ∀ w', Ext w w' → R (.returned (.tuple #[.int .u64 (cond (isO o) (codeI o k) 0), .int .i64 (cond (isO o) 0 2)])) w') :
    Calls Tryz.prog 124 #[.int .u8 o, .int .i64 k] w R := by
  refine sh124_ok _ _ ?_
  unfold sh124
  refine do_call Tryz.call111 (c_okinds fun b w1 e1 hb => retS_ret ⟨_, rfl, ?_⟩)
  cases hm : isO o <;> simp only [hm] at h
  · refine do_lk_miss Tryz.underlying156 Tryz.underlying5 hb (by rfl) (find_order_none hm) (z := .agg #[.string ⟨#[]⟩, .nilFunc, .nilFunc]) (by kernel_rfl) (.inr ⟨rfl, ⟨?_⟩⟩)
    refine do_st (blk_alloc w1 _ _) (i := 0) rfl (by simp) fun w2 h2 g2 => do_st h2 (i := 1) rfl (by simp) fun w3 h3 g3 => do_st h3 (i := 2) rfl (by simp) fun w4 h4 g4 => ?_
    exact h _ ((((e1.alloc _).st g2 e1.size).st g3 e1.size).st g4 e1.size)
  · obtain ⟨i, f, g, hf, hc⟩ := find_order hm
    refine do_lk_hit Tryz.underlying156 Tryz.underlying5 hb (by rfl) hf (.inl ⟨_, _, _, _, _, _, _, _, rfl, ⟨?_⟩⟩)
    refine do_st (blk_alloc w1 _ _) (i := 0) rfl (by simp) fun w2 h2 g2 => do_st h2 (i := 1) rfl (by simp) fun w3 h3 g3 => do_st h3 (i := 2) rfl (by simp) fun w4 h4 g4 => ?_
    have E4 := (((e1.alloc (.cells #[.string ⟨#[]⟩, .nilFunc, .nilFunc] 155)).st g2 e1.size).st g3 e1.size).st g4 e1.size
    exact ⟨_, _, _, h4.cell (i := 1) rfl rfl, hc k hk _ _ fun w5 e5 => retS_ret ⟨_, rfl, h _ (E4.trans e5)⟩⟩
theorem c_cmp64 {x y : Int} {w : World} {R : Ending → World → Prop} (h : R (.returned (.int .i64 (if x < y then -1 else if y < x then 1 else 0))) w) : Calls Tryz.prog 125 #[.int .u64 x, .int .u64 y] w R := by
  have nan : ∀ x : Int, ∀ {w : World} {R : Ending → World → Prop}, R (.returned (.bool false)) w → Calls Tryz.prog 192 #[.int .u64 x] w R := fun x w R h => sh192_ok _ (by
    unfold sh192
    rw [show (x != x) = false by simp]; exact h)
  refine sh125_ok _ _ ?_
  unfold sh125
  refine do_call Tryz.call192 (nan _ (retS_ret ⟨_, rfl, do_call Tryz.call192 (nan _ (retS_ret ⟨_, rfl, ifB_f rfl (ifB_f rfl ?_)⟩))⟩))
  refine ifB_intro (fun h1 => ?_) fun h1 => ifB_intro (fun h2 => ?_) fun h2 => ?_
  · rw [if_pos (of_decide_eq_true h1)] at h; exact h
  · rw [if_neg (of_decide_eq_false h1), if_pos (of_decide_eq_true h2)] at h; exact h
  · rw [if_neg (of_decide_eq_false h1), if_neg (of_decide_eq_false h2)] at h; exact h
theorem c_compare {o a b : Int} (ha : In a) (hb : In b) {w : World} {R : Ending → World → Prop} (h : ∀ w', Ext w w' → R (.returned (.int .i64 (cmpI o a b))) w') :
    Calls Tryz.prog 64 #[.int .u8 o, .int .i64 a, .int .i64 b] w R := by
  refine sh64_ok _ _ _ ?_
  unfold sh64
  refine do_call Tryz.call124 (c_code ha fun w1 e1 => retS_ret ⟨_, _, rfl, do_call Tryz.call124 (c_code hb fun w2 e2 => retS_ret ⟨_, _, rfl, ?_⟩)⟩)
  cases hm : isO o
  · refine ifB_t rfl ?_
    have : cmpI o a b = 0 := by simp [isO] at hm; unfold cmpI; rw [if_neg (by omega)]
    exact this ▸ h _ (e1.trans e2)
  · have : cmpI o a b = (if codeI o a < codeI o b then -1 else if codeI o b < codeI o a then 1 else 0) := by simp [isO] at hm; unfold cmpI; rw [if_pos hm]
    exact ifB_f rfl (do_call Tryz.call125 (c_cmp64 (retS_ret ⟨_, rfl, this ▸ h _ (e1.trans e2)⟩)))

/-! ### the reference -/
theorem c_ris {o : Int} {w : World} {R : Ending → World → Prop} (h : R (.returned (.bool (isO o))) w) : Calls Tryz.prog 20 #[.int .u8 o] w R := by
  refine sh20_ok _ ?_
  unfold sh20
  unfold isO at h
  refine ifB_intro (fun h1 => ?_) fun h1 => ?_
  · have h1 : 1 ≤ o := by simpa using h1
    simpa [h1] using h
  · have h1 : ¬ 1 ≤ o := by simpa using h1
    simpa [h1] using h
theorem c_rup {k : Int} (hk : In k) {w : World} {R : Ending → World → Prop} (h : R (.returned (.int .u64 (upI k))) w) : Calls Tryz.prog 84 #[.int .i64 k] w R := by
  refine sh84_ok _ ?_
  unfold sh84
  rw [upR_U hk]
  exact h
theorem c_rflip {x : BitVec 64} {w : World} {R : Ending → World → Prop} (h : R (.returned (.int .u64 (U (revB x)))) w) : Calls Tryz.prog 85 #[.int .u64 (U x)] w R := by
  refine sh85_ok _ ?_
  unfold sh85
  refine ⟨fun vs w' => ∃ (i : Nat) (a b : BitVec 64), vs = [.int .u64 (U a), .int .u64 (U b), .int .i64 i] ∧ i ≤ 64 ∧ FlipI x i a b ∧ w' = w, fun vs _ => 64 - (intOf (vs.getD 2 undef)).toNat,
    ⟨0, x, 0#64, rfl, by omega, flipI_init x, rfl⟩, ?_⟩
  rintro a b i j w3 ⟨m, a', b', hv, hm, hf, rfl⟩
  simp only [List.cons.injEq, Value.int.injEq, true_and, and_true] at hv
  obtain ⟨rfl, rfl, rfl⟩ := hv
  refine ifB_intro (fun h1 => ?_) fun h1 => ?_
  · have h1 : m < 64 := by have := of_decide_eq_true h1; omega
    refine ⟨by omega, by omega, ?_⟩
    rw [tdiv2_U, tmod2_U, mul2_U, add_U, wrap_succ h1 (by omega)]
    exact ⟨⟨m + 1, _, _, rfl, by omega, flipI_step h1 hf, rfl⟩, by simp [intOf]; omega⟩
  · have h1 : m = 64 := by have := of_decide_eq_false h1; omega
    subst h1
    rw [rev_eq (flipI_rev hf) (revB_rev x)]
    exact h
theorem c_rturn {x : Nat} (hx : x < 18446744073709551616) {w : World} {R : Ending → World → Prop} (h : R (.returned (.int .u64 ((x % 4294967296 * 4294967296 + x / 4294967296 : Nat) : Int))) w) : Calls Tryz.prog 86 #[.int .u64 (x : Int), .int .i64 32] w R := by
  refine sh86_ok _ _ ?_
  unfold sh86
  rw [← turnY_64 hx] at h
  refine ⟨by omega, by omega, fun vs w' => ∃ i : Nat, vs = [.int .u64 ((turnY x i : Nat) : Int), .int .i64 i] ∧ i ≤ 64 ∧ w' = w, fun vs _ => 64 - (intOf (vs.getD 1 undef)).toNat,
    ⟨0, by simp [turnY, Nat.mod_one], by omega, rfl⟩, ?_⟩
  rintro y i j w3 ⟨m, hv, hm, rfl⟩
  simp only [List.cons.injEq, Value.int.injEq, true_and, and_true] at hv
  obtain ⟨rfl, rfl⟩ := hv
  refine ifB_intro (fun h1 => ?_) fun h1 => ?_
  · have h1 : m < 64 := by have := of_decide_eq_true h1; omega
    have e1 : Int.tmod (IntKind.wrap .i64 (Int.tmod 32 64 + 64)) 64 = 32 := by decide
    have e2 : IntKind.wrap .i64 ((m : Int) + 32) = ((m + 32 : Nat) : Int) := by rw [wrap_of (by omega) (by omega)]; simp
    have e3 : IntKind.wrap .u64 (Int.tmod ((m + 32 : Nat) : Int) 64) = (((m + 32) % 64 : Nat) : Int) := by
      rw [wrap64u, Int.tmod_eq_emod_of_nonneg (by omega)]; omega
    have e4 : IntKind.wrap .u64 (m : Int) = (m : Int) := by rw [wrap64u]; omega
    rw [e1, e2, e3, e4, wrap_succ h1 (by omega)]
    refine ⟨by omega, by omega, by omega, by omega, ?_⟩
    have e5 : Int.fdiv (x : Int) (2 ^ (min ((m : Nat) : Int).toNat (IntKind.bits .u64))) = ((x / 2 ^ m : Nat) : Int) := by
      rw [bits_u64, Int.toNat_natCast, Nat.min_eq_left (by omega), Int.fdiv_eq_ediv_of_nonneg _ (Int.pow_nonneg (by omega))]
      simp
    have e6 : Int.tmod ((x / 2 ^ m : Nat) : Int) 2 = ((x / 2 ^ m % 2 : Nat) : Int) := by
      generalize x / 2 ^ m = q
      rw [Int.tmod_eq_emod_of_nonneg (by omega)]; omega
    have hlt : x / 2 ^ m % 2 * 2 ^ ((m + 32) % 64) < 18446744073709551616 := by
      have h2 : x / 2 ^ m % 2 ≤ 1 := by omega
      have h3 : 2 ^ ((m + 32) % 64) ≤ 2 ^ 63 := Nat.pow_le_pow_right (by omega) (by omega)
      have := Nat.mul_le_mul h2 h3
      omega
    have e7 : IntKind.wrap .u64 (((x / 2 ^ m % 2 : Nat) : Int) * 2 ^ (min (((m + 32) % 64 : Nat) : Int).toNat (IntKind.bits .u64))) = ((x / 2 ^ m % 2 * 2 ^ ((m + 32) % 64) : Nat) : Int) := by
      rw [bits_u64, Int.toNat_natCast, Nat.min_eq_left (by omega), wrap64u]
      have : (((x / 2 ^ m % 2 : Nat) : Int) * 2 ^ ((m + 32) % 64)) = ((x / 2 ^ m % 2 * 2 ^ ((m + 32) % 64) : Nat) : Int) := by simp
      rw [this]
      generalize x / 2 ^ m % 2 * 2 ^ ((m + 32) % 64) = q at hlt ⊢
      omega
    have e8 : IntKind.wrap .u64 (((turnY x m : Nat) : Int) + ((x / 2 ^ m % 2 * 2 ^ ((m + 32) % 64) : Nat) : Int)) = ((turnY x (m + 1) : Nat) : Int) := by
      have h2 := turnY_step (x := x) h1
      have h3 := turnY_lt hx (show m + 1 ≤ 64 by omega)
      rw [h2] at h3 ⊢
      rw [wrap64u]
      generalize x / 2 ^ m % 2 * 2 ^ ((m + 32) % 64) = q at h3 ⊢
      omega
    rw [e5, e6, e7, e8]
    exact ⟨⟨m + 1, rfl, by omega, rfl⟩, by simp [intOf]; omega⟩
  · have h1 : m = 64 := by have := of_decide_eq_false h1; omega
    subst h1
    exact h
theorem c_rmix {x : BitVec 64} {w : World} {R : Ending → World → Prop} (h : R (.returned (.int .u64 (U (mixB x)))) w) : Calls Tryz.prog 87 #[.int .u64 (U x)] w R := by
  refine sh87_ok _ ?_
  unfold sh87
  refine ⟨by omega, by omega, by omega, ?_⟩
  have d1 : ∀ x : BitVec 64, IntKind.wrap .u64 (Int.tdiv (U x) 1073741824) = U (x >>> 30) := fun x => tdiv_U x 30
  have d2 : ∀ x : BitVec 64, IntKind.wrap .u64 (Int.tdiv (U x) 134217728) = U (x >>> 27) := fun x => tdiv_U x 27
  have d3 : ∀ x : BitVec 64, IntKind.wrap .u64 (Int.tdiv (U x) 2147483648) = U (x >>> 31) := fun x => tdiv_U x 31
  have m1 : ∀ x : BitVec 64, IntKind.wrap .u64 (U x * 13787848793156543929) = U (x * 13787848793156543929#64) := fun x => mul_U x 13787848793156543929#64
  have m2 : ∀ x : BitVec 64, IntKind.wrap .u64 (U x * 10723151780598845931) = U (x * 10723151780598845931#64) := fun x => mul_U x 10723151780598845931#64
  simp only [d1, bXor_U, m1, d2, m2, d3]
  exact h
theorem c_rcode {o k : Int} (ho : isO o = true) (hk : In k) {w : World} {R : Ending → World → Prop} (h : R (.returned (.int .u64 (codeI o k))) w) : Calls Tryz.prog 35 #[.int .u8 o, .int .i64 k] w R := by
  refine sh35_ok _ _ ?_
  unfold sh35
  have hr := codeI_rng (o := o) hk
  rcases isO_cases ho with rfl | rfl | rfl | rfl | rfl | rfl | rfl
  · exact ifB_t rfl (do_call Tryz.call84 (c_rup hk (retS_ret ⟨_, rfl, h⟩)))
  · refine ifB_f rfl (ifB_t rfl (do_call Tryz.call84 (c_rup hk (retS_ret ⟨_, rfl, ?_⟩))))
    rw [wrap64u, Int.emod_eq_of_lt (by unfold upI In at *; omega) (by unfold upI In at *; omega)]
    exact h
  · refine ifB_f rfl (ifB_f rfl (ifB_t rfl (ifB_intro (fun h1 => ?_) fun h1 => ?_)))
    · have h1 := of_decide_eq_true h1
      have e : IntKind.wrap .u64 (IntKind.wrap .u64 (IntKind.wrap .u64 (IntKind.wrap .i64 (0 - IntKind.wrap .i64 (k + 1))) * 2) + 1) = codeI 3 k := by
        unfold In at hk
        rw [wrap_of (x := k + 1) (by omega) (by omega), wrap_of (by omega) (by omega), wrap64u, wrap64u, wrap64u]
        simp only [codeI]; simp [h1]; omega
      rw [e]; exact h
    · have h1 := of_decide_eq_false h1
      have e : IntKind.wrap .u64 (IntKind.wrap .u64 k * 2) = codeI 3 k := by
        unfold In at hk
        rw [wrap64u, wrap64u]
        simp only [codeI]; simp [h1]; omega
      rw [e]; exact h
  · refine ifB_f rfl (ifB_f rfl (ifB_f rfl (ifB_t rfl ?_)))
    rw [wrap_U]
    exact do_call Tryz.call85 (c_rflip (retS_ret ⟨_, rfl, h⟩))
  · refine ifB_f rfl (ifB_f rfl (ifB_f rfl (ifB_f rfl (ifB_t rfl (do_call Tryz.call84 (c_rup hk (retS_ret ⟨_, rfl, by omega, by omega, ?_⟩)))))))
    have ht : Int.tdiv (upI k) 2 = upI k / 2 := Int.tdiv_eq_ediv_of_nonneg (by unfold upI In at *; omega)
    have hm : Int.tmod (IntKind.wrap .u64 k) 2 = k % 2 := by
      rw [wrap64u, Int.tmod_eq_emod_of_nonneg (by omega)]; omega
    rw [hm, ht]
    refine ifB_intro (fun h1 => ?_) fun h1 => ?_
    · have h1 : k % 2 = 1 := by simpa using h1
      have e : IntKind.wrap .u64 (IntKind.wrap .u64 (upI k / 2) + 9223372036854775808) = codeI 5 k := by
        unfold In at hk
        rw [wrap64u, wrap64u]
        simp only [codeI]; simp [h1]; unfold upI; omega
      rw [e]; exact h
    · have h1 : ¬ k % 2 = 1 := by simpa using h1
      have e : IntKind.wrap .u64 (upI k / 2) = codeI 5 k := by
        unfold In at hk
        rw [wrap64u]
        simp only [codeI]; simp [h1]; unfold upI; omega
      rw [e]; exact h
  · refine ifB_f rfl (ifB_f rfl (ifB_f rfl (ifB_f rfl (ifB_f rfl (ifB_t rfl (do_call Tryz.call84 (c_rup hk (retS_ret ⟨_, rfl, ?_⟩))))))))
    obtain ⟨x, hx⟩ : ∃ x : Nat, upI k = (x : Int) := ⟨(upI k).toNat, by unfold upI In at *; omega⟩
    rw [hx]
    refine do_call Tryz.call86 (c_rturn (by unfold upI In at *; omega) (retS_ret ⟨_, rfl, ?_⟩))
    have e : ((x % 4294967296 * 4294967296 + x / 4294967296 : Nat) : Int) = codeI 6 k := by
      simp only [codeI]; simp; rw [hx]
    rw [e]; exact h
  · refine ifB_f rfl (ifB_f rfl (ifB_f rfl (ifB_f rfl (ifB_f rfl (ifB_f rfl ?_)))))
    rw [wrap_U]
    exact do_call Tryz.call87 (c_rmix (retS_ret ⟨_, rfl, h⟩))
theorem c_rcompare {o a b : Int} (ha : In a) (hb : In b) {w : World} {R : Ending → World → Prop} (h : R (.returned (.int .i64 (cmpI o a b))) w) :
    Calls Tryz.prog 10 #[.int .u8 o, .int .i64 a, .int .i64 b] w R := by
  refine sh10_ok _ _ _ ?_
  unfold sh10
  refine do_call Tryz.call20 (c_ris (retS_ret ⟨_, rfl, ?_⟩))
  cases hm : isO o
  · refine ifB_t rfl ?_
    have : cmpI o a b = 0 := by simp [isO] at hm; unfold cmpI; rw [if_neg (by omega)]
    exact this ▸ h
  · have hc : cmpI o a b = (if codeI o a < codeI o b then -1 else if codeI o b < codeI o a then 1 else 0) := by simp [isO] at hm; unfold cmpI; rw [if_pos hm]
    refine ifB_f rfl (do_call Tryz.call35 (c_rcode hm ha (retS_ret ⟨_, rfl, do_call Tryz.call35 (c_rcode hm hb (retS_ret ⟨_, rfl, ?_⟩))⟩)))
    refine ifB_intro (fun h1 => ?_) fun h1 => ?_
    · have h1 : codeI o a = codeI o b := by simpa using h1
      rw [hc, if_neg (by omega), if_neg (by omega)] at h; exact h
    · have h1 : ¬ codeI o a = codeI o b := by simpa using h1
      refine do_call Tryz.call35 (c_rcode hm ha (retS_ret ⟨_, rfl, do_call Tryz.call35 (c_rcode hm hb (retS_ret ⟨_, rfl, ?_⟩))⟩))
      refine ifB_intro (fun h2 => ?_) fun h2 => ?_
      · rw [hc, if_pos (of_decide_eq_true h2)] at h; exact h
      · have h2 := of_decide_eq_false h2
        rw [hc, if_neg h2, if_pos (by omega)] at h; exact h
end Go.Proofs.YtlfjaogbehpleaaGreat

namespace Go.Proofs.YtlfjaogbehpleaaGreat
open Go Go.Sh Go.RowKit

set_option maxRecDepth 100000 in
theorem elI : ElT Tryz.prog 28 2 (.int .i64 0) 1 8 := ⟨Tryz.underlying28, ⟨_, Tryz.type2, by kernel_rfl, by kernel_rfl, by kernel_rfl⟩, rfl, by omega⟩
def comb (p a b : Int) : Int := if p = 1 then a else if p = 2 then b else IntKind.wrap .i64 (a + b)
def may (p : Int) : Bool := p == 1 || p == 2 || p == 3
theorem may_cases {p : Int} (h : may p = true) : p = 1 ∨ p = 2 ∨ p = 3 := by simpa [may, or_assoc] using h
def fn (k : Nat) : Value := .agg #[.func (.func k) #[] #[]]
def kindEs : Array MapEntry := #[{ key := .int .u8 1, val := fn 227, born := 0 }, { key := .int .u8 2, val := fn 228, born := 1 }, { key := .int .u8 3, val := fn 229, born := 2 }]
theorem c_kinds {w : World} {R : Ending → World → Prop} (h : ∀ b w', Ext w w' → w'.heap[b]? = some (.map kindEs 3) → R (.returned (.map (some b))) w') : Calls Tryz.prog 147 #[] w R := by
  refine sh147_ok ?_
  unfold sh147
  refine ⟨?_⟩
  refine do_mu_new Tryz.underlying217 Tryz.underlying5 (heap_alloc_new w _) (by rfl) (by rfl) fun w3 h3 g3 => ?_
  refine do_mu_new Tryz.underlying217 Tryz.underlying5 h3 (by rfl) (by rfl) fun w4 h4 g4 => ?_
  refine do_mu_new Tryz.underlying217 Tryz.underlying5 h4 (by rfl) (by rfl) fun w5 h5 g5 => ?_
  have e := ext_alloc w (.map #[] 0)
  exact h _ _ (((e.grown g3 (by rintro _ ⟨⟩; exact Nat.le_refl _)).grown g4 (by rintro _ ⟨⟩; exact Nat.le_refl _)).grown g5 (by rintro _ ⟨⟩; exact Nat.le_refl _)) h5
/-- what the map holds at a policy -/
theorem find_kind {p : Int} (h : may p = true) : ∃ i k, Instr.findNow (.int .u8) (.int .u8 p) kindEs.toList 0 = some (some (i, fn k)) ∧
    ∀ (a b : Int) (w : World) (R : Ending → World → Prop), R (.returned (.int .i64 (comb p a b))) w → doCall Tryz.prog (.func (.func k) #[] #[]) #[.int .i64 a, .int .i64 b] w R := by
  rcases may_cases h with rfl | rfl | rfl
  · exact ⟨0, 227, rfl, fun a b w R h => do_call Tryz.call227 (sh227_ok _ _ h)⟩
  · exact ⟨1, 228, rfl, fun a b w R h => do_call Tryz.call228 (sh228_ok _ _ h)⟩
  · exact ⟨2, 229, rfl, fun a b w R h => do_call Tryz.call229 (sh229_ok _ _ h)⟩
theorem find_none {p : Int} (h : may p = false) : Instr.findNow (.int .u8) (.int .u8 p) kindEs.toList 0 = some none := by
  simp [may] at h
  obtain ⟨⟨h1, h2⟩, h3⟩ := h
  have e1 : (p == 1) = false := by simpa using h1
  have e2 : (p == 2) = false := by simpa using h2
  have e3 : (p == 3) = false := by simpa using h3
  simp [kindEs, Instr.findNow, Instr.sameNow, e1, e2, e3]
theorem c_fmay {p : Int} {w : World} {R : Ending → World → Prop} (h : ∀ w', Ext w w' → R (.returned (.bool (may p))) w') : Calls Tryz.prog 75 #[.int .u8 p] w R := by
  refine sh75_ok _ ?_
  unfold sh75
  refine do_call Tryz.call147 (c_kinds fun b w1 e1 hb => retS_ret ⟨_, rfl, ?_⟩)
  cases hm : may p
  · refine do_lk_miss Tryz.underlying217 Tryz.underlying5 hb (by rfl) (find_none hm) (z := .agg #[.nilFunc]) (by kernel_rfl) (.inr ⟨rfl, ⟨?_⟩⟩)
    refine ⟨⟨_, by rw [add_zero']; exact cell_alloc0 _ _ _⟩, by rw [add_zero']; exact frozen_alloc _ _ _ _, ?_⟩
    exact hm ▸ h _ ((e1.alloc _).set (by rw [add_block]; exact e1.size) _)
  · obtain ⟨i, k, hf, _⟩ := find_kind hm
    refine do_lk_hit Tryz.underlying217 Tryz.underlying5 hb (by rfl) hf (.inl ⟨_, _, _, _, rfl, ⟨?_⟩⟩)
    refine ⟨⟨_, by rw [add_zero']; exact cell_alloc0 _ _ _⟩, by rw [add_zero']; exact frozen_alloc _ _ _ _, ?_⟩
    exact hm ▸ h _ ((e1.alloc _).set (by rw [add_block]; exact e1.size) _)
theorem c_comb {p a b : Int} {w : World} {R : Ending → World → Prop} (h : ∀ w', Ext w w' → R (.returned (.tuple #[.int .i64 (cond (may p) (comb p a b) 0), .int .i64 (cond (may p) 0 2)])) w') :
    Calls Tryz.prog 78 #[.int .u8 p, .int .i64 a, .int .i64 b] w R := by
  refine sh78_ok _ _ _ ?_
  unfold sh78
  refine do_call Tryz.call147 (c_kinds fun b w1 e1 hb => retS_ret ⟨_, rfl, ?_⟩)
  cases hm : may p <;> simp only [hm] at h
  · refine do_lk_miss Tryz.underlying217 Tryz.underlying5 hb (by rfl) (find_none hm) (z := .agg #[.nilFunc]) (by kernel_rfl) (.inr ⟨rfl, ⟨?_⟩⟩)
    refine ⟨⟨_, by rw [add_zero']; exact cell_alloc0 _ _ _⟩, by rw [add_zero']; exact frozen_alloc _ _ _ _, ?_⟩
    exact h _ ((e1.alloc _).set (by rw [add_block]; exact e1.size) _)
  · obtain ⟨i, k, hf, hc⟩ := find_kind hm
    refine do_lk_hit Tryz.underlying217 Tryz.underlying5 hb (by rfl) hf (.inl ⟨_, _, _, _, rfl, ⟨?_⟩⟩)
    have hz := cell_alloc0 w1 .nilFunc 215
    rw [← add_zero' (blk _)] at hz
    refine ⟨⟨_, hz⟩, by rw [add_zero']; exact frozen_alloc _ _ _ _, ?_⟩
    refine ⟨_, _, _, World.cell?_setCell_same _ _ _ hz, hc _ _ _ _ (retS_ret ⟨_, rfl, ?_⟩)⟩
    exact h _ ((e1.alloc _).set (by rw [add_block]; exact e1.size) _)
/-! ### Sums -/
abbrev W64 (x : Int) : Int := IntKind.wrap .i64 x
def sumL (l : List Int) : Int := l.foldl (fun s x => W64 (s + x)) 0
def sumsL (l : List Int) : List Int := (List.range l.length).map fun i => sumL (l.take (i + 1))
@[simp] theorem sumsL_length (l : List Int) : (sumsL l).length = l.length := by simp [sumsL]
/-! ### The reference -/
end Go.Proofs.YtlfjaogbehpleaaGreat

namespace Go.Proofs.YtlfjaogbehpleaaGreat
open Go Go.Sh Go.RowKit

abbrev Pr := Int × Int
set_option maxRecDepth 100000 in
theorem elP : ElT Tryz.prog 22 63 (.agg #[.int .i64 0, .int .i64 0]) 2 16 := ⟨Tryz.underlying22, ⟨_, Tryz.type63, by kernel_rfl, by kernel_rfl, by kernel_rfl⟩, rfl, by omega⟩
def agP (x : Pr) : Value := .agg #[.int .i64 x.1, .int .i64 x.2]
def InP (l : List Pr) : Prop := ∀ x ∈ l, In x.1 ∧ In x.2
/-- is it a row, by an order? -/
def chain (o : Int) : List Pr → Bool
  | a :: b :: l => decide (cmpI o a.1 b.1 < 0) && chain o (b :: l)
  | _ => true
def mayR (o : Int) (l : List Pr) : Bool := isO o && chain o l

/-! ### two: each pair with the one ahead of it -/
def twoL (l : List Pr) : List (Array Value) := (l.zip l.tail).map fun (a, b) => #[agP a, agP b]
theorem twoL_get {l : List Pr} {i : Nat} (hi : i + 1 < l.length) : (twoL l)[i]? = some #[agP l[i], agP l[i + 1]] := by
  simp only [twoL, List.getElem?_map]
  have : (l.zip l.tail)[i]? = some (l[i], l[i + 1]) := List.getElem?_zip_eq_some.2 ⟨List.getElem?_eq_getElem (by omega), by rw [List.getElem?_tail]; exact List.getElem?_eq_getElem hi⟩
  rw [this]; rfl
theorem twoL_some {l : List Pr} {i : Nat} {x : Array Value} (h : (twoL l)[i]? = some x) : ∃ hi : i + 1 < l.length, x = #[agP (l[i]'(by omega)), agP l[i + 1]] := by
  have hlt := (List.getElem?_eq_some_iff.1 h).1
  have hi : i + 1 < l.length := by simp [twoL] at hlt; omega
  rw [twoL_get hi] at h
  exact ⟨hi, (Option.some.inj h).symm⟩
theorem c_two {q : Option Addr} {n c : Nat} {w : World} {R : Ending → World → Prop} (h : ∀ b w', Ext w w' → w.heap.size ≤ b → Blk w' b #[.slice q n c] 22 → R (.returned (.func (.func 123) #[] #[.pointer (some (blk b))])) w') :
    Calls Tryz.prog 63 #[.slice q n c] w R := by
  refine sh63_ok _ _ _ ?_
  unfold sh63
  exact ⟨h _ _ (ext_alloc _ _) (Nat.le_refl _) (blk_alloc _ _ _)⟩
theorem c_two1 {l : List Pr} {q : Option Addr} {n c b : Nat} {f : Fn} {fx fc : Array Value} {St : Nat → World → Prop} {Stop : World → Prop} {w : World} {R : Ending → World → Prop} (hn : l.length = n) (h63 : n ≤ 9223372036854775807)
    (hS : ∀ i w', St i w' → Blk w' b #[.slice q n c] 22 ∧ Cs w' q (prs l)) (hD : ∀ i w', St i w' → St i w'.drew) (hStop : ∀ w', Stop w' → Blk w' b #[.slice q n c] 22 ∧ Cs w' q (prs l))
    (hy : YieldsTo Tryz.prog (.func f fx fc) (twoL l) St Stop) (h0 : St 0 w) (hend : ∀ w', St (n - 1) w' → R (.returned (.tuple #[])) w') (hend' : ∀ w', Stop w' → R (.returned (.tuple #[])) w') :
    Calls Tryz.prog 123 #[.func f fx fc, .pointer (some (blk b))] w R := by
  refine sh123_ok _ _ _ _ ?_
  unfold sh123
  refine ⟨_, _, _, (hS 0 w h0).1.cell (i := 0) rfl rfl, fun vs w' => ∃ i : Nat, vs = [.int .i64 i] ∧ i ≤ n ∧ St (i - 1) w', fun vs _ => n - (intOf (vs.getD 0 undef)).toNat, ⟨0, rfl, by omega, h0⟩, ?_⟩
  rintro i j w1 ⟨m, hm, hmn, hs⟩
  simp only [List.cons.injEq, Value.int.injEq, true_and, and_true] at hm
  obtain rfl := hm
  refine ifB_intro (fun hlt => ?_) fun hge => ?_
  · have hlt : m < n := by have := of_decide_eq_true hlt; omega
    refine ⟨⟨fun w' => Blk w' b #[.slice q n c] 22 ∧ Cs w' q (prs l), hS _ _ (hD _ _ hs), ?_⟩⟩
    refine ifB_intro (fun hpos => ?_) fun hzero => ?_
    · have hpos : 0 < m := by have := of_decide_eq_true hpos; omega
      have e : IntKind.wrap .i64 ((m : Int) - 1) = ((m - 1 : Nat) : Int) := by rw [wrap_of (by omega) (by omega)]; omega
      refine ⟨_, _, _, fun w' hc => hc.1.cell (i := 0) rfl rfl, ?_⟩
      have hw := hS _ _ (hD _ _ hs)
      refine ix_prC (fun w' hc => hc.2) hw hn e (by omega) fun a1 r1 r2 => ⟨_, r1, _, r2, _, _, _, fun w' hc => hc.1.cell (i := 0) rfl rfl, ix_prC (fun w' hc => hc.2) hw hn rfl (by omega) fun a2 r3 r4 => ⟨_, r3, _, r4, ?_⟩⟩
      have hg := twoL_get (l := l) (i := m - 1) (by omega)
      simp only [show m - 1 + 1 = m by omega] at hg
      refine hy (m - 1) _ hg _ (hD _ _ hs) _ (fun w' hs' => retS_ret ⟨_, rfl, hS _ _ hs', ifB_f rfl ⟨⟨m + 1, by rw [wrap_succ hlt h63], by omega, by rw [show m - 1 + 1 = m + 1 - 1 by omega] at hs'; exact hs'⟩, ?_⟩⟩)
        fun w' hs' => retS_ret ⟨_, rfl, hStop _ hs', ifB_t rfl (hend' _ hs')⟩
      rw [wrap_succ hlt h63]
      simp [intOf]; omega
    · have hzero : m = 0 := by have := of_decide_eq_false hzero; omega
      subst hzero
      exact ⟨⟨1, by rw [wrap_succ hlt h63], by omega, hD _ _ hs⟩, by rw [wrap_succ hlt h63]; simp [intOf]; omega⟩
  · have hge : m = n := by have := of_decide_eq_false hge; omega
    subst hge
    exact hend _ hs

/-! ### May -/
theorem chain_cons {o : Int} {a b : Pr} {l : List Pr} : chain o (a :: b :: l) = (decide (cmpI o a.1 b.1 < 0) && chain o (b :: l)) := rfl
theorem chain_of {o : Int} : ∀ {l : List Pr}, (∀ i (h : i + 1 < l.length), cmpI o l[i].1 l[i + 1].1 < 0) → chain o l = true
  | [], _ => rfl
  | [_], _ => rfl
  | a :: b :: l, h => by
    rw [chain_cons, chain_of (l := b :: l) fun i hi => h (i + 1) (by simpa using hi)]
    simpa using h 0 (by simp)
theorem chain_get {o : Int} : ∀ {l : List Pr}, chain o l = true → ∀ i (h : i + 1 < l.length), cmpI o l[i].1 l[i + 1].1 < 0
  | [], _, i, h => by simp at h
  | [_], _, i, h => by simp at h
  | a :: b :: l, hc, i, h => by
    rw [chain_cons] at hc
    simp only [Bool.and_eq_true, decide_eq_true_eq] at hc
    cases i with
    | zero => exact hc.1
    | succ i => exact chain_get (l := b :: l) hc.2 i (by simpa using h)
set_option maxRecDepth 20000 in
theorem c_may {o : Int} {l : List Pr} {q : Option Addr} {n c : Nat} {w : World} {R : Ending → World → Prop} (hl : Cs w q (prs l)) (hn : l.length = n) (h63 : n ≤ 9223372036854775807) (hI : InP l)
    (h : ∀ w', Ext w w' → R (.returned (.bool (mayR o l))) w') : Calls Tryz.prog 25 #[.int .u8 o, .slice q n c] w R := by
  refine sh25_ok _ _ _ _ ?_
  unfold sh25
  refine ⟨⟨?_⟩⟩
  have e1 := ext_alloc w (.cells #[.int .u8 o] 5)
  have ho := blk_alloc w #[.int .u8 o] 5
  generalize hbo : w.heap.size = bo at *
  generalize w.alloc (.cells #[.int .u8 o] 5) = w1 at *
  have e2 := ext_alloc w1 (.cells #[.bool false] 4)
  have hr := blk_alloc w1 #[.bool false] 4
  have ho2 := ho.ext e2
  have hne1 : bo < w1.heap.size := ho.lt
  generalize hbr : w1.heap.size = br at *
  generalize w1.alloc (.cells #[.bool false] 4) = w2 at *
  have E2 := e1.trans e2
  refine do_call Tryz.call63 (c_two fun bt w3 e3 hbt ht => retS_ret ⟨_, _, _, rfl, do_rf fun fn L w4 d hd hL hst hpe e4 hd4 hl4 => ?_⟩)
  have ho3 := ho2.ext e3
  have hr3 := hr.ext e3
  have ho4 := ho3.ext e4
  have hr4 := hr3.ext e4
  have ht4 := ht.ext e4
  have hE4 := (E2.trans e3).trans e4
  have n1 : br < d := by rw [hd]; exact hr3.lt
  have n2 : bt < d := by rw [hd]; exact ht.lt
  have n3 : br < bt := Nat.lt_of_lt_of_le hr.lt hbt
  have hsz : bo ≤ br := by omega
  clear ho ho2 ho3 hr hr3 ht e1 e2 e3 e4 E2
  have hend : ∀ {w' : World} {b : Bool}, Ext w w' → Blk w' br #[.bool b] 4 → w'.heap[d]? = some (.deferred (some [])) → b = mayR o l →
      w'.heap[d]? = some (.deferred (some [])) ∧ (∃ x, World.cell? (w'.putObj d (.deferred none)) (blk br) = some (.bool x) ∧ R (.returned (.bool x)) (w'.putObj d (.deferred none))) := fun E hb hd' hb' => by
    refine ⟨hd', _, (hb.grown (put_grown _ d _) (ne_some (by omega))).cell (i := 0) rfl rfl, ?_⟩
    subst hb'
    exact h _ (E.put (by omega) _)
  refine callE_c Tryz.call123 (by rfl) (c_two1 (l := l) (q := q) (n := n) (c := c) (b := bt) hn h63
    (St := fun i w' => chain o (l.take (i + 1)) = true ∧ Ext w w' ∧ Blk w' bo #[.int .u8 o] 5 ∧ Blk w' br #[.bool false] 4 ∧ Blk w' bt #[.slice q n c] 22 ∧ w'.heap[d]? = some (.deferred (some [])) ∧ w'.heap[d + 1]? = some (.loop L))
    (Stop := fun w' => mayR o l = false ∧ Ext w w' ∧ Blk w' br #[.bool false] 4 ∧ Blk w' bt #[.slice q n c] 22 ∧ w'.heap[d]? = some (.deferred (some [])) ∧ w'.heap[d + 1]? = some (.loop { L with state := .done, pending := some .ret }))
    (fun i w' hs => ⟨hs.2.2.2.2.1, hl.ext hs.2.1⟩) (fun i w' hs => ⟨hs.1, hs.2.1.drew, hs.2.2⟩) (fun w' hs => ⟨hs.2.2.2.1, hl.ext hs.2.1⟩) ?_ ⟨?_, hE4, ho4, hr4, ht4, hd4, hl4⟩ ?_ ?_)
  · rintro i x hx w5 ⟨hc, E5, ho5, hr5, ht5, hd5, hl5⟩ R' hy hno
    obtain ⟨hi, rfl⟩ := twoL_some hx
    refine sh25_0_ok (by rw [hl5, hL]) ?_
    unfold sh25_0
    refine ⟨?_⟩
    have hd5' := (Array.getElem?_eq_some_iff.1 hl5).1
    refine do_st (blk_alloc w5 _ _) (i := 0) rfl (by simp) fun w6 h6 g6 => do_st h6 (i := 1) rfl (by simp) fun w7 h7 g7 => ⟨?_⟩
    have e7 : Ext w5 w7 := ((ext_alloc w5 _).st g6 (Nat.le_refl _)).st g7 (Nat.le_refl _)
    refine do_st (blk_alloc w7 _ _) (i := 0) rfl (by simp) fun w8 h8 g8 => do_st h8 (i := 1) rfl (by simp) fun w9 h9 g9 => ?_
    have e9 : Ext w7 w9 := ((ext_alloc w7 _).st g8 (Nat.le_refl _)).st g9 (Nat.le_refl _)
    have h79 := h7.ext e9
    have e59 := e7.trans e9
    refine ⟨_, e59.heap hl5, hst, ?_⟩
    have g10 := put_grown w9 (d + 1) (.loop { L with state := .busy })
    have hl10 := put_heap (o' := .loop { L with state := .busy }) (e59.heap hl5)
    have hsz5 : w5.heap.size ≤ w7.heap.size := e7.size
    have h7a := h79.grown g10 (ne_some (by omega))
    have h9a := h9.grown g10 (ne_some (by omega))
    have ho10 := (ho5.ext e59).grown g10 (ne_some (by omega))
    have hr10 := (hr5.ext e59).grown g10 (ne_some (by omega))
    have ht10 := (ht5.ext e59).grown g10 (ne_some (by omega))
    have hd10 := heap_grown g10 (e59.heap hd5) (ne_some (by omega))
    have E10 := (E5.trans e59).st g10 (by omega)
    generalize w9.putObj (d + 1) (.loop { L with state := .busy }) = w10 at hl10 h7a h9a ho10 hr10 ht10 hd10 E10 ⊢
    refine ⟨_, ho10.cell (i := 0) rfl rfl, _, h7a.cell (i := 0) rfl rfl, _, h9a.cell (i := 0) rfl rfl, ?_⟩
    refine do_call Tryz.call64 (c_compare (hI _ (List.getElem_mem _)).1 (hI _ (List.getElem_mem _)).1 fun w11 e11 => retS_ret ⟨_, rfl, ?_⟩)
    have hl11 := e11.heap hl10
    have hd11 := e11.heap hd10
    have E11 := E10.trans e11
    refine ifB_intro (fun h1 => ?_) fun h1 => ?_
    · have h1 := of_decide_eq_true h1
      refine do_st (hr10.ext e11) (i := 0) rfl (by simp) fun w12 h12 g12 => ?_
      have hl12 := heap_grown g12 hl11 (ne_some (by omega))
      refine ⟨_, hl12, hno _ ⟨?_, (E11.st g12 (by omega)).put (by omega) _, h12.grown (put_grown _ _ _) (ne_some (by omega)), ((ht10.ext e11).grown g12 (ne_some (by omega))).grown (put_grown _ _ _) (ne_some (by omega)),
        heap_grown (put_grown _ _ _) (heap_grown g12 hd11 (ne_some (by omega))) (ne_some (by omega)), put_heap hl12⟩⟩
      unfold mayR
      cases hch : chain o l
      · simp
      · have := chain_get hch i hi
        exact absurd h1 (by omega)
    · have h1 := of_decide_eq_false h1
      refine ⟨_, hl11, hy _ ?_⟩
      rw [rec_back hst hpe]
      refine ⟨?_, E11.put (by omega) _, (ho10.ext e11).grown (put_grown _ _ _) (ne_some (by omega)), (hr10.ext e11).grown (put_grown _ _ _) (ne_some (by omega)), (ht10.ext e11).grown (put_grown _ _ _) (ne_some (by omega)),
        heap_grown (put_grown _ _ _) hd11 (ne_some (by omega)), put_heap hl11⟩
      refine chain_of fun k hk => ?_
      simp only [List.length_take] at hk
      simp only [List.getElem_take]
      by_cases hki : k = i
      · subst hki; omega
      · have := chain_get hc k (by simp only [List.length_take]; omega)
        simpa only [List.getElem_take] using this
  · cases l with
    | nil => rfl
    | cons a l => rfl
  · rintro w5 ⟨hc, E5, ho5, hr5, ht5, hd5, hl5⟩
    refine rf_done hl5 (by rw [hst]; simp) hpe fun ob => ?_
    have gob := put_grown w5 (d + 1) ob
    refine ⟨_, (ho5.grown gob (ne_some (by omega))).cell (i := 0) rfl rfl, ?_⟩
    have hd5' := heap_grown gob hd5 (ne_some (by omega))
    have hr5' := hr5.grown gob (ne_some (by omega))
    have E5' := E5.put (l := d + 1) (by omega) ob
    refine do_call Tryz.call40 (c_name fun w6 e6 => retS_ret ⟨_, rfl, do_st (hr5'.ext e6) (i := 0) rfl (by simp) fun w7 h7 g7 => ?_⟩)
    rw [name_empty] at h7
    rw [← hd]
    refine hend ((E5'.trans e6).st g7 (by omega)) h7 (heap_grown g7 (e6.heap hd5') (ne_some (by omega))) ?_
    unfold mayR
    have : l.take (n - 1 + 1) = l := List.take_of_length_le (by omega)
    rw [this] at hc
    rw [hc]; simp
  · rintro w5 ⟨hc, E5, hr5, ht5, hd5, hl5⟩
    refine rf_ret hl5 (by simp) rfl fun ob => ?_
    have gob := put_grown w5 (d + 1) ob
    rw [← hd]
    exact hend (E5.put (l := d + 1) (by omega) ob) (hr5.grown gob (ne_some (by omega))) (heap_grown gob hd5 (ne_some (by omega))) hc.symm

/-! ### sort.Search, at, Find -/
theorem mid_eq {i j : Nat} (h : i < j) (hj : j ≤ 4611686018427387903) : IntKind.wrap .i64 (Int.fdiv (IntKind.wrap .u64 (IntKind.wrap .i64 ((i : Int) + (j : Int)))) (2 ^ (min (1 : Int).toNat (IntKind.bits .u64)))) = (((i + j) / 2 : Nat) : Int) := by
  have e2 : (2 : Int) ^ (min (1 : Int).toNat (IntKind.bits .u64)) = 2 := by decide
  rw [e2, wrap_of (x := (i : Int) + j) (by omega) (by omega), wrap64u, Int.fdiv_eq_ediv_of_nonneg _ (by omega), wrap_of (by omega) (by omega)]
  omega
theorem cmpI_trans {o a b c : Int} (h1 : cmpI o a b < 0) (h2 : cmpI o b c < 0) : cmpI o a c < 0 := by
  unfold cmpI at *
  split at h1
  · rename_i ho
    rw [if_pos ho] at h2 ⊢
    split at h1
    · split at h2
      · rw [if_pos (by omega)]; omega
      · split at h2 <;> omega
    · split at h1 <;> omega
  · omega
theorem chain_lt {o : Int} {l : List Pr} (h : chain o l = true) : ∀ {i j : Nat} (hij : i < j) (hj : j < l.length), cmpI o l[i].1 l[j].1 < 0 := by
  intro i j hij hj
  induction j with
  | zero => omega
  | succ j ih =>
    have h1 := chain_get h j hj
    rcases Nat.lt_or_ge i j with h2 | h2
    · exact cmpI_trans (ih h2 (by omega)) h1
    · have : i = j := by omega
      subst this; exact h1
/-- where a key belongs -/
def idxR (o : Int) (l : List Pr) (key : Int) : Nat := l.findIdx fun x => decide (0 ≤ cmpI o x.1 key)
theorem idxR_le (o : Int) (l : List Pr) (key : Int) : idxR o l key ≤ l.length := List.findIdx_le_length
theorem idxR_eq {o : Int} {l : List Pr} {key : Int} {r : Nat} (hr : r ≤ l.length) (h1 : ∀ i (h : i < l.length), i < r → cmpI o l[i].1 key < 0) (h2 : ∀ (h : r < l.length), 0 ≤ cmpI o l[r].1 key) : idxR o l key = r := by
  unfold idxR
  rcases Nat.lt_or_ge r l.length with hlt | hge
  · rw [List.findIdx_eq hlt]
    refine ⟨by simpa using h2 hlt, fun j hj => ?_⟩
    have := h1 j (by omega) hj
    simp; omega
  · have : r = l.length := by omega
    subst this
    rw [List.findIdx_eq_length]
    intro x hx
    obtain ⟨i, hi, rfl⟩ := List.getElem_of_mem hx
    have := h1 i hi hi
    simp; omega
theorem idxR_lt {o : Int} {l : List Pr} {key : Int} {i : Nat} (hi : i < idxR o l key) : ∃ h : i < l.length, cmpI o l[i].1 key < 0 := by
  have hl : i < l.length := Nat.lt_of_lt_of_le hi (idxR_le o l key)
  refine ⟨hl, ?_⟩
  have := List.not_of_lt_findIdx hi
  simp at this; omega
theorem idxR_ge {o : Int} {l : List Pr} {key : Int} (h : idxR o l key < l.length) : 0 ≤ cmpI o l[idxR o l key].1 key := by
  unfold idxR at h
  exact of_decide_eq_true (List.findIdx_getElem (w := h))
end Go.Proofs.YtlfjaogbehpleaaGreat

namespace Go.Sh
open Go Go.RowKit

theorem grown_refl (w : World) (r : Option Nat) : w.grownBy w r := ⟨rfl, rfl, rfl, Nat.le_refl _, fun _ _ _ => rfl⟩
theorem grown_trans {a b c : World} {r : Option Nat} (g : a.grownBy b r) (k : b.grownBy c r) : a.grownBy c r :=
  ⟨k.os.trans g.os, k.tape.trans g.tape, k.output.trans g.output, Nat.le_trans g.size k.size, fun i hi hr => by rw [k.block i (Nat.lt_of_lt_of_le hi g.size) hr, g.block i hi hr]⟩
theorem grown_drew (w : World) (r : Option Nat) : w.grownBy w.drew r := ⟨rfl, rfl, rfl, Nat.le_refl _, fun _ _ _ => rfl⟩
/-- append of any slice to a row of one's own -/
theorem do_app {P : Program} {t e : TypeId} {z : Value} {size bytes : Nat} (E : ElT P t e z size bytes) {base : Nat} {v : Value} {n : Nat} {xs : List Value} {w : World}
    (hown : w.ownsRow base e size v n xs) {q : Option Addr} {m c : Nat} {news : List Value} (hnews : Cs w q news) (hl : news.length = m * size) (h1 : ∀ u ∈ news, u.oneCell' = true)
    (h63 : n + m ≤ maxLen) (hbytes : (n + m) * bytes ≤ 140737488355328) (hbase : base ≤ w.heap.size) {bs : Array Bool} {R : Ending → World → Prop}
    (h : ∀ p c w', w'.ownsRow base e size (.slice p (n + m) c) (n + m) (xs ++ news) → w.grownBy w' v.ownBlock → R (.returned (.slice p (n + m) c)) w') :
    doGo P (.builtin .append #[t, t] t bs) #[v, .slice q m c] w R := by
  cases q with
  | some a => exact do_append E hown hnews hl h1 h63 hbytes hbase h
  | none =>
    have hcs : news = [] := by
      cases news with
      | nil => rfl
      | cons x xs => obtain ⟨a, ha, _⟩ := hnews 0 x rfl; cases ha
    subst hcs
    have hm : m = 0 := by
      simp only [List.length_nil] at hl
      rcases Nat.eq_zero_or_pos m with h0 | h0
      · exact h0
      · have := Nat.mul_pos h0 E.hs; omega
    subst hm
    obtain ⟨i, hi, _, _, _⟩ := E.hi
    obtain ⟨p, c', rfl⟩ := row_slice hown
    have hr := h p c' w
    simp only [Nat.add_zero, List.append_nil] at hr
    refine goV_append (v' := .slice p n c') (w' := w) ?_ (hr hown (grown_refl w _))
    have hnc := row_cap hown
    cases p <;> simp [Builtin.append_, run_underlying E.ht, sizeOf, typeInfo, hi, Builtin.lenOf, Builtin.firstCells, hnc, storeCells]
/-! ### Slices of structs -/
theorem flat_get {α : Type} {ec : α → List Value} {s : Nat} (hs : ∀ x, (ec x).length = s) {l : List α} {k j : Nat} (hk : k < l.length) (hj : j < s) : (l.flatMap ec)[k * s + j]? = (ec l[k])[j]? := by
  induction l generalizing k with
  | nil => simp at hk
  | cons x xs ih =>
    rw [List.flatMap_cons]
    cases k with
    | zero => rw [Nat.zero_mul, Nat.zero_add, List.getElem?_append_left (by rw [hs]; exact hj)]; rfl
    | succ k =>
      rw [List.getElem?_append_right (by rw [hs, Nat.add_mul]; omega), hs, show (k + 1) * s + j - s = k * s + j by rw [Nat.add_mul]; omega]
      exact ih (by simpa using hk)
theorem flat_length {α : Type} {ec : α → List Value} {s : Nat} (hs : ∀ x, (ec x).length = s) (l : List α) : (l.flatMap ec).length = l.length * s := by
  induction l with
  | nil => simp
  | cons x xs ih => rw [List.flatMap_cons, List.length_append, hs, ih, List.length_cons, Nat.add_mul]; omega
/-- An element of a slice of structs. -/
theorem ix_flat {α : Type} {ec : α → List Value} {s : Nat} (hs : ∀ x, (ec x).length = s) (h0 : 0 < s) {w : World} {p : Option Addr} {n : Nat} {i : Int} {l : List α} {K : Addr → Prop} (h : Cs w p (l.flatMap ec)) (hn : l.length = n) {k : Nat} (hk : i = (k : Int)) (h1 : k < n)
    (c : ∀ a : Addr, (∀ j v, (ec (l[k]'(by omega)))[j]? = some v → w.cell? (a.add j) = some v) → (∃ b, p = some b ∧ a = b.add (k * s)) → K a) : doIx p n s i K := by
  subst hk
  have hg : ∀ j v, (ec (l[k]'(by omega)))[j]? = some v → ∃ a, p = some a ∧ w.cell? (a.add (k * s + j)) = some v := fun j v hv => by
    have hj : j < s := by have := (List.getElem?_eq_some_iff.1 hv).1; rw [hs] at this; exact this
    exact h _ _ (by rw [flat_get hs (by omega) hj]; exact hv)
  obtain ⟨a, ha, _⟩ := hg 0 _ (List.getElem?_eq_getElem (by rw [hs]; exact h0))
  refine ⟨a, ha, by omega, by omega, ?_⟩
  rw [Int.toNat_natCast]
  refine c _ (fun j v hv => ?_) ⟨a, ha, rfl⟩
  obtain ⟨a', ha', hc⟩ := hg j v hv
  rw [ha] at ha'; cases ha'
  rw [add_add]; exact hc
/-- An element of a slice of structs, the same in all worlds of a class. -/
theorem ix_flatC {α : Type} {ec : α → List Value} {s : Nat} (hs : ∀ x, (ec x).length = s) (h0 : 0 < s) {C : World → Prop} {p : Option Addr} {n : Nat} {i : Int} {l : List α} {K : Addr → Prop} (h : ∀ w, C w → Cs w p (l.flatMap ec)) {w0 : World} (hw : C w0) (hn : l.length = n) {k : Nat} (hk : i = (k : Int)) (h1 : k < n)
    (c : ∀ a : Addr, (∀ w, C w → ∀ j v, (ec (l[k]'(by omega)))[j]? = some v → w.cell? (a.add j) = some v) → K a) : doIx p n s i K := by
  refine ix_flat hs h0 (h w0 hw) hn hk h1 fun a _ ⟨b, hb, hab⟩ => c a fun w hC j v hv => ?_
  have hj : j < s := by have := (List.getElem?_eq_some_iff.1 hv).1; rw [hs] at this; exact this
  obtain ⟨a', ha', hc⟩ := h w hC (k * s + j) v (by rw [flat_get hs (by omega) hj]; exact hv)
  rw [hb] at ha'; cases ha'
  rw [hab, add_add]; exact hc
end Go.Sh

namespace Go.Proofs.YtlfjaogbehpleaaGreat
open Go Go.Sh Go.RowKit

theorem getD_of {l : List Pr} {k : Nat} (h : k < l.length) : l.getD k (0, 0) = l[k] := by simp [h]
/-- does the key stand at its place? -/
def hasR (o : Int) (l : List Pr) (key : Int) : Bool := mayR o l && (match l[idxR o l key]? with | some x => x.1 == key | none => false)
/-- where the key stands, or would -/
def posR (o : Int) (l : List Pr) (key : Int) : Nat := cond (mayR o l) (idxR o l key) 0
theorem posR_le (o : Int) (l : List Pr) (key : Int) : posR o l key ≤ l.length := by
  unfold posR; cases mayR o l
  · simp
  · exact idxR_le _ _ _
theorem mayR_chain {o : Int} {l : List Pr} (h : mayR o l = true) : chain o l = true := by simp [mayR] at h; exact h.2
theorem hasR_may {o : Int} {l : List Pr} {key : Int} (h : hasR o l key = true) : mayR o l = true := by simp [hasR] at h; exact h.1
theorem hasR_lt {o : Int} {l : List Pr} {key : Int} (h : hasR o l key = true) : posR o l key < l.length := by
  have hm := hasR_may h
  simp only [hasR, hm, Bool.true_and] at h
  unfold posR; rw [hm]
  rcases Nat.lt_or_ge (idxR o l key) l.length with h' | h'
  · exact h'
  · rw [List.getElem?_eq_none h'] at h; cases h
theorem hasR_key {o : Int} {l : List Pr} {key : Int} (h : hasR o l key = true) : (l[posR o l key]'(hasR_lt h)).1 = key := by
  have hlt := hasR_lt h
  have hm := hasR_may h
  have hp : posR o l key = idxR o l key := by unfold posR; rw [hm]; rfl
  simp only [hasR, hm, Bool.true_and] at h
  simp only [hp] at hlt ⊢
  rw [List.getElem?_eq_getElem hlt] at h
  simpa using h
def getR (o : Int) (l : List Pr) (key : Int) : Int := cond (hasR o l key) (l.getD (posR o l key) (0, 0)).2 0
theorem do_st2 {w : World} {b : Nat} {u v x y : Value} {t : TypeId} (h : Blk w b #[u, v] t) {K : World → Prop} (k : ∀ w', Blk w' b #[x, y] t → w.grownBy w' (some b) → K w') :
    doSt ((blk b).add 0) x w fun w1 => doSt ((blk b).add 1) y w1 K :=
  do_st h (i := 0) rfl (by simp) fun _ h1 g1 => do_st h1 (i := 1) rfl (by simp) fun _ h2 g2 => k _ h2 (grown_trans g1 g2)
end Go.Proofs.YtlfjaogbehpleaaGreat

