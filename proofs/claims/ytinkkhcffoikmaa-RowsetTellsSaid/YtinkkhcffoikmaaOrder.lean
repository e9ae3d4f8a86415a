/-
  What the functions of mix and order do.
-/
import Derived.Test.YtinkkhcffoikmaaAll
import Derived.Test.YtinkkhcffoikmaaBt
namespace Go.Proofs.Ytinkkhcffoikmaa
open Go Go.Sh Go.RowKit

/-! ### mix.Mix: a range over a function -/
def stepsA : Array Value := #[.int .i64 30, .int .u64 13787848793156543929, .int .i64 27, .int .u64 10723151780598845931, .int .i64 31, .int .u64 1]
theorem c_all {w : World} {R : Ending → World → Prop} (h : ∀ w', Ext w w' → R (.returned (.agg stepsA)) w') : Calls Try.prog 169 #[] w R := by
  refine sh169_ok ?_
  unfold sh169
  refine ⟨?_⟩
  refine do_st (blk_alloc w _ _) (i := 0) rfl (by decide) fun w1 h1 g1 => ?_
  refine do_st h1 (i := 1) rfl (by decide) fun w2 h2 g2 => ?_
  refine do_st h2 (i := 2) rfl (by decide) fun w3 h3 g3 => ?_
  refine do_st h3 (i := 3) rfl (by decide) fun w4 h4 g4 => ?_
  refine do_st h4 (i := 4) rfl (by decide) fun w5 h5 g5 => ?_
  refine do_st h5 (i := 5) rfl (by decide) fun w6 h6 g6 => ?_
  refine ⟨_, h6.cell (i := 0) rfl rfl, _, h6.cell (i := 1) rfl rfl, _, h6.cell (i := 2) rfl rfl, _, h6.cell (i := 3) rfl rfl, _, h6.cell (i := 4) rfl rfl, _, h6.cell (i := 5) rfl rfl, ?_⟩
  have e := ext_alloc w (.cells #[.int .i64 0, .int .u64 0, .int .i64 0, .int .u64 0, .int .i64 0, .int .u64 0] 176)
  exact h _ ((((((e.st g1 (Nat.le_refl _)).st g2 (Nat.le_refl _)).st g3 (Nat.le_refl _)).st g4 (Nat.le_refl _)).st g5 (Nat.le_refl _)).st g6 (Nat.le_refl _))
theorem c_steps {back : Bool} {w : World} {R : Ending → World → Prop} (h : ∀ b1 b2 w', Ext w w' → w.heap.size ≤ b1 → w.heap.size ≤ b2 → b1 ≠ b2 → Blk w' b1 #[.bool back] 4 → Blk w' b2 stepsA 176 →
    R (.returned (.func (.func 170) #[] #[.pointer (some (blk b1)), .pointer (some (blk b2))])) w') : Calls Try.prog 165 #[.bool back] w R := by
  refine sh165_ok _ ?_
  unfold sh165
  refine ⟨?_⟩
  have hb := blk_alloc w #[.bool back] 4
  refine do_call Try.call169 (c_all fun w0 e0 => retS_ret ⟨_, _, _, _, _, _, rfl, ⟨?_⟩⟩)
  have E0 := (ext_alloc w (.cells #[.bool back] 4)).trans e0
  have hb0 := (hb.ext e0).ext (ext_alloc w0 (.cells #[.int .i64 0, .int .u64 0, .int .i64 0, .int .u64 0, .int .i64 0, .int .u64 0] 176))
  have hne : w.heap.size ≠ w0.heap.size := by have := (hb.ext e0).lt; omega
  have hle : w.heap.size ≤ w0.heap.size := by have := (hb.ext e0).lt; omega
  refine do_st (blk_alloc w0 _ _) (i := 0) rfl (by decide) fun w1 h1 g1 => ?_
  refine do_st h1 (i := 1) rfl (by decide) fun w2 h2 g2 => ?_
  refine do_st h2 (i := 2) rfl (by decide) fun w3 h3 g3 => ?_
  refine do_st h3 (i := 3) rfl (by decide) fun w4 h4 g4 => ?_
  refine do_st h4 (i := 4) rfl (by decide) fun w5 h5 g5 => ?_
  refine do_st h5 (i := 5) rfl (by decide) fun w6 h6 g6 => ?_
  have hb6 := (((((hb0.grown g1 (ne_some hne)).grown g2 (ne_some hne)).grown g3 (ne_some hne)).grown g4 (ne_some hne)).grown g5 (ne_some hne)).grown g6 (ne_some hne)
  have e := E0.alloc (.cells #[.int .i64 0, .int .u64 0, .int .i64 0, .int .u64 0, .int .i64 0, .int .u64 0] 176)
  exact h _ _ _ ((((((e.st g1 hle).st g2 hle).st g3 hle).st g4 hle).st g5 hle).st g6 hle) (Nat.le_refl _) hle hne hb6 h6
/-- a round of the mixing -/
def stepB (x : BitVec 64) : Nat → BitVec 64
  | 0 => xs 30 x * 13787848793156543929#64
  | 1 => xs 27 x * 10723151780598845931#64
  | _ => xs 31 x * 1#64
def stepsB (x : BitVec 64) : Nat → BitVec 64
  | 0 => x
  | i + 1 => stepB (stepsB x i) i
theorem stepsB_3 (x : BitVec 64) : stepsB x 3 = mixB x := by simp [stepsB, stepB, mixB]
set_option maxRecDepth 20000 in
theorem c_mix {x : BitVec 64} {w : World} {R : Ending → World → Prop} (h : ∀ w', Ext w w' → R (.returned (.int .u64 (U (mixB x)))) w') : Calls Try.prog 155 #[.int .u64 (U x)] w R := by
  refine sh155_ok _ ?_
  unfold sh155
  refine ⟨?_⟩
  have hx := blk_alloc w #[.int .u64 (U x)] 86
  refine do_call Try.call165 (c_steps fun b1 b2 w1 e1 hb1 hb2 hne h1 h2 => retS_ret ⟨_, _, _, rfl, ⟨fun fn => ?_⟩⟩)
  have hx1 := hx.ext e1
  have E1 := (ext_alloc w (.cells #[.int .u64 (U x)] 86)).trans e1
  have hd : (w1.alloc (.deferred (some []))).heap[w1.heap.size]? = some (.deferred (some [])) := heap_alloc_new _ _
  generalize hrec : mkLoop _ _ _ _ = L
  have hl : ((w1.alloc (.deferred (some []))).alloc (.loop (L fn w1.heap.size))).heap[w1.heap.size + 1]? = some (.loop (L fn w1.heap.size)) := by
    have := heap_alloc_new (w1.alloc (.deferred (some []))) (.loop (L fn w1.heap.size))
    simpa using this
  have e2 := (ext_alloc w1 (.deferred (some []))).trans (ext_alloc _ (.loop (L fn w1.heap.size)))
  have hd := (ext_alloc _ (.loop (L fn w1.heap.size))).heap hd
  have hE : w.heap.size < w1.heap.size := hx1.lt
  have hl1 := h1.lt
  have hl2 := h2.lt
  have hx2 := hx1.ext e2
  have h1 := h1.ext e2
  have h2 := h2.ext e2
  have E2 := E1.trans e2
  simp at hb1 hb2
  generalize (w1.alloc (.deferred (some []))).alloc (.loop (L fn w1.heap.size)) = w2 at hd hl hx2 h1 h2 E2 ⊢
  generalize hsz : w1.heap.size = d at *
  clear e1 hx1 e2 E1 hx
  have hst : (L fn d).state = .ready ∧ (L fn d).pending = none := by rw [← hrec]; exact ⟨rfl, rfl⟩
  refine callE_c Try.call170 (by rfl) (sh170_ok _ _ _ _ _ ?_)
  unfold sh170
  refine ⟨fun vs w' => ∃ i : Nat, vs = [.int .i64 i] ∧ i ≤ 3 ∧ Ext w w' ∧ w'.heap[d]? = some (.deferred (some [])) ∧ w'.heap[d + 1]? = some (.loop (L fn d)) ∧ Blk w' b1 #[.bool false] 4 ∧ Blk w' b2 stepsA 176 ∧
      Blk w' w.heap.size #[.int .u64 (U (stepsB x i))] 86, fun vs _ => 3 - (intOf (vs.getD 0 undef)).toNat, ⟨0, rfl, by omega, E2, hd, hl, h1, h2, hx2⟩, ?_⟩
  clear hd hl h1 h2 hx2 E2
  rintro i j w3 ⟨m, hm, hm3, E3, hd, hl, h1, h2, hx⟩
  simp only [List.cons.injEq, Value.int.injEq, true_and, and_true] at hm
  obtain rfl := hm
  refine ifB_intro (fun hlt => ?_) fun hge => ?_
  · have hlt : m < 3 := by have := of_decide_eq_true hlt; omega
    refine ⟨_, h1.cell (i := 0) rfl rfl, ifB_f rfl ?_⟩
    have hA : ∃ (s : Nat) (c : BitVec 64), stepsA[2 * m]? = some (.int .i64 s) ∧ stepsA[2 * m + 1]? = some (.int .u64 (U c)) ∧ s ≤ 64 ∧ stepsB x (m + 1) = xs s (stepsB x m) * c := by
      rcases m with _ | _ | _ | m
      · exact ⟨30, 13787848793156543929#64, rfl, rfl, by omega, rfl⟩
      · exact ⟨27, 10723151780598845931#64, rfl, rfl, by omega, rfl⟩
      · exact ⟨31, 1#64, rfl, rfl, by omega, rfl⟩
      · omega
    obtain ⟨s, c, hs, hc, hs64, hst'⟩ := hA
    have ha : ∀ k, ((blk b2).add ((m : Int).toNat * 2)).add k = ⟨b2, 2 * m + k, none⟩ := fun k => by rw [add_blk]; simp only [Addr.add]; split <;> simp <;> omega
    refine ⟨_, rfl, by omega, by omega, _, h2.cell (ha 0) hs, _, h2.cell (ha 1) hc, ?_⟩
    refine sh155_0_ok (by rw [hl, ← hrec]) ?_
    unfold sh155_0
    refine ⟨?_⟩
    have hw3 := hx.lt
    have hd3 := (Array.getElem?_eq_some_iff.1 hl).1
    refine do_st (blk_alloc w3 _ _) (i := 0) rfl (by simp) fun w5 h5 g5 => do_st h5 (i := 1) rfl (by simp) fun w6 h6 g6 => ?_
    have e6 : Ext w3 w6 := ((ext_alloc w3 _).st g5 (Nat.le_refl _)).st g6 (Nat.le_refl _)
    refine ⟨_, e6.heap hl, hst.1, ?_⟩
    have g7 := put_grown w6 (d + 1) (.loop { L fn d with state := .busy })
    have hl7 := put_heap (o' := .loop { L fn d with state := .busy }) (e6.heap hl)
    have hx7 := (hx.ext e6).grown g7 (ne_some (by omega))
    have h17 := (h1.ext e6).grown g7 (ne_some (by omega))
    have h27 := (h2.ext e6).grown g7 (ne_some (by omega))
    have hd7 := heap_grown g7 (e6.heap hd) (ne_some (by omega))
    have h67 := h6.grown g7 (ne_some (by omega))
    have E7 := (E3.trans e6).st g7 (by omega)
    generalize w6.putObj (d + 1) (.loop { L fn d with state := .busy }) = w7 at hl7 hx7 h17 h27 hd7 h67 E7 ⊢
    refine ⟨⟨fun w' => Ext w7 w', ext_drew _, ?_⟩⟩
    refine ⟨_, fun w' e' => (hx7.ext e').cell (i := 0) rfl rfl, _, fun w' e' => (hx7.ext e').cell (i := 0) rfl rfl, _, fun w' e' => (h67.ext e').cell (i := 0) rfl rfl, by omega, _, fun w' e' => (h67.ext e').cell (i := 1) rfl rfl, ?_⟩
    rw [shr_U _ s hs64, bXor_U, mul_U]
    refine do_st (w := w7.drew) (b := w.heap.size) hx7 (i := 0) rfl (by simp) fun w8 h8 g8 => ?_
    have hl8 := heap_grown (w := w7.drew) g8 hl7 (ne_some (by omega))
    refine ⟨_, hl8, ?_⟩
    rw [rec_back hst.1 hst.2]
    have g9 := put_grown w8 (d + 1) (.loop (L fn d))
    refine retS_ret ⟨_, rfl, ifB_f rfl ⟨⟨m + 1, by rw [wrap_succ hlt (by omega)], by omega, ?_, ?_, put_heap hl8, ?_, ?_, ?_⟩, ?_⟩⟩
    · exact (E7.drew.st g8 (Nat.le_refl _)).st g9 (by omega)
    · exact heap_grown g9 (heap_grown (w := w7.drew) g8 hd7 (ne_some (by omega))) (ne_some (by omega))
    · exact (Blk.grown (w := w7.drew) h17 g8 (ne_some (by omega))).grown g9 (ne_some (by omega))
    · exact (Blk.grown (w := w7.drew) h27 g8 (ne_some (by omega))).grown g9 (ne_some (by omega))
    · have : stepsB x (m + 1) = (xs s (stepsB x m)) * c := hst'
      rw [this]
      exact h8.grown g9 (ne_some (by omega))
    · rw [wrap_succ hlt (by omega)]
      simp [intOf]; omega
  · have hge : m = 3 := by have := of_decide_eq_false hge; omega
    subst hge
    rw [← stepsB_3] at h
    have hd3 := (Array.getElem?_eq_some_iff.1 hl).1
    refine rf_done hl (by rw [hst.1]; simp) hst.2 fun o => ?_
    have g9 := put_grown w3 (d + 1) o
    exact ⟨_, (hx.grown g9 (ne_some (by omega))).cell (i := 0) rfl rfl, heap_grown g9 hd (ne_some (by omega)), h _ ((E3.st g9 (by omega)).put (by omega) _)⟩

/-! ### bits -/
theorem c_revBytes {x : BitVec 64} {w : World} {R : Ending → World → Prop} (h : R (.returned (.int .u64 (U (revBytes x)))) w) : Calls Try.prog 168 #[.int .u64 (U x)] w R := by
  refine sh168_ok _ ?_
  unfold sh168
  refine ⟨by omega, by omega, by omega, by omega, by omega, by omega, ?_⟩
  simp only [shr_8, shr_16, shr_32, and_d, and_e, shl_8, shl_16, shl_32, bOr_U]
  exact h
theorem c_rev64 {x : BitVec 64} {w : World} {R : Ending → World → Prop} (h : R (.returned (.int .u64 (U (revB x)))) w) : Calls Try.prog 163 #[.int .u64 (U x)] w R := by
  refine sh163_ok _ ?_
  unfold sh163
  refine ⟨by omega, by omega, by omega, by omega, by omega, by omega, ?_⟩
  simp only [shr_1, shr_2, shr_4, and_a, and_b, and_c, shl_1, shl_2, shl_4, bOr_U]
  exact do_call Try.call168 (c_revBytes (retS_ret ⟨_, rfl, h⟩))
theorem c_flip {x : BitVec 64} {w : World} {R : Ending → World → Prop} (h : R (.returned (.int .u64 (U (revB x)))) w) : Calls Try.prog 147 #[.int .u64 (U x)] w R := by
  refine sh147_ok _ ?_
  unfold sh147
  exact do_call Try.call163 (c_rev64 (retS_ret ⟨_, rfl, h⟩))
theorem c_rotl {x : BitVec 64} {k : Int} {s : Nat} (hs : s < 64) (hk : bAnd .u64 (IntKind.wrap .u64 k) 63 = (s : Int)) {w : World} {R : Ending → World → Prop}
    (h : R (.returned (.int .u64 (U ((x <<< s) ||| (x >>> (64 - s)))))) w) : Calls Try.prog 164 #[.int .u64 (U x), .int .i64 k] w R := by
  refine sh164_ok _ _ ?_
  unfold sh164
  have e : IntKind.wrap .u64 (64 - (s : Int)) = ((64 - s : Nat) : Int) := by rw [wrap64u]; omega
  rw [hk, e]
  refine ⟨by omega, by omega, ?_⟩
  rw [shl_U x s (by omega), shr_U x (64 - s) (by omega), bOr_U]
  exact h
theorem c_turn {x : BitVec 64} {n : Int} {s : Nat} (hs : s < 64) (hk : bAnd .u64 (IntKind.wrap .u64 (Int.tmod n 64)) 63 = (s : Int)) {w : World} {R : Ending → World → Prop}
    (h : R (.returned (.int .u64 (U ((x <<< s) ||| (x >>> (64 - s)))))) w) : Calls Try.prog 150 #[.int .u64 (U x), .int .i64 n] w R := by
  refine sh150_ok _ _ ?_
  unfold sh150
  exact ⟨by omega, do_call Try.call164 (c_rotl hs hk (retS_ret ⟨_, rfl, h⟩))⟩

/-! ### the codes -/
theorem c_up {k : Int} (hk : In k) {w : World} {R : Ending → World → Prop} (h : R (.returned (.int .u64 (upI k))) w) : Calls Try.prog 140 #[.int .i64 k] w R := by
  refine sh140_ok _ ?_
  unfold sh140
  rw [upB_U hk]
  exact h
theorem up_U {k : Int} (hk : In k) : upI k = U (BitVec.ofInt 64 (upI k)) := by
  rw [U_ofInt]; unfold upI In at *; omega
def kd (nm : ByteArray) (f g : Nat) : Value := .agg #[.string nm, .func (.func f) #[] #[], .func (.func g) #[] #[]]
def orderEs : Array MapEntry := #[
  { key := .int .u8 1, val := kd ⟨#[117, 112]⟩ 140 141, born := 0 },
  { key := .int .u8 2, val := kd ⟨#[100, 111, 119, 110]⟩ 142 143, born := 1 },
  { key := .int .u8 3, val := kd ⟨#[115, 105, 122, 101]⟩ 144 145, born := 2 },
  { key := .int .u8 4, val := kd ⟨#[98, 105, 116, 115]⟩ 146 148, born := 3 },
  { key := .int .u8 5, val := kd ⟨#[101, 118, 101, 110]⟩ 149 151, born := 4 },
  { key := .int .u8 6, val := kd ⟨#[108, 111, 119]⟩ 152 153, born := 5 },
  { key := .int .u8 7, val := kd ⟨#[109, 105, 120]⟩ 154 156, born := 6 }]
theorem c_okinds {w : World} {R : Ending → World → Prop} (h : ∀ b w', Ext w w' → w'.heap[b]? = some (.map orderEs 7) → R (.returned (.map (some b))) w') : Calls Try.prog 126 #[] w R := by
  refine sh126_ok ?_
  unfold sh126
  refine ⟨?_⟩
  refine do_mu_new Try.underlying154 Try.underlying5 (heap_alloc_new w _) (by rfl) (by rfl) fun w1 h1 g1 => ?_
  refine do_mu_new Try.underlying154 Try.underlying5 h1 (by rfl) (by rfl) fun w2 h2 g2 => ?_
  refine do_mu_new Try.underlying154 Try.underlying5 h2 (by rfl) (by rfl) fun w3 h3 g3 => ?_
  refine do_mu_new Try.underlying154 Try.underlying5 h3 (by rfl) (by rfl) fun w4 h4 g4 => ?_
  refine do_mu_new Try.underlying154 Try.underlying5 h4 (by rfl) (by rfl) fun w5 h5 g5 => ?_
  refine do_mu_new Try.underlying154 Try.underlying5 h5 (by rfl) (by rfl) fun w6 h6 g6 => ?_
  refine do_mu_new Try.underlying154 Try.underlying5 h6 (by rfl) (by rfl) fun w7 h7 g7 => ?_
  have e := ext_alloc w (.map #[] 0)
  exact h _ _ (((((((e.st g1 (Nat.le_refl _)).st g2 (Nat.le_refl _)).st g3 (Nat.le_refl _)).st g4 (Nat.le_refl _)).st g5 (Nat.le_refl _)).st g6 (Nat.le_refl _)).st g7 (Nat.le_refl _)) h7
theorem find_order {o : Int} (h : isO o = true) : ∃ i f g, Instr.findNow (.int .u8) (.int .u8 o) orderEs.toList 0 = some (some (i, kd (nameB o) f g)) ∧
    ∀ (k : Int), In k → ∀ (w : World) (R : Ending → World → Prop), (∀ w', Ext w w' → R (.returned (.int .u64 (codeI o k))) w') → doCall Try.prog (.func (.func f) #[] #[]) #[.int .i64 k] w R := by
  rcases isO_cases h with rfl | rfl | rfl | rfl | rfl | rfl | rfl
  · exact ⟨0, 140, 141, rfl, fun k hk w R h => do_call Try.call140 (c_up hk (h _ (ext_refl _)))⟩
  · refine ⟨1, 142, 143, rfl, fun k hk w R h => do_call Try.call142 (sh142_ok _ ?_)⟩
    unfold sh142
    refine do_call Try.call140 (c_up hk (retS_ret ⟨_, rfl, ?_⟩))
    rw [not_U (by unfold upI In at *; omega) (by unfold upI In at *; omega)]
    exact h _ (ext_refl _)
  · refine ⟨2, 144, 145, rfl, fun k hk w R h => do_call Try.call144 (sh144_ok _ ?_)⟩
    unfold sh144
    refine ⟨by omega, by omega, ?_⟩
    rw [size_U hk]
    exact h _ (ext_refl _)
  · refine ⟨3, 146, 148, rfl, fun k hk w R h => do_call Try.call146 (sh146_ok _ ?_)⟩
    unfold sh146
    rw [wrap_U]
    exact do_call Try.call147 (c_flip (retS_ret ⟨_, rfl, h _ (ext_refl _)⟩))
  · refine ⟨4, 149, 151, rfl, fun k hk w R h => do_call Try.call149 (sh149_ok _ ?_)⟩
    unfold sh149
    refine do_call Try.call140 (c_up hk (retS_ret ⟨_, rfl, ?_⟩))
    have hu := up_U hk
    rw [hu]
    refine do_call Try.call150 (c_turn (s := 63) (by omega) (by decide) (retS_ret ⟨_, rfl, ?_⟩))
    have := h _ (ext_refl _)
    have e : U ((BitVec.ofInt 64 (upI k)) <<< 63 ||| (BitVec.ofInt 64 (upI k)) >>> (64 - 63)) = codeI 5 k := by
      rw [rot_U _ (by omega) (by omega)]
      have hn : ((BitVec.ofInt 64 (upI k)).toNat : Int) = upI k := hu.symm
      simp only [codeI]
      simp
      unfold upI In at *
      split <;> omega
    rw [e]; exact this
  · refine ⟨5, 152, 153, rfl, fun k hk w R h => do_call Try.call152 (sh152_ok _ ?_)⟩
    unfold sh152
    refine do_call Try.call140 (c_up hk (retS_ret ⟨_, rfl, ?_⟩))
    have hu := up_U hk
    rw [hu]
    refine do_call Try.call150 (c_turn (s := 32) (by omega) (by decide) (retS_ret ⟨_, rfl, ?_⟩))
    have := h _ (ext_refl _)
    have e : U ((BitVec.ofInt 64 (upI k)) <<< 32 ||| (BitVec.ofInt 64 (upI k)) >>> (64 - 32)) = codeI 6 k := by
      rw [rot_U _ (by omega) (by omega)]
      have hn : ((BitVec.ofInt 64 (upI k)).toNat : Int) = upI k := hu.symm
      simp only [codeI]
      simp
      unfold upI In at *
      omega
    rw [e]; exact this
  · refine ⟨6, 154, 156, rfl, fun k hk w R h => do_call Try.call154 (sh154_ok _ ?_)⟩
    unfold sh154
    rw [wrap_U]
    exact do_call Try.call155 (c_mix fun w' e => retS_ret ⟨_, rfl, h _ e⟩)
theorem find_order_none {o : Int} (h : isO o = false) : Instr.findNow (.int .u8) (.int .u8 o) orderEs.toList 0 = some none := by
  have hn : ∀ i : Int, 1 ≤ i → i ≤ 7 → (o == i) = false := fun i h1 h2 => by
    simp [isO] at h
    simp; omega
  simp [orderEs, Instr.findNow, Instr.sameNow, hn]
theorem c_name {o : Int} {w : World} {R : Ending → World → Prop} (h : ∀ w', Ext w w' → R (.returned (.string (nameB o))) w') : Calls Try.prog 94 #[.int .u8 o] w R := by
  refine sh94_ok _ ?_
  unfold sh94
  refine do_call Try.call126 (c_okinds fun b w1 e1 hb => retS_ret ⟨_, rfl, ?_⟩)
  cases hm : isO o
  · refine do_lk1_miss Try.underlying154 Try.underlying5 hb (by rfl) (find_order_none hm) (z := .agg #[.string ⟨#[]⟩, .nilFunc, .nilFunc]) (by kernel_rfl) (.inr ⟨rfl, ?_⟩)
    have : nameB o = ⟨#[]⟩ := by
      simp [isO] at hm
      unfold nameB
      rw [if_neg (by omega), if_neg (by omega), if_neg (by omega), if_neg (by omega), if_neg (by omega), if_neg (by omega), if_neg (by omega)]
    exact this ▸ h _ e1
  · obtain ⟨i, f, g, hf, hc⟩ := find_order hm
    exact do_lk1_hit Try.underlying154 Try.underlying5 hb (by rfl) hf (.inl ⟨_, _, _, _, _, _, _, rfl, h _ e1⟩)
theorem c_code {o k : Int} (hk : In k) {w : World} {R : Ending → World → Prop} (h : ∀ w', Ext w w' → R (.returned (.tuple #[.int .u64 (cond (isO o) (codeI o k) 0), .int .i64 (cond (isO o) 0 2)])) w') :
    Calls Try.prog 124 #[.int .u8 o, .int .i64 k] w R := by
  refine sh124_ok _ _ ?_
  unfold sh124
  refine do_call Try.call126 (c_okinds fun b w1 e1 hb => retS_ret ⟨_, rfl, ?_⟩)
  cases hm : isO o <;> simp only [hm] at h
  · refine do_lk_miss Try.underlying154 Try.underlying5 hb (by rfl) (find_order_none hm) (z := .agg #[.string ⟨#[]⟩, .nilFunc, .nilFunc]) (by kernel_rfl) (.inr ⟨rfl, ⟨?_⟩⟩)
    refine do_st (blk_alloc w1 _ _) (i := 0) rfl (by simp) fun w2 h2 g2 => do_st h2 (i := 1) rfl (by simp) fun w3 h3 g3 => do_st h3 (i := 2) rfl (by simp) fun w4 h4 g4 => ?_
    exact h _ ((((e1.alloc _).st g2 e1.size).st g3 e1.size).st g4 e1.size)
  · obtain ⟨i, f, g, hf, hc⟩ := find_order hm
    refine do_lk_hit Try.underlying154 Try.underlying5 hb (by rfl) hf (.inl ⟨_, _, _, _, _, _, _, _, rfl, ⟨?_⟩⟩)
    refine do_st (blk_alloc w1 _ _) (i := 0) rfl (by simp) fun w2 h2 g2 => do_st h2 (i := 1) rfl (by simp) fun w3 h3 g3 => do_st h3 (i := 2) rfl (by simp) fun w4 h4 g4 => ?_
    have E4 := (((e1.alloc (.cells #[.string ⟨#[]⟩, .nilFunc, .nilFunc] 153)).st g2 e1.size).st g3 e1.size).st g4 e1.size
    exact ⟨_, _, _, h4.cell (i := 1) rfl rfl, hc k hk _ _ fun w5 e5 => retS_ret ⟨_, rfl, h _ (E4.trans e5)⟩⟩
theorem c_cmp64 {x y : Int} {w : World} {R : Ending → World → Prop} (h : R (.returned (.int .i64 (if x < y then -1 else if y < x then 1 else 0))) w) : Calls Try.prog 125 #[.int .u64 x, .int .u64 y] w R := by
  have nan : ∀ x : Int, ∀ {w : World} {R : Ending → World → Prop}, R (.returned (.bool false)) w → Calls Try.prog 139 #[.int .u64 x] w R := fun x w R h => sh139_ok _ (by
    unfold sh139
    rw [show (x != x) = false by simp]; exact h)
  refine sh125_ok _ _ ?_
  unfold sh125
  refine do_call Try.call139 (nan _ (retS_ret ⟨_, rfl, do_call Try.call139 (nan _ (retS_ret ⟨_, rfl, ifB_f rfl (ifB_f rfl ?_)⟩))⟩))
  refine ifB_intro (fun h1 => ?_) fun h1 => ifB_intro (fun h2 => ?_) fun h2 => ?_
  · rw [if_pos (of_decide_eq_true h1)] at h; exact h
  · rw [if_neg (of_decide_eq_false h1), if_pos (of_decide_eq_true h2)] at h; exact h
  · rw [if_neg (of_decide_eq_false h1), if_neg (of_decide_eq_false h2)] at h; exact h
theorem c_compare {o a b : Int} (ha : In a) (hb : In b) {w : World} {R : Ending → World → Prop} (h : ∀ w', Ext w w' → R (.returned (.int .i64 (cmpI o a b))) w') :
    Calls Try.prog 93 #[.int .u8 o, .int .i64 a, .int .i64 b] w R := by
  refine sh93_ok _ _ _ ?_
  unfold sh93
  refine do_call Try.call124 (c_code ha fun w1 e1 => retS_ret ⟨_, _, rfl, do_call Try.call124 (c_code hb fun w2 e2 => retS_ret ⟨_, _, rfl, ?_⟩)⟩)
  cases hm : isO o
  · refine ifB_t rfl ?_
    have : cmpI o a b = 0 := by simp [isO] at hm; unfold cmpI; rw [if_neg (by omega)]
    exact this ▸ h _ (e1.trans e2)
  · have : cmpI o a b = (if codeI o a < codeI o b then -1 else if codeI o b < codeI o a then 1 else 0) := by simp [isO] at hm; unfold cmpI; rw [if_pos hm]
    exact ifB_f rfl (do_call Try.call125 (c_cmp64 (retS_ret ⟨_, rfl, this ▸ h _ (e1.trans e2)⟩)))

/-! ### the reference -/
theorem c_ris {o : Int} {w : World} {R : Ending → World → Prop} (h : R (.returned (.bool (isO o))) w) : Calls Try.prog 75 #[.int .u8 o] w R := by
  refine sh75_ok _ ?_
  unfold sh75
  unfold isO at h
  refine ifB_intro (fun h1 => ?_) fun h1 => ?_
  · have h1 : 1 ≤ o := by simpa using h1
    simpa [h1] using h
  · have h1 : ¬ 1 ≤ o := by simpa using h1
    simpa [h1] using h
theorem c_rup {k : Int} (hk : In k) {w : World} {R : Ending → World → Prop} (h : R (.returned (.int .u64 (upI k))) w) : Calls Try.prog 127 #[.int .i64 k] w R := by
  refine sh127_ok _ ?_
  unfold sh127
  rw [upR_U hk]
  exact h
theorem c_rflip {x : BitVec 64} {w : World} {R : Ending → World → Prop} (h : R (.returned (.int .u64 (U (revB x)))) w) : Calls Try.prog 128 #[.int .u64 (U x)] w R := by
  refine sh128_ok _ ?_
  unfold sh128
  refine ⟨fun vs w' => ∃ (i : Nat) (a b : BitVec 64), vs = [.int .u64 (U a), .int .u64 (U b), .int .i64 i] ∧ i ≤ 64 ∧ FlipI x i a b ∧ w' = w, fun vs _ => 64 - (intOf (vs.getD 2 undef)).toNat,
    ⟨0, x, 0#64, rfl, by omega, flipI_init x, rfl⟩, ?_⟩
  rintro a b i j w3 ⟨m, a', b', hv, hm, hf, rfl⟩
  simp only [List.cons.injEq, Value.int.injEq, true_and, and_true] at hv
  obtain ⟨rfl, rfl, rfl⟩ := hv
  refine ifB_intro (fun h1 => ?_) fun h1 => ?_
  · have h1 : m < 64 := by have := of_decide_eq_true h1; omega
    refine ⟨by omega, by omega, ?_⟩
    rw [tdiv2_U, tmod2_U, mul2_U, add_U, wrap_succ h1 (by omega)]
    exact ⟨⟨m + 1, _, _, rfl, by omega, flipI_step h1 hf, rfl⟩, by simp [intOf]; omega⟩
  · have h1 : m = 64 := by have := of_decide_eq_false h1; omega
    subst h1
    rw [rev_eq (flipI_rev hf) (revB_rev x)]
    exact h
theorem c_rturn {x : Nat} (hx : x < 18446744073709551616) {w : World} {R : Ending → World → Prop} (h : R (.returned (.int .u64 ((x % 4294967296 * 4294967296 + x / 4294967296 : Nat) : Int))) w) : Calls Try.prog 129 #[.int .u64 (x : Int), .int .i64 32] w R := by
  refine sh129_ok _ _ ?_
  unfold sh129
  rw [← turnY_64 hx] at h
  refine ⟨by omega, by omega, fun vs w' => ∃ i : Nat, vs = [.int .u64 ((turnY x i : Nat) : Int), .int .i64 i] ∧ i ≤ 64 ∧ w' = w, fun vs _ => 64 - (intOf (vs.getD 1 undef)).toNat,
    ⟨0, by simp [turnY, Nat.mod_one], by omega, rfl⟩, ?_⟩
  rintro y i j w3 ⟨m, hv, hm, rfl⟩
  simp only [List.cons.injEq, Value.int.injEq, true_and, and_true] at hv
  obtain ⟨rfl, rfl⟩ := hv
  refine ifB_intro (fun h1 => ?_) fun h1 => ?_
  · have h1 : m < 64 := by have := of_decide_eq_true h1; omega
    have e1 : Int.tmod (IntKind.wrap .i64 (Int.tmod 32 64 + 64)) 64 = 32 := by decide
    have e2 : IntKind.wrap .i64 ((m : Int) + 32) = ((m + 32 : Nat) : Int) := by rw [wrap_of (by omega) (by omega)]; simp
    have e3 : IntKind.wrap .u64 (Int.tmod ((m + 32 : Nat) : Int) 64) = (((m + 32) % 64 : Nat) : Int) := by
      rw [wrap64u, Int.tmod_eq_emod_of_nonneg (by omega)]; omega
    have e4 : IntKind.wrap .u64 (m : Int) = (m : Int) := by rw [wrap64u]; omega
    rw [e1, e2, e3, e4, wrap_succ h1 (by omega)]
    refine ⟨by omega, by omega, by omega, by omega, ?_⟩
    have e5 : Int.fdiv (x : Int) (2 ^ (min ((m : Nat) : Int).toNat (IntKind.bits .u64))) = ((x / 2 ^ m : Nat) : Int) := by
      rw [bits_u64, Int.toNat_natCast, Nat.min_eq_left (by omega), Int.fdiv_eq_ediv_of_nonneg _ (Int.pow_nonneg (by omega))]
      simp
    have e6 : Int.tmod ((x / 2 ^ m : Nat) : Int) 2 = ((x / 2 ^ m % 2 : Nat) : Int) := by
      generalize x / 2 ^ m = q
      rw [Int.tmod_eq_emod_of_nonneg (by omega)]; omega
    have hlt : x / 2 ^ m % 2 * 2 ^ ((m + 32) % 64) < 18446744073709551616 := by
      have h2 : x / 2 ^ m % 2 ≤ 1 := by omega
      have h3 : 2 ^ ((m + 32) % 64) ≤ 2 ^ 63 := Nat.pow_le_pow_right (by omega) (by omega)
      have := Nat.mul_le_mul h2 h3
      omega
    have e7 : IntKind.wrap .u64 (((x / 2 ^ m % 2 : Nat) : Int) * 2 ^ (min (((m + 32) % 64 : Nat) : Int).toNat (IntKind.bits .u64))) = ((x / 2 ^ m % 2 * 2 ^ ((m + 32) % 64) : Nat) : Int) := by
      rw [bits_u64, Int.toNat_natCast, Nat.min_eq_left (by omega), wrap64u]
      have : (((x / 2 ^ m % 2 : Nat) : Int) * 2 ^ ((m + 32) % 64)) = ((x / 2 ^ m % 2 * 2 ^ ((m + 32) % 64) : Nat) : Int) := by simp
      rw [this]
      generalize x / 2 ^ m % 2 * 2 ^ ((m + 32) % 64) = q at hlt ⊢
      omega
    have e8 : IntKind.wrap .u64 (((turnY x m : Nat) : Int) + ((x / 2 ^ m % 2 * 2 ^ ((m + 32) % 64) : Nat) : Int)) = ((turnY x (m + 1) : Nat) : Int) := by
      have h2 := turnY_step (x := x) h1
      have h3 := turnY_lt hx (show m + 1 ≤ 64 by omega)
      rw [h2] at h3 ⊢
      rw [wrap64u]
      generalize x / 2 ^ m % 2 * 2 ^ ((m + 32) % 64) = q at h3 ⊢
      omega
    rw [e5, e6, e7, e8]
    exact ⟨⟨m + 1, rfl, by omega, rfl⟩, by simp [intOf]; omega⟩
  · have h1 : m = 64 := by have := of_decide_eq_false h1; omega
    subst h1
    exact h
theorem c_rmix {x : BitVec 64} {w : World} {R : Ending → World → Prop} (h : R (.returned (.int .u64 (U (mixB x)))) w) : Calls Try.prog 130 #[.int .u64 (U x)] w R := by
  refine sh130_ok _ ?_
  unfold sh130
  refine ⟨by omega, by omega, by omega, ?_⟩
  have d1 : ∀ x : BitVec 64, IntKind.wrap .u64 (Int.tdiv (U x) 1073741824) = U (x >>> 30) := fun x => tdiv_U x 30
  have d2 : ∀ x : BitVec 64, IntKind.wrap .u64 (Int.tdiv (U x) 134217728) = U (x >>> 27) := fun x => tdiv_U x 27
  have d3 : ∀ x : BitVec 64, IntKind.wrap .u64 (Int.tdiv (U x) 2147483648) = U (x >>> 31) := fun x => tdiv_U x 31
  have m1 : ∀ x : BitVec 64, IntKind.wrap .u64 (U x * 13787848793156543929) = U (x * 13787848793156543929#64) := fun x => mul_U x 13787848793156543929#64
  have m2 : ∀ x : BitVec 64, IntKind.wrap .u64 (U x * 10723151780598845931) = U (x * 10723151780598845931#64) := fun x => mul_U x 10723151780598845931#64
  simp only [d1, bXor_U, m1, d2, m2, d3]
  exact h
theorem c_rcode {o k : Int} (ho : isO o = true) (hk : In k) {w : World} {R : Ending → World → Prop} (h : R (.returned (.int .u64 (codeI o k))) w) : Calls Try.prog 95 #[.int .u8 o, .int .i64 k] w R := by
  refine sh95_ok _ _ ?_
  unfold sh95
  have hr := codeI_rng (o := o) hk
  rcases isO_cases ho with rfl | rfl | rfl | rfl | rfl | rfl | rfl
  · exact ifB_t rfl (do_call Try.call127 (c_rup hk (retS_ret ⟨_, rfl, h⟩)))
  · refine ifB_f rfl (ifB_t rfl (do_call Try.call127 (c_rup hk (retS_ret ⟨_, rfl, ?_⟩))))
    rw [wrap64u, Int.emod_eq_of_lt (by unfold upI In at *; omega) (by unfold upI In at *; omega)]
    exact h
  · refine ifB_f rfl (ifB_f rfl (ifB_t rfl (ifB_intro (fun h1 => ?_) fun h1 => ?_)))
    · have h1 := of_decide_eq_true h1
      have e : IntKind.wrap .u64 (IntKind.wrap .u64 (IntKind.wrap .u64 (IntKind.wrap .i64 (0 - IntKind.wrap .i64 (k + 1))) * 2) + 1) = codeI 3 k := by
        unfold In at hk
        rw [wrap_of (x := k + 1) (by omega) (by omega), wrap_of (by omega) (by omega), wrap64u, wrap64u, wrap64u]
        simp only [codeI]; simp [h1]; omega
      rw [e]; exact h
    · have h1 := of_decide_eq_false h1
      have e : IntKind.wrap .u64 (IntKind.wrap .u64 k * 2) = codeI 3 k := by
        unfold In at hk
        rw [wrap64u, wrap64u]
        simp only [codeI]; simp [h1]; omega
      rw [e]; exact h
  · refine ifB_f rfl (ifB_f rfl (ifB_f rfl (ifB_t rfl ?_)))
    rw [wrap_U]
    exact do_call Try.call128 (c_rflip (retS_ret ⟨_, rfl, h⟩))
  · refine ifB_f rfl (ifB_f rfl (ifB_f rfl (ifB_f rfl (ifB_t rfl (do_call Try.call127 (c_rup hk (retS_ret ⟨_, rfl, by omega, by omega, ?_⟩)))))))
    have ht : Int.tdiv (upI k) 2 = upI k / 2 := Int.tdiv_eq_ediv_of_nonneg (by unfold upI In at *; omega)
    have hm : Int.tmod (IntKind.wrap .u64 k) 2 = k % 2 := by
      rw [wrap64u, Int.tmod_eq_emod_of_nonneg (by omega)]; omega
    rw [hm, ht]
    refine ifB_intro (fun h1 => ?_) fun h1 => ?_
    · have h1 : k % 2 = 1 := by simpa using h1
      have e : IntKind.wrap .u64 (IntKind.wrap .u64 (upI k / 2) + 9223372036854775808) = codeI 5 k := by
        unfold In at hk
        rw [wrap64u, wrap64u]
        simp only [codeI]; simp [h1]; unfold upI; omega
      rw [e]; exact h
    · have h1 : ¬ k % 2 = 1 := by simpa using h1
      have e : IntKind.wrap .u64 (upI k / 2) = codeI 5 k := by
        unfold In at hk
        rw [wrap64u]
        simp only [codeI]; simp [h1]; unfold upI; omega
      rw [e]; exact h
  · refine ifB_f rfl (ifB_f rfl (ifB_f rfl (ifB_f rfl (ifB_f rfl (ifB_t rfl (do_call Try.call127 (c_rup hk (retS_ret ⟨_, rfl, ?_⟩))))))))
    obtain ⟨x, hx⟩ : ∃ x : Nat, upI k = (x : Int) := ⟨(upI k).toNat, by unfold upI In at *; omega⟩
    rw [hx]
    refine do_call Try.call129 (c_rturn (by unfold upI In at *; omega) (retS_ret ⟨_, rfl, ?_⟩))
    have e : ((x % 4294967296 * 4294967296 + x / 4294967296 : Nat) : Int) = codeI 6 k := by
      simp only [codeI]; simp; rw [hx]
    rw [e]; exact h
  · refine ifB_f rfl (ifB_f rfl (ifB_f rfl (ifB_f rfl (ifB_f rfl (ifB_f rfl ?_)))))
    rw [wrap_U]
    exact do_call Try.call130 (c_rmix (retS_ret ⟨_, rfl, h⟩))
theorem c_rcompare {o a b : Int} (ha : In a) (hb : In b) {w : World} {R : Ending → World → Prop} (h : R (.returned (.int .i64 (cmpI o a b))) w) :
    Calls Try.prog 41 #[.int .u8 o, .int .i64 a, .int .i64 b] w R := by
  refine sh41_ok _ _ _ ?_
  unfold sh41
  refine do_call Try.call75 (c_ris (retS_ret ⟨_, rfl, ?_⟩))
  cases hm : isO o
  · refine ifB_t rfl ?_
    have : cmpI o a b = 0 := by simp [isO] at hm; unfold cmpI; rw [if_neg (by omega)]
    exact this ▸ h
  · have hc : cmpI o a b = (if codeI o a < codeI o b then -1 else if codeI o b < codeI o a then 1 else 0) := by simp [isO] at hm; unfold cmpI; rw [if_pos hm]
    refine ifB_f rfl (do_call Try.call95 (c_rcode hm ha (retS_ret ⟨_, rfl, do_call Try.call95 (c_rcode hm hb (retS_ret ⟨_, rfl, ?_⟩))⟩)))
    refine ifB_intro (fun h1 => ?_) fun h1 => ?_
    · have h1 : codeI o a = codeI o b := by simpa using h1
      rw [hc, if_neg (by omega), if_neg (by omega)] at h; exact h
    · have h1 : ¬ codeI o a = codeI o b := by simpa using h1
      refine do_call Try.call95 (c_rcode hm ha (retS_ret ⟨_, rfl, do_call Try.call95 (c_rcode hm hb (retS_ret ⟨_, rfl, ?_⟩))⟩))
      refine ifB_intro (fun h2 => ?_) fun h2 => ?_
      · rw [hc, if_pos (of_decide_eq_true h2)] at h; exact h
      · have h2 := of_decide_eq_false h2
        rw [hc, if_neg h2, if_pos (by omega)] at h; exact h
theorem c_rless {o a b : Int} (ha : In a) (hb : In b) {w : World} {R : Ending → World → Prop} (h : R (.returned (.bool (decide (cmpI o a b < 0)))) w) :
    Calls Try.prog 96 #[.int .u8 o, .int .i64 a, .int .i64 b] w R := by
  refine sh96_ok _ _ _ ?_
  unfold sh96
  exact do_call Try.call41 (c_rcompare ha hb (retS_ret ⟨_, rfl, h⟩))
end Go.Proofs.Ytinkkhcffoikmaa
