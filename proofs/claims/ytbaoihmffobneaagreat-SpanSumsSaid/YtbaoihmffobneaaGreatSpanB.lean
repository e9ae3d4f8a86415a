/-
  span: between two keys; Count, Sum, Range, Without.
-/
import Derived.Test.YtbaoihmffobneaaGreatSpanA
namespace Go.Proofs.YtbaoihmffobneaaGreat
open Go Go.Sh Go.RowKit

/-- the error that a span has -/
def wrongE (o lo hi : Int) : Int := if isO o = true then (if cmpI o hi lo < 0 then 330 else 0) else 2
theorem wrongE_ok {o lo hi : Int} (h : wrongE o lo hi = 0) : isO o = true ∧ 0 ≤ cmpI o hi lo := by
  unfold wrongE at h
  by_cases ho : isO o = true
  · rw [if_pos ho] at h
    by_cases hc : cmpI o hi lo < 0
    · rw [if_pos hc] at h; cases h
    · exact ⟨ho, by omega⟩
  · rw [if_neg ho] at h; cases h
theorem c_swrong {o lo hi : Int} (hlo : In lo) (hhi : In hi) {w : World} {R : Ending → World → Prop} (h : ∀ w', Ext w w' → R (.returned (.int .i64 (wrongE o lo hi))) w') : Calls Tryz.prog 115 #[.int .u8 o, .int .i64 lo, .int .i64 hi] w R := by
  refine sh115_ok _ _ _ ?_
  unfold sh115
  refine do_call Tryz.call168 (c_code hlo fun w1 e1 => retS_ret ⟨_, _, rfl, ?_⟩)
  refine do_call Tryz.call168 (c_code hhi fun w2 e2 => retS_ret ⟨_, _, rfl, ?_⟩)
  have E2 := e1.trans e2
  unfold wrongE at h
  intro K14
  cases ho : isO o with
  | false =>
    rw [ho] at h
    exact ifB_t rfl (h _ E2)
  | true =>
    rw [ho, if_pos rfl] at h
    refine ifB_f rfl ?_
    simp -zeta -zetaHave only [K14]
    refine ifB_f rfl ?_
    have h17 : 1 ≤ o ∧ o ≤ 7 := by simpa [isO] using ho
    have hcmp : cmpI o hi lo < 0 ↔ codeI o hi < codeI o lo := by
      unfold cmpI
      rw [if_pos h17]
      by_cases hc : codeI o hi < codeI o lo
      · rw [if_pos hc]; simp [hc]
      · rw [if_neg hc]; split <;> simp [hc]
    refine ifB_intro (fun hc => ?_) fun hc => ?_
    · have hc : codeI o hi < codeI o lo := by have := of_decide_eq_true hc; rw [ho] at this; exact this
      have := h _ E2
      rw [if_pos (hcmp.2 hc)] at this
      exact this
    · have hc : ¬ codeI o hi < codeI o lo := by have := of_decide_eq_false hc; rw [ho] at this; exact this
      have := h _ E2
      rw [if_neg (fun q => hc (hcmp.1 q))] at this
      exact this
theorem c_rwrong33 {o lo hi : Int} (hlo : In lo) (hhi : In hi) {w : World} {R : Ending → World → Prop} (h : R (.returned (.int .i64 (wrongE o lo hi))) w) : Calls Tryz.prog 33 #[.int .u8 o, .int .i64 lo, .int .i64 hi] w R := by
  refine sh33_ok _ _ _ ?_
  unfold sh33
  unfold wrongE at h
  refine do_call Tryz.call36 (c_r2may (retS_ret ⟨_, rfl, ?_⟩))
  cases ho : isO o with
  | false =>
    rw [ho] at h
    exact ifB_t rfl h
  | true =>
    rw [ho, if_pos rfl] at h
    refine ifB_f rfl (do_call Tryz.call82 (c_rcompare hhi hlo (retS_ret ⟨_, rfl, ?_⟩)))
    refine ifB_intro (fun hc => ?_) fun hc => ?_
    · rw [if_pos (of_decide_eq_true hc)] at h; exact h
    · rw [if_neg (of_decide_eq_false hc)] at h; exact h
theorem wrap_sub (a b : Int) : IntKind.wrap .i64 (IntKind.wrap .i64 a - IntKind.wrap .i64 b) = IntKind.wrap .i64 (a - b) := by
  simp only [IntKind.wrap, IntKind.signed, IntKind.bits]
  simp
  omega
theorem cmpI_le_trans {o a b c : Int} (h1 : cmpI o a b < 0) (h2 : 0 ≤ cmpI o c b) : cmpI o a c < 0 := by
  unfold cmpI at *
  split at h1
  · rename_i ho
    rw [if_pos ho] at h2 ⊢
    split at h1
    · split at h2
      · omega
      · rw [if_pos (by omega)]; omega
    · split at h1 <;> omega
  · omega
/-- what stands up to the one, less what stands ahead of the other -/
theorem between_eq {o lo hi : Int} (φ : It → Int) {l : List It} (hw : wrongE o lo hi = 0) : totI φ (l.filter (upB o hi true)) - totI φ (l.filter (upB o lo false)) = totI φ (inL o lo hi l) := by
  obtain ⟨_, hc⟩ := wrongE_ok hw
  unfold inL
  induction l with
  | nil => rfl
  | cons x l ih =>
    rw [List.filter_cons, List.filter_cons, List.filter_cons]
    have hx : cmpI o x.1 lo < 0 → cmpI o x.1 hi < 0 := fun h => cmpI_le_trans h hc
    have a : upB o hi true x = decide (cmpI o x.1 hi ≤ 0) := by
      unfold upB
      rw [Bool.and_true]
      by_cases h1 : cmpI o x.1 hi < 0
      · simp [h1]; omega
      · by_cases h2 : cmpI o x.1 hi = 0
        · simp [h2]
        · rw [decide_eq_false h1, decide_eq_false h2, decide_eq_false (by omega)]; rfl
    have b : upB o lo false x = decide (cmpI o x.1 lo < 0) := by unfold upB; rw [Bool.and_false, Bool.or_false]
    have d : inB o lo hi x = (decide (0 ≤ cmpI o x.1 lo) && decide (cmpI o x.1 hi ≤ 0)) := rfl
    rw [a, b, d]
    by_cases h1 : cmpI o x.1 lo < 0
    · have h2 := hx h1
      rw [decide_eq_true h1, decide_eq_true (show cmpI o x.1 hi ≤ 0 by omega), decide_eq_false (show ¬ 0 ≤ cmpI o x.1 lo by omega)]
      simp only [if_true, Bool.false_and, Bool.false_eq_true, if_false, totI_cons]
      omega
    · rw [decide_eq_false h1, decide_eq_true (show 0 ≤ cmpI o x.1 lo by omega)]
      by_cases h2 : cmpI o x.1 hi ≤ 0
      · rw [decide_eq_true h2]
        simp only [if_true, Bool.true_and, Bool.false_eq_true, if_false, totI_cons]
        omega
      · rw [decide_eq_false h2]
        simp only [Bool.true_and, Bool.false_eq_true, if_false]
        exact ih
theorem c_betweenN {c o lo hi : Int} {φ : It → Int} {f : Fn} (hlo : In lo) (hhi : In hi) {t : Tr} {p : Option Addr} {w : World} {R : Ending → World → Prop} (ht : IsN w p t) (ha : asc o (itsC c t)) (hkt : InK t) (hf : ∀ w', Ext w w' → AllF w' t c f φ)
    (h : ∀ w', Ext w w' → R (.returned (.tuple #[.int .i64 (if wrongE o lo hi = 0 then IntKind.wrap .i64 (totI φ (inL o lo hi (itsC c t))) else 0), .int .i64 (wrongE o lo hi)])) w') : Calls Tryz.prog 86 #[.int .u8 o, .pointer p, .int .i64 lo, .int .i64 hi, .func f #[] #[]] w R := by
  refine sh86_ok _ _ _ _ _ _ _ ?_
  unfold sh86
  refine do_call Tryz.call115 (c_swrong hlo hhi fun w1 e1 => retS_ret ⟨_, rfl, ?_⟩)
  by_cases hw : wrongE o lo hi = 0
  · rw [hw]
    refine ifB_f rfl ?_
    refine do_call Tryz.call119 (c_spaheadN (c := c) hhi (ht.ext e1) ha hkt (hf _ e1) fun w2 e2 => retS_ret ⟨_, rfl, ?_⟩)
    have e12 := e1.trans e2
    refine do_call Tryz.call119 (c_spaheadN (c := c) hlo (ht.ext e12) ha hkt (hf _ e12) fun w3 e3 => retS_ret ⟨_, rfl, ?_⟩)
    have := h w3 (e12.trans e3)
    rw [if_pos hw, hw] at this
    rw [wrap_sub, between_eq φ hw]
    exact this
  · refine ifB_t (by simp [hw]) ?_
    have := h w1 e1
    rw [if_neg hw] at this
    exact this
theorem c_betweenS {c o lo hi : Int} {φ : It → Int} {f : Fn} (hlo : In lo) (hhi : In hi) {t : Tr} {p : Option Addr} {w : World} {R : Ending → World → Prop} (ht : IsN w p t) (ha : asc o (itsC c t)) (hkt : InK t) (hf : ∀ w', Ext w w' → AllF w' t c f φ)
    (h : ∀ w', Ext w w' → R (.returned (.tuple #[.int .i64 (if wrongE o lo hi = 0 then IntKind.wrap .i64 (totI φ (inL o lo hi (itsC c t))) else 0), .int .i64 (wrongE o lo hi)])) w') : Calls Tryz.prog 87 #[.int .u8 o, .pointer p, .int .i64 lo, .int .i64 hi, .func f #[] #[]] w R := by
  refine sh87_ok _ _ _ _ _ _ _ ?_
  unfold sh87
  refine do_call Tryz.call115 (c_swrong hlo hhi fun w1 e1 => retS_ret ⟨_, rfl, ?_⟩)
  by_cases hw : wrongE o lo hi = 0
  · rw [hw]
    refine ifB_f rfl ?_
    refine do_call Tryz.call120 (c_spaheadS (c := c) hhi (ht.ext e1) ha hkt (hf _ e1) fun w2 e2 => retS_ret ⟨_, rfl, ?_⟩)
    have e12 := e1.trans e2
    refine do_call Tryz.call120 (c_spaheadS (c := c) hlo (ht.ext e12) ha hkt (hf _ e12) fun w3 e3 => retS_ret ⟨_, rfl, ?_⟩)
    have := h w3 (e12.trans e3)
    rw [if_pos hw, hw] at this
    rw [wrap_sub, between_eq φ hw]
    exact this
  · refine ifB_t (by simp [hw]) ?_
    have := h w1 e1
    rw [if_neg hw] at this
    exact this
section
variable {c o lo hi : Int} {t : Tr} {p : Option Addr} {w : World} {R : Ending → World → Prop}
theorem c_count (hlo : In lo) (hhi : In hi) (ht : IsN w p t) (ha : asc o (itsC c t)) (hkt : InK t) (hs : t.size ≤ 1000000)
    (h : ∀ w', Ext w w' → R (.returned (.tuple #[.int .i64 (if wrongE o lo hi = 0 then ((inL o lo hi (itsC c t)).length : Int) else 0), .int .i64 (wrongE o lo hi)])) w') : Calls Tryz.prog 38 #[.int .u8 o, .pointer p, .int .i64 lo, .int .i64 hi] w R := by
  refine sh38_ok _ _ _ _ ?_
  unfold sh38
  refine do_call Tryz.call86 (c_betweenN (c := c) (φ := fun _ => 1) hlo hhi ht ha hkt (fun w' _ => allF_size w' c t hs) fun w1 e1 => retS_ret ⟨_, _, rfl, ?_⟩)
  have hl : (inL o lo hi (itsC c t)).length ≤ t.size := by rw [← itsC_len c]; exact List.length_filter_le _ _
  rw [tot_one, wrap_of (by omega) (by omega)]
  exact h _ e1
theorem c_spsum (hlo : In lo) (hhi : In hi) (ht : IsN w p t) (ha : asc o (itsC c t)) (hkt : InK t)
    (h : ∀ w', Ext w w' → R (.returned (.tuple #[.int .i64 (if wrongE o lo hi = 0 then IntKind.wrap .i64 (totI (fun x => x.2.1) (inL o lo hi (itsC c t))) else 0), .int .i64 (wrongE o lo hi)])) w') : Calls Tryz.prog 39 #[.int .u8 o, .pointer p, .int .i64 lo, .int .i64 hi] w R := by
  refine sh39_ok _ _ _ _ ?_
  unfold sh39
  exact do_call Tryz.call87 (c_betweenS (c := c) (φ := fun x => x.2.1) hlo hhi ht ha hkt (fun w' _ => allF_sum w' c t) fun w1 e1 => retS_ret ⟨_, _, rfl, h _ e1⟩)
end
end Go.Proofs.YtbaoihmffobneaaGreat
