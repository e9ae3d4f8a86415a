/-
  What the functions of row do.
-/
import Derived.Test.YtmdboekndjlmgaaGreatZ18
import Derived.Test.YtmdboekndjlmgaaGreatZ19
import Derived.Test.YtmdboekndjlmgaaGreatZ16

set_option maxRecDepth 100000
set_option maxHeartbeats 6400000
namespace Go.Proofs.YtmdboekndjlmgaaGreat
open Go Go.Sh Go.RowKit

abbrev Pr := Int × Int
theorem elP : ElT Tryz.prog 22 63 (.agg #[.int .i64 0, .int .i64 0]) 2 16 := ⟨Tryz.underlying22, ⟨_, Tryz.type63, by kernel_rfl, by kernel_rfl, by kernel_rfl⟩, rfl, by omega⟩
def agP (x : Pr) : Value := .agg #[.int .i64 x.1, .int .i64 x.2]
def InP (l : List Pr) : Prop := ∀ x ∈ l, In x.1 ∧ In x.2
def chain (o : Int) : List Pr → Bool
  | a :: b :: l => decide (cmpI o a.1 b.1 < 0) && chain o (b :: l)
  | _ => true
def mayR (o : Int) (l : List Pr) : Bool := isO o && chain o l

def twoL (l : List Pr) : List (Array Value) := (l.zip l.tail).map fun (a, b) => #[agP a, agP b]
theorem twoL_get {l : List Pr} {i : Nat} (hi : i + 1 < l.length) : (twoL l)[i]? = some #[agP l[i], agP l[i + 1]] := by
  simp only [twoL, List.getElem?_map]
  have : (l.zip l.tail)[i]? = some (l[i], l[i + 1]) := List.getElem?_zip_eq_some.2 ⟨List.getElem?_eq_getElem (by omega), by rw [List.getElem?_tail]; exact List.getElem?_eq_getElem hi⟩
  rw [this]; rfl
theorem twoL_some {l : List Pr} {i : Nat} {x : Array Value} (h : (twoL l)[i]? = some x) : ∃ hi : i + 1 < l.length, x = #[agP (l[i]'(by omega)), agP l[i + 1]] := by
  have hlt := (List.getElem?_eq_some_iff.1 h).1
  have hi : i + 1 < l.length := by simp [twoL] at hlt; omega
  rw [twoL_get hi] at h
  exact ⟨hi, (Option.some.inj h).symm⟩
theorem c_two {q : OA} {n c : Nat} {w : World} {R : EW} (h : ∀ b w', Ext w w' → w.heap.size ≤ b → Blk w' b #[.slice q n c] 22 → R (.returned (.func (.func 94) #[] #[.pointer (some (blk b))])) w') :
    Calls Tryz.prog 53 #[.slice q n c] w R := by
  refine sh53_ok _ _ _ ?_
  unfold sh53
  exact ⟨h _ _ (ext_alloc _ _) (Nat.le_refl _) (blk_alloc _ _ _)⟩
theorem c_two1 {l : List Pr} {q : OA} {n c b : Nat} {f : Fn} {fx fc : Array Value} {St : Nat → World → Prop} {Stop : World → Prop} {w : World} {R : EW} (hn : l.length = n) (h63 : n ≤ 9223372036854775807)
    (hS : ∀ i w', St i w' → Blk w' b #[.slice q n c] 22 ∧ Cs w' q (prs l)) (hD : ∀ i w', St i w' → St i w'.drew) (hStop : ∀ w', Stop w' → Blk w' b #[.slice q n c] 22 ∧ Cs w' q (prs l))
    (hy : YieldsTo Tryz.prog (.func f fx fc) (twoL l) St Stop) (h0 : St 0 w) (hend : ∀ w', St (n - 1) w' → R (.returned (.tuple #[])) w') (hend' : ∀ w', Stop w' → R (.returned (.tuple #[])) w') :
    Calls Tryz.prog 94 #[.func f fx fc, .pointer (some (blk b))] w R := by
  refine sh94_ok _ _ _ _ ?_
  unfold sh94
  refine ⟨_, _, _, (hS 0 w h0).1.cell (i := 0) rfl rfl, fun vs w' => ∃ i : Nat, vs = [.int .i64 i] ∧ i ≤ n ∧ St (i - 1) w', fun vs _ => n - (intOf (vs.getD 0 undef)).toNat, ⟨0, rfl, by omega, h0⟩, ?_⟩
  rintro i j w1 ⟨m, hm, hmn, hs⟩
  simp only [List.cons.injEq, Value.int.injEq, true_and, and_true] at hm
  obtain rfl := hm
  refine ifB_intro (fun hlt => ?_) fun hge => ?_
  · have hlt : m < n := by have := of_decide_eq_true hlt; omega
    refine ⟨⟨fun w' => Blk w' b #[.slice q n c] 22 ∧ Cs w' q (prs l), hS _ _ (hD _ _ hs), ?_⟩⟩
    refine ifB_intro (fun hpos => ?_) fun hzero => ?_
    · have hpos : 0 < m := by have := of_decide_eq_true hpos; omega
      have e : IntKind.wrap .i64 ((m : Int) - 1) = ((m - 1 : Nat) : Int) := by rw [wrap_of (by omega) (by omega)]; omega
      refine ⟨_, _, _, fun w' hc => hc.1.cell (i := 0) rfl rfl, ?_⟩
      have hw := hS _ _ (hD _ _ hs)
      refine ix_prC (fun w' hc => hc.2) hw hn e (by omega) fun a1 r1 r2 => ⟨_, r1, _, r2, _, _, _, fun w' hc => hc.1.cell (i := 0) rfl rfl, ix_prC (fun w' hc => hc.2) hw hn rfl (by omega) fun a2 r3 r4 => ⟨_, r3, _, r4, ?_⟩⟩
      have hg := twoL_get (l := l) (i := m - 1) (by omega)
      simp only [show m - 1 + 1 = m by omega] at hg
      refine hy (m - 1) _ hg _ (hD _ _ hs) _ (fun w' hs' => retS_ret ⟨_, rfl, hS _ _ hs', ifB_f rfl ⟨⟨m + 1, by rw [wrap_succ hlt h63], by omega, by rw [show m - 1 + 1 = m + 1 - 1 by omega] at hs'; exact hs'⟩, ?_⟩⟩)
        fun w' hs' => retS_ret ⟨_, rfl, hStop _ hs', ifB_t rfl (hend' _ hs')⟩
      rw [wrap_succ hlt h63]
      simp [intOf]; omega
    · have hzero : m = 0 := by have := of_decide_eq_false hzero; omega
      subst hzero
      exact ⟨⟨1, by rw [wrap_succ hlt h63], by omega, hD _ _ hs⟩, by rw [wrap_succ hlt h63]; simp [intOf]; omega⟩
  · have hge : m = n := by have := of_decide_eq_false hge; omega
    subst hge
    exact hend _ hs

theorem chain_cons {o : Int} {a b : Pr} {l : List Pr} : chain o (a :: b :: l) = (decide (cmpI o a.1 b.1 < 0) && chain o (b :: l)) := rfl
theorem chain_of {o : Int} : ∀ {l : List Pr}, (∀ i (h : i + 1 < l.length), cmpI o l[i].1 l[i + 1].1 < 0) → chain o l = true
  | [], _ => rfl
  | [_], _ => rfl
  | a :: b :: l, h => by
    rw [chain_cons, chain_of (l := b :: l) fun i hi => h (i + 1) (by simpa using hi)]
    simpa using h 0 (by simp)
theorem chain_get {o : Int} : ∀ {l : List Pr}, chain o l = true → ∀ i (h : i + 1 < l.length), cmpI o l[i].1 l[i + 1].1 < 0
  | [], _, i, h => by simp at h
  | [_], _, i, h => by simp at h
  | a :: b :: l, hc, i, h => by
    rw [chain_cons] at hc
    simp only [Bool.and_eq_true, decide_eq_true_eq] at hc
    cases i with
    | zero => exact hc.1
    | succ i => exact chain_get (l := b :: l) hc.2 i (by simpa using h)
theorem c_may {o : Int} {l : List Pr} {q : OA} {n c : Nat} {w : World} {R : EW} (hl : Cs w q (prs l)) (hn : l.length = n) (h63 : n ≤ 9223372036854775807) (hI : InP l)
    (h : ∀ w', Ext w w' → R (.returned (.bool (mayR o l))) w') : Calls Tryz.prog 24 #[.int .u8 o, .slice q n c] w R := by
  refine sh24_ok _ _ _ _ ?_
  unfold sh24
  refine ⟨⟨?_⟩⟩
  have e1 := ext_alloc w (.cells #[.int .u8 o] 5)
  have ho := blk_alloc w #[.int .u8 o] 5
  generalize hbo : w.heap.size = bo at *
  generalize w.alloc (.cells #[.int .u8 o] 5) = w1 at *
  have e2 := ext_alloc w1 (.cells #[.bool false] 4)
  have hr := blk_alloc w1 #[.bool false] 4
  have ho2 := ho.ext e2
  have hne1 : bo < w1.heap.size := ho.lt
  generalize hbr : w1.heap.size = br at *
  generalize w1.alloc (.cells #[.bool false] 4) = w2 at *
  have E2 := e1.trans e2
  refine do_call Tryz.call53 (c_two fun bt w3 e3 hbt ht => retS_ret ⟨_, _, _, rfl, do_rf fun fn L w4 d hd hL hst hpe e4 hd4 hl4 => ?_⟩)
  have ho3 := ho2.ext e3
  have hr3 := hr.ext e3
  have ho4 := ho3.ext e4
  have hr4 := hr3.ext e4
  have ht4 := ht.ext e4
  have hE4 := (E2.trans e3).trans e4
  have n1 : br < d := by rw [hd]; exact hr3.lt
  have n2 : bt < d := by rw [hd]; exact ht.lt
  have n3 : br < bt := Nat.lt_of_lt_of_le hr.lt hbt
  have hsz : bo ≤ br := by omega
  clear ho ho2 ho3 hr hr3 ht e1 e2 e3 e4 E2
  have hend : ∀ {w' : World} {b : Bool}, Ext w w' → Blk w' br #[.bool b] 4 → w'.heap[d]? = some (.deferred (some [])) → b = mayR o l →
      w'.heap[d]? = some (.deferred (some [])) ∧ (∃ x, World.cell? (w'.putObj d (.deferred none)) (blk br) = some (.bool x) ∧ R (.returned (.bool x)) (w'.putObj d (.deferred none))) := fun E hb hd' hb' => by
    refine ⟨hd', _, (hb.grown (put_grown _ d _) (ne_some (by omega))).cell (i := 0) rfl rfl, ?_⟩
    subst hb'
    exact h _ (E.put (by omega) _)
  refine callE_c Tryz.call94 (by rfl) (c_two1 (l := l) (q := q) (n := n) (c := c) (b := bt) hn h63
    (St := fun i w' => chain o (l.take (i + 1)) = true ∧ Ext w w' ∧ Blk w' bo #[.int .u8 o] 5 ∧ Blk w' br #[.bool false] 4 ∧ Blk w' bt #[.slice q n c] 22 ∧ w'.heap[d]? = some (.deferred (some [])) ∧ w'.heap[d + 1]? = some (.loop L))
    (Stop := fun w' => mayR o l = false ∧ Ext w w' ∧ Blk w' br #[.bool false] 4 ∧ Blk w' bt #[.slice q n c] 22 ∧ w'.heap[d]? = some (.deferred (some [])) ∧ w'.heap[d + 1]? = some (.loop { L with state := .done, pending := some .ret }))
    (fun i w' hs => ⟨hs.2.2.2.2.1, hl.ext hs.2.1⟩) (fun i w' hs => ⟨hs.1, hs.2.1.drew, hs.2.2⟩) (fun w' hs => ⟨hs.2.2.2.1, hl.ext hs.2.1⟩) ?_ ⟨?_, hE4, ho4, hr4, ht4, hd4, hl4⟩ ?_ ?_)
  · rintro i x hx w5 ⟨hc, E5, ho5, hr5, ht5, hd5, hl5⟩ R' hy hno
    obtain ⟨hi, rfl⟩ := twoL_some hx
    refine sh24_0_ok (by rw [hl5, hL]) ?_
    unfold sh24_0
    refine ⟨?_⟩
    have hd5' := (Array.getElem?_eq_some_iff.1 hl5).1
    refine do_st (blk_alloc w5 _ _) (i := 0) rfl (by simp) fun w6 h6 g6 => do_st h6 (i := 1) rfl (by simp) fun w7 h7 g7 => ⟨?_⟩
    have e7 : Ext w5 w7 := ((ext_alloc w5 _).st g6 (Nat.le_refl _)).st g7 (Nat.le_refl _)
    refine do_st (blk_alloc w7 _ _) (i := 0) rfl (by simp) fun w8 h8 g8 => do_st h8 (i := 1) rfl (by simp) fun w9 h9 g9 => ?_
    have e9 : Ext w7 w9 := ((ext_alloc w7 _).st g8 (Nat.le_refl _)).st g9 (Nat.le_refl _)
    have h79 := h7.ext e9
    have e59 := e7.trans e9
    refine ⟨_, e59.heap hl5, hst, ?_⟩
    have g10 := put_grown w9 (d + 1) (.loop { L with state := .busy })
    have hl10 := put_heap (o' := .loop { L with state := .busy }) (e59.heap hl5)
    have hsz5 : w5.heap.size ≤ w7.heap.size := e7.size
    have h7a := h79.grown g10 (ne_some (by omega))
    have h9a := h9.grown g10 (ne_some (by omega))
    have ho10 := (ho5.ext e59).grown g10 (ne_some (by omega))
    have hr10 := (hr5.ext e59).grown g10 (ne_some (by omega))
    have ht10 := (ht5.ext e59).grown g10 (ne_some (by omega))
    have hd10 := heap_grown g10 (e59.heap hd5) (ne_some (by omega))
    have E10 := (E5.trans e59).st g10 (by omega)
    generalize w9.putObj (d + 1) (.loop { L with state := .busy }) = w10 at hl10 h7a h9a ho10 hr10 ht10 hd10 E10 ⊢
    refine ⟨_, ho10.cell (i := 0) rfl rfl, _, h7a.cell (i := 0) rfl rfl, _, h9a.cell (i := 0) rfl rfl, ?_⟩
    refine do_call Tryz.call54 (c_compare (hI _ (List.getElem_mem _)).1 (hI _ (List.getElem_mem _)).1 fun w11 e11 => retS_ret ⟨_, rfl, ?_⟩)
    have hl11 := e11.heap hl10
    have hd11 := e11.heap hd10
    have E11 := E10.trans e11
    refine ifB_intro (fun h1 => ?_) fun h1 => ?_
    · have h1 := of_decide_eq_true h1
      refine do_st (hr10.ext e11) (i := 0) rfl (by simp) fun w12 h12 g12 => ?_
      have hl12 := heap_grown g12 hl11 (ne_some (by omega))
      refine ⟨_, hl12, hno _ ⟨?_, (E11.st g12 (by omega)).put (by omega) _, h12.grown (put_grown _ _ _) (ne_some (by omega)), ((ht10.ext e11).grown g12 (ne_some (by omega))).grown (put_grown _ _ _) (ne_some (by omega)),
        heap_grown (put_grown _ _ _) (heap_grown g12 hd11 (ne_some (by omega))) (ne_some (by omega)), put_heap hl12⟩⟩
      unfold mayR
      cases hch : chain o l
      · simp
      · have := chain_get hch i hi
        exact absurd h1 (by omega)
    · have h1 := of_decide_eq_false h1
      refine ⟨_, hl11, hy _ ?_⟩
      rw [rec_back hst hpe]
      refine ⟨?_, E11.put (by omega) _, (ho10.ext e11).grown (put_grown _ _ _) (ne_some (by omega)), (hr10.ext e11).grown (put_grown _ _ _) (ne_some (by omega)), (ht10.ext e11).grown (put_grown _ _ _) (ne_some (by omega)),
        heap_grown (put_grown _ _ _) hd11 (ne_some (by omega)), put_heap hl11⟩
      refine chain_of fun k hk => ?_
      simp only [List.length_take] at hk
      simp only [List.getElem_take]
      by_cases hki : k = i
      · subst hki; omega
      · have := chain_get hc k (by simp only [List.length_take]; omega)
        simpa only [List.getElem_take] using this
  · cases l with
    | nil => rfl
    | cons a l => rfl
  · rintro w5 ⟨hc, E5, ho5, hr5, ht5, hd5, hl5⟩
    refine rf_done hl5 (by rw [hst]; simp) hpe fun ob => ?_
    have gob := put_grown w5 (d + 1) ob
    refine ⟨_, (ho5.grown gob (ne_some (by omega))).cell (i := 0) rfl rfl, ?_⟩
    have hd5' := heap_grown gob hd5 (ne_some (by omega))
    have hr5' := hr5.grown gob (ne_some (by omega))
    have E5' := E5.put (l := d + 1) (by omega) ob
    refine do_call Tryz.call30 (c_name fun w6 e6 => retS_ret ⟨_, rfl, do_st (hr5'.ext e6) (i := 0) rfl (by simp) fun w7 h7 g7 => ?_⟩)
    rw [name_empty] at h7
    rw [← hd]
    refine hend ((E5'.trans e6).st g7 (by omega)) h7 (heap_grown g7 (e6.heap hd5') (ne_some (by omega))) ?_
    unfold mayR
    have : l.take (n - 1 + 1) = l := List.take_of_length_le (by omega)
    rw [this] at hc
    rw [hc]; simp
  · rintro w5 ⟨hc, E5, hr5, ht5, hd5, hl5⟩
    refine rf_ret hl5 (by simp) rfl fun ob => ?_
    have gob := put_grown w5 (d + 1) ob
    rw [← hd]
    exact hend (E5.put (l := d + 1) (by omega) ob) (hr5.grown gob (ne_some (by omega))) (heap_grown gob hd5 (ne_some (by omega))) hc.symm

theorem mid_eq {i j : Nat} (h : i < j) (hj : j ≤ 4611686018427387903) : IntKind.wrap .i64 (Int.fdiv (IntKind.wrap .u64 (IntKind.wrap .i64 ((i : Int) + (j : Int)))) (2 ^ (min (1 : Int).toNat (IntKind.bits .u64)))) = (((i + j) / 2 : Nat) : Int) := by
  have e2 : (2 : Int) ^ (min (1 : Int).toNat (IntKind.bits .u64)) = 2 := by decide
  rw [e2, wrap_of (x := (i : Int) + j) (by omega) (by omega), wrap64u, Int.fdiv_eq_ediv_of_nonneg _ (by omega), wrap_of (by omega) (by omega)]
  omega
theorem c_search {n : Nat} {p : Nat → Bool} {Inv : World → Prop} {f : Fn} {fx fc : Array Value} {w : World} {R : EW} (hn : n ≤ 4611686018427387903) (hmono : ∀ i j, i ≤ j → j < n → p i = true → p j = true)
    (hf : ∀ k, k < n → ∀ w', Inv w' → ∀ R' : EW, (∀ w'', Inv w'' → R' (.returned (.bool (p k))) w'') → doCall Tryz.prog (.func f fx fc) #[.int .i64 (k : Int)] w' R') (h0 : Inv w)
    (h : ∀ (r : Nat) w', Inv w' → r ≤ n → (∀ i, i < r → p i = false) → (∀ i, r ≤ i → i < n → p i = true) → R (.returned (.int .i64 (r : Int))) w') : Calls Tryz.prog 170 #[.int .i64 (n : Int), .func f fx fc] w R := by
  refine sh170_ok _ _ _ _ ?_
  unfold sh170
  refine ⟨fun vs w' => ∃ i j : Nat, vs = [.int .i64 i, .int .i64 j] ∧ i ≤ j ∧ j ≤ n ∧ Inv w' ∧ (∀ k, k < i → p k = false) ∧ (∀ k, j ≤ k → k < n → p k = true), fun vs _ => (intOf (vs.getD 1 undef)).toNat - (intOf (vs.getD 0 undef)).toNat,
    ⟨0, n, rfl, by omega, by omega, h0, fun k hk => by omega, fun k h1 h2 => by omega⟩, ?_⟩
  rintro i' j' _ w1 ⟨i, j, hv, hij, hjn, hI, hlo, hhi⟩
  simp only [List.cons.injEq, Value.int.injEq, true_and, and_true] at hv
  obtain ⟨rfl, rfl⟩ := hv
  refine ifB_intro (fun h1 => ?_) fun h1 => ?_
  · have h1 : i < j := by have := of_decide_eq_true h1; omega
    rw [mid_eq h1 (by omega)]
    refine ⟨by omega, ?_⟩
    refine hf ((i + j) / 2) (by omega) w1 hI _ ?_
    intro w2 hI2
    refine retS_ret ?_
    refine ⟨p ((i + j) / 2), rfl, ?_⟩
    cases hp : p ((i + j) / 2)
    · refine ifB_t rfl ?_
      rw [wrap_succ (n := n) (by omega) (by omega)]
      refine ⟨⟨(i + j) / 2 + 1, j, rfl, by omega, hjn, hI2, fun k hk => ?_, hhi⟩, by simp [intOf]; omega⟩
      cases hk' : p k
      · rfl
      · have := hmono k ((i + j) / 2) (by omega) (by omega) hk'
        rw [hp] at this; cases this
    · refine ifB_f rfl ?_
      exact ⟨⟨i, (i + j) / 2, rfl, by omega, by omega, hI2, hlo, fun k h2 h3 => hmono _ _ h2 h3 hp⟩, by simp [intOf]; omega⟩
  · have h1 : i = j := by have := of_decide_eq_false h1; omega
    subst h1
    exact h i _ hI hjn hlo hhi
theorem cmpI_trans {o a b c : Int} (h1 : cmpI o a b < 0) (h2 : cmpI o b c < 0) : cmpI o a c < 0 := by
  unfold cmpI at *
  split at h1
  · rename_i ho
    rw [if_pos ho] at h2 ⊢
    split at h1
    · split at h2
      · rw [if_pos (by omega)]; omega
      · split at h2 <;> omega
    · split at h1 <;> omega
  · omega
theorem cmpI_ge {o a b c : Int} (h1 : cmpI o a b < 0) (h2 : 0 ≤ cmpI o a c) : 0 ≤ cmpI o b c := by
  unfold cmpI at *
  split at h1
  · rename_i ho
    rw [if_pos ho] at h2 ⊢
    split at h1
    · split at h2
      · omega
      · split
        · omega
        · split <;> omega
    · split at h1 <;> omega
  · omega
theorem chain_lt {o : Int} {l : List Pr} (h : chain o l = true) : ∀ {i j : Nat} (hij : i < j) (hj : j < l.length), cmpI o l[i].1 l[j].1 < 0 := by
  intro i j hij hj
  induction j with
  | zero => omega
  | succ j ih =>
    have h1 := chain_get h j hj
    rcases Nat.lt_or_ge i j with h2 | h2
    · exact cmpI_trans (ih h2 (by omega)) h1
    · have : i = j := by omega
      subst this; exact h1
def idxR (o : Int) (l : List Pr) (key : Int) : Nat := l.findIdx fun x => decide (0 ≤ cmpI o x.1 key)
theorem idxR_le (o : Int) (l : List Pr) (key : Int) : idxR o l key ≤ l.length := List.findIdx_le_length
theorem idxR_eq {o : Int} {l : List Pr} {key : Int} {r : Nat} (hr : r ≤ l.length) (h1 : ∀ i (h : i < l.length), i < r → cmpI o l[i].1 key < 0) (h2 : ∀ (h : r < l.length), 0 ≤ cmpI o l[r].1 key) : idxR o l key = r := by
  unfold idxR
  rcases Nat.lt_or_ge r l.length with hlt | hge
  · rw [List.findIdx_eq hlt]
    refine ⟨by simpa using h2 hlt, fun j hj => ?_⟩
    have := h1 j (by omega) hj
    simp; omega
  · have : r = l.length := by omega
    subst this
    rw [List.findIdx_eq_length]
    intro x hx
    obtain ⟨i, hi, rfl⟩ := List.getElem_of_mem hx
    have := h1 i hi hi
    simp; omega
theorem idxR_lt {o : Int} {l : List Pr} {key : Int} {i : Nat} (hi : i < idxR o l key) : ∃ h : i < l.length, cmpI o l[i].1 key < 0 := by
  have hl : i < l.length := Nat.lt_of_lt_of_le hi (idxR_le o l key)
  refine ⟨hl, ?_⟩
  have := List.not_of_lt_findIdx hi
  simp at this; omega
theorem idxR_ge {o : Int} {l : List Pr} {key : Int} (h : idxR o l key < l.length) : 0 ≤ cmpI o l[idxR o l key].1 key := by
  unfold idxR at h
  exact of_decide_eq_true (List.findIdx_getElem (w := h))
end Go.Proofs.YtmdboekndjlmgaaGreat

namespace Go.Proofs.YtmdboekndjlmgaaGreat
open Go Go.Sh Go.RowKit

theorem getD_of {l : List Pr} {k : Nat} (h : k < l.length) : l.getD k (0, 0) = l[k] := by simp [h]
theorem c_at {o key : Int} {l : List Pr} {q : OA} {n c : Nat} {w : World} {R : EW} (hl : Cs w q (prs l)) (hn : l.length = n) (h63 : n ≤ 4611686018427387903) (hI : InP l) (hk : In key) (hc : chain o l = true)
    (h : ∀ w', Ext w w' → R (.returned (.int .i64 (idxR o l key : Nat))) w') : Calls Tryz.prog 152 #[.int .u8 o, .slice q n c, .int .i64 key] w R := by
  refine sh152_ok _ _ _ _ _ ?_
  unfold sh152
  refine ⟨⟨⟨?_⟩⟩⟩
  have e1 := ext_alloc w (.cells #[.int .u8 o] 5)
  have h1 := blk_alloc w #[.int .u8 o] 5
  generalize w.heap.size = b1 at *
  generalize w.alloc (.cells #[.int .u8 o] 5) = w1 at *
  have e2 := ext_alloc w1 (.cells #[.slice q n c] 22)
  have h2 := blk_alloc w1 #[.slice q n c] 22
  have h1 := h1.ext e2
  generalize w1.heap.size = b2 at *
  generalize w1.alloc (.cells #[.slice q n c] 22) = w2 at *
  have e3 := ext_alloc w2 (.cells #[.int .i64 key] 2)
  have h3 := blk_alloc w2 #[.int .i64 key] 2
  have h1 := h1.ext e3
  have h2 := h2.ext e3
  generalize w2.heap.size = b3 at *
  generalize w2.alloc (.cells #[.int .i64 key] 2) = w3 at *
  have E := (e1.trans e2).trans e3
  clear e1 e2 e3
  refine ⟨_, _, _, h2.cell (i := 0) rfl rfl, ?_⟩
  refine do_call Tryz.call170 (c_search (n := n) (p := fun k => decide (0 ≤ cmpI o (l.getD k (0, 0)).1 key)) (Inv := fun w' => Ext w3 w') h63 ?_ ?_ (ext_refl _) ?_)
  · intro i j hij hj hp
    have hp := of_decide_eq_true hp
    refine decide_eq_true ?_
    rw [getD_of (by omega)] at hp ⊢
    rcases Nat.lt_or_ge i j with h | h
    · exact cmpI_ge (chain_lt hc h (by omega)) hp
    · have : i = j := by omega
      subst this; exact hp
  · intro k hk' w4 e4 R' hR
    refine do_callc Tryz.call171 (by rfl) (sh171_ok _ _ _ _ ?_)
    unfold sh171
    have E4 := E.trans e4
    refine ⟨⟨fun w' => Ext w3 w', e4.drew, _, fun w' e => (h1.ext e).cell (i := 0) rfl rfl, _, _, _, fun w' e => (h2.ext e).cell (i := 0) rfl rfl, ?_⟩⟩
    refine ix_prC (fun w' e => (hl.ext E).ext e) (ext_refl _) hn rfl hk' fun a r1 _ => ⟨_, r1, _, fun w' e => (h3.ext e).cell (i := 0) rfl rfl, ?_⟩
    refine do_call Tryz.call54 (c_compare (hI _ (List.getElem_mem _)).1 hk fun w5 e5 => retS_ret ⟨_, rfl, e4.drew.trans e5, ?_⟩)
    have := hR w5 (e4.drew.trans e5)
    simp only [getD_of (show k < l.length by omega)] at this
    exact this
  · intro r w4 e4 hr hlo hhi
    refine retS_ret ⟨_, rfl, ?_⟩
    have : idxR o l key = r := by
      refine idxR_eq (by omega) (fun i hi hir => ?_) fun hr' => ?_
      · have := of_decide_eq_false (hlo i hir)
        rw [getD_of hi] at this; omega
      · have := of_decide_eq_true (hhi r (Nat.le_refl _) (by omega))
        rw [getD_of hr'] at this; exact this
    rw [← this]
    exact h _ (E.trans e4)

def hasR (o : Int) (l : List Pr) (key : Int) : Bool := mayR o l && (match l[idxR o l key]? with | some x => x.1 == key | none => false)
def posR (o : Int) (l : List Pr) (key : Int) : Nat := cond (mayR o l) (idxR o l key) 0
theorem posR_le (o : Int) (l : List Pr) (key : Int) : posR o l key ≤ l.length := by
  unfold posR; cases mayR o l
  · simp
  · exact idxR_le _ _ _
theorem mayR_chain {o : Int} {l : List Pr} (h : mayR o l = true) : chain o l = true := by simp [mayR] at h; exact h.2
theorem hasR_may {o : Int} {l : List Pr} {key : Int} (h : hasR o l key = true) : mayR o l = true := by simp [hasR] at h; exact h.1
theorem hasR_lt {o : Int} {l : List Pr} {key : Int} (h : hasR o l key = true) : posR o l key < l.length := by
  have hm := hasR_may h
  simp only [hasR, hm, Bool.true_and] at h
  unfold posR; rw [hm]
  rcases Nat.lt_or_ge (idxR o l key) l.length with h' | h'
  · exact h'
  · rw [List.getElem?_eq_none h'] at h; cases h
theorem hasR_key {o : Int} {l : List Pr} {key : Int} (h : hasR o l key = true) : (l[posR o l key]'(hasR_lt h)).1 = key := by
  have hlt := hasR_lt h
  have hm := hasR_may h
  have hp : posR o l key = idxR o l key := by unfold posR; rw [hm]; rfl
  simp only [hasR, hm, Bool.true_and] at h
  simp only [hp] at hlt ⊢
  rw [List.getElem?_eq_getElem hlt] at h
  simpa using h
theorem c_rowfind {o key : Int} {l : List Pr} {q : OA} {n c : Nat} {w : World} {R : EW} (hl : Cs w q (prs l)) (hn : l.length = n) (h63 : n ≤ 4611686018427387903) (hI : InP l) (hk : In key)
    (h : ∀ w', Ext w w' → R (.returned (.tuple #[.int .i64 (posR o l key : Nat), .bool (hasR o l key)])) w') : Calls Tryz.prog 112 #[.int .u8 o, .slice q n c, .int .i64 key] w R := by
  refine sh112_ok _ _ _ _ _ ?_
  unfold sh112
  refine do_call Tryz.call24 (c_may hl hn (by omega) hI fun w1 e1 => retS_ret ⟨_, rfl, ?_⟩)
  cases hm : mayR o l
  · refine ifB_t rfl ?_
    have := h w1 e1
    simp only [posR, hasR, hm] at this
    exact this
  · refine ifB_f rfl ?_
    refine do_call Tryz.call152 (c_at (hl.ext e1) hn h63 hI hk (mayR_chain hm) fun w2 e2 => retS_ret ⟨_, rfl, ?_⟩)
    have E := (e1.trans e2).drew
    have hr := h w2.drew E
    simp only [posR, hasR, hm, cond_true, Bool.true_and] at hr
    refine ⟨⟨fun w' => Ext w w', E, ?_⟩⟩
    refine ifB_intro (fun hlt => ?_) fun hge => ?_
    · have hlt : idxR o l key < n := by have := of_decide_eq_true hlt; omega
      refine ix_prC (fun w' e => hl.ext e) E hn rfl hlt fun a r1 _ => ⟨_, r1, ?_⟩
      rw [List.getElem?_eq_getElem (by omega)] at hr
      exact hr
    · have hge : n ≤ idxR o l key := by have := of_decide_eq_false hge; omega
      rw [List.getElem?_eq_none (by omega)] at hr
      exact hr
def getR (o : Int) (l : List Pr) (key : Int) : Int := cond (hasR o l key) (l.getD (posR o l key) (0, 0)).2 0
theorem c_rowget {o key : Int} {l : List Pr} {q : OA} {n c : Nat} {w : World} {R : EW} (hl : Cs w q (prs l)) (hn : l.length = n) (h63 : n ≤ 4611686018427387903) (hI : InP l) (hk : In key)
    (h : ∀ w', Ext w w' → R (.returned (.tuple #[.int .i64 (getR o l key), .bool (hasR o l key)])) w') : Calls Tryz.prog 101 #[.int .u8 o, .slice q n c, .int .i64 key] w R := by
  refine sh101_ok _ _ _ _ _ ?_
  unfold sh101
  refine do_call Tryz.call112 (c_rowfind hl hn h63 hI hk fun w1 e1 => retS_ret ⟨_, _, rfl, ?_⟩)
  have hr := h w1 e1
  unfold getR at hr
  cases hm : hasR o l key
  · refine ifB_t rfl ?_
    rw [hm] at hr
    exact hr
  · refine ifB_f rfl ?_
    have hlt := hasR_lt hm
    rw [hm, getD_of hlt] at hr
    exact ix_pr (hl.ext e1) hn rfl (by omega) fun a _ r2 _ => ⟨_, r2, hr⟩
def floorR (o : Int) (l : List Pr) (key : Int) : Pr := cond (hasR o l key) (l.getD (posR o l key) (0, 0)) (if posR o l key = 0 then (0, 0) else l.getD (posR o l key - 1) (0, 0))
def isFloorR (o : Int) (l : List Pr) (key : Int) : Bool := hasR o l key || decide (0 < posR o l key)
def ceilR (o : Int) (l : List Pr) (key : Int) : Pr := cond (mayR o l) (l.getD (posR o l key) (0, 0)) (0, 0)
def isCeilR (o : Int) (l : List Pr) (key : Int) : Bool := mayR o l && decide (posR o l key < l.length)
theorem do_st2 {w : World} {b : Nat} {u v x y : Value} {t : TypeId} (h : Blk w b #[u, v] t) {K : World → Prop} (k : ∀ w', Blk w' b #[x, y] t → w.grownBy w' (some b) → K w') :
    doSt ((blk b).add 0) x w fun w1 => doSt ((blk b).add 1) y w1 K :=
  do_st h (i := 0) rfl (by simp) fun _ h1 g1 => do_st h1 (i := 1) rfl (by simp) fun _ h2 g2 => k _ h2 (grown_trans g1 g2)
theorem c_rowfloor {o key : Int} {l : List Pr} {q : OA} {n c : Nat} {w : World} {R : EW} (hl : Cs w q (prs l)) (hn : l.length = n) (h63 : n ≤ 4611686018427387903) (hI : InP l) (hk : In key)
    (h : ∀ w', Ext w w' → R (.returned (.tuple #[agP (floorR o l key), .bool (isFloorR o l key)])) w') : Calls Tryz.prog 103 #[.int .u8 o, .slice q n c, .int .i64 key] w R := by
  refine sh103_ok _ _ _ _ _ ?_
  unfold sh103
  refine ⟨?_⟩
  have e0 := ext_alloc w (.cells #[.int .i64 0, .int .i64 0] 63)
  have hb := blk_alloc w #[.int .i64 0, .int .i64 0] 63
  generalize hb0 : w.heap.size = b at *
  generalize w.alloc (.cells #[.int .i64 0, .int .i64 0] 63) = w0 at *
  refine do_call Tryz.call112 (c_rowfind (hl.ext e0) hn h63 hI hk fun w1 e1 => retS_ret ⟨_, _, rfl, ?_⟩)
  have E := e0.trans e1
  have hb := hb.ext e1
  refine ifB_intro (fun hm => ?_) fun hm => ?_
  · have hlt := hasR_lt hm
    refine ix_pr (hl.ext E) hn rfl (by omega) fun a r1 r2 _ => ⟨_, r1, _, r2, ?_⟩
    refine do_st2 hb fun w2 h2 g2 => ⟨_, h2.cell (i := 0) rfl rfl, _, h2.cell (i := 1) rfl rfl, ?_⟩
    have hr := h w2 (E.st g2 (by omega))
    simp only [floorR, isFloorR, hm, getD_of hlt] at hr
    exact hr
  · refine ifB_intro (fun hp => ?_) fun hp => ?_
    · have hp : 0 < posR o l key := by have := of_decide_eq_true hp; omega
      have hle := posR_le o l key
      have e : IntKind.wrap .i64 ((posR o l key : Nat) - 1 : Int) = ((posR o l key - 1 : Nat) : Int) := by rw [wrap_of (by omega) (by omega)]; omega
      refine ix_pr (hl.ext E) hn e (by omega) fun a r1 r2 _ => ⟨_, r1, _, r2, ?_⟩
      refine do_st2 hb fun w2 h2 g2 => ⟨_, h2.cell (i := 0) rfl rfl, _, h2.cell (i := 1) rfl rfl, ?_⟩
      have hr := h w2 (E.st g2 (by omega))
      simp only [floorR, isFloorR, hm, cond_false, if_neg (show ¬ posR o l key = 0 by omega), decide_eq_true hp, Bool.false_or, getD_of (show posR o l key - 1 < l.length by omega)] at hr
      exact hr
    · have hp : posR o l key = 0 := by have := of_decide_eq_false hp; omega
      refine do_st2 hb fun w2 h2 g2 => ⟨_, h2.cell (i := 0) rfl rfl, _, h2.cell (i := 1) rfl rfl, ?_⟩
      have hr := h w2 (E.st g2 (by omega))
      simp only [floorR, isFloorR, hm, cond_false, hp, Bool.false_or] at hr
      exact hr
theorem c_rowceil {o key : Int} {l : List Pr} {q : OA} {n c : Nat} {w : World} {R : EW} (hl : Cs w q (prs l)) (hn : l.length = n) (h63 : n ≤ 4611686018427387903) (hI : InP l) (hk : In key)
    (h : ∀ w', Ext w w' → R (.returned (.tuple #[agP (ceilR o l key), .bool (isCeilR o l key)])) w') : Calls Tryz.prog 104 #[.int .u8 o, .slice q n c, .int .i64 key] w R := by
  refine sh104_ok _ _ _ _ _ ?_
  unfold sh104
  refine ⟨?_⟩
  have e0 := ext_alloc w (.cells #[.int .i64 0, .int .i64 0] 63)
  have hb := blk_alloc w #[.int .i64 0, .int .i64 0] 63
  generalize hb0 : w.heap.size = b at *
  generalize w.alloc (.cells #[.int .i64 0, .int .i64 0] 63) = w0 at *
  have hno : ∀ {w' : World}, Ext w w' → Blk w' b #[.int .i64 0, .int .i64 0] 63 → isCeilR o l key = false → ceilR o l key = (0, 0) →
      doSt ((blk b).add 0) (.int .i64 0) w' (fun w10 => doSt ((blk b).add 1) (.int .i64 0) w10 (fun w11 => ∃ (x12 : Int), w11.cell? ((blk b).add 0) = some (.int .i64 x12) ∧ (
        ∃ (x13 : Int), w11.cell? ((blk b).add 1) = some (.int .i64 x13) ∧ (R (.returned (.tuple #[.agg #[.int .i64 x12, .int .i64 x13], .bool false])) w11)))) := by
    intro w' e' hb' hi hc
    refine do_st2 hb' fun w2 h2 g2 => ⟨_, h2.cell (i := 0) rfl rfl, _, h2.cell (i := 1) rfl rfl, ?_⟩
    have hr := h w2 (e'.st g2 (by omega))
    rw [hi, hc] at hr
    exact hr
  refine do_call Tryz.call112 (c_rowfind (hl.ext e0) hn h63 hI hk fun w1 e1 => retS_ret ⟨_, _, rfl, ?_⟩)
  have E := e0.trans e1
  have hb := hb.ext e1
  refine ifB_intro (fun hp => ?_) fun hp => ?_
  · have hp : posR o l key < n := by have := of_decide_eq_true hp; omega
    refine do_call Tryz.call24 (c_may (hl.ext E) hn (by omega) hI fun w2 e2 => retS_ret ⟨_, rfl, ?_⟩)
    have E := E.trans e2
    have hb := hb.ext e2
    refine ifB_intro (fun hm => ?_) fun hm => ?_
    · refine ix_pr (hl.ext E) hn rfl (by omega) fun a r1 r2 _ => ⟨_, r1, _, r2, ?_⟩
      refine do_st2 hb fun w2 h2 g2 => ⟨_, h2.cell (i := 0) rfl rfl, _, h2.cell (i := 1) rfl rfl, ?_⟩
      have hr := h w2 (E.st g2 (by omega))
      simp only [ceilR, isCeilR, hm, cond_true, getD_of (show posR o l key < l.length by omega), Bool.true_and, decide_eq_true (show posR o l key < l.length by omega)] at hr
      exact hr
    · exact hno E hb (by simp [isCeilR, hm]) (by simp [ceilR, hm])
  · have hp : ¬ posR o l key < l.length := by have := of_decide_eq_false hp; omega
    refine hno E hb (by simp [isCeilR, hp]) ?_
    unfold ceilR
    cases mayR o l
    · rfl
    · simp [List.getElem?_eq_none (show l.length ≤ posR o l key by omega)]
end Go.Proofs.YtmdboekndjlmgaaGreat

namespace Go.Proofs.YtmdboekndjlmgaaGreat
open Go Go.Sh Go.RowKit

abbrev OwnP (w : World) (base : Nat) (p : OA) (n c : Nat) (l : List Pr) : Prop := w.ownsRow base 63 2 (.slice p n c) n (prs l)
theorem ownP_open {w : World} {base n c : Nat} {p : OA} {l : List Pr} (h : OwnP w base p n c l) : (p = none ∧ n = 0 ∧ c = 0) ∨
    ∃ g cur, p = some ⟨g, 0, none⟩ ∧ base ≤ g ∧ Blk w g (List.toArray cur) 63 ∧ n ≤ c ∧ c ≤ maxLen ∧ cur.length = c * 2 ∧ cur.take (n * 2) = prs l := by
  rcases h.2 with ⟨hv, hn⟩ | ⟨g, cap, cur, hv, hb, hg, h1, h2, h3, h4⟩
  · cases hv; exact .inl ⟨rfl, rfl, rfl⟩
  · cases hv; exact .inr ⟨g, cur.toList, rfl, hb, hg, h1, h2, by simpa using h3, h4⟩
theorem ownP_close {w : World} {base g n c : Nat} {cur : List Value} {l : List Pr} (hb : base ≤ g) (hg : Blk w g cur.toArray 63) (h1 : n ≤ c) (h2 : c ≤ maxLen) (h3 : cur.length = c * 2) (h4 : cur.take (n * 2) = prs l) : OwnP w base (some ⟨g, 0, none⟩) n c l := by
  refine ⟨by rw [← h4]; simp; omega, .inr ⟨g, c, cur.toArray, rfl, hb, hg, h1, h2, by simpa using h3, h4⟩⟩
theorem ownP_len {w : World} {base n c : Nat} {p : OA} {l : List Pr} (h : OwnP w base p n c l) : l.length = n := by have := h.1; simp at this; omega
theorem ownP_cs {w : World} {base n c : Nat} {p : OA} {l : List Pr} (h : OwnP w base p n c l) : Cs w p (prs l) := Cs.of_row h
theorem ownP_nil (w : World) (base : Nat) : OwnP w base none 0 0 [] := World.ownsRow_nil _ _ _ _
theorem cs_prs_nil {w : World} {q : OA} {l : List Pr} (h : Cs w q (prs l)) (hq : q = none) : l = [] := by
  subst hq
  cases l with
  | nil => rfl
  | cons x xs => obtain ⟨a, ha, _⟩ := h 0 (.int .i64 x.1) rfl; cases ha
theorem c_clone {l : List Pr} {q : OA} {n c : Nat} {w : World} {R : EW} (hl : Cs w q (prs l)) (hn : l.length = n) (hm : n ≤ 1000000000000)
    (h : ∀ p c' w', OwnP w' w.heap.size p n c' l → Ext w w' → R (.returned (.slice p n c')) w') : Calls Tryz.prog 27 #[.slice q n c] w R := by
  refine sh27_ok _ _ _ ?_
  unfold sh27
  cases q with
  | none =>
    have h0 := cs_prs_nil hl rfl
    subst h0
    have hn0 : n = 0 := by simpa using hn.symm
    subst hn0
    exact ifB_t rfl (h _ _ _ (ownP_nil w _) (ext_refl w))
  | some a =>
    refine ifB_f rfl ⟨?_⟩
    have e1 := ext_alloc w (.cells #[] 63)
    have hr := World.ownsRow_lit (base := w.heap.size) (size := 2) (e := 63) w #[] 0 (Nat.le_refl _) (by simp [maxLen]) (by simp)
    refine do_append elP hr (news := prs l) (hl.ext e1) (by simp [hn]) prs_one (by simp only [maxLen]; omega) (by omega) e1.size fun p c' w' h1 h2 => retS_ret ⟨_, _, _, rfl, ?_⟩
    simp only [Nat.zero_add, List.nil_append] at h1 ⊢
    exact h p c' w' h1 (e1.grown h2 (by rintro _ ⟨⟩; exact Nat.le_refl _))
theorem prs_split (l : List Pr) (i : Nat) : prs l = prs (l.take i) ++ prs (l.drop i) := by rw [← prs_append, List.take_append_drop]
theorem drop2 {Q : List Value} (h : 2 ≤ Q.length) : ∃ a b Z, Q = a :: b :: Z := by
  match Q, h with
  | a :: b :: Z, _ => exact ⟨a, b, Z, rfl⟩
theorem c_insert {l : List Pr} {x : Pr} {p : OA} {n c base vb i : Nat} {w : World} {R : EW} (ho : OwnP w base p n c l) (hb : base ≤ w.heap.size) (hm : n ≤ 1000000000000) (hi : i ≤ n)
    (hv : Blk w vb #[.int .i64 x.1, .int .i64 x.2] 63) (hne : p ≠ some (blk vb))
    (h : ∀ p' c' w', OwnP w' base p' (n + 1) c' (l.take i ++ x :: l.drop i) → w.grownBy w' (Value.slice p n c).ownBlock → R (.returned (.slice p' (n + 1 : Nat) c')) w') :
    Calls Tryz.prog 141 #[.slice p n c, .int .i64 (i : Nat), .slice (some (blk vb)) 1 1] w R := by
  refine sh141_ok _ _ _ _ _ _ _ ?_
  unfold sh141
  have hl := ownP_len ho
  have hcs := ownP_cs ho
  have hnc : n ≤ c := row_cap ho
  have hvc : Cs w (some (blk vb)) (prs [x]) := fun j v hj => by
    match j, hj with
    | 0, hj => cases hj; exact ⟨_, rfl, hv.cell (by rw [add_blk]) rfl⟩
    | 1, hj => cases hj; exact ⟨_, rfl, hv.cell (by rw [add_blk]) rfl⟩
    | j + 2, hj => simp at hj
  have hA : (prs (l.take i)).length = i * 2 := by simp; omega
  have hB : (prs (l.drop i)).length = (n - i) * 2 := by simp; omega
  have hX : (prs [x]).length = 2 := rfl
  have hres : prs (l.take i ++ x :: l.drop i) = prs (l.take i) ++ (prs [x] ++ prs (l.drop i)) := by rw [prs_append]; rfl
  have hdrop : ∀ {w' : World} {K : OA → Nat → Nat → Prop}, Cs w' p (prs l) → (∀ q, Cs w' q (prs (l.drop i)) → K q (n - i) (c - i)) → doSl p c 2 (i : Nat) (n : Nat) K := fun hc k =>
    sl_pr hc hl hnc rfl rfl hi (Nat.le_refl n) fun q hq _ => by rw [← hl, List.take_length] at hq; exact hl ▸ k q hq
  refine hdrop hcs fun q0 _ => ?_
  refine ifB_f (by rfl) ?_
  refine ifB_intro (fun hin => ?_) fun hin => ?_
  · have hin : i = n := Int.ofNat_inj.1 (by simpa using hin)
    subst hin
    refine do_append elP ho (m := 1) hvc rfl prs_one (by simp only [maxLen]; omega) (by omega) hb fun p' c' w' h1 h2 => retS_ret ⟨_, _, _, rfl, ?_⟩
    refine h p' c' w' ?_ h2
    have e : l.take i ++ x :: l.drop i = l ++ [x] := by rw [← hl, List.take_length, List.drop_length]
    rw [e]
    unfold OwnP
    rw [prs_append]
    exact h1
  · have hin : i < n := by have : ¬ (i : Int) = n := by simpa using hin
                           omega
    refine do_cap (Tryz.underlying22) (retS_ret ⟨_, rfl, ?_⟩)
    have e1 : IntKind.wrap .i64 ((n : Int) + ((1 : Nat) : Int)) = ((n + 1 : Nat) : Int) := by rw [wrap_of (by omega) (by omega)]; omega
    have e2 : IntKind.wrap .i64 ((i : Int) + ((1 : Nat) : Int)) = ((i + 1 : Nat) : Int) := by rw [wrap_of (by omega) (by omega)]; omega
    have e3 : IntKind.wrap .i64 (((n + 1 : Nat) : Int) - (i : Int)) = ((n + 1 - i : Nat) : Int) := by rw [wrap_of (by omega) (by omega)]; omega
    simp only [e1, e2, e3]
    refine ifB_intro (fun hgt => ?_) fun hgt => ?_
    · have hgt : c < n + 1 := by have := of_decide_eq_true hgt; omega
      refine sl_pr (a := 0) (b := i) hcs hl hnc rfl rfl (by omega) hi fun q1 hq1 _ => ?_
      simp only [List.drop_zero, Nat.sub_zero] at hq1 ⊢
      refine do_append_zeros elP (Tryz.underlying3) (cs := prs (l.take i)) (n := i) (m := n + 1 - i) hA hq1 (by omega) (by omega) (by omega) (by simp only [maxLen]; omega) ?_
      intro b c' Q w1 hbb hc1 hc2 hQ hblk e1' 
      refine retS_ret ⟨_, _, _, rfl, ?_⟩
      rw [show i + (n + 1 - i) = n + 1 by omega] at hc1 ⊢
      obtain ⟨y1, y2, Z, rfl⟩ := drop2 (Q := Q) (by rw [hQ]; omega)
      have hZ : Z.length = (c' - i) * 2 - 2 := by simp at hQ; omega
      obtain ⟨Z1, Z2, rfl, hZ1⟩ : ∃ Z1 Z2, Z = Z1 ++ Z2 ∧ Z1.length = (n - i) * 2 := ⟨Z.take ((n - i) * 2), Z.drop ((n - i) * 2), (List.take_append_drop _ _).symm, by simp; omega⟩
      have hcell : c' ≤ maxLen := hc2
      refine ⟨by omega, by omega, by omega, ?_⟩
      rw [if_neg (by omega)]
      refine do_copy elP (g := b) (off := i * 2) (cs := prs [x]) hblk (fun _ => ?_) ?_ (hvc.ext e1') (by simp at hZ ⊢; omega) prs_one fun w2 hb2 g2 => retS_ret ⟨_, rfl, ⟨?_⟩⟩
      · simp only [Option.map_some, Int.toNat_natCast, Option.some.injEq]; exact add_blk b _
      · rw [show min 1 (((n + 1 : Nat) : Int).toNat - (i : Int).toNat) = 1 by omega]; rfl
      have hl2 : lay (prs (l.take i) ++ (y1 :: y2 :: (Z1 ++ Z2))) (i * 2) (prs [x]) = prs (l.take i) ++ (prs [x] ++ (Z1 ++ Z2)) := lay_mid (Y := [y1, y2]) hA.symm rfl
      rw [hl2] at hb2
      refine ⟨by omega, by omega, by omega, ?_⟩
      have e12 : Ext w w2 := e1'.st g2 (by omega)
      refine hdrop ((hcs.ext e12).ext (ext_drew _)) fun q3 hq3 => ?_
      refine do_copy elP (g := b) (off := (i + 1) * 2) (cs := prs (l.drop i)) (cur := prs (l.take i) ++ (prs [x] ++ (Z1 ++ Z2))) (w := w2.drew) hb2 (fun _ => ?_) ?_ hq3 ?_ prs_one fun w3 hb3 g3 => retS_ret ⟨_, rfl, ?_⟩
      · rw [if_neg (by omega)]
        simp only [Option.map_some, Int.toNat_natCast, Option.some.injEq]; exact add_blk b _
      · rw [hB, show min (n - i) (((n + 1 : Nat) : Int).toNat - ((i + 1 : Nat) : Int).toNat) = n - i by omega]
      · simp at hZ ⊢; omega
      have hl3 : lay (prs (l.take i) ++ (prs [x] ++ (Z1 ++ Z2))) ((i + 1) * 2) (prs (l.drop i)) = prs (l.take i) ++ (prs [x] ++ (prs (l.drop i) ++ Z2)) := by
        rw [← List.append_assoc, lay_mid (by simp; omega) (by rw [hZ1, hB]), List.append_assoc]
      rw [hl3] at hb3
      refine h _ _ _ (ownP_close (by omega) hb3 hc1 hc2 ?_ ?_) ?_
      · simp at hZ ⊢; omega
      · rw [hres, ← List.append_assoc, ← List.append_assoc, List.take_left' (by simp; omega), List.append_assoc]
      · have := e12.drew.st g3 (by omega)
        exact ⟨this.os, this.tape, this.output, this.size, fun k hk _ => this.block k hk⟩
    · have hge : n + 1 ≤ c := by have := of_decide_eq_false hgt; omega
      rcases ownP_open ho with ⟨_, hn0, _⟩ | ⟨g, cur, hp, hbg, hg, _, hcm, hcl, hct⟩
      · omega
      subst hp
      have hvg : vb ≠ g := fun e => hne (by rw [e])
      obtain ⟨C, hC⟩ : ∃ C, cur = prs (l.take i) ++ (prs (l.drop i) ++ C) := ⟨cur.drop (n * 2), by rw [← List.append_assoc, ← prs_split l i, ← hct, List.take_append_drop]⟩
      have hCl : C.length = (c - n) * 2 := by rw [hC] at hcl; simp at hcl; omega
      obtain ⟨y1, y2, C', rfl⟩ := drop2 (Q := C) (by omega)
      refine ⟨by omega, by omega, by omega, ?_⟩
      rw [if_neg (by omega)]
      simp only [Option.map_some, Int.toNat_zero, Nat.zero_mul, add_zero', Int.toNat_natCast, Nat.sub_zero]
      have hsub : ∀ {j : Nat} {K : OA → Nat → Nat → Prop}, j ≤ n + 1 → (∀ q, (j < n + 1 → q = some ⟨g, j * 2, none⟩) → K q (n + 1 - j) (c - j)) → doSl (some ⟨g, 0, none⟩) c 2 (j : Nat) ((n + 1 : Nat) : Int) K := fun hj k => by
        refine ⟨by omega, by omega, by omega, ?_⟩
        simp only [Int.toNat_natCast]
        refine k _ fun hlt => ?_
        rw [if_neg (by omega)]
        simp only [Option.map_some, Option.some.injEq]; exact add_blk g _
      refine hsub (by omega) fun q1 hq1 => ?_
      have hcall : ∀ {R : EW}, R (.returned (.bool false)) w → doCall Tryz.prog (.func (.func 165) #[] #[]) #[.slice (some (blk vb)) 1 1, .slice q1 (n + 1 - (i + 1)) (c - (i + 1))] w R := fun hR => by
        have hq1' := hq1 (by omega)
        subst hq1'
        exact do_overlaps Tryz.func165 (by kernel_rfl) (by kernel_rfl) (by kernel_rfl) (t := 22) (tr := 4) (by kernel_rfl) elP hv hg hvg (by rw [List.size_toArray, hcl]; omega) hR
      refine hcall (retS_ret ⟨_, rfl, ?_⟩)
      refine ifB_t rfl ⟨?_⟩
      refine hsub (by omega) fun q2 hq2 => hsub (by omega) fun q3 hq3 => ?_
      have hc3 : Cs w.drew q3 (prs (l.drop i)) := by
        rw [hq3 (by omega)]
        intro j v hj
        refine ⟨_, rfl, ?_⟩
        have hd := hcs.drop (i * 2) j v (by rw [prs_drop]; exact hj)
        obtain ⟨a, ha, hcell⟩ := hd
        cases ha
        rw [add_add, add_blk] at hcell
        have : (⟨g, i * 2, none⟩ : Addr).add j = ⟨g, i * 2 + j, none⟩ := by unfold Addr.add; split <;> simp_all
        rw [this]; exact hcell
      refine do_copy elP (g := g) (off := (i + 1) * 2) (cs := prs (l.drop i)) (cur := cur) (w := w.drew) hg (fun _ => hq2 (by omega)) ?_ hc3 (by rw [hB, hcl]; omega) prs_one fun w2 hb2 g2 => retS_ret ⟨_, rfl, ?_⟩
      · rw [hB, show min (n + 1 - i) (n + 1 - (i + 1)) = n - i by omega]
      obtain ⟨b1, b2, B', hB'⟩ := drop2 (Q := prs (l.drop i)) (by omega)
      have hBl : B'.length + 2 = (n - i) * 2 := by rw [← hB, hB']; rfl
      have hl2 : lay cur ((i + 1) * 2) (prs (l.drop i)) = prs (l.take i) ++ ([b1, b2] ++ (prs (l.drop i) ++ C')) := by
        rw [hC, ← List.append_assoc (prs (l.take i)) [b1, b2]]
        have : prs (l.take i) ++ (prs (l.drop i) ++ y1 :: y2 :: C') = (prs (l.take i) ++ [b1, b2]) ++ ((B' ++ [y1, y2]) ++ C') := by rw [hB']; simp
        rw [this, lay_mid (by simp; omega) (by rw [hB]; simp; omega)]
      rw [hl2] at hb2
      refine hsub (by omega) fun q4 hq4 => ?_
      refine do_copy elP (g := g) (off := i * 2) (cs := prs [x]) hb2 (fun _ => hq4 (by omega)) ?_ (q := some (blk vb)) ?_ (by simp; omega) prs_one fun w3 hb3 g3 => retS_ret ⟨_, rfl, ?_⟩
      · rw [show min 1 (n + 1 - i) = 1 by omega]; rfl
      · have hv2 : Blk w2 vb #[.int .i64 x.1, .int .i64 x.2] 63 := Blk.grown (w := w.drew) hv g2 (ne_some hvg)
        intro j v hj
        match j, hj with
        | 0, hj => cases hj; exact ⟨_, rfl, hv2.cell (by rw [add_blk]) rfl⟩
        | 1, hj => cases hj; exact ⟨_, rfl, hv2.cell (by rw [add_blk]) rfl⟩
        | j + 2, hj => simp at hj
      rw [lay_mid (A := prs (l.take i)) (Y := [b1, b2]) (X := prs [x]) hA.symm rfl] at hb3
      refine h _ _ _ (ownP_close hbg hb3 hge hcm ?_ ?_) (grown_trans (grown_trans (grown_drew w _) g2) g3)
      · simp at hCl ⊢; omega
      · rw [hres, ← List.append_assoc, ← List.append_assoc, List.take_left' (by simp; omega), List.append_assoc]
theorem c_delete {l : List Pr} {p : OA} {n c base i : Nat} {w : World} {R : EW} (ho : OwnP w base p n c l) (hm : n ≤ 1000000000000) (hi : i < n)
    (h : ∀ p' c' w', OwnP w' base p' (n - 1) c' (l.take i ++ l.drop (i + 1)) → w.grownBy w' (Value.slice p n c).ownBlock → R (.returned (.slice p' (n - 1 : Nat) c')) w') :
    Calls Tryz.prog 143 #[.slice p n c, .int .i64 (i : Nat), .int .i64 (i + 1 : Nat)] w R := by
  refine sh143_ok _ _ _ _ _ ?_
  unfold sh143
  have hl := ownP_len ho
  have hcs := ownP_cs ho
  have hnc : n ≤ c := row_cap ho
  rcases ownP_open ho with ⟨_, hn0, _⟩ | ⟨g, cur, hp, hbg, hg, _, hcm, hcl, hct⟩
  · omega
  subst hp
  have hA : (prs (l.take i)).length = i * 2 := by simp; omega
  have hB : (prs (l.drop (i + 1))).length = (n - (i + 1)) * 2 := by simp; omega
  have hres : prs (l.take i ++ l.drop (i + 1)) = prs (l.take i) ++ prs (l.drop (i + 1)) := prs_append _ _
  refine ⟨by omega, by omega, by omega, by omega, ifB_f ?_ ⟨?_⟩⟩
  · simp; omega
  refine sl_pr (a := 0) (b := i) hcs hl hnc rfl rfl (by omega) (by omega) fun q1 _ hq1 => ?_
  rw [if_neg (by omega)] at hq1
  simp only [Option.map_some, Nat.zero_mul, add_zero'] at hq1
  subst hq1
  refine sl_pr (a := i + 1) (b := n) hcs hl hnc rfl rfl (by omega) (Nat.le_refl n) fun q2 hc2 hq2 => ?_
  rw [← hl, List.take_length] at hc2
  obtain ⟨C, hC⟩ : ∃ C, cur = prs (l.take i) ++ (prs (l.drop i) ++ C) := ⟨cur.drop (n * 2), by rw [← List.append_assoc, ← prs_split l i, ← hct, List.take_append_drop]⟩
  have hCl : C.length = (c - n) * 2 := by rw [hC] at hcl; simp at hcl; omega
  have hD : prs (l.drop i) = .int .i64 (l[i]'(by omega)).1 :: .int .i64 (l[i]'(by omega)).2 :: prs (l.drop (i + 1)) := by rw [List.drop_eq_getElem_cons (by omega)]; rfl
  refine do_append_room elP (w := w.drew) (n := i) (m := n - (i + 1)) (cs := prs (l.drop (i + 1))) hg hB (hc2.ext (ext_drew w)) (by omega) (by rw [hB, hcl]; omega) prs_one (fun hq => ?_) fun w1 hb1 g1 => retS_ret ⟨_, _, _, rfl, ?_⟩
  · rw [hq2] at hq; split at hq <;> cases hq
  obtain ⟨Z1, Z2, hZ, hZ1⟩ : ∃ Z1 Z2, prs (l.drop i) = Z1 ++ Z2 ∧ Z1.length = (n - (i + 1)) * 2 := ⟨_, _, (List.take_append_drop ((n - (i + 1)) * 2) _).symm, by rw [List.length_take]; simp; omega⟩
  have hZ2 : Z2.length = 2 := by
    have := congrArg List.length hZ
    simp [hZ1] at this; omega
  have hl1 : lay cur (i * 2) (prs (l.drop (i + 1))) = (prs (l.take i) ++ prs (l.drop (i + 1))) ++ (Z2 ++ C) := by
    rw [hC, hZ, List.append_assoc Z1, lay_mid hA.symm (by rw [hZ1, hB]), List.append_assoc]
  rw [hl1] at hb1
  have en : i + (n - (i + 1)) = n - 1 := by omega
  rw [en]
  refine ⟨by omega, by omega, by omega, ?_⟩
  refine do_clear elP (by intro u hu; simp [Value.cells] at hu; subst hu; rfl) (g := g) (off := (n - 1) * 2) hb1 ?_ (by simp; omega) fun Q w2 hQ hb2 g2 => retS_ret ⟨rfl, ?_⟩
  · rw [if_neg (by omega)]
    simp only [Option.map_some, Int.toNat_natCast, Option.some.injEq]; exact add_blk g _
  rw [lay_mid (by simp; omega) (by rw [hZ2, hQ]; omega)] at hb2
  refine h _ _ _ (ownP_close hbg hb2 (by omega) hcm ?_ ?_) (grown_trans (grown_trans (grown_drew w _) g1) g2)
  · simp [hQ]; omega
  · rw [hres, List.take_left' (by simp; omega)]
def dropR (o : Int) (l : List Pr) (key : Int) : List Pr := cond (mayR o l) (cond (hasR o l key) (l.take (posR o l key) ++ l.drop (posR o l key + 1)) l) []
theorem row_to {w w' : World} {base base' n c : Nat} {p : OA} {l : List Pr} (h : OwnP w base p n c l) (e : Ext w w') (hb : base' ≤ base) : OwnP w' base' p n c l := row_mono (e.row h) hb
theorem ext_own {a w w' : World} {base n c : Nat} {p : OA} {l : List Pr} (h : OwnP w base p n c l) (e : Ext a w) (g : w.grownBy w' (Value.slice p n c).ownBlock) (hb : a.heap.size ≤ base) : Ext a w' :=
  e.grown g fun k hk => Nat.le_trans hb (World.ownsRow.lt h k hk).1
theorem c_drop {o key : Int} {l : List Pr} {q : OA} {n c : Nat} {w : World} {R : EW} (hl : Cs w q (prs l)) (hn : l.length = n) (hm : n ≤ 1000000000000) (hI : InP l) (hk : In key)
    (h : ∀ p n' c' w', OwnP w' w.heap.size p n' c' (dropR o l key) → Ext w w' → R (.returned (.tuple #[.slice p n' c', .bool (hasR o l key)])) w') : Calls Tryz.prog 100 #[.int .u8 o, .slice q n c, .int .i64 key] w R := by
  refine sh100_ok _ _ _ _ _ ?_
  unfold sh100
  refine do_call Tryz.call24 (c_may hl hn (by omega) hI fun w1 e1 => retS_ret ⟨_, rfl, ?_⟩)
  cases hmay : mayR o l
  · refine ifB_t rfl ?_
    have hr := h none 0 0 w1
    simp only [dropR, hasR, hmay, cond_false, Bool.false_and] at hr
    exact hr (ownP_nil _ _) e1
  · refine ifB_f rfl ?_
    refine do_call Tryz.call27 (c_clone (hl.ext e1) hn hm fun p c1 w2 ho e2 => retS_ret ⟨_, _, _, rfl, ?_⟩)
    refine do_call Tryz.call112 (c_rowfind ((hl.ext e1).ext e2) hn (by omega) hI hk fun w3 e3 => retS_ret ⟨_, _, rfl, ?_⟩)
    have E3 := (e1.trans e2).trans e3
    have ho3 := row_to ho e3 e1.size
    cases hh : hasR o l key
    · refine ifB_t rfl ?_
      have hr := h p n c1 w3
      simp only [dropR, hh, hmay, cond_false, cond_true] at hr
      exact hr ho3 E3
    · refine ifB_f rfl ?_
      have hlt := hasR_lt hh
      rw [show IntKind.wrap .i64 ((posR o l key : Nat) + 1 : Int) = ((posR o l key + 1 : Nat) : Int) from wrap_succ (n := n) (by omega) (by omega)]
      refine do_call Tryz.call143 (c_delete ho3 hm (by omega) fun p' c' w4 ho4 g4 => retS_ret ⟨_, _, _, rfl, ?_⟩)
      have hr := h p' (n - 1) c' w4
      simp only [dropR, hh, hmay, cond_true] at hr
      exact hr ho4 (ext_own ho3 E3 g4 (Nat.le_refl _))
def putR (o p : Int) (l : List Pr) (x : Pr) : List Pr :=
  cond (mayR o l && may p) (cond (hasR o l x.1) (l.set (posR o l x.1) (x.1, comb p (l.getD (posR o l x.1) (0, 0)).2 x.2)) (l.take (posR o l x.1) ++ x :: l.drop (posR o l x.1))) []
def putE (o p : Int) (l : List Pr) : Int := cond (mayR o l && may p) 0 2
theorem prs_set2 {l : List Pr} {k : Nat} (hk : k < l.length) (v : Int) : (prs l).set (k * 2 + 1) (.int .i64 v) = prs (l.set k (l[k].1, v)) := by
  induction l generalizing k with
  | nil => simp at hk
  | cons x xs ih =>
    cases k with
    | zero => rfl
    | succ k =>
      have := ih (k := k) (by simpa using hk)
      rw [show (k + 1) * 2 + 1 = k * 2 + 1 + 1 + 1 by omega]
      simp only [prs_cons, List.set_cons_succ, List.getElem_cons_succ, this]
theorem prs_set1 {l : List Pr} {k : Nat} (hk : k < l.length) (v : Int) : (prs l).set (k * 2) (.int .i64 v) = prs (l.set k (v, l[k].2)) := by
  induction l generalizing k with
  | nil => simp at hk
  | cons x xs ih =>
    cases k with
    | zero => rfl
    | succ k =>
      have := ih (k := k) (by simpa using hk)
      rw [show (k + 1) * 2 = k * 2 + 1 + 1 by omega]
      simp only [prs_cons, List.set_cons_succ, List.getElem_cons_succ, this]
theorem own_st2 {l : List Pr} {p : OA} {n c base k : Nat} {w : World} (ho : OwnP w base p n c l) (hk : k < n) {a : Addr} (ha : ∃ b, p = some b ∧ a = b.add (k * 2)) {v : Int} {K : World → Prop}
    (h : ∀ w', OwnP w' base p n c (l.set k ((l[k]'(by rw [ownP_len ho]; exact hk)).1, v)) → w.grownBy w' (Value.slice p n c).ownBlock → K w') : doSt ((a.add 1).add 0) (.int .i64 v) w K := by
  obtain ⟨b, hb, rfl⟩ := ha
  have hl := ownP_len ho
  rcases ownP_open ho with ⟨hp, hn0, _⟩ | ⟨g, cur, hp, hbg, hg, _, hcm, hcl, hct⟩
  · omega
  subst hp; cases hb
  rw [add_zero', add_add]
  have ea : (⟨g, 0, none⟩ : Addr).add (k * 2 + 1) = ⟨g, k * 2 + 1, none⟩ := add_blk g _
  rw [ea]
  have hs := ho.stored (k * 2 + 1) (.int .i64 v)
  rw [prs_set2 (by omega)] at hs
  exact ⟨⟨_, by rw [ho.cellAt _ (by omega)]; exact List.getElem?_eq_getElem (by simp; omega)⟩, ho.frozenAt _, h _ hs.1 hs.2⟩
theorem c_put {o p : Int} {l : List Pr} {x : Pr} {q : OA} {n c : Nat} {w : World} {R : EW} (hl : Cs w q (prs l)) (hn : l.length = n) (hm : n ≤ 1000000000000) (hI : InP l) (hx : In x.1)
    (h : ∀ p' n' c' w', OwnP w' w.heap.size p' n' c' (putR o p l x) → Ext w w' → R (.returned (.tuple #[.slice p' n' c', .int .i64 (putE o p l)])) w') : Calls Tryz.prog 97 #[.int .u8 o, .int .u8 p, .slice q n c, agP x] w R := by
  refine sh97_ok _ _ _ _ _ _ _ ?_
  unfold sh97
  refine ⟨?_⟩
  have e0 := ext_alloc w (.cells #[.int .i64 x.1, .int .i64 x.2] 63)
  have hb := blk_alloc w #[.int .i64 x.1, .int .i64 x.2] 63
  generalize hb0 : w.heap.size = b at *
  generalize w.alloc (.cells #[.int .i64 x.1, .int .i64 x.2] 63) = w0 at *
  refine do_call Tryz.call24 (c_may (hl.ext e0) hn (by omega) hI fun w1 e1 => retS_ret ⟨_, rfl, ?_⟩)
  have E1 := e0.trans e1
  have hb1 := hb.ext e1
  cases hmay : mayR o l
  · refine ifB_t rfl ?_
    have hr := h none 0 0 w1
    simp only [putR, putE, hmay, cond_false, Bool.false_and] at hr
    exact hr (ownP_nil _ _) E1
  refine ifB_f rfl ?_
  refine do_call Tryz.call118 (c_fmay fun w2 e2 => retS_ret ⟨_, rfl, ?_⟩)
  have E2 := E1.trans e2
  have hb2 := hb1.ext e2
  cases hp : may p
  · refine ifB_t rfl ?_
    have hr := h none 0 0 w2
    simp only [putR, putE, hp, cond_false, Bool.and_false] at hr
    exact hr (ownP_nil _ _) E2
  refine ifB_f rfl ?_
  refine do_call Tryz.call27 (c_clone (hl.ext E2) hn hm fun q3 c3 w3 ho e3 => retS_ret ⟨_, _, _, rfl, ?_⟩)
  have E3 := E2.trans e3
  have hb3 := hb2.ext e3
  refine ⟨_, hb3.cell (by rw [add_blk]) rfl, ?_⟩
  refine do_call Tryz.call112 (c_rowfind (hl.ext E3) hn (by omega) hI hx fun w4 e4 => retS_ret ⟨_, _, rfl, ?_⟩)
  have E4 := E3.trans e4
  have hb4 := hb3.ext e4
  have hsz2 : b < w2.heap.size := hb2.lt
  cases hh : hasR o l x.1
  · refine ifB_t rfl ?_
    refine ⟨_, hb4.cell (by rw [add_blk]) rfl, _, hb4.cell (by rw [add_blk]) rfl, ⟨?_⟩⟩
    have e5 := ext_alloc w4 (.cells #[.int .i64 x.1, .int .i64 x.2] 63)
    have hb5 := blk_alloc w4 #[.int .i64 x.1, .int .i64 x.2] 63
    have ho5 := row_to ho (e4.trans e5) (Nat.le_refl _)
    have hne : q3 ≠ some (blk w4.heap.size) := fun e => by
      have := (row_lt (row_to ho e4 (Nat.le_refl _)) e).2
      exact absurd this (Nat.lt_irrefl _)
    refine do_call Tryz.call141 (c_insert (x := x) ho5 (Nat.le_trans e3.size (e4.trans e5).size) hm (by have := posR_le o l x.1; omega) hb5 hne fun p' c' w6 ho6 g6 => retS_ret ⟨_, _, _, rfl, ?_⟩)
    have hr := h p' (n + 1) c' w6
    simp only [putR, putE, hp, hmay, hh, cond_false, cond_true, Bool.and_true] at hr
    exact hr (row_mono ho6 (by omega)) (ext_own ho5 (E4.trans e5) g6 (by omega))
  · refine ifB_f rfl ?_
    have hlt := hasR_lt hh
    refine ⟨⟨fun w' => Ext w4 w', ext_drew _, ?_⟩⟩
    refine ix_prC (fun w' e => (hl.ext E4).ext e) (ext_refl _) hn rfl (by omega) fun a _ r2 => ⟨_, r2, _, fun w' e => (hb4.ext e).cell (i := 1) (by rw [add_blk]) rfl, ?_⟩
    refine do_call Tryz.call142 (c_comb fun w6 e6 => retS_ret ⟨_, _, rfl, ?_⟩)
    have ho6 := row_to ho ((e4.drew).trans e6) (Nat.le_refl _)
    refine ix_pr (ownP_cs ho6) hn rfl (by omega) fun a' _ _ ha' => ?_
    refine own_st2 ho6 (by omega) ha' fun w7 ho7 g7 => ?_
    have hr := h q3 n c3 w7
    simp only [putR, putE, hp, hmay, hh, cond_true, Bool.and_true, getD_of hlt] at hr
    have e : (l[posR o l x.1]'hlt).1 = x.1 := hasR_key hh
    simp only [hp, cond_true, e] at ho7
    refine hr (row_mono ho7 (by omega)) (ext_own ho6 (E4.drew.trans e6) g7 (by omega))
theorem c_rowsum {l : List Pr} {q : OA} {n c : Nat} {w : World} {R : EW} (hl : Cs w q (prs l)) (hn : l.length = n) (hm : n ≤ 1000000000000)
    (h : ∀ w', Ext w w' → R (.returned (.int .i64 (sumL (l.map (·.2))))) w') : Calls Tryz.prog 114 #[.slice q n c] w R := by
  refine sh114_ok _ _ _ ?_
  unfold sh114
  refine ⟨fun vs w' => ∃ (p : OA) (k c' : Nat), vs = [.slice p k c', .int .i64 (k : Nat)] ∧ k ≤ n ∧ Ext w w' ∧ w'.ownsRow w.heap.size 2 1 (.slice p k c') k (ints ((l.take k).map (·.2))), fun vs _ => n - (intOf (vs.getD 1 undef)).toNat,
    ⟨none, 0, 0, rfl, by omega, ext_refl w, World.ownsRow_nil _ _ _ _⟩, ?_⟩
  rintro p1 n1 c1 i1 _ w1 ⟨p, k, c', hv, hk, E, ho⟩
  simp only [List.cons.injEq, Value.slice.injEq, Value.int.injEq, true_and, and_true] at hv
  obtain ⟨⟨rfl, rfl, rfl⟩, rfl⟩ := hv
  refine ifB_intro (fun hlt => ?_) fun hge => ?_
  · have hlt : n1 < n := by have := of_decide_eq_true hlt; omega
    refine ix_pr (hl.ext E) hn rfl hlt fun a r1 r2 _ => ⟨_, r1, _, r2, ⟨?_⟩⟩
    refine do_st2 (blk_alloc w1 _ _) fun w2 h2 g2 => ⟨_, h2.cell (i := 1) (by rw [add_blk]) rfl, ⟨?_⟩⟩
    have e2 : Ext w1 w2 := (ext_alloc w1 _).st g2 (Nat.le_refl _)
    have e3 := ext_alloc w2 (.cells #[.int .i64 (l[n1]'(by omega)).2] 2)
    have ho3 := (e2.trans e3).row ho
    refine do_append elI ho3 (m := 1) (cs_alloc w2 _ _) (by simp) (by simp [Value.oneCell']) (by simp only [maxLen]; omega) (by omega) (Nat.le_trans E.size (e2.trans e3).size) fun p' c' w4 h4 g4 => retS_ret ⟨_, _, _, rfl, ?_⟩
    refine ⟨⟨p', n1 + 1, c', ?_, by omega, (E.trans (e2.trans e3)).grown g4 fun k hk => (World.ownsRow.lt ho3 k hk).1, ?_⟩, ?_⟩
    · rw [wrap_succ hlt (by omega)]
    · rw [show l.take (n1 + 1) = l.take n1 ++ [l[n1]'(by omega)] from (List.take_append_getElem (by omega)).symm, List.map_append, ints_append]; exact h4
    · rw [wrap_succ hlt (by omega)]; simp [intOf]; omega
  · have hge : n1 = n := by have := of_decide_eq_false hge; omega
    subst hge
    rw [← hn, List.take_length] at ho
    refine do_call Tryz.call154 (c_sum (l := l.map (·.2)) (Cs.of_row (by rw [hn] at ho; exact ho)) (by simpa using hn) (by omega) fun w2 e2 => retS_ret ⟨_, rfl, h w2 (E.trans e2)⟩)
end Go.Proofs.YtmdboekndjlmgaaGreat

