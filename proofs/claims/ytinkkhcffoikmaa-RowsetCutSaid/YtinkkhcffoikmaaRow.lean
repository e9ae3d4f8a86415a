/-
  What the functions of row do.
-/
import Derived.Test.YtinkkhcffoikmaaOrder
import Derived.Test.YtinkkhcffoikmaaFold
namespace Go.Proofs.Ytinkkhcffoikmaa
open Go Go.Sh Go.RowKit

abbrev Pr := Int × Int
set_option maxRecDepth 100000 in
theorem elP : ElT Try.prog 33 38 (.agg #[.int .i64 0, .int .i64 0]) 2 16 := ⟨Try.underlying33, ⟨_, Try.type38, by kernel_rfl, by kernel_rfl, by kernel_rfl⟩, rfl, by omega⟩
def agP (x : Pr) : Value := .agg #[.int .i64 x.1, .int .i64 x.2]
def InP (l : List Pr) : Prop := ∀ x ∈ l, In x.1 ∧ In x.2
/-- is it a row, by an order? -/
def chain (o : Int) : List Pr → Bool
  | a :: b :: l => decide (cmpI o a.1 b.1 < 0) && chain o (b :: l)
  | _ => true
def mayR (o : Int) (l : List Pr) : Bool := isO o && chain o l

/-! ### two: each pair with the one ahead of it -/
def twoL (l : List Pr) : List (Array Value) := (l.zip l.tail).map fun (a, b) => #[agP a, agP b]
theorem twoL_get {l : List Pr} {i : Nat} (hi : i + 1 < l.length) : (twoL l)[i]? = some #[agP l[i], agP l[i + 1]] := by
  simp only [twoL, List.getElem?_map]
  have : (l.zip l.tail)[i]? = some (l[i], l[i + 1]) := List.getElem?_zip_eq_some.2 ⟨List.getElem?_eq_getElem (by omega), by rw [List.getElem?_tail]; exact List.getElem?_eq_getElem hi⟩
  rw [this]; rfl
theorem twoL_some {l : List Pr} {i : Nat} {x : Array Value} (h : (twoL l)[i]? = some x) : ∃ hi : i + 1 < l.length, x = #[agP (l[i]'(by omega)), agP l[i + 1]] := by
  have hlt := (List.getElem?_eq_some_iff.1 h).1
  have hi : i + 1 < l.length := by simp [twoL] at hlt; omega
  rw [twoL_get hi] at h
  exact ⟨hi, (Option.some.inj h).symm⟩
theorem c_two {q : Option Addr} {n c : Nat} {w : World} {R : Ending → World → Prop} (h : ∀ b w', Ext w w' → w.heap.size ≤ b → Blk w' b #[.slice q n c] 33 → R (.returned (.func (.func 123) #[] #[.pointer (some (blk b))])) w') :
    Calls Try.prog 92 #[.slice q n c] w R := by
  refine sh92_ok _ _ _ ?_
  unfold sh92
  exact ⟨h _ _ (ext_alloc _ _) (Nat.le_refl _) (blk_alloc _ _ _)⟩
theorem c_two1 {l : List Pr} {q : Option Addr} {n c b : Nat} {f : Fn} {fx fc : Array Value} {St : Nat → World → Prop} {Stop : World → Prop} {w : World} {R : Ending → World → Prop} (hn : l.length = n) (h63 : n ≤ 9223372036854775807)
    (hS : ∀ i w', St i w' → Blk w' b #[.slice q n c] 33 ∧ Cs w' q (prs l)) (hD : ∀ i w', St i w' → St i w'.drew) (hStop : ∀ w', Stop w' → Blk w' b #[.slice q n c] 33 ∧ Cs w' q (prs l))
    (hy : YieldsTo Try.prog (.func f fx fc) (twoL l) St Stop) (h0 : St 0 w) (hend : ∀ w', St (n - 1) w' → R (.returned (.tuple #[])) w') (hend' : ∀ w', Stop w' → R (.returned (.tuple #[])) w') :
    Calls Try.prog 123 #[.func f fx fc, .pointer (some (blk b))] w R := by
  refine sh123_ok _ _ _ _ ?_
  unfold sh123
  refine ⟨_, _, _, (hS 0 w h0).1.cell (i := 0) rfl rfl, fun vs w' => ∃ i : Nat, vs = [.int .i64 i] ∧ i ≤ n ∧ St (i - 1) w', fun vs _ => n - (intOf (vs.getD 0 undef)).toNat, ⟨0, rfl, by omega, h0⟩, ?_⟩
  rintro i j w1 ⟨m, hm, hmn, hs⟩
  simp only [List.cons.injEq, Value.int.injEq, true_and, and_true] at hm
  obtain rfl := hm
  refine ifB_intro (fun hlt => ?_) fun hge => ?_
  · have hlt : m < n := by have := of_decide_eq_true hlt; omega
    refine ⟨⟨fun w' => Blk w' b #[.slice q n c] 33 ∧ Cs w' q (prs l), hS _ _ (hD _ _ hs), ?_⟩⟩
    refine ifB_intro (fun hpos => ?_) fun hzero => ?_
    · have hpos : 0 < m := by have := of_decide_eq_true hpos; omega
      have e : IntKind.wrap .i64 ((m : Int) - 1) = ((m - 1 : Nat) : Int) := by rw [wrap_of (by omega) (by omega)]; omega
      refine ⟨_, _, _, fun w' hc => hc.1.cell (i := 0) rfl rfl, ?_⟩
      have hw := hS _ _ (hD _ _ hs)
      refine ix_prC (fun w' hc => hc.2) hw hn e (by omega) fun a1 r1 r2 => ⟨_, r1, _, r2, _, _, _, fun w' hc => hc.1.cell (i := 0) rfl rfl, ix_prC (fun w' hc => hc.2) hw hn rfl (by omega) fun a2 r3 r4 => ⟨_, r3, _, r4, ?_⟩⟩
      have hg := twoL_get (l := l) (i := m - 1) (by omega)
      simp only [show m - 1 + 1 = m by omega] at hg
      refine hy (m - 1) _ hg _ (hD _ _ hs) _ (fun w' hs' => retS_ret ⟨_, rfl, hS _ _ hs', ifB_f rfl ⟨⟨m + 1, by rw [wrap_succ hlt h63], by omega, by rw [show m - 1 + 1 = m + 1 - 1 by omega] at hs'; exact hs'⟩, ?_⟩⟩)
        fun w' hs' => retS_ret ⟨_, rfl, hStop _ hs', ifB_t rfl (hend' _ hs')⟩
      rw [wrap_succ hlt h63]
      simp [intOf]; omega
    · have hzero : m = 0 := by have := of_decide_eq_false hzero; omega
      subst hzero
      exact ⟨⟨1, by rw [wrap_succ hlt h63], by omega, hD _ _ hs⟩, by rw [wrap_succ hlt h63]; simp [intOf]; omega⟩
  · have hge : m = n := by have := of_decide_eq_false hge; omega
    subst hge
    exact hend _ hs

/-! ### May -/
theorem chain_cons {o : Int} {a b : Pr} {l : List Pr} : chain o (a :: b :: l) = (decide (cmpI o a.1 b.1 < 0) && chain o (b :: l)) := rfl
theorem chain_of {o : Int} : ∀ {l : List Pr}, (∀ i (h : i + 1 < l.length), cmpI o l[i].1 l[i + 1].1 < 0) → chain o l = true
  | [], _ => rfl
  | [_], _ => rfl
  | a :: b :: l, h => by
    rw [chain_cons, chain_of (l := b :: l) fun i hi => h (i + 1) (by simpa using hi)]
    simpa using h 0 (by simp)
theorem chain_get {o : Int} : ∀ {l : List Pr}, chain o l = true → ∀ i (h : i + 1 < l.length), cmpI o l[i].1 l[i + 1].1 < 0
  | [], _, i, h => by simp at h
  | [_], _, i, h => by simp at h
  | a :: b :: l, hc, i, h => by
    rw [chain_cons] at hc
    simp only [Bool.and_eq_true, decide_eq_true_eq] at hc
    cases i with
    | zero => exact hc.1
    | succ i => exact chain_get (l := b :: l) hc.2 i (by simpa using h)
set_option maxRecDepth 20000 in
theorem c_may {o : Int} {l : List Pr} {q : Option Addr} {n c : Nat} {w : World} {R : Ending → World → Prop} (hl : Cs w q (prs l)) (hn : l.length = n) (h63 : n ≤ 9223372036854775807) (hI : InP l)
    (h : ∀ w', Ext w w' → R (.returned (.bool (mayR o l))) w') : Calls Try.prog 40 #[.int .u8 o, .slice q n c] w R := by
  refine sh40_ok _ _ _ _ ?_
  unfold sh40
  refine ⟨⟨?_⟩⟩
  have e1 := ext_alloc w (.cells #[.int .u8 o] 5)
  have ho := blk_alloc w #[.int .u8 o] 5
  generalize hbo : w.heap.size = bo at *
  generalize w.alloc (.cells #[.int .u8 o] 5) = w1 at *
  have e2 := ext_alloc w1 (.cells #[.bool false] 4)
  have hr := blk_alloc w1 #[.bool false] 4
  have ho2 := ho.ext e2
  have hne1 : bo < w1.heap.size := ho.lt
  generalize hbr : w1.heap.size = br at *
  generalize w1.alloc (.cells #[.bool false] 4) = w2 at *
  have E2 := e1.trans e2
  refine do_call Try.call92 (c_two fun bt w3 e3 hbt ht => retS_ret ⟨_, _, _, rfl, do_rf fun fn L w4 d hd hL hst hpe e4 hd4 hl4 => ?_⟩)
  have ho3 := ho2.ext e3
  have hr3 := hr.ext e3
  have ho4 := ho3.ext e4
  have hr4 := hr3.ext e4
  have ht4 := ht.ext e4
  have hE4 := (E2.trans e3).trans e4
  have n1 : br < d := by rw [hd]; exact hr3.lt
  have n2 : bt < d := by rw [hd]; exact ht.lt
  have n3 : br < bt := Nat.lt_of_lt_of_le hr.lt hbt
  have hsz : bo ≤ br := by omega
  clear ho ho2 ho3 hr hr3 ht e1 e2 e3 e4 E2
  have hend : ∀ {w' : World} {b : Bool}, Ext w w' → Blk w' br #[.bool b] 4 → w'.heap[d]? = some (.deferred (some [])) → b = mayR o l →
      w'.heap[d]? = some (.deferred (some [])) ∧ (∃ x, World.cell? (w'.putObj d (.deferred none)) (blk br) = some (.bool x) ∧ R (.returned (.bool x)) (w'.putObj d (.deferred none))) := fun E hb hd' hb' => by
    refine ⟨hd', _, (hb.grown (put_grown _ d _) (ne_some (by omega))).cell (i := 0) rfl rfl, ?_⟩
    subst hb'
    exact h _ (E.put (by omega) _)
  refine callE_c Try.call123 (by rfl) (c_two1 (l := l) (q := q) (n := n) (c := c) (b := bt) hn h63
    (St := fun i w' => chain o (l.take (i + 1)) = true ∧ Ext w w' ∧ Blk w' bo #[.int .u8 o] 5 ∧ Blk w' br #[.bool false] 4 ∧ Blk w' bt #[.slice q n c] 33 ∧ w'.heap[d]? = some (.deferred (some [])) ∧ w'.heap[d + 1]? = some (.loop L))
    (Stop := fun w' => mayR o l = false ∧ Ext w w' ∧ Blk w' br #[.bool false] 4 ∧ Blk w' bt #[.slice q n c] 33 ∧ w'.heap[d]? = some (.deferred (some [])) ∧ w'.heap[d + 1]? = some (.loop { L with state := .done, pending := some .ret }))
    (fun i w' hs => ⟨hs.2.2.2.2.1, hl.ext hs.2.1⟩) (fun i w' hs => ⟨hs.1, hs.2.1.drew, hs.2.2⟩) (fun w' hs => ⟨hs.2.2.2.1, hl.ext hs.2.1⟩) ?_ ⟨?_, hE4, ho4, hr4, ht4, hd4, hl4⟩ ?_ ?_)
  · rintro i x hx w5 ⟨hc, E5, ho5, hr5, ht5, hd5, hl5⟩ R' hy hno
    obtain ⟨hi, rfl⟩ := twoL_some hx
    refine sh40_0_ok (by rw [hl5, hL]) ?_
    unfold sh40_0
    refine ⟨?_⟩
    have hd5' := (Array.getElem?_eq_some_iff.1 hl5).1
    refine do_st (blk_alloc w5 _ _) (i := 0) rfl (by simp) fun w6 h6 g6 => do_st h6 (i := 1) rfl (by simp) fun w7 h7 g7 => ⟨?_⟩
    have e7 : Ext w5 w7 := ((ext_alloc w5 _).st g6 (Nat.le_refl _)).st g7 (Nat.le_refl _)
    refine do_st (blk_alloc w7 _ _) (i := 0) rfl (by simp) fun w8 h8 g8 => do_st h8 (i := 1) rfl (by simp) fun w9 h9 g9 => ?_
    have e9 : Ext w7 w9 := ((ext_alloc w7 _).st g8 (Nat.le_refl _)).st g9 (Nat.le_refl _)
    have h79 := h7.ext e9
    have e59 := e7.trans e9
    refine ⟨_, e59.heap hl5, hst, ?_⟩
    have g10 := put_grown w9 (d + 1) (.loop { L with state := .busy })
    have hl10 := put_heap (o' := .loop { L with state := .busy }) (e59.heap hl5)
    have hsz5 : w5.heap.size ≤ w7.heap.size := e7.size
    have h7a := h79.grown g10 (ne_some (by omega))
    have h9a := h9.grown g10 (ne_some (by omega))
    have ho10 := (ho5.ext e59).grown g10 (ne_some (by omega))
    have hr10 := (hr5.ext e59).grown g10 (ne_some (by omega))
    have ht10 := (ht5.ext e59).grown g10 (ne_some (by omega))
    have hd10 := heap_grown g10 (e59.heap hd5) (ne_some (by omega))
    have E10 := (E5.trans e59).st g10 (by omega)
    generalize w9.putObj (d + 1) (.loop { L with state := .busy }) = w10 at hl10 h7a h9a ho10 hr10 ht10 hd10 E10 ⊢
    refine ⟨_, ho10.cell (i := 0) rfl rfl, _, h7a.cell (i := 0) rfl rfl, _, h9a.cell (i := 0) rfl rfl, ?_⟩
    refine do_call Try.call93 (c_compare (hI _ (List.getElem_mem _)).1 (hI _ (List.getElem_mem _)).1 fun w11 e11 => retS_ret ⟨_, rfl, ?_⟩)
    have hl11 := e11.heap hl10
    have hd11 := e11.heap hd10
    have E11 := E10.trans e11
    refine ifB_intro (fun h1 => ?_) fun h1 => ?_
    · have h1 := of_decide_eq_true h1
      refine do_st (hr10.ext e11) (i := 0) rfl (by simp) fun w12 h12 g12 => ?_
      have hl12 := heap_grown g12 hl11 (ne_some (by omega))
      refine ⟨_, hl12, hno _ ⟨?_, (E11.st g12 (by omega)).put (by omega) _, h12.grown (put_grown _ _ _) (ne_some (by omega)), ((ht10.ext e11).grown g12 (ne_some (by omega))).grown (put_grown _ _ _) (ne_some (by omega)),
        heap_grown (put_grown _ _ _) (heap_grown g12 hd11 (ne_some (by omega))) (ne_some (by omega)), put_heap hl12⟩⟩
      unfold mayR
      cases hch : chain o l
      · simp
      · have := chain_get hch i hi
        exact absurd h1 (by omega)
    · have h1 := of_decide_eq_false h1
      refine ⟨_, hl11, hy _ ?_⟩
      rw [rec_back hst hpe]
      refine ⟨?_, E11.put (by omega) _, (ho10.ext e11).grown (put_grown _ _ _) (ne_some (by omega)), (hr10.ext e11).grown (put_grown _ _ _) (ne_some (by omega)), (ht10.ext e11).grown (put_grown _ _ _) (ne_some (by omega)),
        heap_grown (put_grown _ _ _) hd11 (ne_some (by omega)), put_heap hl11⟩
      refine chain_of fun k hk => ?_
      simp only [List.length_take] at hk
      simp only [List.getElem_take]
      by_cases hki : k = i
      · subst hki; omega
      · have := chain_get hc k (by simp only [List.length_take]; omega)
        simpa only [List.getElem_take] using this
  · cases l with
    | nil => rfl
    | cons a l => rfl
  · rintro w5 ⟨hc, E5, ho5, hr5, ht5, hd5, hl5⟩
    refine rf_done hl5 (by rw [hst]; simp) hpe fun ob => ?_
    have gob := put_grown w5 (d + 1) ob
    refine ⟨_, (ho5.grown gob (ne_some (by omega))).cell (i := 0) rfl rfl, ?_⟩
    have hd5' := heap_grown gob hd5 (ne_some (by omega))
    have hr5' := hr5.grown gob (ne_some (by omega))
    have E5' := E5.put (l := d + 1) (by omega) ob
    refine do_call Try.call94 (c_name fun w6 e6 => retS_ret ⟨_, rfl, do_st (hr5'.ext e6) (i := 0) rfl (by simp) fun w7 h7 g7 => ?_⟩)
    rw [name_empty] at h7
    rw [← hd]
    refine hend ((E5'.trans e6).st g7 (by omega)) h7 (heap_grown g7 (e6.heap hd5') (ne_some (by omega))) ?_
    unfold mayR
    have : l.take (n - 1 + 1) = l := List.take_of_length_le (by omega)
    rw [this] at hc
    rw [hc]; simp
  · rintro w5 ⟨hc, E5, hr5, ht5, hd5, hl5⟩
    refine rf_ret hl5 (by simp) rfl fun ob => ?_
    have gob := put_grown w5 (d + 1) ob
    rw [← hd]
    exact hend (E5.put (l := d + 1) (by omega) ob) (hr5.grown gob (ne_some (by omega))) (heap_grown gob hd5 (ne_some (by omega))) hc.symm

/-! ### sort.Search, at, Find -/
theorem mid_eq {i j : Nat} (h : i < j) (hj : j ≤ 4611686018427387903) : IntKind.wrap .i64 (Int.fdiv (IntKind.wrap .u64 (IntKind.wrap .i64 ((i : Int) + (j : Int)))) (2 ^ (min (1 : Int).toNat (IntKind.bits .u64)))) = (((i + j) / 2 : Nat) : Int) := by
  have e2 : (2 : Int) ^ (min (1 : Int).toNat (IntKind.bits .u64)) = 2 := by decide
  rw [e2, wrap_of (x := (i : Int) + j) (by omega) (by omega), wrap64u, Int.fdiv_eq_ediv_of_nonneg _ (by omega), wrap_of (by omega) (by omega)]
  omega
theorem c_search {n : Nat} {p : Nat → Bool} {Inv : World → Prop} {f : Fn} {fx fc : Array Value} {w : World} {R : Ending → World → Prop} (hn : n ≤ 4611686018427387903) (hmono : ∀ i j, i ≤ j → j < n → p i = true → p j = true)
    (hf : ∀ k, k < n → ∀ w', Inv w' → ∀ R' : Ending → World → Prop, (∀ w'', Inv w'' → R' (.returned (.bool (p k))) w'') → doCall Try.prog (.func f fx fc) #[.int .i64 (k : Int)] w' R') (h0 : Inv w)
    (h : ∀ (r : Nat) w', Inv w' → r ≤ n → (∀ i, i < r → p i = false) → (∀ i, r ≤ i → i < n → p i = true) → R (.returned (.int .i64 (r : Int))) w') : Calls Try.prog 115 #[.int .i64 (n : Int), .func f fx fc] w R := by
  refine sh115_ok _ _ _ _ ?_
  unfold sh115
  refine ⟨fun vs w' => ∃ i j : Nat, vs = [.int .i64 i, .int .i64 j] ∧ i ≤ j ∧ j ≤ n ∧ Inv w' ∧ (∀ k, k < i → p k = false) ∧ (∀ k, j ≤ k → k < n → p k = true), fun vs _ => (intOf (vs.getD 1 undef)).toNat - (intOf (vs.getD 0 undef)).toNat,
    ⟨0, n, rfl, by omega, by omega, h0, fun k hk => by omega, fun k h1 h2 => by omega⟩, ?_⟩
  rintro i' j' _ w1 ⟨i, j, hv, hij, hjn, hI, hlo, hhi⟩
  simp only [List.cons.injEq, Value.int.injEq, true_and, and_true] at hv
  obtain ⟨rfl, rfl⟩ := hv
  refine ifB_intro (fun h1 => ?_) fun h1 => ?_
  · have h1 : i < j := by have := of_decide_eq_true h1; omega
    rw [mid_eq h1 (by omega)]
    refine ⟨by omega, ?_⟩
    refine hf ((i + j) / 2) (by omega) w1 hI _ ?_
    intro w2 hI2
    refine retS_ret ?_
    refine ⟨p ((i + j) / 2), rfl, ?_⟩
    cases hp : p ((i + j) / 2)
    · refine ifB_t rfl ?_
      rw [wrap_succ (n := n) (by omega) (by omega)]
      refine ⟨⟨(i + j) / 2 + 1, j, rfl, by omega, hjn, hI2, fun k hk => ?_, hhi⟩, by simp [intOf]; omega⟩
      cases hk' : p k
      · rfl
      · have := hmono k ((i + j) / 2) (by omega) (by omega) hk'
        rw [hp] at this; cases this
    · refine ifB_f rfl ?_
      exact ⟨⟨i, (i + j) / 2, rfl, by omega, by omega, hI2, hlo, fun k h2 h3 => hmono _ _ h2 h3 hp⟩, by simp [intOf]; omega⟩
  · have h1 : i = j := by have := of_decide_eq_false h1; omega
    subst h1
    exact h i _ hI hjn hlo hhi
theorem cmpI_trans {o a b c : Int} (h1 : cmpI o a b < 0) (h2 : cmpI o b c < 0) : cmpI o a c < 0 := by
  unfold cmpI at *
  split at h1
  · rename_i ho
    rw [if_pos ho] at h2 ⊢
    split at h1
    · split at h2
      · rw [if_pos (by omega)]; omega
      · split at h2 <;> omega
    · split at h1 <;> omega
  · omega
theorem cmpI_ge {o a b c : Int} (h1 : cmpI o a b < 0) (h2 : 0 ≤ cmpI o a c) : 0 ≤ cmpI o b c := by
  unfold cmpI at *
  split at h1
  · rename_i ho
    rw [if_pos ho] at h2 ⊢
    split at h1
    · split at h2
      · omega
      · split
        · omega
        · split <;> omega
    · split at h1 <;> omega
  · omega
theorem chain_lt {o : Int} {l : List Pr} (h : chain o l = true) : ∀ {i j : Nat} (hij : i < j) (hj : j < l.length), cmpI o l[i].1 l[j].1 < 0 := by
  intro i j hij hj
  induction j with
  | zero => omega
  | succ j ih =>
    have h1 := chain_get h j hj
    rcases Nat.lt_or_ge i j with h2 | h2
    · exact cmpI_trans (ih h2 (by omega)) h1
    · have : i = j := by omega
      subst this; exact h1
/-- where a key belongs -/
def idxR (o : Int) (l : List Pr) (key : Int) : Nat := l.findIdx fun x => decide (0 ≤ cmpI o x.1 key)
theorem idxR_le (o : Int) (l : List Pr) (key : Int) : idxR o l key ≤ l.length := List.findIdx_le_length
theorem idxR_eq {o : Int} {l : List Pr} {key : Int} {r : Nat} (hr : r ≤ l.length) (h1 : ∀ i (h : i < l.length), i < r → cmpI o l[i].1 key < 0) (h2 : ∀ (h : r < l.length), 0 ≤ cmpI o l[r].1 key) : idxR o l key = r := by
  unfold idxR
  rcases Nat.lt_or_ge r l.length with hlt | hge
  · rw [List.findIdx_eq hlt]
    refine ⟨by simpa using h2 hlt, fun j hj => ?_⟩
    have := h1 j (by omega) hj
    simp; omega
  · have : r = l.length := by omega
    subst this
    rw [List.findIdx_eq_length]
    intro x hx
    obtain ⟨i, hi, rfl⟩ := List.getElem_of_mem hx
    have := h1 i hi hi
    simp; omega
theorem idxR_lt {o : Int} {l : List Pr} {key : Int} {i : Nat} (hi : i < idxR o l key) : ∃ h : i < l.length, cmpI o l[i].1 key < 0 := by
  have hl : i < l.length := Nat.lt_of_lt_of_le hi (idxR_le o l key)
  refine ⟨hl, ?_⟩
  have := List.not_of_lt_findIdx hi
  simp at this; omega
theorem idxR_ge {o : Int} {l : List Pr} {key : Int} (h : idxR o l key < l.length) : 0 ≤ cmpI o l[idxR o l key].1 key := by
  unfold idxR at h
  exact of_decide_eq_true (List.findIdx_getElem (w := h))
end Go.Proofs.Ytinkkhcffoikmaa
