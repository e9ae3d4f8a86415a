/-
  What the functions of row do.
-/
/-
  What the functions of row do, part 2: at, Find, Get, Floor, Ceil, Sum.
-/
/-
  What the functions of row do, part 3: rows of one's own: Clone, Insert, Delete, Put, Drop, Sum.
-/
/-
  What the document's answers of layer 4 (joineryref04) do.
-/
/-
  What the statements of layer 4 come to: RowEnds, RowTells.
-/
/-
  RowKeeps: the plain laws of rows, and the walk.
-/
/-
  What the functions of node do, and those of joineryref09 and joinerylaw09 that make trees of beads.
-/
/-
  Parts, Make, Pairs, Height of beads; whether beads are a tree.
-/
/-
  What the functions of rank do.
-/
import Derived.Test.YtlddfgfmkapoiaaGreatZ14
import Derived.Test.YtlddfgfmkapoiaaGreatZ03
import Derived.Test.YtlddfgfmkapoiaaGreatZ04

namespace Go.Proofs.YtlddfgfmkapoiaaGreat
open Go Go.Sh Go.RowKit

abbrev Pr := Int × Int
set_option maxRecDepth 100000 in
theorem elP : ElT Tryz.prog 22 46 (.agg #[.int .i64 0, .int .i64 0]) 2 16 := ⟨Tryz.underlying22, ⟨_, Tryz.type46, by kernel_rfl, by kernel_rfl, by kernel_rfl⟩, rfl, by omega⟩
def agP (x : Pr) : Value := .agg #[.int .i64 x.1, .int .i64 x.2]
def InP (l : List Pr) : Prop := ∀ x ∈ l, In x.1 ∧ In x.2
/-- is it a row, by an order? -/
def chain (o : Int) : List Pr → Bool
  | a :: b :: l => decide (cmpI o a.1 b.1 < 0) && chain o (b :: l)
  | _ => true
def mayR (o : Int) (l : List Pr) : Bool := isO o && chain o l

/-! ### two: each pair with the one ahead of it -/
def twoL (l : List Pr) : List (Array Value) := (l.zip l.tail).map fun (a, b) => #[agP a, agP b]
theorem twoL_get {l : List Pr} {i : Nat} (hi : i + 1 < l.length) : (twoL l)[i]? = some #[agP l[i], agP l[i + 1]] := by
  simp only [twoL, List.getElem?_map]
  have : (l.zip l.tail)[i]? = some (l[i], l[i + 1]) := List.getElem?_zip_eq_some.2 ⟨List.getElem?_eq_getElem (by omega), by rw [List.getElem?_tail]; exact List.getElem?_eq_getElem hi⟩
  rw [this]; rfl
theorem twoL_some {l : List Pr} {i : Nat} {x : Array Value} (h : (twoL l)[i]? = some x) : ∃ hi : i + 1 < l.length, x = #[agP (l[i]'(by omega)), agP l[i + 1]] := by
  have hlt := (List.getElem?_eq_some_iff.1 h).1
  have hi : i + 1 < l.length := by simp [twoL] at hlt; omega
  rw [twoL_get hi] at h
  exact ⟨hi, (Option.some.inj h).symm⟩
theorem c_two {q : Option Addr} {n c : Nat} {w : World} {R : Ending → World → Prop} (h : ∀ b w', Ext w w' → w.heap.size ≤ b → Blk w' b #[.slice q n c] 22 → R (.returned (.func (.func 242) #[] #[.pointer (some (blk b))])) w') :
    Calls Tryz.prog 182 #[.slice q n c] w R := by
  refine sh182_ok _ _ _ ?_
  unfold sh182
  exact ⟨h _ _ (ext_alloc _ _) (Nat.le_refl _) (blk_alloc _ _ _)⟩
theorem c_two1 {l : List Pr} {q : Option Addr} {n c b : Nat} {f : Fn} {fx fc : Array Value} {St : Nat → World → Prop} {Stop : World → Prop} {w : World} {R : Ending → World → Prop} (hn : l.length = n) (h63 : n ≤ 9223372036854775807)
    (hS : ∀ i w', St i w' → Blk w' b #[.slice q n c] 22 ∧ Cs w' q (prs l)) (hD : ∀ i w', St i w' → St i w'.drew) (hStop : ∀ w', Stop w' → Blk w' b #[.slice q n c] 22 ∧ Cs w' q (prs l))
    (hy : YieldsTo Tryz.prog (.func f fx fc) (twoL l) St Stop) (h0 : St 0 w) (hend : ∀ w', St (n - 1) w' → R (.returned (.tuple #[])) w') (hend' : ∀ w', Stop w' → R (.returned (.tuple #[])) w') :
    Calls Tryz.prog 242 #[.func f fx fc, .pointer (some (blk b))] w R := by
  refine sh242_ok _ _ _ _ ?_
  unfold sh242
  refine ⟨_, _, _, (hS 0 w h0).1.cell (i := 0) rfl rfl, fun vs w' => ∃ i : Nat, vs = [.int .i64 i] ∧ i ≤ n ∧ St (i - 1) w', fun vs _ => n - (intOf (vs.getD 0 undef)).toNat, ⟨0, rfl, by omega, h0⟩, ?_⟩
  rintro i j w1 ⟨m, hm, hmn, hs⟩
  simp only [List.cons.injEq, Value.int.injEq, true_and, and_true] at hm
  obtain rfl := hm
  refine ifB_intro (fun hlt => ?_) fun hge => ?_
  · have hlt : m < n := by have := of_decide_eq_true hlt; omega
    refine ⟨⟨fun w' => Blk w' b #[.slice q n c] 22 ∧ Cs w' q (prs l), hS _ _ (hD _ _ hs), ?_⟩⟩
    refine ifB_intro (fun hpos => ?_) fun hzero => ?_
    · have hpos : 0 < m := by have := of_decide_eq_true hpos; omega
      have e : IntKind.wrap .i64 ((m : Int) - 1) = ((m - 1 : Nat) : Int) := by rw [wrap_of (by omega) (by omega)]; omega
      refine ⟨_, _, _, fun w' hc => hc.1.cell (i := 0) rfl rfl, ?_⟩
      have hw := hS _ _ (hD _ _ hs)
      refine ix_prC (fun w' hc => hc.2) hw hn e (by omega) fun a1 r1 r2 => ⟨_, r1, _, r2, _, _, _, fun w' hc => hc.1.cell (i := 0) rfl rfl, ix_prC (fun w' hc => hc.2) hw hn rfl (by omega) fun a2 r3 r4 => ⟨_, r3, _, r4, ?_⟩⟩
      have hg := twoL_get (l := l) (i := m - 1) (by omega)
      simp only [show m - 1 + 1 = m by omega] at hg
      refine hy (m - 1) _ hg _ (hD _ _ hs) _ (fun w' hs' => retS_ret ⟨_, rfl, hS _ _ hs', ifB_f rfl ⟨⟨m + 1, by rw [wrap_succ hlt h63], by omega, by rw [show m - 1 + 1 = m + 1 - 1 by omega] at hs'; exact hs'⟩, ?_⟩⟩)
        fun w' hs' => retS_ret ⟨_, rfl, hStop _ hs', ifB_t rfl (hend' _ hs')⟩
      rw [wrap_succ hlt h63]
      simp [intOf]; omega
    · have hzero : m = 0 := by have := of_decide_eq_false hzero; omega
      subst hzero
      exact ⟨⟨1, by rw [wrap_succ hlt h63], by omega, hD _ _ hs⟩, by rw [wrap_succ hlt h63]; simp [intOf]; omega⟩
  · have hge : m = n := by have := of_decide_eq_false hge; omega
    subst hge
    exact hend _ hs

/-! ### May -/
theorem chain_cons {o : Int} {a b : Pr} {l : List Pr} : chain o (a :: b :: l) = (decide (cmpI o a.1 b.1 < 0) && chain o (b :: l)) := rfl
theorem chain_of {o : Int} : ∀ {l : List Pr}, (∀ i (h : i + 1 < l.length), cmpI o l[i].1 l[i + 1].1 < 0) → chain o l = true
  | [], _ => rfl
  | [_], _ => rfl
  | a :: b :: l, h => by
    rw [chain_cons, chain_of (l := b :: l) fun i hi => h (i + 1) (by simpa using hi)]
    simpa using h 0 (by simp)
theorem chain_get {o : Int} : ∀ {l : List Pr}, chain o l = true → ∀ i (h : i + 1 < l.length), cmpI o l[i].1 l[i + 1].1 < 0
  | [], _, i, h => by simp at h
  | [_], _, i, h => by simp at h
  | a :: b :: l, hc, i, h => by
    rw [chain_cons] at hc
    simp only [Bool.and_eq_true, decide_eq_true_eq] at hc
    cases i with
    | zero => exact hc.1
    | succ i => exact chain_get (l := b :: l) hc.2 i (by simpa using h)
set_option maxRecDepth 20000 in
theorem c_may {o : Int} {l : List Pr} {q : Option Addr} {n c : Nat} {w : World} {R : Ending → World → Prop} (hl : Cs w q (prs l)) (hn : l.length = n) (h63 : n ≤ 9223372036854775807) (hI : InP l)
    (h : ∀ w', Ext w w' → R (.returned (.bool (mayR o l))) w') : Calls Tryz.prog 101 #[.int .u8 o, .slice q n c] w R := by
  refine sh101_ok _ _ _ _ ?_
  unfold sh101
  refine ⟨⟨?_⟩⟩
  have e1 := ext_alloc w (.cells #[.int .u8 o] 5)
  have ho := blk_alloc w #[.int .u8 o] 5
  generalize hbo : w.heap.size = bo at *
  generalize w.alloc (.cells #[.int .u8 o] 5) = w1 at *
  have e2 := ext_alloc w1 (.cells #[.bool false] 4)
  have hr := blk_alloc w1 #[.bool false] 4
  have ho2 := ho.ext e2
  have hne1 : bo < w1.heap.size := ho.lt
  generalize hbr : w1.heap.size = br at *
  generalize w1.alloc (.cells #[.bool false] 4) = w2 at *
  have E2 := e1.trans e2
  refine do_call Tryz.call182 (c_two fun bt w3 e3 hbt ht => retS_ret ⟨_, _, _, rfl, do_rf fun fn L w4 d hd hL hst hpe e4 hd4 hl4 => ?_⟩)
  have ho3 := ho2.ext e3
  have hr3 := hr.ext e3
  have ho4 := ho3.ext e4
  have hr4 := hr3.ext e4
  have ht4 := ht.ext e4
  have hE4 := (E2.trans e3).trans e4
  have n1 : br < d := by rw [hd]; exact hr3.lt
  have n2 : bt < d := by rw [hd]; exact ht.lt
  have n3 : br < bt := Nat.lt_of_lt_of_le hr.lt hbt
  have hsz : bo ≤ br := by omega
  clear ho ho2 ho3 hr hr3 ht e1 e2 e3 e4 E2
  have hend : ∀ {w' : World} {b : Bool}, Ext w w' → Blk w' br #[.bool b] 4 → w'.heap[d]? = some (.deferred (some [])) → b = mayR o l →
      w'.heap[d]? = some (.deferred (some [])) ∧ (∃ x, World.cell? (w'.putObj d (.deferred none)) (blk br) = some (.bool x) ∧ R (.returned (.bool x)) (w'.putObj d (.deferred none))) := fun E hb hd' hb' => by
    refine ⟨hd', _, (hb.grown (put_grown _ d _) (ne_some (by omega))).cell (i := 0) rfl rfl, ?_⟩
    subst hb'
    exact h _ (E.put (by omega) _)
  refine callE_c Tryz.call242 (by rfl) (c_two1 (l := l) (q := q) (n := n) (c := c) (b := bt) hn h63
    (St := fun i w' => chain o (l.take (i + 1)) = true ∧ Ext w w' ∧ Blk w' bo #[.int .u8 o] 5 ∧ Blk w' br #[.bool false] 4 ∧ Blk w' bt #[.slice q n c] 22 ∧ w'.heap[d]? = some (.deferred (some [])) ∧ w'.heap[d + 1]? = some (.loop L))
    (Stop := fun w' => mayR o l = false ∧ Ext w w' ∧ Blk w' br #[.bool false] 4 ∧ Blk w' bt #[.slice q n c] 22 ∧ w'.heap[d]? = some (.deferred (some [])) ∧ w'.heap[d + 1]? = some (.loop { L with state := .done, pending := some .ret }))
    (fun i w' hs => ⟨hs.2.2.2.2.1, hl.ext hs.2.1⟩) (fun i w' hs => ⟨hs.1, hs.2.1.drew, hs.2.2⟩) (fun w' hs => ⟨hs.2.2.2.1, hl.ext hs.2.1⟩) ?_ ⟨?_, hE4, ho4, hr4, ht4, hd4, hl4⟩ ?_ ?_)
  · rintro i x hx w5 ⟨hc, E5, ho5, hr5, ht5, hd5, hl5⟩ R' hy hno
    obtain ⟨hi, rfl⟩ := twoL_some hx
    refine sh101_0_ok (by rw [hl5, hL]) ?_
    unfold sh101_0
    refine ⟨?_⟩
    have hd5' := (Array.getElem?_eq_some_iff.1 hl5).1
    refine do_st (blk_alloc w5 _ _) (i := 0) rfl (by simp) fun w6 h6 g6 => do_st h6 (i := 1) rfl (by simp) fun w7 h7 g7 => ⟨?_⟩
    have e7 : Ext w5 w7 := ((ext_alloc w5 _).st g6 (Nat.le_refl _)).st g7 (Nat.le_refl _)
    refine do_st (blk_alloc w7 _ _) (i := 0) rfl (by simp) fun w8 h8 g8 => do_st h8 (i := 1) rfl (by simp) fun w9 h9 g9 => ?_
    have e9 : Ext w7 w9 := ((ext_alloc w7 _).st g8 (Nat.le_refl _)).st g9 (Nat.le_refl _)
    have h79 := h7.ext e9
    have e59 := e7.trans e9
    refine ⟨_, e59.heap hl5, hst, ?_⟩
    have g10 := put_grown w9 (d + 1) (.loop { L with state := .busy })
    have hl10 := put_heap (o' := .loop { L with state := .busy }) (e59.heap hl5)
    have hsz5 : w5.heap.size ≤ w7.heap.size := e7.size
    have h7a := h79.grown g10 (ne_some (by omega))
    have h9a := h9.grown g10 (ne_some (by omega))
    have ho10 := (ho5.ext e59).grown g10 (ne_some (by omega))
    have hr10 := (hr5.ext e59).grown g10 (ne_some (by omega))
    have ht10 := (ht5.ext e59).grown g10 (ne_some (by omega))
    have hd10 := heap_grown g10 (e59.heap hd5) (ne_some (by omega))
    have E10 := (E5.trans e59).st g10 (by omega)
    generalize w9.putObj (d + 1) (.loop { L with state := .busy }) = w10 at hl10 h7a h9a ho10 hr10 ht10 hd10 E10 ⊢
    refine ⟨_, ho10.cell (i := 0) rfl rfl, _, h7a.cell (i := 0) rfl rfl, _, h9a.cell (i := 0) rfl rfl, ?_⟩
    refine do_call Tryz.call176 (c_compare (hI _ (List.getElem_mem _)).1 (hI _ (List.getElem_mem _)).1 fun w11 e11 => retS_ret ⟨_, rfl, ?_⟩)
    have hl11 := e11.heap hl10
    have hd11 := e11.heap hd10
    have E11 := E10.trans e11
    refine ifB_intro (fun h1 => ?_) fun h1 => ?_
    · have h1 := of_decide_eq_true h1
      refine do_st (hr10.ext e11) (i := 0) rfl (by simp) fun w12 h12 g12 => ?_
      have hl12 := heap_grown g12 hl11 (ne_some (by omega))
      refine ⟨_, hl12, hno _ ⟨?_, (E11.st g12 (by omega)).put (by omega) _, h12.grown (put_grown _ _ _) (ne_some (by omega)), ((ht10.ext e11).grown g12 (ne_some (by omega))).grown (put_grown _ _ _) (ne_some (by omega)),
        heap_grown (put_grown _ _ _) (heap_grown g12 hd11 (ne_some (by omega))) (ne_some (by omega)), put_heap hl12⟩⟩
      unfold mayR
      cases hch : chain o l
      · simp
      · have := chain_get hch i hi
        exact absurd h1 (by omega)
    · have h1 := of_decide_eq_false h1
      refine ⟨_, hl11, hy _ ?_⟩
      rw [rec_back hst hpe]
      refine ⟨?_, E11.put (by omega) _, (ho10.ext e11).grown (put_grown _ _ _) (ne_some (by omega)), (hr10.ext e11).grown (put_grown _ _ _) (ne_some (by omega)), (ht10.ext e11).grown (put_grown _ _ _) (ne_some (by omega)),
        heap_grown (put_grown _ _ _) hd11 (ne_some (by omega)), put_heap hl11⟩
      refine chain_of fun k hk => ?_
      simp only [List.length_take] at hk
      simp only [List.getElem_take]
      by_cases hki : k = i
      · subst hki; omega
      · have := chain_get hc k (by simp only [List.length_take]; omega)
        simpa only [List.getElem_take] using this
  · cases l with
    | nil => rfl
    | cons a l => rfl
  · rintro w5 ⟨hc, E5, ho5, hr5, ht5, hd5, hl5⟩
    refine rf_done hl5 (by rw [hst]; simp) hpe fun ob => ?_
    have gob := put_grown w5 (d + 1) ob
    refine ⟨_, (ho5.grown gob (ne_some (by omega))).cell (i := 0) rfl rfl, ?_⟩
    have hd5' := heap_grown gob hd5 (ne_some (by omega))
    have hr5' := hr5.grown gob (ne_some (by omega))
    have E5' := E5.put (l := d + 1) (by omega) ob
    refine do_call Tryz.call172 (c_name fun w6 e6 => retS_ret ⟨_, rfl, do_st (hr5'.ext e6) (i := 0) rfl (by simp) fun w7 h7 g7 => ?_⟩)
    rw [name_empty] at h7
    rw [← hd]
    refine hend ((E5'.trans e6).st g7 (by omega)) h7 (heap_grown g7 (e6.heap hd5') (ne_some (by omega))) ?_
    unfold mayR
    have : l.take (n - 1 + 1) = l := List.take_of_length_le (by omega)
    rw [this] at hc
    rw [hc]; simp
  · rintro w5 ⟨hc, E5, hr5, ht5, hd5, hl5⟩
    refine rf_ret hl5 (by simp) rfl fun ob => ?_
    have gob := put_grown w5 (d + 1) ob
    rw [← hd]
    exact hend (E5.put (l := d + 1) (by omega) ob) (hr5.grown gob (ne_some (by omega))) (heap_grown gob hd5 (ne_some (by omega))) hc.symm

/-! ### sort.Search, at, Find -/
theorem mid_eq {i j : Nat} (h : i < j) (hj : j ≤ 4611686018427387903) : IntKind.wrap .i64 (Int.fdiv (IntKind.wrap .u64 (IntKind.wrap .i64 ((i : Int) + (j : Int)))) (2 ^ (min (1 : Int).toNat (IntKind.bits .u64)))) = (((i + j) / 2 : Nat) : Int) := by
  have e2 : (2 : Int) ^ (min (1 : Int).toNat (IntKind.bits .u64)) = 2 := by decide
  rw [e2, wrap_of (x := (i : Int) + j) (by omega) (by omega), wrap64u, Int.fdiv_eq_ediv_of_nonneg _ (by omega), wrap_of (by omega) (by omega)]
  omega
theorem cmpI_trans {o a b c : Int} (h1 : cmpI o a b < 0) (h2 : cmpI o b c < 0) : cmpI o a c < 0 := by
  unfold cmpI at *
  split at h1
  · rename_i ho
    rw [if_pos ho] at h2 ⊢
    split at h1
    · split at h2
      · rw [if_pos (by omega)]; omega
      · split at h2 <;> omega
    · split at h1 <;> omega
  · omega
theorem chain_lt {o : Int} {l : List Pr} (h : chain o l = true) : ∀ {i j : Nat} (hij : i < j) (hj : j < l.length), cmpI o l[i].1 l[j].1 < 0 := by
  intro i j hij hj
  induction j with
  | zero => omega
  | succ j ih =>
    have h1 := chain_get h j hj
    rcases Nat.lt_or_ge i j with h2 | h2
    · exact cmpI_trans (ih h2 (by omega)) h1
    · have : i = j := by omega
      subst this; exact h1
/-- where a key belongs -/
def idxR (o : Int) (l : List Pr) (key : Int) : Nat := l.findIdx fun x => decide (0 ≤ cmpI o x.1 key)
theorem idxR_le (o : Int) (l : List Pr) (key : Int) : idxR o l key ≤ l.length := List.findIdx_le_length
theorem idxR_eq {o : Int} {l : List Pr} {key : Int} {r : Nat} (hr : r ≤ l.length) (h1 : ∀ i (h : i < l.length), i < r → cmpI o l[i].1 key < 0) (h2 : ∀ (h : r < l.length), 0 ≤ cmpI o l[r].1 key) : idxR o l key = r := by
  unfold idxR
  rcases Nat.lt_or_ge r l.length with hlt | hge
  · rw [List.findIdx_eq hlt]
    refine ⟨by simpa using h2 hlt, fun j hj => ?_⟩
    have := h1 j (by omega) hj
    simp; omega
  · have : r = l.length := by omega
    subst this
    rw [List.findIdx_eq_length]
    intro x hx
    obtain ⟨i, hi, rfl⟩ := List.getElem_of_mem hx
    have := h1 i hi hi
    simp; omega
theorem idxR_lt {o : Int} {l : List Pr} {key : Int} {i : Nat} (hi : i < idxR o l key) : ∃ h : i < l.length, cmpI o l[i].1 key < 0 := by
  have hl : i < l.length := Nat.lt_of_lt_of_le hi (idxR_le o l key)
  refine ⟨hl, ?_⟩
  have := List.not_of_lt_findIdx hi
  simp at this; omega
theorem idxR_ge {o : Int} {l : List Pr} {key : Int} (h : idxR o l key < l.length) : 0 ≤ cmpI o l[idxR o l key].1 key := by
  unfold idxR at h
  exact of_decide_eq_true (List.findIdx_getElem (w := h))
end Go.Proofs.YtlddfgfmkapoiaaGreat

namespace Go.Proofs.YtlddfgfmkapoiaaGreat
open Go Go.Sh Go.RowKit

theorem getD_of {l : List Pr} {k : Nat} (h : k < l.length) : l.getD k (0, 0) = l[k] := by simp [h]
/-- does the key stand at its place? -/
def hasR (o : Int) (l : List Pr) (key : Int) : Bool := mayR o l && (match l[idxR o l key]? with | some x => x.1 == key | none => false)
/-- where the key stands, or would -/
def posR (o : Int) (l : List Pr) (key : Int) : Nat := cond (mayR o l) (idxR o l key) 0
theorem posR_le (o : Int) (l : List Pr) (key : Int) : posR o l key ≤ l.length := by
  unfold posR; cases mayR o l
  · simp
  · exact idxR_le _ _ _
theorem mayR_chain {o : Int} {l : List Pr} (h : mayR o l = true) : chain o l = true := by simp [mayR] at h; exact h.2
theorem hasR_may {o : Int} {l : List Pr} {key : Int} (h : hasR o l key = true) : mayR o l = true := by simp [hasR] at h; exact h.1
theorem hasR_lt {o : Int} {l : List Pr} {key : Int} (h : hasR o l key = true) : posR o l key < l.length := by
  have hm := hasR_may h
  simp only [hasR, hm, Bool.true_and] at h
  unfold posR; rw [hm]
  rcases Nat.lt_or_ge (idxR o l key) l.length with h' | h'
  · exact h'
  · rw [List.getElem?_eq_none h'] at h; cases h
theorem hasR_key {o : Int} {l : List Pr} {key : Int} (h : hasR o l key = true) : (l[posR o l key]'(hasR_lt h)).1 = key := by
  have hlt := hasR_lt h
  have hm := hasR_may h
  have hp : posR o l key = idxR o l key := by unfold posR; rw [hm]; rfl
  simp only [hasR, hm, Bool.true_and] at h
  simp only [hp] at hlt ⊢
  rw [List.getElem?_eq_getElem hlt] at h
  simpa using h
def getR (o : Int) (l : List Pr) (key : Int) : Int := cond (hasR o l key) (l.getD (posR o l key) (0, 0)).2 0
theorem do_st2 {w : World} {b : Nat} {u v x y : Value} {t : TypeId} (h : Blk w b #[u, v] t) {K : World → Prop} (k : ∀ w', Blk w' b #[x, y] t → w.grownBy w' (some b) → K w') :
    doSt ((blk b).add 0) x w fun w1 => doSt ((blk b).add 1) y w1 K :=
  do_st h (i := 0) rfl (by simp) fun _ h1 g1 => do_st h1 (i := 1) rfl (by simp) fun _ h2 g2 => k _ h2 (grown_trans g1 g2)
end Go.Proofs.YtlddfgfmkapoiaaGreat

namespace Go.Proofs.YtlddfgfmkapoiaaGreat
open Go Go.Sh Go.RowKit

/-- a row of pairs of one's own -/
abbrev OwnP (w : World) (base : Nat) (p : Option Addr) (n c : Nat) (l : List Pr) : Prop := w.ownsRow base 46 2 (.slice p n c) n (prs l)
theorem ownP_open {w : World} {base n c : Nat} {p : Option Addr} {l : List Pr} (h : OwnP w base p n c l) : (p = none ∧ n = 0 ∧ c = 0) ∨
    ∃ g cur, p = some ⟨g, 0, none⟩ ∧ base ≤ g ∧ Blk w g (List.toArray cur) 46 ∧ n ≤ c ∧ c ≤ maxLen ∧ cur.length = c * 2 ∧ cur.take (n * 2) = prs l := by
  rcases h.2 with ⟨hv, hn⟩ | ⟨g, cap, cur, hv, hb, hg, h1, h2, h3, h4⟩
  · cases hv; exact .inl ⟨rfl, rfl, rfl⟩
  · cases hv; exact .inr ⟨g, cur.toList, rfl, hb, hg, h1, h2, by simpa using h3, h4⟩
theorem ownP_len {w : World} {base n c : Nat} {p : Option Addr} {l : List Pr} (h : OwnP w base p n c l) : l.length = n := by have := h.1; simp at this; omega
theorem ownP_cs {w : World} {base n c : Nat} {p : Option Addr} {l : List Pr} (h : OwnP w base p n c l) : Cs w p (prs l) := Cs.of_row h
theorem ownP_nil (w : World) (base : Nat) : OwnP w base none 0 0 [] := World.ownsRow_nil _ _ _ _
theorem cs_prs_nil {w : World} {q : Option Addr} {l : List Pr} (h : Cs w q (prs l)) (hq : q = none) : l = [] := by
  subst hq
  cases l with
  | nil => rfl
  | cons x xs => obtain ⟨a, ha, _⟩ := h 0 (.int .i64 x.1) rfl; cases ha
theorem c_clone {l : List Pr} {q : Option Addr} {n c : Nat} {w : World} {R : Ending → World → Prop} (hl : Cs w q (prs l)) (hn : l.length = n) (hm : n ≤ 1000000000000)
    (h : ∀ p c' w', OwnP w' w.heap.size p n c' l → Ext w w' → R (.returned (.slice p n c')) w') : Calls Tryz.prog 173 #[.slice q n c] w R := by
  refine sh173_ok _ _ _ ?_
  unfold sh173
  cases q with
  | none =>
    have h0 := cs_prs_nil hl rfl
    subst h0
    have hn0 : n = 0 := by simpa using hn.symm
    subst hn0
    exact ifB_t rfl (h _ _ _ (ownP_nil w _) (ext_refl w))
  | some a =>
    refine ifB_f rfl ⟨?_⟩
    have e1 := ext_alloc w (.cells #[] 46)
    have hr := World.ownsRow_lit (base := w.heap.size) (size := 2) (e := 46) w #[] 0 (Nat.le_refl _) (by simp [maxLen]) (by simp)
    refine do_append elP hr (news := prs l) (hl.ext e1) (by simp [hn]) prs_one (by simp only [maxLen]; omega) (by omega) e1.size fun p c' w' h1 h2 => retS_ret ⟨_, _, _, rfl, ?_⟩
    simp only [Nat.zero_add, List.nil_append] at h1 ⊢
    exact h p c' w' h1 (e1.grown h2 (by rintro _ ⟨⟩; exact Nat.le_refl _))
theorem row_to {w w' : World} {base base' n c : Nat} {p : Option Addr} {l : List Pr} (h : OwnP w base p n c l) (e : Ext w w') (hb : base' ≤ base) : OwnP w' base' p n c l := row_mono (e.row h) hb
theorem ext_own {a w w' : World} {base n c : Nat} {p : Option Addr} {l : List Pr} (h : OwnP w base p n c l) (e : Ext a w) (g : w.grownBy w' (Value.slice p n c).ownBlock) (hb : a.heap.size ≤ base) : Ext a w' :=
  e.grown g fun k hk => Nat.le_trans hb (World.ownsRow.lt h k hk).1
/-- what is put -/
def putR (o p : Int) (l : List Pr) (x : Pr) : List Pr :=
  cond (mayR o l && may p) (cond (hasR o l x.1) (l.set (posR o l x.1) (x.1, comb p (l.getD (posR o l x.1) (0, 0)).2 x.2)) (l.take (posR o l x.1) ++ x :: l.drop (posR o l x.1))) []
theorem prs_set2 {l : List Pr} {k : Nat} (hk : k < l.length) (v : Int) : (prs l).set (k * 2 + 1) (.int .i64 v) = prs (l.set k (l[k].1, v)) := by
  induction l generalizing k with
  | nil => simp at hk
  | cons x xs ih =>
    cases k with
    | zero => rfl
    | succ k =>
      have := ih (k := k) (by simpa using hk)
      rw [show (k + 1) * 2 + 1 = k * 2 + 1 + 1 + 1 by omega]
      simp only [prs_cons, List.set_cons_succ, List.getElem_cons_succ, this]
theorem prs_set1 {l : List Pr} {k : Nat} (hk : k < l.length) (v : Int) : (prs l).set (k * 2) (.int .i64 v) = prs (l.set k (v, l[k].2)) := by
  induction l generalizing k with
  | nil => simp at hk
  | cons x xs ih =>
    cases k with
    | zero => rfl
    | succ k =>
      have := ih (k := k) (by simpa using hk)
      rw [show (k + 1) * 2 = k * 2 + 1 + 1 by omega]
      simp only [prs_cons, List.set_cons_succ, List.getElem_cons_succ, this]
theorem own_st2 {l : List Pr} {p : Option Addr} {n c base k : Nat} {w : World} (ho : OwnP w base p n c l) (hk : k < n) {a : Addr} (ha : ∃ b, p = some b ∧ a = b.add (k * 2)) {v : Int} {K : World → Prop}
    (h : ∀ w', OwnP w' base p n c (l.set k ((l[k]'(by rw [ownP_len ho]; exact hk)).1, v)) → w.grownBy w' (Value.slice p n c).ownBlock → K w') : doSt ((a.add 1).add 0) (.int .i64 v) w K := by
  obtain ⟨b, hb, rfl⟩ := ha
  have hl := ownP_len ho
  rcases ownP_open ho with ⟨hp, hn0, _⟩ | ⟨g, cur, hp, hbg, hg, _, hcm, hcl, hct⟩
  · omega
  subst hp; cases hb
  rw [add_zero', add_add]
  have ea : (⟨g, 0, none⟩ : Addr).add (k * 2 + 1) = ⟨g, k * 2 + 1, none⟩ := add_blk g _
  rw [ea]
  have hs := ho.stored (k * 2 + 1) (.int .i64 v)
  rw [prs_set2 (by omega)] at hs
  exact ⟨⟨_, by rw [ho.cellAt _ (by omega)]; exact List.getElem?_eq_getElem (by simp; omega)⟩, ho.frozenAt _, h _ hs.1 hs.2⟩
end Go.Proofs.YtlddfgfmkapoiaaGreat

namespace Go.Proofs.YtlddfgfmkapoiaaGreat
open Go Go.Sh Go.RowKit

theorem cmpI_self (o a : Int) : cmpI o a a = 0 := by unfold cmpI; split <;> simp
theorem cmpI_neg {o a b : Int} (h : cmpI o a b < 0) : 0 < cmpI o b a := by
  unfold cmpI at *
  split at h
  · rename_i ho
    rw [if_pos ho]
    split at h
    · rw [if_neg (by omega), if_pos (by omega)]; omega
    · split at h <;> omega
  · omega
theorem cmpI_pos {o a b : Int} (h : 0 < cmpI o a b) : cmpI o b a < 0 := by
  unfold cmpI at *
  split at h
  · rename_i ho
    rw [if_pos ho]
    split at h
    · omega
    · split at h
      · rw [if_pos (by omega)]; omega
      · omega
  · omega
theorem cmpI_eq {o a b : Int} (ho : isO o = true) (ha : In a) (hb : In b) (h : cmpI o a b = 0) : a = b := by
  have ho' : 1 ≤ o ∧ o ≤ 7 := by simpa [isO] using ho
  unfold cmpI at h
  rw [if_pos ho'] at h
  split at h
  · omega
  · split at h
    · omega
    · exact codeI_inj (o := o) ha hb (by omega)
/-- a key that stands in the row stands at its place -/
theorem idx_of_mem {o : Int} {l : List Pr} (hc : chain o l = true) {i : Nat} (hi : i < l.length) : idxR o l l[i].1 = i :=
  idxR_eq (by omega) (fun j hj hji => chain_lt hc hji hi) fun _ => by rw [cmpI_self]; omega
theorem hasR_iff {o : Int} {l : List Pr} {key : Int} (hm : mayR o l = true) : hasR o l key = true ↔ ∃ i, ∃ h : i < l.length, l[i].1 = key := by
  constructor
  · intro h; exact ⟨_, hasR_lt h, hasR_key h⟩
  · rintro ⟨i, hi, rfl⟩
    have := idx_of_mem (mayR_chain hm) hi
    unfold hasR
    rw [hm, this, List.getElem?_eq_getElem hi]
    simp
/-! ### Put, Drop, Floor -/
end Go.Proofs.YtlddfgfmkapoiaaGreat

namespace Go.Proofs.YtlddfgfmkapoiaaGreat
open Go Go.Sh Go.RowKit

theorem pos_at {o : Int} {l : List Pr} (hm : mayR o l = true) {i : Nat} (hi : i < l.length) : posR o l l[i].1 = i ∧ hasR o l l[i].1 = true ∧ getR o l l[i].1 = l[i].2 := by
  have h1 : posR o l l[i].1 = i := by unfold posR; rw [hm]; exact idx_of_mem (mayR_chain hm) hi
  have h2 : hasR o l l[i].1 = true := (hasR_iff hm).2 ⟨i, hi, rfl⟩
  refine ⟨h1, h2, ?_⟩
  unfold getR
  rw [h1, h2, getD_of hi]; rfl
end Go.Proofs.YtlddfgfmkapoiaaGreat

namespace Go.Proofs.YtlddfgfmkapoiaaGreat
open Go Go.Sh Go.RowKit

theorem wrap_in (x : Int) : In (IntKind.wrap .i64 x) := by
  simp only [IntKind.wrap, IntKind.signed, IntKind.bits, In]
  simp
  omega
abbrev ltO (o : Int) (a b : Int) : Prop := cmpI o a b < 0
theorem chain_pw {o : Int} : ∀ {l : List Pr}, chain o l = true ↔ (l.map (·.1)).Pairwise (ltO o)
  | [] => by simp [chain]
  | [a] => by simp [chain]
  | a :: b :: l => by
    rw [chain_cons, Bool.and_eq_true, decide_eq_true_eq, chain_pw (l := b :: l)]
    simp only [List.map_cons, List.pairwise_cons, List.mem_cons, List.mem_map, forall_eq_or_imp]
    constructor
    · rintro ⟨h1, h2, h3⟩
      exact ⟨⟨h1, fun x hx => cmpI_trans h1 (h2 x hx)⟩, h2, h3⟩
    · rintro ⟨⟨h1, _⟩, h2, h3⟩
      exact ⟨h1, h2, h3⟩
theorem mayR_iff {o : Int} {l : List Pr} : mayR o l = true ↔ isO o = true ∧ (l.map (·.1)).Pairwise (ltO o) := by
  unfold mayR; rw [Bool.and_eq_true, chain_pw]
theorem mem_get {o : Int} {l : List Pr} (hm : mayR o l = true) {key v : Int} (h : (key, v) ∈ l) : hasR o l key = true ∧ getR o l key = v := by
  obtain ⟨i, hi, e⟩ := List.getElem_of_mem h
  have := pos_at hm hi
  rw [e] at this
  exact ⟨this.2.1, this.2.2⟩
theorem has_mem {o : Int} {l : List Pr} {key : Int} (h : hasR o l key = true) : (key, getR o l key) ∈ l := by
  have hlt := hasR_lt h
  have hk := hasR_key h
  have : getR o l key = (l[posR o l key]'hlt).2 := by unfold getR; rw [h, getD_of hlt]; rfl
  rw [this]
  have hm := List.getElem_mem hlt
  rw [show (l[posR o l key]'hlt) = (key, (l[posR o l key]'hlt).2) from Prod.ext hk rfl] at hm
  exact hm
theorem get_none {o : Int} {l : List Pr} {key : Int} (h : hasR o l key = false) : getR o l key = 0 := by unfold getR; rw [h]; rfl
/-- two rows that may be and agree about a key -/
theorem same_at {o : Int} {l r : List Pr} (hl : mayR o l = true) (hr : mayR o r = true) {key : Int} (h : ∀ v, (key, v) ∈ l ↔ (key, v) ∈ r) : hasR o l key = hasR o r key ∧ getR o l key = getR o r key := by
  cases hh : hasR o l key
  · cases hh' : hasR o r key
    · exact ⟨rfl, by rw [get_none hh, get_none hh']⟩
    · have := (mem_get hl ((h _).2 (has_mem hh'))).1
      rw [hh] at this; cases this
  · have := mem_get hr ((h _).1 (has_mem hh))
    exact ⟨this.1.symm, this.2.symm⟩
theorem put_miss {o p : Int} {l : List Pr} {x : Pr} (hm : mayR o l = true) (hp : may p = true) (hh : hasR o l x.1 = false) : putR o p l x = l.take (posR o l x.1) ++ x :: l.drop (posR o l x.1) := by
  unfold putR; rw [hm, hp, hh]; rfl
theorem put_hit {o p : Int} {l : List Pr} {x : Pr} (hm : mayR o l = true) (hp : may p = true) (hh : hasR o l x.1 = true) : putR o p l x = l.set (posR o l x.1) (x.1, comb p (getR o l x.1) x.2) := by
  unfold putR getR; rw [hm, hp, hh]; rfl
theorem put_may {o p : Int} {l : List Pr} {x : Pr} (hm : mayR o l = true) (hp : may p = true) (hI : InP l) (hx : In x.1) : mayR o (putR o p l x) = true := by
  have hpw := mayR_iff.1 hm
  cases hh : hasR o l x.1
  · rw [put_miss hm hp hh, mayR_iff]
    refine ⟨hpw.1, ?_⟩
    have hpx : posR o l x.1 = idxR o l x.1 := by unfold posR; rw [hm]; rfl
    have hsplit := hpw.2
    rw [← List.take_append_drop (posR o l x.1) l, List.map_append, List.pairwise_append] at hsplit
    rw [List.map_append, List.map_cons, List.pairwise_append, List.pairwise_cons]
    have hlo : ∀ a ∈ (l.take (posR o l x.1)).map (·.1), ltO o a x.1 := fun a ha => by
      simp only [List.mem_map] at ha
      obtain ⟨y, hy, rfl⟩ := ha
      obtain ⟨i, hi, rfl⟩ := List.getElem_of_mem hy
      rw [List.length_take] at hi
      rw [List.getElem_take]
      exact (idxR_lt (o := o) (l := l) (key := x.1) (i := i) (by omega)).2
    have hhi : ∀ b ∈ (l.drop (posR o l x.1)).map (·.1), ltO o x.1 b := fun b hb => by
      simp only [List.mem_map] at hb
      obtain ⟨y, hy, rfl⟩ := hb
      obtain ⟨i, hi, rfl⟩ := List.getElem_of_mem hy
      rw [List.length_drop] at hi
      rw [List.getElem_drop]
      have hlt : idxR o l x.1 < l.length := by omega
      have hge := idxR_ge (o := o) (l := l) (key := x.1) hlt
      have hne : cmpI o l[idxR o l x.1].1 x.1 ≠ 0 := fun h0 => by
        have := (hasR_iff hm).2 ⟨_, hlt, cmpI_eq hpw.1 (hI _ (List.getElem_mem hlt)).1 hx h0⟩
        rw [hh] at this; cases this
      have h1 : cmpI o x.1 l[idxR o l x.1].1 < 0 := cmpI_pos (by omega)
      simp only [hpx]
      rcases Nat.eq_zero_or_pos i with h0 | h0
      · subst h0; exact h1
      · exact cmpI_trans h1 (chain_lt (mayR_chain hm) (i := idxR o l x.1) (j := idxR o l x.1 + i) (by omega) (by omega))
    refine ⟨hsplit.1, ⟨hhi, hsplit.2.1⟩, fun a ha b hb => ?_⟩
    rcases List.mem_cons.1 hb with rfl | hb
    · exact hlo a ha
    · exact hsplit.2.2 a ha b hb
  · rw [put_hit hm hp hh, mayR_iff]
    refine ⟨hpw.1, ?_⟩
    have hlt := hasR_lt hh
    have hk := hasR_key hh
    have : (l.set (posR o l x.1) (x.1, comb p (getR o l x.1) x.2)).map (·.1) = l.map (·.1) := by
      refine List.ext_getElem (by simp) fun i h1 h2 => ?_
      simp only [List.getElem_map, List.getElem_set]
      split
      · rename_i e; subst e; exact hk.symm
      · rfl
    rw [this]; exact hpw.2
theorem put_len {o p : Int} {l : List Pr} {x : Pr} (hm : mayR o l = true) (hp : may p = true) : (putR o p l x).length = if hasR o l x.1 then l.length else l.length + 1 := by
  cases hh : hasR o l x.1
  · rw [put_miss hm hp hh]
    have := posR_le o l x.1
    simp; omega
  · rw [put_hit hm hp hh]; simp
theorem put_mem {o p : Int} {l : List Pr} {x : Pr} (hm : mayR o l = true) (hp : may p = true) (y : Pr) : y ∈ putR o p l x → y = (x.1, if hasR o l x.1 then comb p (getR o l x.1) x.2 else x.2) ∨ y ∈ l := by
  intro hy
  cases hh : hasR o l x.1
  · rw [put_miss hm hp hh] at hy
    rcases List.mem_append.1 hy with h | h
    · exact .inr (List.mem_of_mem_take h)
    · rcases List.mem_cons.1 h with h | h
      · exact .inl h
      · exact .inr (List.mem_of_mem_drop h)
  · rw [put_hit hm hp hh] at hy
    rcases List.mem_or_eq_of_mem_set hy with h | h
    · exact .inr h
    · exact .inl h
theorem put_key {o p : Int} {l : List Pr} {x : Pr} (hm : mayR o l = true) (hp : may p = true) (hI : InP l) (hx : In x.1) :
    hasR o (putR o p l x) x.1 = true ∧ getR o (putR o p l x) x.1 = if hasR o l x.1 then comb p (getR o l x.1) x.2 else x.2 := by
  refine mem_get (put_may hm hp hI hx) ?_
  cases hh : hasR o l x.1
  · rw [put_miss hm hp hh]; simp
  · rw [put_hit hm hp hh]
    have hlt := hasR_lt hh
    exact List.mem_of_getElem (i := posR o l x.1) (h := by simpa using hlt) (by simp)
theorem put_other {o p key : Int} {l : List Pr} {x : Pr} (hm : mayR o l = true) (hp : may p = true) (hI : InP l) (hx : In x.1) (hne : key ≠ x.1) : hasR o (putR o p l x) key = hasR o l key ∧ getR o (putR o p l x) key = getR o l key := by
  refine same_at (put_may hm hp hI hx) hm fun v => ?_
  constructor
  · intro h
    rcases put_mem hm hp _ h with h | h
    · exact absurd (congrArg Prod.fst h) hne
    · exact h
  · intro h
    cases hh : hasR o l x.1
    · rw [put_miss hm hp hh]
      rw [← List.take_append_drop (posR o l x.1) l] at h
      rcases List.mem_append.1 h with h | h
      · exact List.mem_append_left _ h
      · exact List.mem_append_right _ (List.mem_cons_of_mem _ h)
    · rw [put_hit hm hp hh]
      have hlt := hasR_lt hh
      have hk := hasR_key hh
      obtain ⟨i, hi, e⟩ := List.getElem_of_mem h
      have hii : posR o l x.1 ≠ i := fun e' => by
        subst e'
        rw [e] at hk
        exact hne hk
      refine List.mem_of_getElem (i := i) (h := by simpa using hi) ?_
      rw [List.getElem_set_ne hii]; exact e
theorem put_in {o p : Int} {l : List Pr} {x : Pr} (hm : mayR o l = true) (hp : may p = true) (hI : InP l) (hx : In x.1 ∧ In x.2) : InP (putR o p l x) := fun y hy => by
  rcases put_mem hm hp _ hy with rfl | h
  · refine ⟨hx.1, ?_⟩
    show In (if hasR o l x.1 then comb p (getR o l x.1) x.2 else x.2)
    split
    · rename_i hh
      have hg := (hI _ (has_mem hh)).2
      unfold comb
      split
      · exact hg
      · split
        · exact hx.2
        · exact wrap_in _
    · exact hx.2
  · exact hI _ h
/-- the state of RowKeeps -/
structure Keeps (o key : Int) (w w' : World) (k : Nat) (p : Option Addr) (n c : Nat) (val : Int) (has : Bool) : Prop where
  ext : Ext w w'
  row : ∃ r, OwnP w' w.heap.size p n c r ∧ mayR o r = true ∧ InP r ∧ hasR o r key = has ∧ (has = true → getR o r key = val)
  len : n ≤ k
theorem Keeps.to {o key : Int} {w w' w'' : World} {k : Nat} {p : Option Addr} {n c : Nat} {val : Int} {has : Bool} (h : Keeps o key w w' k p n c val has) (e : Ext w' w'') : Keeps o key w w'' k p n c val has := by
  obtain ⟨r, h1, h2⟩ := h.row
  exact ⟨h.ext.trans e, ⟨r, row_to h1 e (Nat.le_refl _), h2⟩, h.len⟩
end Go.Proofs.YtlddfgfmkapoiaaGreat

namespace Go.Proofs.YtlddfgfmkapoiaaGreat
open Go Go.Sh Go.RowKit

abbrev IsN (w : World) (p : Option Addr) (t : Tr) : Prop := IsT 249 w p t
set_option maxRecDepth 100000 in
theorem elB : ElT Tryz.prog 57 150 (.agg #[.int .i64 0, .int .i64 0, .int .i64 0, .int .i64 0, .int .u64 0, .bool false, .bool false]) 7 48 := ⟨Tryz.underlying57, ⟨_, Tryz.type150, by kernel_rfl, by kernel_rfl, by kernel_rfl⟩, rfl, by omega⟩
/-! ### Nodes -/
def keptV (t : Tr) : Value := .agg #[.int .i64 t.key, .int .i64 t.val, .int .i64 t.sum, .int .u64 t.tag, .int .i64 (t.size : Nat)]
theorem do_st5 {w : World} {b : Nat} {v0 v1 v2 v3 v4 x0 x1 x2 x3 x4 : Value} {t : TypeId} (h : Blk w b #[v0, v1, v2, v3, v4] t) {K : World → Prop} (k : ∀ w', Blk w' b #[x0, x1, x2, x3, x4] t → w.grownBy w' (some b) → K w') :
    doSt ((blk b).add 0) x0 w fun w1 => doSt ((blk b).add 1) x1 w1 fun w2 => doSt ((blk b).add 2) x2 w2 fun w3 => doSt ((blk b).add 3) x3 w3 fun w4 => doSt ((blk b).add 4) x4 w4 K := by
  refine do_st h (i := 0) (add_blk b 0) (by simp) fun w1 h1 g1 => ?_
  have k1 : Blk w1 b #[x0, v1, v2, v3, v4] t := h1
  have e1 := g1
  refine do_st k1 (i := 1) (add_blk b 1) (by simp) fun w2 h2 g2 => ?_
  have k2 : Blk w2 b #[x0, x1, v2, v3, v4] t := h2
  have e2 := grown_trans e1 g2
  refine do_st k2 (i := 2) (add_blk b 2) (by simp) fun w3 h3 g3 => ?_
  have k3 : Blk w3 b #[x0, x1, x2, v3, v4] t := h3
  have e3 := grown_trans e2 g3
  refine do_st k3 (i := 3) (add_blk b 3) (by simp) fun w4 h4 g4 => ?_
  have k4 : Blk w4 b #[x0, x1, x2, x3, v4] t := h4
  have e4 := grown_trans e3 g4
  refine do_st k4 (i := 4) (add_blk b 4) (by simp) fun w5 h5 g5 => ?_
  have k5 : Blk w5 b #[x0, x1, x2, x3, x4] t := h5
  have e5 := grown_trans e4 g5
  exact k _ k5 e5
theorem do_st7 {w : World} {b : Nat} {v0 v1 v2 v3 v4 v5 v6 x0 x1 x2 x3 x4 x5 x6 : Value} {t : TypeId} (h : Blk w b #[v0, v1, v2, v3, v4, v5, v6] t) {K : World → Prop} (k : ∀ w', Blk w' b #[x0, x1, x2, x3, x4, x5, x6] t → w.grownBy w' (some b) → K w') :
    doSt ((blk b).add 0) x0 w fun w1 => doSt ((blk b).add 1) x1 w1 fun w2 => doSt ((blk b).add 2) x2 w2 fun w3 => doSt ((blk b).add 3) x3 w3 fun w4 => doSt ((blk b).add 4) x4 w4 fun w5 => doSt ((blk b).add 5) x5 w5 fun w6 => doSt ((blk b).add 6) x6 w6 K := by
  refine do_st h (i := 0) (add_blk b 0) (by simp) fun w1 h1 g1 => ?_
  have k1 : Blk w1 b #[x0, v1, v2, v3, v4, v5, v6] t := h1
  have e1 := g1
  refine do_st k1 (i := 1) (add_blk b 1) (by simp) fun w2 h2 g2 => ?_
  have k2 : Blk w2 b #[x0, x1, v2, v3, v4, v5, v6] t := h2
  have e2 := grown_trans e1 g2
  refine do_st k2 (i := 2) (add_blk b 2) (by simp) fun w3 h3 g3 => ?_
  have k3 : Blk w3 b #[x0, x1, x2, v3, v4, v5, v6] t := h3
  have e3 := grown_trans e2 g3
  refine do_st k3 (i := 3) (add_blk b 3) (by simp) fun w4 h4 g4 => ?_
  have k4 : Blk w4 b #[x0, x1, x2, x3, v4, v5, v6] t := h4
  have e4 := grown_trans e3 g4
  refine do_st k4 (i := 4) (add_blk b 4) (by simp) fun w5 h5 g5 => ?_
  have k5 : Blk w5 b #[x0, x1, x2, x3, x4, v5, v6] t := h5
  have e5 := grown_trans e4 g5
  refine do_st k5 (i := 5) (add_blk b 5) (by simp) fun w6 h6 g6 => ?_
  have k6 : Blk w6 b #[x0, x1, x2, x3, x4, x5, v6] t := h6
  have e6 := grown_trans e5 g6
  refine do_st k6 (i := 6) (add_blk b 6) (by simp) fun w7 h7 g7 => ?_
  have k7 : Blk w7 b #[x0, x1, x2, x3, x4, x5, x6] t := h7
  have e7 := grown_trans e6 g7
  exact k _ k7 e7
theorem c_of {p : Option Addr} {t : Tr} {w : World} {R : Ending → World → Prop} (ht : IsN w p t) (h : ∀ w', Ext w w' → R (.returned (keptV t)) w') : Calls Tryz.prog 166 #[.pointer p] w R := by
  refine sh166_ok _ ?_
  unfold sh166
  refine ⟨?_⟩
  have e1 := ext_alloc w (.cells #[.int .i64 0, .int .i64 0, .int .i64 0, .int .u64 0, .int .i64 0] 205)
  have hb := blk_alloc w #[.int .i64 0, .int .i64 0, .int .i64 0, .int .u64 0, .int .i64 0] 205
  cases t with
  | nil =>
    obtain rfl : p = none := ht
    refine ifB_t rfl (do_st5 hb fun w2 h2 g2 => ⟨_, h2.cell (i := 0) (add_blk _ _) rfl, _, h2.cell (i := 1) (add_blk _ _) rfl, _, h2.cell (i := 2) (add_blk _ _) rfl, _, h2.cell (i := 3) (add_blk _ _) rfl, _, h2.cell (i := 4) (add_blk _ _) rfl, h _ (e1.st g2 (Nat.le_refl _))⟩)
  | node l k v g r =>
    obtain ⟨b, pl, pr, rfl, hn, _, _⟩ := ht
    have hn1 := hn.ext e1
    refine ifB_f rfl ⟨_, rfl, _, hn1.cell (i := 0) (by rw [add_zero', add_blk]) rfl, _, hn1.cell (i := 1) (by rw [add_zero', add_blk]) rfl, _, hn1.cell (i := 2) (by rw [add_zero', add_blk]) rfl, _, hn1.cell (i := 3) (by rw [add_zero', add_blk]) rfl, _, hn1.cell (i := 4) (by rw [add_zero', add_blk]) rfl, ?_⟩
    refine do_st5 hb fun w2 h2 g2 => ⟨_, h2.cell (i := 0) (add_blk _ _) rfl, _, h2.cell (i := 1) (add_blk _ _) rfl, _, h2.cell (i := 2) (add_blk _ _) rfl, _, h2.cell (i := 3) (add_blk _ _) rfl, _, h2.cell (i := 4) (add_blk _ _) rfl, h _ (e1.st g2 (Nat.le_refl _))⟩
theorem c_left0 {p : Option Addr} {t : Tr} {w0 w : World} {R : Ending → World → Prop} (ht : IsN w0 p t) (e : Ext w0 w) (h : ∀ q, IsN w0 q t.left → R (.returned (.pointer q)) w) : Calls Tryz.prog 123 #[.pointer p] w R := by
  refine sh123_ok _ ?_
  unfold sh123
  cases t with
  | nil => obtain rfl : p = none := ht; exact ifB_t rfl (h _ rfl)
  | node l k v g r =>
    obtain ⟨b, pl, pr, rfl, hn, hl, hr⟩ := ht
    exact ifB_f rfl ⟨_, rfl, _, (hn.ext e).cell (i := 5) (add_blk _ _) rfl, h _ hl⟩
theorem c_left {p : Option Addr} {t : Tr} {w : World} {R : Ending → World → Prop} (ht : IsN w p t) (h : ∀ q, IsN w q t.left → R (.returned (.pointer q)) w) : Calls Tryz.prog 123 #[.pointer p] w R := c_left0 ht (ext_refl w) h
theorem c_right0 {p : Option Addr} {t : Tr} {w0 w : World} {R : Ending → World → Prop} (ht : IsN w0 p t) (e : Ext w0 w) (h : ∀ q, IsN w0 q t.right → R (.returned (.pointer q)) w) : Calls Tryz.prog 125 #[.pointer p] w R := by
  refine sh125_ok _ ?_
  unfold sh125
  cases t with
  | nil => obtain rfl : p = none := ht; exact ifB_t rfl (h _ rfl)
  | node l k v g r =>
    obtain ⟨b, pl, pr, rfl, hn, hl, hr⟩ := ht
    exact ifB_f rfl ⟨_, rfl, _, (hn.ext e).cell (i := 6) (add_blk _ _) rfl, h _ hr⟩
theorem c_right {p : Option Addr} {t : Tr} {w : World} {R : Ending → World → Prop} (ht : IsN w p t) (h : ∀ q, IsN w q t.right → R (.returned (.pointer q)) w) : Calls Tryz.prog 125 #[.pointer p] w R := c_right0 ht (ext_refl w) h
theorem c_key {p : Option Addr} {t : Tr} {w : World} {R : Ending → World → Prop} (ht : IsN w p t) (h : ∀ w', Ext w w' → R (.returned (.int .i64 t.key)) w') : Calls Tryz.prog 108 #[.pointer p] w R := by
  refine sh108_ok _ ?_
  unfold sh108
  exact do_call Tryz.call166 (c_of ht fun w1 e1 => retS_ret ⟨_, _, _, _, _, rfl, h _ e1⟩)
theorem c_val {p : Option Addr} {t : Tr} {w : World} {R : Ending → World → Prop} (ht : IsN w p t) (h : ∀ w', Ext w w' → R (.returned (.int .i64 t.val)) w') : Calls Tryz.prog 126 #[.pointer p] w R := by
  refine sh126_ok _ ?_
  unfold sh126
  exact do_call Tryz.call166 (c_of ht fun w1 e1 => retS_ret ⟨_, _, _, _, _, rfl, h _ e1⟩)
theorem c_tag {p : Option Addr} {t : Tr} {w : World} {R : Ending → World → Prop} (ht : IsN w p t) (h : ∀ w', Ext w w' → R (.returned (.int .u64 t.tag)) w') : Calls Tryz.prog 196 #[.pointer p] w R := by
  refine sh196_ok _ ?_
  unfold sh196
  exact do_call Tryz.call166 (c_of ht fun w1 e1 => retS_ret ⟨_, _, _, _, _, rfl, h _ e1⟩)
theorem c_tsize {p : Option Addr} {t : Tr} {w : World} {R : Ending → World → Prop} (ht : IsN w p t) (h : ∀ w', Ext w w' → R (.returned (.int .i64 (t.size : Nat))) w') : Calls Tryz.prog 91 #[.pointer p] w R := by
  refine sh91_ok _ ?_
  unfold sh91
  exact do_call Tryz.call166 (c_of ht fun w1 e1 => retS_ret ⟨_, _, _, _, _, rfl, h _ e1⟩)
theorem c_tsum {p : Option Addr} {t : Tr} {w : World} {R : Ending → World → Prop} (ht : IsN w p t) (h : ∀ w', Ext w w' → R (.returned (.int .i64 t.sum)) w') : Calls Tryz.prog 107 #[.pointer p] w R := by
  refine sh107_ok _ ?_
  unfold sh107
  exact do_call Tryz.call166 (c_of ht fun w1 e1 => retS_ret ⟨_, _, _, _, _, rfl, h _ e1⟩)
theorem c_new {pl pr : Option Addr} {l r : Tr} {k v g : Int} {w : World} {R : Ending → World → Prop} (hl : IsN w pl l) (hr : IsN w pr r) (hs : l.size + 1 + r.size ≤ 4611686018427387903)
    (h : ∀ b w', Ext w w' → IsN w' (some (blk b)) (.node l k v g r) → w.heap.size ≤ b → R (.returned (.pointer (some (blk b)))) w') : Calls Tryz.prog 105 #[.pointer pl, .int .i64 k, .int .i64 v, .int .u64 g, .pointer pr] w R := by
  refine sh105_ok _ _ _ _ _ ?_
  unfold sh105
  refine do_call Tryz.call91 (c_tsize hl fun w1 e1 => retS_ret ⟨_, rfl, ?_⟩)
  refine do_call Tryz.call91 (c_tsize (hr.ext e1) fun w2 e2 => retS_ret ⟨_, rfl, ?_⟩)
  have E2 := e1.trans e2
  refine do_call Tryz.call107 (c_tsum (hl.ext E2) fun w3 e3 => retS_ret ⟨_, rfl, ?_⟩)
  have E3 := E2.trans e3
  refine do_call Tryz.call107 (c_tsum (hr.ext E3) fun w4 e4 => retS_ret ⟨_, rfl, ⟨?_⟩⟩)
  have E4 := E3.trans e4
  have e : IntKind.wrap .i64 (IntKind.wrap .i64 ((l.size : Int) + 1) + (r.size : Int)) = ((l.size + 1 + r.size : Nat) : Int) := by
    rw [wrap_of (x := (l.size : Int) + 1) (by omega) (by omega), wrap_of (by omega) (by omega)]; omega
  rw [e]
  have e5 := ext_alloc w4 (.cells #[.int .i64 k, .int .i64 v, .int .i64 (IntKind.wrap .i64 (IntKind.wrap .i64 (l.sum + v) + r.sum)), .int .u64 g, .int .i64 ((l.size + 1 + r.size : Nat) : Int), .pointer pl, .pointer pr] 249)
  exact h _ _ (E4.trans e5) ⟨_, pl, pr, rfl, blk_alloc w4 _ _, hl.ext (E4.trans e5), hr.ext (E4.trans e5)⟩ E4.size
/-! ### Beads -/
theorem c_ends {l : List Bd} {q : Option Addr} {n c : Nat} {w : World} (hl : Cs w q (bds l)) (hn : l.length = n) (hm : n ≤ 1000000000000) : ∀ (f d a : Nat) (R : Ending → World → Prop), f + d = 5001 → a ≤ n →
    R (.returned (.int .i64 (match parse f (l.drop a) with | some t => (t.size : Int) | none => -1))) w → Calls Tryz.prog 189 #[.slice q n c, .int .i64 (a : Nat), .int .i64 (d : Nat)] w R := by
  intro f
  induction f with
  | zero =>
    intro d a R hd ha hR
    refine sh189_ok _ _ _ _ _ ?_
    unfold sh189
    refine ifB_intro (fun _ => hR) fun _ => ?_
    exact ifB_t (decide_eq_true (by omega)) hR
  | succ f ih =>
    intro d a R hd ha hR
    refine sh189_ok _ _ _ _ _ ?_
    unfold sh189
    refine ifB_intro (fun hge => ?_) fun hlt => ?_
    · have hge : n ≤ a := by have := of_decide_eq_true hge; omega
      rw [List.drop_of_length_le (by omega)] at hR
      exact hR
    · have hlt : a < n := by have := of_decide_eq_false hlt; omega
      refine ifB_f (decide_eq_false (by omega)) ?_
      rw [List.drop_eq_getElem_cons (by omega)] at hR
      have e1 : IntKind.wrap .i64 ((a : Int) + 1) = ((a + 1 : Nat) : Int) := wrap_succ hlt (by omega)
      have e2 : IntKind.wrap .i64 ((d : Int) + 1) = ((d + 1 : Nat) : Int) := wrap_succ (n := 5001) (by omega) (by omega)
      obtain ⟨x, hx⟩ : ∃ x, x = l[a]'(by omega) := ⟨_, rfl⟩
      rw [← hx] at hR
      -- the right side, behind k beads
      have hright : ∀ (L : BT), cond x.left (parse f (l.drop (a + 1))) (some .nil) = some L → L.size ≤ n - (a + 1) →
          doIx q n 7 (a : Nat) (fun a15 => ∃ (x16 : Bool), World.cell? w (a15.add 6) = some (.bool x16) ∧ (ifB x16 (
            doCall Tryz.prog (.func (.func 189) #[] #[]) #[.slice q n c, .int .i64 (IntKind.wrap .i64 ((a : Int) + ((1 + L.size : Nat) : Int))), .int .i64 (IntKind.wrap .i64 ((d : Int) + 1))] w (retS (fun v18 w19 => ∃ (x17 : Int), v18 = (.int .i64 x17 : Value) ∧ (
              ifB (decide ((x17 : Int) < 0)) (R (.returned (.int .i64 (-1))) w19) (R (.returned (.int .i64 (IntKind.wrap .i64 (((1 + L.size : Nat) : Int) + x17)))) w19))) (fun ch w => Kfn R ch [] w))) (
            R (.returned (.int .i64 ((1 + L.size : Nat) : Int))) w))) := by
        intro L hL hLs
        refine ix_flat ecB_len (by omega) hl hn rfl hlt fun a0 r0 _ => ?_
        rw [← hx] at r0
        refine ⟨x.right, r0 6 _ rfl, ?_⟩
        have hL' : parse (f + 1) (x :: l.drop (a + 1)) = (cond x.right (parse f ((l.drop (a + 1)).drop L.size)) (some .nil)).bind fun r => some (.node x L r) := by
          simp only [parse]; rw [hL]; rfl
        rw [hL'] at hR
        refine ifB_intro (fun hrt => ?_) fun hrt => ?_
        · have e3 : IntKind.wrap .i64 ((a : Int) + ((1 + L.size : Nat) : Int)) = ((a + 1 + L.size : Nat) : Int) := by rw [wrap_of (by omega) (by omega)]; omega
          rw [e2, e3]
          refine do_call Tryz.call189 (ih (d + 1) (a + 1 + L.size) _ (by omega) (by omega) (retS_ret ⟨_, rfl, ?_⟩))
          rw [hrt, cond_true, List.drop_drop] at hR
          cases hp : parse f (l.drop (a + 1 + L.size)) with
          | none =>
            rw [hp] at hR
            exact ifB_t (by simp) hR
          | some r =>
            rw [hp] at hR
            have hps := (parse_some hp).2.2
            have hrl : L.size + 1 + r.size ≤ n := by
              have := congrArg List.length hps
              simp at this
              have : r.size = r.beads.length := rfl
              omega
            refine ifB_f (decide_eq_false (by simp)) ?_
            simp only [Option.bind_some, BT.size_node] at hR
            simp only
            rw [wrap_of (x := ((1 + L.size : Nat) : Int) + (r.size : Int)) (by omega) (by omega), ← Int.natCast_add]
            exact hR
        · rw [hrt, cond_false] at hR
          simp only [Option.bind_some, BT.size_node] at hR
          exact hR
      refine ix_flat ecB_len (by omega) hl hn rfl hlt fun a0 r0 _ => ?_
      rw [← hx] at r0
      refine ⟨x.left, r0 5 _ rfl, ?_⟩
      refine ifB_intro (fun hlf => ?_) fun hlf => ?_
      · rw [e1, e2]
        refine do_call Tryz.call189 (ih (d + 1) (a + 1) _ (by omega) (by omega) (retS_ret ⟨_, rfl, ?_⟩))
        cases hp : parse f (l.drop (a + 1)) with
        | none =>
          have hL' : parse (f + 1) (x :: l.drop (a + 1)) = none := by simp only [parse]; rw [hlf, cond_true, hp]; rfl
          rw [hL'] at hR
          exact ifB_t (by simp) hR
        | some L =>
          have hps := (parse_some hp).2.2
          have hLs : L.size ≤ n - (a + 1) := by
            have := congrArg List.length hps
            simp at this
            have : L.size = L.beads.length := rfl
            omega
          refine ifB_f (decide_eq_false (by simp)) ?_
          simp only
          rw [wrap_of (x := 1 + (L.size : Int)) (by omega) (by omega)]
          have := hright L (by rw [hlf, cond_true, hp]) hLs
          rw [e2] at this
          simp only [Int.natCast_add, Int.cast_ofNat_Int] at this
          exact this
      · have := hright .nil (by rw [hlf, cond_false]) (by simp [BT.size, BT.beads])
        simpa [BT.size, BT.beads] using this
end Go.Proofs.YtlddfgfmkapoiaaGreat

namespace Go.Proofs.YtlddfgfmkapoiaaGreat
open Go Go.Sh Go.RowKit

def bdV (x : Bd) : Value := .agg #[.int .i64 x.key, .int .i64 x.val, .int .i64 x.sum, .int .i64 x.size, .int .u64 x.tag, .bool x.left, .bool x.right]
set_option maxRecDepth 20000 in
theorem c_parts {x : Bd} {L Rt : BT} {q : Option Addr} {n c : Nat} {w : World} {R : Ending → World → Prop} (hl : Cs w q (bds (BT.node x L Rt).beads)) (hn : (BT.node x L Rt).size = n) (hnc : n ≤ c) (hw : (BT.node x L Rt).wf = true) (hm : n ≤ 5000)
    (h : ∀ p1 c1 p2 c2 w', Ext w w' → (∀ w'', Cs w'' q (bds (BT.node x L Rt).beads) → Cs w'' p1 (bds L.beads) ∧ Cs w'' p2 (bds Rt.beads)) → L.size ≤ c1 → Rt.size ≤ c2 → R (.returned (.tuple #[bdV x, .slice p1 L.size c1, .slice p2 Rt.size c2])) w') :
    Calls Tryz.prog 109 #[.slice q n c] w R := by
  refine sh109_ok _ _ _ ?_
  unfold sh109
  refine ⟨?_⟩
  obtain ⟨w1f, _, w2f, w3f⟩ := BT.wf_node hw
  have e1 := ext_alloc w (.cells #[.int .i64 0, .int .i64 0, .int .i64 0, .int .i64 0, .int .u64 0, .bool false, .bool false] 150)
  have hb := blk_alloc w #[.int .i64 0, .int .i64 0, .int .i64 0, .int .i64 0, .int .u64 0, .bool false, .bool false] 150
  generalize hb0 : w.heap.size = b at *
  generalize w.alloc (.cells #[.int .i64 0, .int .i64 0, .int .i64 0, .int .i64 0, .int .u64 0, .bool false, .bool false] 150) = w1 at *
  have hsz := BT.size_node x L Rt
  have hln : (BT.node x L Rt).beads.length = n := hn
  have hk : ∀ k : Int, k = (L.size : Int) → _ := fun k hk => by
    subst hk
    have ew : IntKind.wrap .i64 (1 + (L.size : Int)) = ((1 + L.size : Nat) : Int) := by rw [wrap_of (by omega) (by omega)]; omega
    refine (show doDr w1 (fun w10 => ∃ (C9 : World → Prop), C9 w10 ∧ (
      doIx q n 7 (0) (fun a11 => ∃ (x12 : Int), (∀ w, C9 w → World.cell? w (a11.add 0) = some (.int .i64 x12)) ∧ (
      ∃ (x13 : Int), (∀ w, C9 w → World.cell? w (a11.add 1) = some (.int .i64 x13)) ∧ (
      ∃ (x14 : Int), (∀ w, C9 w → World.cell? w (a11.add 2) = some (.int .i64 x14)) ∧ (
      ∃ (x15 : Int), (∀ w, C9 w → World.cell? w (a11.add 3) = some (.int .i64 x15)) ∧ (
      ∃ (x16 : Int), (∀ w, C9 w → World.cell? w (a11.add 4) = some (.int .u64 x16)) ∧ (
      ∃ (x17 : Bool), (∀ w, C9 w → World.cell? w (a11.add 5) = some (.bool x17)) ∧ (
      ∃ (x18 : Bool), (∀ w, C9 w → World.cell? w (a11.add 6) = some (.bool x18)) ∧ (
      doSl q c 7 (1) (IntKind.wrap .i64 (1 + (L.size : Int))) (fun p19 n20 c21 =>
      doSl q c 7 (IntKind.wrap .i64 (1 + (L.size : Int))) (((n : Nat) : Int)) (fun p22 n23 c24 =>
      doSt ((blk b).add 0) (.int .i64 x12) w10 (fun w25 => doSt ((blk b).add 1) (.int .i64 x13) w25 (fun w26 =>
      doSt ((blk b).add 2) (.int .i64 x14) w26 (fun w27 => doSt ((blk b).add 3) (.int .i64 x15) w27 (fun w28 =>
      doSt ((blk b).add 4) (.int .u64 x16) w28 (fun w29 => doSt ((blk b).add 5) (.bool x17) w29 (fun w30 =>
      doSt ((blk b).add 6) (.bool x18) w30 (fun w31 =>
      ∃ (x32 : Int), World.cell? w31 ((blk b).add 0) = some (.int .i64 x32) ∧ (
      ∃ (x33 : Int), World.cell? w31 ((blk b).add 1) = some (.int .i64 x33) ∧ (
      ∃ (x34 : Int), World.cell? w31 ((blk b).add 2) = some (.int .i64 x34) ∧ (
      ∃ (x35 : Int), World.cell? w31 ((blk b).add 3) = some (.int .i64 x35) ∧ (
      ∃ (x36 : Int), World.cell? w31 ((blk b).add 4) = some (.int .u64 x36) ∧ (
      ∃ (x37 : Bool), World.cell? w31 ((blk b).add 5) = some (.bool x37) ∧ (
      ∃ (x38 : Bool), World.cell? w31 ((blk b).add 6) = some (.bool x38) ∧ (
      R (.returned (.tuple #[.agg #[.int .i64 x32, .int .i64 x33, .int .i64 x34, .int .i64 x35, .int .u64 x36, .bool x37, .bool x38], .slice p19 n20 c21, .slice p22 n23 c24])) w31)))))))))))))))))))))))))) from ?_)
    refine ⟨⟨fun w' => Ext w w', e1.drew, ?_⟩⟩
    refine ix_flatC ecB_len (by omega) (C := fun w' => Ext w w') (fun w' e => hl.ext e) e1 hln (k := 0) rfl (by omega) fun a r => ?_
    refine ⟨_, fun w' e => r w' e 0 _ rfl, _, fun w' e => r w' e 1 _ rfl, _, fun w' e => r w' e 2 _ rfl, _, fun w' e => r w' e 3 _ rfl, _, fun w' e => r w' e 4 _ rfl, _, fun w' e => r w' e 5 _ rfl, _, fun w' e => r w' e 6 _ rfl, ?_⟩
    refine sl_flat ecB_len (by omega) hl hln hnc (a := 1) (b := 1 + L.size) rfl ew (by omega) (by omega) fun p1 hp1 => ?_
    refine sl_flat ecB_len (by omega) hl hln hnc (a := 1 + L.size) (b := n) ew rfl (by omega) (Nat.le_refl n) fun p2 hp2 => ?_
    refine do_st7 (w := w1.drew) hb fun w2 h2 g2 => ?_
    refine ⟨_, h2.cell (i := 0) (add_blk _ _) rfl, _, h2.cell (i := 1) (add_blk _ _) rfl, _, h2.cell (i := 2) (add_blk _ _) rfl, _, h2.cell (i := 3) (add_blk _ _) rfl, _, h2.cell (i := 4) (add_blk _ _) rfl, _, h2.cell (i := 5) (add_blk _ _) rfl, _, h2.cell (i := 6) (add_blk _ _) rfl, ?_⟩
    have hL1 : 1 + L.size - 1 = L.size := by omega
    have hR1 : n - (1 + L.size) = Rt.size := by omega
    rw [hL1, hR1]
    refine h p1 _ p2 _ w2 (e1.drew.st g2 (by omega)) (fun w'' hc => ⟨?_, ?_⟩) (by omega) (by omega)
    · have := hp1 w'' hc
      rw [show ((BT.node x L Rt).beads.take (1 + L.size)).drop 1 = L.beads by
        simp only [BT.beads]
        rw [show 1 + L.size = L.size + 1 by omega, List.take_succ_cons, List.drop_succ_cons, List.drop_zero, List.take_left]] at this
      exact this
    · have := hp2 w'' hc
      rw [show ((BT.node x L Rt).beads.take n).drop (1 + L.size) = Rt.beads by
        rw [List.take_of_length_le (by omega)]
        simp only [BT.beads]
        rw [show 1 + L.size = L.size + 1 by omega, List.drop_succ_cons, List.drop_left]] at this
      exact this
  refine ix_flat ecB_len (by omega) (hl.ext e1) hln (k := 0) rfl (by omega) fun a r _ => ?_
  refine ⟨x.left, r 5 _ rfl, ?_⟩
  refine ifB_intro (fun hlf => ?_) fun hlf => ?_
  · refine do_call Tryz.call189 (c_ends (hl.ext e1) hln (by omega) 5001 0 1 _ rfl (by omega) (retS_ret ⟨_, rfl, ?_⟩))
    have hp : parse 5001 ((BT.node x L Rt).beads.drop 1) = some L := by
      simp only [BT.beads, List.drop_succ_cons, List.drop_zero]
      exact parse_of _ (by rw [← w1f]; exact hlf) w2f (by have := L.depth_le; omega)
    rw [hp]
    exact hk _ rfl
  · have : L.size = 0 := by
      have := L.nn_iff
      rw [← w1f, hlf] at this
      simpa using this
    have h2 := hk _ rfl
    rw [show (L.size : Int) = 0 by rw [this]; rfl] at h2
    exact h2
end Go.Proofs.YtlddfgfmkapoiaaGreat

namespace Go.Proofs.YtlddfgfmkapoiaaGreat
open Go Go.Sh Go.RowKit

/-- the size of the tree at a pointer -/
def szAt (v : Value) (w : World) : Nat := match v with
  | .pointer (some a) => (match w.cell? (a.add 4) with | some (.int _ n) => n.toNat | _ => 0)
  | _ => 0
theorem szAt_of {w : World} {p : Option Addr} {t : Tr} (h : IsN w p t) : szAt (.pointer p) w = t.size := by
  cases t with
  | nil => rw [show p = none from h]; rfl
  | node l k v g r =>
    obtain ⟨b, pl, pr, rfl, hb, _, _⟩ := h
    unfold szAt
    simp only
    rw [hb.cell (i := 4) (add_blk _ _) rfl]
    simp
abbrev AllK (t : Tr) : Prop := t.All fun x => In x.1
/-- What a way over nodes asks of yield. -/
structure WayTo (o key : Int) (w0 : World) (pt : Option Addr) (t : Tr) (bt bo bk : Nat) (y : Value) (St : Tr → World → Prop) (Fin : World → Prop) : Prop where
  blks : ∀ s w, St s w → Ext w0 w ∧ Blk w bt #[.pointer pt] 35 ∧ Blk w bo #[.int .u8 o] 5 ∧ Blk w bk #[.int .i64 key] 2
  ext : ∀ s w w', St s w → Ext w w' → St s w'
  yields : ∀ s p w, s.nn = true → AllK s → s.size ≤ t.size → IsN w0 p s → St s w → ∀ R' : Ending → World → Prop,
    (∀ w', (if cmpI o key s.key = 0 then Fin w' else St (s.next o key) w') → R' (.returned (.bool true)) w') → doCall Tryz.prog y #[.pointer p, .int .i64 (cmpI o key s.key)] w R'
  fext : ∀ w, Fin w → Ext w0 w
end Go.Proofs.YtlddfgfmkapoiaaGreat

