/-
  What the functions of rank do.
-/
import Derived.Test.YtinkkhcffoikmaaTree2
namespace Go.Proofs.Ytinkkhcffoikmaa
open Go Go.Sh Go.RowKit

theorem cmpI_vals (o a b : Int) : cmpI o a b = -1 ∨ cmpI o a b = 0 ∨ cmpI o a b = 1 := by
  unfold cmpI; split
  · split
    · exact .inl rfl
    · split
      · exact .inr (.inr rfl)
      · exact .inr (.inl rfl)
  · exact .inr (.inl rfl)
/-- how many stand ahead of a key, on its way -/
def rankN (o key : Int) : Tr → Nat
  | .nil => 0
  | .node l k _ _ r => if cmpI o key k < 0 then rankN o key l else if cmpI o key k = 0 then l.size else l.size + 1 + rankN o key r
def hasN (o key : Int) : Tr → Bool
  | .nil => false
  | .node l k _ _ r => if cmpI o key k < 0 then hasN o key l else if cmpI o key k = 0 then true else hasN o key r
theorem rankN_le (o key : Int) (t : Tr) : rankN o key t ≤ t.size := by
  induction t with
  | nil => exact Nat.le_refl _
  | node l k v g r ihl ihr => simp only [rankN, Tr.size]; split <;> (try split) <;> omega
def rankR (o : Int) (t : Tr) (key : Int) : Nat := cond (isO o) (rankN o key t) 0
def hasK (o : Int) (t : Tr) (key : Int) : Bool := cond (isO o) (hasN o key t) false
/-- the size of the tree at a pointer -/
def szAt (v : Value) (w : World) : Nat := match v with
  | .pointer (some a) => (match w.cell? (a.add 4) with | some (.int _ n) => n.toNat | _ => 0)
  | _ => 0
theorem szAt_of {w : World} {p : Option Addr} {t : Tr} (h : IsN w p t) : szAt (.pointer p) w = t.size := by
  cases t with
  | nil => rw [show p = none from h]; rfl
  | node l k v g r =>
    obtain ⟨b, pl, pr, rfl, hb, _, _⟩ := h
    unfold szAt
    simp only
    rw [hb.cell (i := 4) (add_blk _ _) rfl]
    simp
abbrev AllK (t : Tr) : Prop := t.All fun x => In x.1
/-- What a way over nodes asks of yield. -/
structure WayTo (o key : Int) (w0 : World) (pt : Option Addr) (t : Tr) (bt bo bk : Nat) (y : Value) (St : Tr → World → Prop) (Fin : World → Prop) : Prop where
  blks : ∀ s w, St s w → Ext w0 w ∧ Blk w bt #[.pointer pt] 27 ∧ Blk w bo #[.int .u8 o] 5 ∧ Blk w bk #[.int .i64 key] 2
  ext : ∀ s w w', St s w → Ext w w' → St s w'
  yields : ∀ s p w, s.nn = true → AllK s → s.size ≤ t.size → IsN w0 p s → St s w → ∀ R' : Ending → World → Prop,
    (∀ w', (if cmpI o key s.key = 0 then Fin w' else St (s.next o key) w') → R' (.returned (.bool true)) w') → doCall Try.prog y #[.pointer p, .int .i64 (cmpI o key s.key)] w R'
  fext : ∀ w, Fin w → Ext w0 w
set_option maxRecDepth 20000 in
theorem c_way1 {o key : Int} {t : Tr} {pt : Option Addr} {bt bo bk : Nat} {f : Fn} {fx fc : Array Value} {St : Tr → World → Prop} {Fin : World → Prop} {w0 w : World} {R : Ending → World → Prop}
    (hy : WayTo o key w0 pt t bt bo bk (.func f fx fc) St Fin) (ht : IsN w0 pt t) (hk : In key) (hA : AllK t) (h0 : St t w)
    (hno : isO o = false → ∀ w', St t w' → R (.returned (.tuple #[])) w') (hnil : ∀ w', (isO o = true ∨ t = .nil) → St .nil w' → R (.returned (.tuple #[])) w') (hfin : ∀ w', isO o = true → Fin w' → R (.returned (.tuple #[])) w') :
    Calls Try.prog 112 #[.func f fx fc, .pointer (some (blk bt)), .pointer (some (blk bo)), .pointer (some (blk bk))] w R := by
  refine sh112_ok _ _ _ _ _ _ ?_
  unfold sh112
  refine ⟨_, (hy.blks _ _ h0).2.1.cell (i := 0) rfl rfl, ?_⟩
  refine ⟨fun vs w' => ∃ (s : Tr) (p : Option Addr), vs = [.pointer p] ∧ IsN w0 p s ∧ St s w' ∧ AllK s ∧ s.size ≤ t.size ∧ (isO o = true ∨ s = t), fun vs w' => szAt (vs.getD 0 undef) w', ⟨t, pt, rfl, ht, h0, hA, Nat.le_refl _, .inr rfl⟩, ?_⟩
  rintro p _ w1 ⟨s, p', hv, hN0, hs, hA, hsz, hoo⟩
  simp only [List.cons.injEq, Value.pointer.injEq, and_true] at hv
  subst hv
  have hN : IsN w1 p s := hN0.ext (hy.blks _ _ hs).1
  have hnone := hN.isNone
  refine ifB_intro (fun hp => ?_) fun hp => ?_
  rotate_left
  · have hsn : s.nn = false := by rw [hnone] at hp; simpa using hp
    cases s with
    | nil => exact hnil _ (hoo.imp id Eq.symm) hs
    | node l k v g r => cases hsn
  have hsn : s.nn = true := by rw [hnone] at hp; simpa using hp
  refine ⟨_, (hy.blks _ _ hs).2.2.1.cell (i := 0) rfl rfl, ?_⟩
  refine do_call Try.call94 (c_name fun w2 e2 => retS_ret ⟨_, rfl, ?_⟩)
  rw [name_empty]
  have hs2 := hy.ext _ _ _ hs e2
  cases ho : isO o
  · refine ifB_f rfl ?_
    rcases hoo with h | h
    · rw [ho] at h; cases h
    · subst h; exact hno ho _ hs2
  refine ifB_t rfl ?_
  refine ⟨⟨fun w' => Ext w2 w', ext_drew _, _, fun w' e => ((hy.blks _ _ hs2).2.2.1.ext e).cell (i := 0) rfl rfl, _, fun w' e => ((hy.blks _ _ hs2).2.2.2.ext e).cell (i := 0) rfl rfl, ?_⟩⟩
  refine do_call Try.call76 (c_key (hN.ext (e2.trans (ext_drew _))) fun w3 e3 => retS_ret ⟨_, rfl, (ext_drew _).trans e3, ?_⟩)
  have hsk : In s.key := by
    cases s with
    | nil => cases hsn
    | node l k v g r => exact hA.node.2.1
  refine do_call Try.call93 (c_compare hk hsk fun w4 e4 => retS_ret ⟨_, rfl, ?_⟩)
  have E4 : Ext w1 w4 := e2.trans ((ext_drew w2).trans (e3.trans e4))
  have hs4 := hy.ext _ _ _ hs E4
  refine hy.yields s p w4 hsn hA hsz hN0 hs4 _ fun w5 h5 => retS_ret ⟨_, rfl, ifB_f rfl ?_⟩
  refine ifB_intro (fun h1 => ?_) fun h1 => ?_
  · have h1 : cmpI o key s.key = 0 := by simpa using h1
    rw [if_pos h1] at h5
    exact hfin _ ho h5
  · have h1 : cmpI o key s.key ≠ 0 := by simpa using h1
    rw [if_neg h1] at h5
    have hlt := Tr.next_lt hsn o key
    refine ifB_intro (fun h2 => ?_) fun h2 => ?_
    · have h2 := of_decide_eq_true h2
      have hnx : s.next o key = s.left := by unfold Tr.next; rw [if_pos h2]
      rw [hnx] at h5 hlt
      refine do_call Try.call73 (c_left0 hN0 (hy.blks _ _ h5).1 fun ql hql => retS_ret ⟨_, rfl, ⟨s.left, ql, rfl, hql, h5, hA.left, by omega, .inl rfl⟩, ?_⟩)
      show szAt (.pointer ql) w5 < szAt (.pointer p) w1
      rw [szAt_of (hql.ext (hy.blks _ _ h5).1), szAt_of hN]; exact hlt
    · have h2 := of_decide_eq_false h2
      have hnx : s.next o key = s.right := by unfold Tr.next; rw [if_neg h2]
      rw [hnx] at h5 hlt
      refine do_call Try.call78 (c_right0 hN0 (hy.blks _ _ h5).1 fun ql hql => retS_ret ⟨_, rfl, ⟨s.right, ql, rfl, hql, h5, hA.right, by omega, .inl rfl⟩, ?_⟩)
      show szAt (.pointer ql) w5 < szAt (.pointer p) w1
      rw [szAt_of (hql.ext (hy.blks _ _ h5).1), szAt_of hN]; exact hlt
theorem c_tally {w : World} {R : Ending → World → Prop} (h : ∀ b w', Ext w w' → w.heap.size ≤ b → Blk w' b #[.int .i64 0] 3 → R (.returned (.tuple #[.func (.func 110) #[] #[.pointer (some (blk b))], .func (.func 111) #[] #[.pointer (some (blk b))]])) w') :
    Calls Try.prog 71 #[] w R := by
  refine sh71_ok ?_
  unfold sh71
  refine ⟨do_st (blk_alloc w #[.int .i64 0] 3) (i := 0) (add_blk _ _) (by simp) fun w1 h1 g1 => h _ _ ((ext_alloc w _).st g1 (Nat.le_refl _)) (Nat.le_refl _) h1⟩
theorem c_way {o key : Int} {pt : Option Addr} {w : World} {R : Ending → World → Prop} (h : ∀ bt bo bk w', Ext w w' → w.heap.size ≤ bt → w.heap.size ≤ bo → w.heap.size ≤ bk → Blk w' bt #[.pointer pt] 27 → Blk w' bo #[.int .u8 o] 5 → Blk w' bk #[.int .i64 key] 2 →
      R (.returned (.func (.func 112) #[] #[.pointer (some (blk bt)), .pointer (some (blk bo)), .pointer (some (blk bk))])) w') : Calls Try.prog 72 #[.int .u8 o, .pointer pt, .int .i64 key] w R := by
  refine sh72_ok _ _ _ ?_
  unfold sh72
  refine ⟨⟨⟨?_⟩⟩⟩
  have e1 := ext_alloc w (.cells #[.int .u8 o] 5)
  have h1 := blk_alloc w #[.int .u8 o] 5
  generalize hb1 : w.heap.size = b1 at *
  generalize w.alloc (.cells #[.int .u8 o] 5) = w1 at *
  have e2 := ext_alloc w1 (.cells #[.pointer pt] 27)
  have h2 := blk_alloc w1 #[.pointer pt] 27
  have h1' := h1.ext e2
  have l1 := h1.lt
  generalize hb2 : w1.heap.size = b2 at *
  generalize w1.alloc (.cells #[.pointer pt] 27) = w2 at *
  have e3 := ext_alloc w2 (.cells #[.int .i64 key] 2)
  have h3 := blk_alloc w2 #[.int .i64 key] 2
  have l2 := h2.lt
  exact h _ _ _ _ ((e1.trans e2).trans e3) (by omega) (by omega) (by omega) (h2.ext e3) (h1'.ext e3) h3
set_option maxRecDepth 20000 in
theorem c_rank {o key : Int} {t : Tr} {pt : Option Addr} {w : World} {R : Ending → World → Prop} (ht : IsN w pt t) (hk : In key) (hA : AllK t) (hs : t.size ≤ 4611686018427387903)
    (h : ∀ w', Ext w w' → R (.returned (.tuple #[.int .i64 (rankR o t key : Nat), .bool (hasK o t key)])) w') : Calls Try.prog 17 #[.int .u8 o, .pointer pt, .int .i64 key] w R := by
  refine sh17_ok _ _ _ ?_
  unfold sh17
  refine ⟨?_⟩
  have e1 := ext_alloc w (.cells #[.bool false] 4)
  have hr := blk_alloc w #[.bool false] 4
  generalize hbr : w.heap.size = br at *
  generalize w.alloc (.cells #[.bool false] 4) = w1 at *
  refine do_call Try.call71 (c_tally fun ba w2 e2 hba ha => retS_ret ⟨_, _, _, _, _, _, rfl, ⟨?_⟩⟩)
  have lr := hr.lt
  have la := ha.lt
  have hr2 := hr.ext e2
  refine do_st (blk_alloc w2 #[.nilFunc] 91) (i := 0) (add_blk _ _) (by simp) fun w3 hf3 g3 => ?_
  have hf3 : Blk w3 w2.heap.size #[.func (.func 110) #[] #[.pointer (some (blk ba))]] 91 := hf3
  have e3 : Ext w2 w3 := (ext_alloc w2 _).st g3 (Nat.le_refl _)
  obtain ⟨bf, hbf⟩ : ∃ bf, bf = w2.heap.size := ⟨_, rfl⟩
  rw [← hbf] at hf3 ⊢
  have lf := hf3.lt
  refine do_call Try.call72 (c_way fun bt bo bk w4 e4 hbt hbo hbk h1 h2 h3 => retS_ret ⟨_, _, _, rfl, do_rf fun fn L w5 d hd hL hst hpe e5 hd5 hl5 => ?_⟩)
  have E4 : Ext w w4 := (e1.trans e2).trans (e3.trans e4)
  have E5 := E4.trans e5
  have hr5 := hr2.ext ((e3.trans e4).trans e5)
  have ha5 := ha.ext ((e3.trans e4).trans e5)
  have hf5 := hf3.ext (e4.trans e5)
  have ht5 := h1.ext e5
  have ho5 := h2.ext e5
  have hk5 := h3.ext e5
  have n1 : br < ba := by omega
  have n2 : ba < bf := by omega
  have n3 : bf < bt := by omega
  have n4 : bf < bo := by omega
  have n5 : bf < bk := by omega
  have n6 : bt < d := by rw [hd]; exact h1.lt
  have n7 : bo < d := by rw [hd]; exact h2.lt
  have n8 : bk < d := by rw [hd]; exact h3.lt
  clear e1 e2 e3 e4 e5 hr hr2 ha hf3 h1 h2 h3 g3 lr la lf
  rw [← hd]
  obtain ⟨St, hSt⟩ : ∃ St : Tr → World → Prop, St = fun s w' => hasN o key s = hasN o key t ∧ ∃ a : Nat, a + rankN o key s = rankN o key t ∧ Ext w w' ∧ Blk w' br #[.bool false] 4 ∧ Blk w' ba #[.int .i64 (a : Int)] 3 ∧
    Blk w' bf #[.func (.func 110) #[] #[.pointer (some (blk ba))]] 91 ∧ Blk w' bt #[.pointer pt] 27 ∧ Blk w' bo #[.int .u8 o] 5 ∧ Blk w' bk #[.int .i64 key] 2 ∧ w'.heap[d]? = some (.deferred (some [])) ∧ w'.heap[d + 1]? = some (.loop L) := ⟨_, rfl⟩
  obtain ⟨Fin, hFin⟩ : ∃ Fin : World → Prop, Fin = fun w' => hasN o key t = true ∧ Ext w w' ∧ Blk w' br #[.bool true] 4 ∧ Blk w' ba #[.int .i64 (rankN o key t : Int)] 3 ∧ w'.heap[d]? = some (.deferred (some [])) ∧ w'.heap[d + 1]? = some (.loop L) := ⟨_, rfl⟩
  -- what stands behind the range
  have hend : ∀ {w' : World} {a : Nat} {is : Bool} (Kf : List PanicEntry → World → Prop), Ext w w' → Blk w' br #[.bool is] 4 → Blk w' ba #[.int .i64 (a : Int)] 3 → w'.heap[d]? = some (.deferred (some [])) → a = rankR o t key → is = hasK o t key →
      doDr w' (fun w24 => ∃ (C23 : World → Prop), C23 w24 ∧ (∃ (x25 : Bool), (∀ w, C23 w → World.cell? w (blk br) = some (.bool x25)) ∧ (
        doCall Try.prog (.func (.func 111) #[] #[.pointer (some (blk ba))]) #[] w24 (retS (fun v27 w28 => ∃ (x26 : Int), v27 = (.int .i64 x26 : Value) ∧ (C23 w28 ∧ (
        doSt ((blk br).add 0) (.bool x25) w28 (fun w29 => w29.heap[d]? = some (.deferred (some [])) ∧ (∃ (x31 : Bool), World.cell? (w29.putObj d (.deferred none)) (blk br) = some (.bool x31) ∧ (
        R (.returned (.tuple #[.int .i64 x26, .bool x31])) (w29.putObj d (.deferred none)))))))) Kf)))) := by
    intro w' a is Kf E hr ha hd' hae hie
    refine ⟨⟨fun w'' => w'' = w'.drew, rfl, is, fun w'' e => ?_, ?_⟩⟩
    · subst e; exact Blk.cell (w := w'.drew) (i := 0) hr rfl rfl
    refine do_callc Try.call111 (by rfl) (sh111_ok _ ?_)
    unfold sh111
    refine ⟨_, Blk.cell (w := w'.drew) (i := 0) ha rfl rfl, retS_ret ⟨_, rfl, rfl, ?_⟩⟩
    refine do_st (w := w'.drew) (i := 0) hr (add_blk _ _) (by simp) fun w6 h6 g6 => ?_
    refine ⟨heap_grown (w := w'.drew) g6 hd' (ne_some (by omega)), is, (h6.grown (put_grown _ _ _) (ne_some (by omega))).cell (i := 0) rfl rfl, ?_⟩
    subst hae hie
    exact h _ ((E.drew.st g6 (by omega)).put (by omega) _)
  refine callE_c Try.call112 (by rfl) (c_way1 (o := o) (key := key) (t := t) (pt := pt) (bt := bt) (bo := bo) (bk := bk) (w0 := w) (St := St) (Fin := Fin) ⟨?_, ?_, ?_, ?_⟩ ht hk hA ?_ ?_ ?_ ?_)
  · subst hSt
    rintro s w' ⟨_, a, _, E, _, _, _, h1, h2, h3, _⟩
    exact ⟨E, h1, h2, h3⟩
  · subst hSt
    rintro s w' w'' ⟨h0, a, h1, E, h2, h3, h4, h5, h6, h7, h8, h9⟩ e
    exact ⟨h0, a, h1, E.trans e, h2.ext e, h3.ext e, h4.ext e, h5.ext e, h6.ext e, h7.ext e, e.heap h8, e.heap h9⟩
  · -- a round
    intro s p w6 hsn hsA hsz hN hs6 R' hR'
    have hs6' := hs6
    rw [hSt] at hs6'
    obtain ⟨hh, a, hae, E6, hr6, ha6, hf6, ht6, ho6, hk6, hd6, hl6⟩ := hs6'
    obtain ⟨cc, hcc⟩ : ∃ cc, cc = cmpI o key s.key := ⟨_, rfl⟩
    rw [← hcc] at hR' ⊢
    have hrs := rankN_le o key t
    refine sh17_0_ok (by rw [hl6, hL]) ?_
    unfold sh17_0
    refine ⟨_, hl6, hst, ?_⟩
    have g7 := put_grown w6 (d + 1) (.loop { L with state := .busy })
    have hl7 := put_heap (o' := .loop { L with state := .busy }) hl6
    have hr7 := hr6.grown g7 (ne_some (by omega))
    have ha7 := ha6.grown g7 (ne_some (by omega))
    have hf7 := hf6.grown g7 (ne_some (by omega))
    have ht7 := ht6.grown g7 (ne_some (by omega))
    have ho7 := ho6.grown g7 (ne_some (by omega))
    have hk7 := hk6.grown g7 (ne_some (by omega))
    have hd7 := heap_grown g7 hd6 (ne_some (by omega))
    have E7 := E6.st g7 (by omega)
    have hN7 := hN.ext E7
    have hL6 := hl6
    generalize w6.putObj (d + 1) (.loop { L with state := .busy }) = w7 at *
    have hnext : (cc < 0 → rankN o key s = rankN o key (s.next o key) ∧ hasN o key s = hasN o key (s.next o key)) ∧ (cc = 0 → rankN o key s = s.left.size ∧ hasN o key s = true) ∧
        (0 < cc → rankN o key s = s.left.size + 1 + rankN o key (s.next o key) ∧ hasN o key s = hasN o key (s.next o key)) := by
      cases s with
      | nil => cases hsn
      | node l k v g r =>
        have hcc : cc = cmpI o key k := hcc
        refine ⟨fun h1 => ?_, fun h1 => ?_, fun h1 => ?_⟩
        · simp only [rankN, hasN, Tr.next, Tr.key, Tr.left, ← hcc, if_pos h1, and_self]
        · simp only [rankN, hasN, Tr.left, ← hcc, if_neg (show ¬ cc < 0 by omega), if_pos h1, and_self]
        · simp only [rankN, hasN, Tr.next, Tr.key, Tr.left, Tr.right, ← hcc, if_neg (show ¬ cc < 0 by omega), if_neg (show ¬ cc = 0 by omega), and_self]
    have hls : s.left.size ≤ t.size := by
      cases s with
      | nil => exact Nat.zero_le _
      | node l k v g r => simp only [Tr.size] at hsz; simp only [Tr.left]; omega
    -- the end of the round
    have hK46 : ∀ {w' : World} {a' : Nat}, Ext w w' → Blk w' br #[.bool false] 4 → Blk w' ba #[.int .i64 (a' : Int)] 3 → Blk w' bf #[.func (.func 110) #[] #[.pointer (some (blk ba))]] 91 →
        Blk w' bt #[.pointer pt] 27 → Blk w' bo #[.int .u8 o] 5 → Blk w' bk #[.int .i64 key] 2 → w'.heap[d]? = some (.deferred (some [])) → w'.heap[d + 1]? = some (.loop { L with state := .busy }) →
        (cc = 0 → a' = rankN o key t ∧ hasN o key t = true) → (cc ≠ 0 → a' + rankN o key (s.next o key) = rankN o key t ∧ hasN o key (s.next o key) = hasN o key t) →
        doSt ((blk br).add 0) (.bool ((cc : Int) == 0)) w' (fun w47 => ∃ (r48 : Loop), w47.heap[d + 1]? = some (.loop r48) ∧ R' (.returned (.bool true)) (w47.putObj (d + 1) (.loop { r48 with state := .ready, pending := none }))) := by
      intro w' a' E hr ha hf ht ho hk hd hl h0 h1
      refine do_st (i := 0) hr (add_blk _ _) (by simp) fun w8 hr8 g8 => ?_
      have hl8 := heap_grown g8 hl (ne_some (by omega))
      refine ⟨_, hl8, hR' _ ?_⟩
      rw [rec_back hst hpe]
      have g9 := put_grown w8 (d + 1) (.loop L)
      have hr9 := hr8.grown g9 (ne_some (by omega))
      have ha9 := (ha.grown g8 (ne_some (by omega))).grown g9 (ne_some (by omega))
      have hd9 := heap_grown g9 (heap_grown g8 hd (ne_some (by omega))) (ne_some (by omega))
      have hl9 := put_heap (o' := .loop L) hl8
      have E9 := (E.st g8 (by omega)).st g9 (by omega)
      by_cases hc0 : cc = 0
      · rw [if_pos hc0, hFin]
        obtain ⟨ha', hb'⟩ := h0 hc0
        subst ha'
        rw [show ((cc : Int) == 0) = true by simp [hc0]] at hr9
        exact ⟨hb', E9, hr9, ha9, hd9, hl9⟩
      · rw [if_neg hc0, hSt]
        obtain ⟨ha', hb'⟩ := h1 hc0
        rw [show ((cc : Int) == 0) = false by simp [hc0]] at hr9
        exact ⟨hb', a', ha', E9, hr9, ha9, (hf.grown g8 (ne_some (by omega))).grown g9 (ne_some (by omega)), (ht.grown g8 (ne_some (by omega))).grown g9 (ne_some (by omega)),
          (ho.grown g8 (ne_some (by omega))).grown g9 (ne_some (by omega)), (hk.grown g8 (ne_some (by omega))).grown g9 (ne_some (by omega)), hd9, hl9⟩
    -- from the second count on
    have hK44 : ∀ {w' : World} {a' : Nat}, 0 ≤ cc → Ext w w' → Blk w' br #[.bool false] 4 → Blk w' ba #[.int .i64 (a' : Int)] 3 → Blk w' bf #[.func (.func 110) #[] #[.pointer (some (blk ba))]] 91 →
        Blk w' bt #[.pointer pt] 27 → Blk w' bo #[.int .u8 o] 5 → Blk w' bk #[.int .i64 key] 2 → w'.heap[d]? = some (.deferred (some [])) → w'.heap[d + 1]? = some (.loop { L with state := .busy }) →
        a' + s.left.size ≤ rankN o key t → (cc = 0 → a' + s.left.size = rankN o key t ∧ hasN o key t = true) → (cc ≠ 0 → a' + s.left.size + rankN o key (s.next o key) = rankN o key t ∧ hasN o key (s.next o key) = hasN o key t) →
        ifB (decide ((cc : Int) ≥ 0)) (doDr w' (fun w50 => ∃ (C49 : World → Prop), C49 w50 ∧ (∃ (xf51 : Fn), ∃ (xx52 : Array Value), ∃ (xc53 : Array Value), (∀ w, C49 w → World.cell? w (blk bf) = some (.func xf51 xx52 xc53)) ∧ (
          doCall Try.prog (.func (.func 73) #[] #[]) #[.pointer p] w50 (retS (fun v55 w56 => ∃ (x54 : Option Addr), v55 = (.pointer x54 : Value) ∧ (C49 w56 ∧ (
          doCall Try.prog (.func (.func 74) #[] #[]) #[.pointer x54] w56 (retS (fun v58 w59 => ∃ (x57 : Int), v58 = (.int .i64 x57 : Value) ∧ (C49 w59 ∧ (
          doCall Try.prog (.func xf51 xx52 xc53) #[.int .i64 x57] w59 (retS (fun v60 w61 => v60 = (.tuple #[] : Value) ∧ (
            doSt ((blk br).add 0) (.bool ((cc : Int) == 0)) w61 (fun w47 => ∃ (r48 : Loop), w47.heap[d + 1]? = some (.loop r48) ∧ R' (.returned (.bool true)) (w47.putObj (d + 1) (.loop { r48 with state := .ready, pending := none }))))) (fun _ _ => False))))) (fun _ _ => False))))) (fun _ _ => False))))))
          (doSt ((blk br).add 0) (.bool ((cc : Int) == 0)) w' (fun w47 => ∃ (r48 : Loop), w47.heap[d + 1]? = some (.loop r48) ∧ R' (.returned (.bool true)) (w47.putObj (d + 1) (.loop { r48 with state := .ready, pending := none })))) := by
      intro w' a' hc E hr ha hf ht ho hk hd hl hle h0 h1
      refine ifB_t (decide_eq_true hc) ⟨⟨fun w'' => Ext w' w'', ext_drew _, _, _, _, fun w'' e => (hf.ext e).cell (i := 0) rfl rfl, ?_⟩⟩
      refine do_call Try.call73 (c_left (hN.ext E.drew) fun ql hql => retS_ret ⟨_, rfl, ext_drew _, ?_⟩)
      refine do_call Try.call74 (c_tsize hql fun w8 e8 => retS_ret ⟨_, rfl, (ext_drew _).trans e8, ?_⟩)
      have e9 := (ext_drew w').trans e8
      refine do_callc Try.call110 (by rfl) (sh110_ok _ _ ?_)
      unfold sh110
      refine ⟨_, (ha.ext e9).cell (i := 0) rfl rfl, do_st (i := 0) (ha.ext e9) (add_blk _ _) (by simp) fun w9 ha9 g9 => retS_ret ⟨rfl, ?_⟩⟩
      rw [wrap_of (x := (a' : Int) + (s.left.size : Int)) (by omega) (by omega), ← Int.natCast_add] at ha9
      exact hK46 ((E.trans e9).st g9 (by omega)) ((hr.ext e9).grown g9 (ne_some (by omega))) ha9 ((hf.ext e9).grown g9 (ne_some (by omega))) ((ht.ext e9).grown g9 (ne_some (by omega))) ((ho.ext e9).grown g9 (ne_some (by omega))) ((hk.ext e9).grown g9 (ne_some (by omega)))
        (heap_grown g9 (e9.heap hd) (ne_some (by omega))) (heap_grown g9 (e9.heap hl) (ne_some (by omega))) h0 h1
    rcases Int.lt_trichotomy cc 0 with h1 | h1 | h1
    · obtain ⟨n1, n2⟩ := hnext.1 h1
      refine ifB_f (decide_eq_false (by omega)) (ifB_f (decide_eq_false (by omega)) ?_)
      exact hK46 E7 hr7 ha7 hf7 ht7 ho7 hk7 hd7 hl7 (fun h => by omega) fun _ => ⟨by rw [← n1]; exact hae, by rw [← n2]; exact hh⟩
    · obtain ⟨n1, n2⟩ := hnext.2.1 h1
      refine ifB_f (decide_eq_false (by omega)) ?_
      exact hK44 (by omega) E7 hr7 ha7 hf7 ht7 ho7 hk7 hd7 hl7 (by omega) (fun _ => ⟨by omega, by rw [← hh]; exact n2⟩) fun h => absurd h1 h
    · obtain ⟨n1, n2⟩ := hnext.2.2 h1
      refine ifB_t (decide_eq_true (by omega)) ⟨_, _, _, hf7.cell (i := 0) rfl rfl, ?_⟩
      refine do_callc Try.call110 (by rfl) (sh110_ok _ _ ?_)
      unfold sh110
      refine ⟨_, ha7.cell (i := 0) rfl rfl, do_st (i := 0) ha7 (add_blk _ _) (by simp) fun w9 ha9 g9 => retS_ret ⟨rfl, ?_⟩⟩
      rw [wrap_of (x := (a : Int) + 1) (by omega) (by omega), show (a : Int) + 1 = ((a + 1 : Nat) : Int) by omega] at ha9
      exact hK44 (by omega) (E7.st g9 (by omega)) (hr7.grown g9 (ne_some (by omega))) ha9 (hf7.grown g9 (ne_some (by omega))) (ht7.grown g9 (ne_some (by omega))) (ho7.grown g9 (ne_some (by omega))) (hk7.grown g9 (ne_some (by omega)))
        (heap_grown g9 hd7 (ne_some (by omega))) (heap_grown g9 hl7 (ne_some (by omega))) (by omega) (fun h => by omega) fun _ => ⟨by omega, by rw [← n2]; exact hh⟩
  · subst hFin
    rintro w' ⟨_, E, _⟩
    exact E
  · rw [hSt]
    exact ⟨rfl, 0, by omega, E5, hr5, ha5, hf5, ht5, ho5, hk5, hd5, hl5⟩
  · intro hno w' hs'
    rw [hSt] at hs'
    obtain ⟨hh, a, hae, E6, hr6, ha6, hf6, ht6, ho6, hk6, hd6, hl6⟩ := hs'
    refine rf_done hl6 (by rw [hst]; simp) hpe fun ob => ?_
    have gob := put_grown w' (d + 1) ob
    refine hend _ (E6.put (by omega) _) (hr6.grown gob (ne_some (by omega))) (ha6.grown gob (ne_some (by omega))) (heap_grown gob hd6 (ne_some (by omega))) ?_ ?_
    · unfold rankR; rw [hno]; simp; omega
    · unfold hasK; rw [hno]; rfl
  · intro w' hon hs'
    rw [hSt] at hs'
    obtain ⟨hh, a, hae, E6, hr6, ha6, hf6, ht6, ho6, hk6, hd6, hl6⟩ := hs'
    refine rf_done hl6 (by rw [hst]; simp) hpe fun ob => ?_
    have gob := put_grown w' (d + 1) ob
    refine hend _ (E6.put (by omega) _) (hr6.grown gob (ne_some (by omega))) (ha6.grown gob (ne_some (by omega))) (heap_grown gob hd6 (ne_some (by omega))) ?_ ?_
    · simp only [rankN, Nat.add_zero] at hae
      unfold rankR
      rcases hon with h1 | h1
      · rw [h1]; exact hae
      · subst h1; rw [hae]; cases isO o <;> rfl
    · simp only [hasN] at hh
      unfold hasK
      rw [← hh]; cases isO o <;> rfl
  · intro w' ho hs'
    rw [hFin] at hs'
    obtain ⟨hh, E6, hr6, ha6, hd6, hl6⟩ := hs'
    refine rf_done hl6 (by rw [hst]; simp) hpe fun ob => ?_
    have gob := put_grown w' (d + 1) ob
    refine hend _ (E6.put (by omega) _) (hr6.grown gob (ne_some (by omega))) (ha6.grown gob (ne_some (by omega))) (heap_grown gob hd6 (ne_some (by omega))) ?_ ?_
    · unfold rankR; rw [ho]; rfl
    · unfold hasK; rw [ho, hh]; rfl
end Go.Proofs.Ytinkkhcffoikmaa
