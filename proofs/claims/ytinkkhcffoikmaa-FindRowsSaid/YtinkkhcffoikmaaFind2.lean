/-
  Min, Max, Path, Height; what a search finds in a tree whose keys rise.
-/
import Derived.Test.YtinkkhcffoikmaaFind
import Derived.Test.YtinkkhcffoikmaaLaw32b
namespace Go.Proofs.Ytinkkhcffoikmaa
open Go Go.Sh Go.RowKit

def resT (t : Tr) : Option Pr := if t.nn then some (t.key, t.val) else none
theorem resT_of {t : Tr} : t.nn = (resT t).isSome ∧ (t.key, t.val) = (resT t).getD (0, 0) := by
  cases t <;> exact ⟨rfl, rfl⟩
/-! ### Min, Max -/
def minT : Tr → Tr
  | .nil => .nil
  | .node l k v g r => if l.nn then minT l else .node l k v g r
def maxT : Tr → Tr
  | .nil => .nil
  | .node l k v g r => if r.nn then maxT r else .node l k v g r
theorem resT_min (t : Tr) : resT (minT t) = t.pairs.head? := by
  induction t with
  | nil => rfl
  | node l k v g r ihl _ =>
    rw [minT]
    cases l with
    | nil => rfl
    | node l' k' v' g' r' =>
      rw [show (Tr.node l' k' v' g' r').nn = true from rfl, if_pos rfl, ihl]
      simp only [Tr.pairs, List.head?_append]
      cases l'.pairs.head? <;> rfl
theorem resT_max (t : Tr) : resT (maxT t) = t.pairs.getLast? := by
  induction t with
  | nil => rfl
  | node l k v g r _ ihr =>
    rw [maxT]
    cases r with
    | nil =>
      simp only [Tr.pairs, Tr.nn, List.getLast?_append]; rfl
    | node l' k' v' g' r' =>
      rw [show (Tr.node l' k' v' g' r').nn = true from rfl, if_pos rfl, ihr]
      show _ = (l.pairs ++ (k, v) :: (Tr.node l' k' v' g' r').pairs).getLast?
      rw [List.getLast?_append, List.getLast?_cons]
      have hne : (Tr.node l' k' v' g' r').pairs ≠ [] := by simp [Tr.pairs]
      cases hg : (Tr.node l' k' v' g' r').pairs.getLast? with
      | none => exact absurd (List.getLast?_eq_none_iff.1 hg) hne
      | some x => rfl
set_option maxRecDepth 20000 in
theorem c_fmin {t : Tr} {pt : Option Addr} {w : World} {R : Ending → World → Prop} (ht : IsN w pt t)
    (h : ∀ w', Ext w w' → R (.returned (.tuple #[agP (t.pairs.head?.getD (0, 0)), .bool t.nn])) w') : Calls Try.prog 33 #[.pointer pt] w R := by
  refine sh33_ok _ ?_
  unfold sh33
  refine ⟨?_⟩
  have e1 := ext_alloc w (.cells #[.int .i64 0, .int .i64 0] 38)
  have hb := blk_alloc w #[.int .i64 0, .int .i64 0] 38
  generalize hb0 : w.heap.size = b at *
  generalize w.alloc (.cells #[.int .i64 0, .int .i64 0] 38) = w1 at *
  refine ⟨fun vs w' => ∃ (s : Tr) (p : Option Addr), vs = [.pointer p] ∧ IsN w' p s ∧ Ext w w' ∧ Blk w' b #[.int .i64 0, .int .i64 0] 38 ∧ minT s = minT t ∧ s.nn = t.nn, fun vs w' => szAt (vs.getD 0 undef) w', ⟨t, pt, rfl, ht.ext e1, e1, hb, rfl, rfl⟩, ?_⟩
  rintro p _ w2 ⟨s, p', hv, hN, E, hb2, hm, hnn⟩
  simp only [List.cons.injEq, Value.pointer.injEq, and_true] at hv
  subst hv
  refine do_call Try.call73 (c_left hN fun ql hql => retS_ret ⟨_, rfl, ?_⟩)
  have hln := hql.isNone
  refine ifB_intro (fun h1 => ?_) fun h1 => ?_
  · have h1 : s.left.nn = true := by rw [hln] at h1; simpa using h1
    refine do_call Try.call73 (c_left hN fun q2 hq2 => retS_ret ⟨_, rfl, ⟨s.left, q2, rfl, hq2, E, hb2, ?_, ?_⟩, ?_⟩)
    · cases s with
      | nil => cases h1
      | node l k v g r => rw [← hm]; show minT l = minT (.node l k v g r); rw [minT, if_pos (show l.nn = true from h1)]
    · rw [h1, ← hnn]
      cases s with
      | nil => cases h1
      | node l k v g r => rfl
    · show szAt (.pointer q2) w2 < szAt (.pointer p) w2
      rw [szAt_of hq2, szAt_of hN]
      cases s with
      | nil => cases h1
      | node l k v g r => simp only [Tr.left, Tr.size]; omega
  · have h1 : s.left.nn = false := by rw [hln] at h1; simpa using h1
    refine do_call Try.call86 (c_pair hN fun w3 e3 => retS_ret ⟨_, _, _, rfl, ?_⟩)
    refine do_st2 (hb2.ext e3) fun w4 h4 g4 => ⟨_, h4.cell (i := 0) (add_blk _ _) rfl, _, h4.cell (i := 1) (add_blk _ _) rfl, ?_⟩
    have hr := h w4 ((E.trans e3).st g4 (by omega))
    rw [← resT_min t, ← hm, ← hnn] at hr
    have hms : minT s = s := by
      cases s with
      | nil => rfl
      | node l k v g r => have h1 : l.nn = false := h1
                          rw [minT, h1]; rfl
    rw [hms, ← resT_of.2] at hr
    exact hr
set_option maxRecDepth 20000 in
theorem c_fmax {t : Tr} {pt : Option Addr} {w : World} {R : Ending → World → Prop} (ht : IsN w pt t)
    (h : ∀ w', Ext w w' → R (.returned (.tuple #[agP (t.pairs.getLast?.getD (0, 0)), .bool t.nn])) w') : Calls Try.prog 34 #[.pointer pt] w R := by
  refine sh34_ok _ ?_
  unfold sh34
  refine ⟨?_⟩
  have e1 := ext_alloc w (.cells #[.int .i64 0, .int .i64 0] 38)
  have hb := blk_alloc w #[.int .i64 0, .int .i64 0] 38
  generalize hb0 : w.heap.size = b at *
  generalize w.alloc (.cells #[.int .i64 0, .int .i64 0] 38) = w1 at *
  refine ⟨fun vs w' => ∃ (s : Tr) (p : Option Addr), vs = [.pointer p] ∧ IsN w' p s ∧ Ext w w' ∧ Blk w' b #[.int .i64 0, .int .i64 0] 38 ∧ maxT s = maxT t ∧ s.nn = t.nn, fun vs w' => szAt (vs.getD 0 undef) w', ⟨t, pt, rfl, ht.ext e1, e1, hb, rfl, rfl⟩, ?_⟩
  rintro p _ w2 ⟨s, p', hv, hN, E, hb2, hm, hnn⟩
  simp only [List.cons.injEq, Value.pointer.injEq, and_true] at hv
  subst hv
  refine do_call Try.call78 (c_right hN fun ql hql => retS_ret ⟨_, rfl, ?_⟩)
  have hln := hql.isNone
  refine ifB_intro (fun h1 => ?_) fun h1 => ?_
  · have h1 : s.right.nn = true := by rw [hln] at h1; simpa using h1
    refine do_call Try.call78 (c_right hN fun q2 hq2 => retS_ret ⟨_, rfl, ⟨s.right, q2, rfl, hq2, E, hb2, ?_, ?_⟩, ?_⟩)
    · cases s with
      | nil => cases h1
      | node l k v g r => rw [← hm]; show maxT r = maxT (.node l k v g r); rw [maxT, if_pos (show r.nn = true from h1)]
    · rw [h1, ← hnn]
      cases s with
      | nil => cases h1
      | node l k v g r => rfl
    · show szAt (.pointer q2) w2 < szAt (.pointer p) w2
      rw [szAt_of hq2, szAt_of hN]
      cases s with
      | nil => cases h1
      | node l k v g r => simp only [Tr.right, Tr.size]; omega
  · have h1 : s.right.nn = false := by rw [hln] at h1; simpa using h1
    refine do_call Try.call86 (c_pair hN fun w3 e3 => retS_ret ⟨_, _, _, rfl, ?_⟩)
    refine do_st2 (hb2.ext e3) fun w4 h4 g4 => ⟨_, h4.cell (i := 0) (add_blk _ _) rfl, _, h4.cell (i := 1) (add_blk _ _) rfl, ?_⟩
    have hr := h w4 ((E.trans e3).st g4 (by omega))
    rw [← resT_max t, ← hm, ← hnn] at hr
    have hms : maxT s = s := by
      cases s with
      | nil => rfl
      | node l k v g r => have h1 : r.nn = false := h1
                          rw [maxT, h1]; rfl
    rw [hms, ← resT_of.2] at hr
    exact hr
/-! ### Path -/
def pathN (o key : Int) : Tr → List Int
  | .nil => []
  | .node l k _ _ r => k :: (if cmpI o key k < 0 then pathN o key l else if cmpI o key k = 0 then [] else pathN o key r)
def pathR (o : Int) (t : Tr) (key : Int) : List Int := cond (isO o) (pathN o key t) []
theorem pathN_le (o key : Int) (t : Tr) : (pathN o key t).length ≤ t.size := by
  induction t with
  | nil => exact Nat.le_refl _
  | node l k v g r ihl ihr =>
    simp only [pathN, Tr.size, List.length_cons]
    split
    · omega
    · split
      · simp only [List.length_nil]; omega
      · omega
theorem pathN_next {o key : Int} {s : Tr} (h : s.nn = true) : pathN o key s = s.key :: (if cmpI o key s.key = 0 then [] else pathN o key (s.next o key)) := by
  cases s with
  | nil => cases h
  | node l k v g r =>
    show pathN o key (.node l k v g r) = k :: (if cmpI o key k = 0 then [] else pathN o key (if cmpI o key k < 0 then l else r))
    rw [pathN]
    generalize cmpI o key k = c
    by_cases h1 : c < 0
    · rw [if_pos h1, if_neg (show ¬ c = 0 by omega), if_pos h1]
    · rw [if_neg h1, if_neg h1]
set_option maxRecDepth 20000 in
theorem c_fpath {o key : Int} {t : Tr} {pt : Option Addr} {w : World} {R : Ending → World → Prop} (ht : IsN w pt t) (hk : In key) (hA : AllK t) (hs : t.size ≤ 1000000)
    (h : ∀ p n c w', w'.ownsRow w.heap.size 2 1 (.slice p n c) n (ints (pathR o t key)) → Ext w w' → R (.returned (.slice p n c)) w') : Calls Try.prog 35 #[.int .u8 o, .pointer pt, .int .i64 key] w R := by
  refine sh35_ok _ _ _ ?_
  unfold sh35
  refine ⟨?_⟩
  have e0 := ext_alloc w (.cells #[.slice none 0 0] 23)
  have hr := blk_alloc w #[.slice none 0 0] 23
  generalize hbr : w.heap.size = br at *
  generalize w.alloc (.cells #[.slice none 0 0] 23) = w0 at *
  have lr := hr.lt
  refine do_call Try.call85 (c_fway fun bt bo bk w4 e4 hbt hbo hbk h1 h2 h3 => retS_ret ⟨_, _, _, rfl, do_rf fun fn L w5 d hd hL hst hpe e5 hd5 hl5 => ?_⟩)
  have E5 : Ext w w5 := (e0.trans e4).trans e5
  have hr5 := hr.ext (e4.trans e5)
  have ht5 := h1.ext e5
  have ho5 := h2.ext e5
  have hk5 := h3.ext e5
  have n2 : br < bt := by omega
  have n3 : br < bo := by omega
  have n4 : br < bk := by omega
  have n5 : bt < d := by rw [hd]; exact h1.lt
  have n6 : bo < d := by rw [hd]; exact h2.lt
  have n7 : bk < d := by rw [hd]; exact h3.lt
  clear e0 e4 e5 hr h1 h2 h3 lr
  rw [← hd]
  obtain ⟨St, hSt⟩ : ∃ St : Tr → World → Prop, St = fun s w' => Ext w w' ∧ (∃ p n c lst, Blk w' br #[.slice p n c] 23 ∧ w'.ownsRow (d + 2) 2 1 (.slice p n c) n (ints lst) ∧ lst ++ pathN o key s = pathN o key t ∧ (s = t → lst = [])) ∧
    Blk w' bt #[.pointer pt] 27 ∧ Blk w' bo #[.int .u8 o] 5 ∧ Blk w' bk #[.int .i64 key] 2 ∧ w'.heap[d]? = some (.deferred (some [])) ∧ w'.heap[d + 1]? = some (.loop L) := ⟨_, rfl⟩
  obtain ⟨Fin, hFin⟩ : ∃ Fin : World → Prop, Fin = fun w' => Ext w w' ∧ (∃ p n c, Blk w' br #[.slice p n c] 23 ∧ w'.ownsRow (d + 2) 2 1 (.slice p n c) n (ints (pathN o key t))) ∧ w'.heap[d]? = some (.deferred (some [])) ∧ w'.heap[d + 1]? = some (.loop L) := ⟨_, rfl⟩
  have hend : ∀ {w' : World} {p : Option Addr} {n c : Nat}, Ext w w' → Blk w' br #[.slice p n c] 23 → w'.ownsRow (d + 2) 2 1 (.slice p n c) n (ints (pathR o t key)) → w'.heap[d]? = some (.deferred (some [])) →
      (∃ (xp12 : Option Addr), ∃ (xn13 : Nat), ∃ (xc14 : Nat), World.cell? w' (blk br) = some (.slice xp12 xn13 xc14) ∧ (doSt ((blk br).add 0) (.slice xp12 xn13 xc14) w' (fun w15 => w15.heap[d]? = some (.deferred (some [])) ∧ (
        ∃ (xp17 : Option Addr), ∃ (xn18 : Nat), ∃ (xc19 : Nat), World.cell? (w15.putObj d (.deferred none)) (blk br) = some (.slice xp17 xn18 xc19) ∧ (R (.returned (.slice xp17 xn18 xc19)) (w15.putObj d (.deferred none))))))) := by
    intro w' p n c E hb hrow hd'
    refine ⟨_, _, _, hb.cell (i := 0) rfl rfl, do_st (i := 0) hb (add_blk _ _) (by simp) fun w6 h6 g6 => ⟨heap_grown g6 hd' (ne_some (by omega)), _, _, _, (h6.grown (put_grown _ _ _) (ne_some (by omega))).cell (i := 0) rfl rfl, ?_⟩⟩
    refine h _ _ _ _ (row_mono (World.ownsRow.kept (World.ownsRow.kept hrow g6 ?_) (put_grown w6 d _) ?_) (by have := E5.size; omega)) ((E.st g6 (by omega)).put (by omega) _)
    · right; intro hk; have := (World.ownsRow.lt hrow _ hk).1; omega
    · right; intro hk; have := (World.ownsRow.lt hrow _ hk).1; omega
  have hds : ∀ {w' : World}, w'.heap[d + 1]? = some (.loop L) → d + 2 ≤ w'.heap.size := fun hl => (Array.getElem?_eq_some_iff.1 hl).1
  refine callE_c Try.call119 (by rfl) (c_fway1 (o := o) (key := key) (t := t) (pt := pt) (bt := bt) (bo := bo) (bk := bk) (w0 := w) (St := St) (Fin := Fin) ⟨?_, ?_, ?_, ?_⟩ ht hk hA ?_ ?_ ?_ ?_)
  · subst hSt
    rintro s w' ⟨E, _, h1, h2, h3, _⟩
    exact ⟨E, h1, h2, h3⟩
  · subst hSt
    rintro s w' w'' ⟨E, ⟨p, n, c, lst, h1, h2, h3⟩, h5, h6, h7, h8, h9⟩ e
    exact ⟨E.trans e, ⟨p, n, c, lst, h1.ext e, e.row h2, h3⟩, h5.ext e, h6.ext e, h7.ext e, e.heap h8, e.heap h9⟩
  · intro s p w6 hsn hsA hsz hN hs6 R' hR'
    have hs6' := hs6
    rw [hSt] at hs6'
    obtain ⟨E6, ⟨q, n, c, lst, hr6, hrow, hlst, hl0⟩, ht6, ho6, hk6, hd6, hl6⟩ := hs6'
    refine sh35_0_ok (by rw [hl6, hL]) ?_
    unfold sh35_0
    refine ⟨_, hl6, hst, ?_⟩
    have g7 := put_grown w6 (d + 1) (.loop { L with state := .busy })
    have hl7 := put_heap (o' := .loop { L with state := .busy }) hl6
    have hr7 := hr6.grown g7 (ne_some (by omega))
    have hrow7 : (w6.putObj (d + 1) (.loop { L with state := .busy })).ownsRow (d + 2) 2 1 (.slice q n c) n (ints lst) := World.ownsRow.kept hrow g7 (.inr fun hk => by have := (World.ownsRow.lt hrow _ hk).1; omega)
    have ht7 := ht6.grown g7 (ne_some (by omega))
    have ho7 := ho6.grown g7 (ne_some (by omega))
    have hk7 := hk6.grown g7 (ne_some (by omega))
    have hd7 := heap_grown g7 hd6 (ne_some (by omega))
    have E7 := E6.st g7 (by omega)
    have hN7 := hN.ext E7
    have hds7 := Nat.le_trans (hds hl6) g7.size
    generalize w6.putObj (d + 1) (.loop { L with state := .busy }) = w7 at *
    refine ⟨⟨fun w'' => Ext w7 w'', ext_drew _, _, _, _, fun w'' e => (hr7.ext e).cell (i := 0) rfl rfl, ?_⟩⟩
    refine do_call Try.call76 (c_key (hN7.ext (ext_drew _)) fun w8 e8 => retS_ret ⟨_, rfl, (ext_drew _).trans e8, ⟨?_⟩⟩)
    have e9 := ((ext_drew w7).trans e8).trans (ext_alloc w8 (.cells #[.int .i64 s.key] 2))
    refine ⟨e9, ?_⟩
    have hrow9 := e9.row hrow7
    have hnl : lst.length = n := row_len hrow
    have hpl := pathN_le o key t
    rw [← hlst, List.length_append] at hpl
    refine do_app elI hrow9 (m := 1) (cs_alloc w8 _ _) (by simp) (by simp [Value.oneCell']) (by simp only [maxLen]; omega) (by omega) (Nat.le_trans hds7 e9.size) fun p' c' w10 h10 g10 => retS_ret ⟨_, _, _, rfl, ?_⟩
    have hne : ∀ k, k < d + 2 → some k ≠ (Value.slice q n c).ownBlock := fun k hk e => by have := (World.ownsRow.lt hrow9 _ e.symm).1; omega
    have hr10 := (hr7.ext e9).grown g10 (hne _ (by omega))
    have hl10 := heap_grown g10 (e9.heap hl7) (hne _ (by omega))
    refine do_st (i := 0) hr10 (by rw [add_zero', show blk br = (⟨br, 0, none⟩ : Addr) from rfl]) (by simp) fun w11 h11 g11 => ?_
    have hl11 := heap_grown g11 hl10 (ne_some (by omega))
    refine ⟨_, hl11, hR' _ ?_⟩
    rw [rec_back hst hpe]
    have g12 := put_grown w11 (d + 1) (.loop L)
    have hl12 := put_heap (o' := .loop L) hl11
    have E12 : Ext w (w11.putObj (d + 1) (.loop L)) := (((E7.trans e9).grown g10 fun k hk => by have := (World.ownsRow.lt hrow9 _ hk).1; omega).st g11 (by omega)).st g12 (by omega)
    have hr12 := h11.grown g12 (ne_some (by omega))
    have hd12 := heap_grown g12 (heap_grown g11 (heap_grown g10 (e9.heap hd7) (hne _ (by omega))) (ne_some (by omega))) (ne_some (by omega))
    have hrow12 := World.ownsRow.kept (World.ownsRow.kept h10 g11 (.inr fun hk => by have := (World.ownsRow.lt h10 _ hk).1; omega)) g12 (.inr fun hk => by have := (World.ownsRow.lt h10 _ hk).1; omega)
    have hkept : ∀ {b : Nat} {cs : Array Value} {ty : TypeId}, b < d → b ≠ br → Blk w7 b cs ty → Blk (w11.putObj (d + 1) (.loop L)) b cs ty := fun hbd hbr hb => (((hb.ext e9).grown g10 (hne _ (by omega))).grown g11 (ne_some hbr)).grown g12 (ne_some (by omega))
    rw [pathN_next hsn] at hlst
    have hrow12' : (w11.putObj (d + 1) (.loop L)).ownsRow (d + 2) 2 1 (.slice p' (n + 1) c') (n + 1) (ints (lst ++ [s.key])) := by rw [ints_append]; exact hrow12
    by_cases hc : cmpI o key s.key = 0
    · rw [if_pos hc] at hlst ⊢
      rw [hFin]
      rw [hlst] at hrow12'
      exact ⟨E12, ⟨_, _, _, hr12, hrow12'⟩, hd12, hl12⟩
    · rw [if_neg hc] at hlst ⊢
      rw [hSt]
      refine ⟨E12, ⟨_, _, _, lst ++ [s.key], hr12, hrow12', by rw [List.append_assoc]; exact hlst, fun e => ?_⟩, hkept (by omega) (by omega) ht7, hkept (by omega) (by omega) ho7, hkept (by omega) (by omega) hk7, hd12, hl12⟩
      have := Tr.next_lt hsn o key
      rw [e] at this; omega
  · subst hFin
    rintro w' ⟨E, _⟩
    exact E
  · rw [hSt]
    exact ⟨E5, ⟨none, 0, 0, [], hr5, World.ownsRow_nil _ _ _ _, rfl, fun _ => rfl⟩, ht5, ho5, hk5, hd5, hl5⟩
  · intro hno w' hs'
    rw [hSt] at hs'
    obtain ⟨E6, ⟨q, n, c, lst, hr6, hrow, hlst, hl0⟩, ht6, ho6, hk6, hd6, hl6⟩ := hs'
    refine rf_done hl6 (by rw [hst]; simp) hpe fun ob => ?_
    have gob := put_grown w' (d + 1) ob
    refine hend (E6.put (by omega) _) (hr6.grown gob (ne_some (by omega))) (World.ownsRow.kept ?_ gob (.inr fun hk => by have := (World.ownsRow.lt hrow _ hk).1; omega)) (heap_grown gob hd6 (ne_some (by omega)))
    unfold pathR; rw [hno, ← hl0 rfl]; exact hrow
  · intro w' hyes hs'
    rw [hSt] at hs'
    obtain ⟨E6, ⟨q, n, c, lst, hr6, hrow, hlst, hl0⟩, ht6, ho6, hk6, hd6, hl6⟩ := hs'
    refine rf_done hl6 (by rw [hst]; simp) hpe fun ob => ?_
    have gob := put_grown w' (d + 1) ob
    refine hend (E6.put (by omega) _) (hr6.grown gob (ne_some (by omega))) (World.ownsRow.kept ?_ gob (.inr fun hk => by have := (World.ownsRow.lt hrow _ hk).1; omega)) (heap_grown gob hd6 (ne_some (by omega)))
    unfold pathR; rw [hyes, cond_true, ← hlst]; simp only [pathN, List.append_nil]; exact hrow
  · intro w' hyes hs'
    rw [hFin] at hs'
    obtain ⟨E6, ⟨q, n, c, hr6, hrow⟩, hd6, hl6⟩ := hs'
    refine rf_done hl6 (by rw [hst]; simp) hpe fun ob => ?_
    have gob := put_grown w' (d + 1) ob
    refine hend (E6.put (by omega) _) (hr6.grown gob (ne_some (by omega))) (World.ownsRow.kept ?_ gob (.inr fun hk => by have := (World.ownsRow.lt hrow _ hk).1; omega)) (heap_grown gob hd6 (ne_some (by omega)))
    unfold pathR; rw [hyes, cond_true]; exact hrow
/-! ### Height -/
theorem do_max {P : Program} {ts : Array TypeId} {ty : TypeId} {bs : Array Bool} {a b : Int} {w : World} {R : Ending → World → Prop} (h : R (.returned (.int .i64 (if b > a then b else a))) w) :
    doGo P (.builtin .max ts ty bs) #[.int .i64 a, .int .i64 b] w R := by
  refine ⟨?_⟩
  unfold goV
  have hr : (Builtin.max_ ts ty #[.int .i64 a, .int .i64 b]).run P w = .ok (.int .i64 (if b > a then b else a)) w := by simp [Builtin.max_, Builtin.max2]
  simp only [invoke, builtin, Sem.run_bind, hr, Result.andThen_ok, Sem.run_pure]
  exact h
set_option maxRecDepth 20000 in
theorem c_height : ∀ (t : BT) {q : Option Addr} {n c : Nat} {w : World} {R : Ending → World → Prop} (_hl : Cs w q (bds t.beads)) (_hn : t.size = n) (_hnc : n ≤ c) (_hw : t.wf = true) (_hm : n ≤ 5000)
    (_h : ∀ w', Ext w w' → R (.returned (.int .i64 (t.height : Nat))) w'), Calls Try.prog 36 #[.slice q n c] w R
  | .nil, q, n, c, w, R, hl, hn, hnc, hw, hm, h => by
    refine sh36_ok _ _ _ ?_
    unfold sh36
    have : n = 0 := by rw [← hn]; rfl
    subst this
    exact ifB_t rfl (h _ (ext_refl w))
  | .node x L Rt, q, n, c, w, R, hl, hn, hnc, hw, hm, h => by
    refine sh36_ok _ _ _ ?_
    unfold sh36
    have hsz := BT.size_node x L Rt
    obtain ⟨_, _, w2f, w3f⟩ := BT.wf_node hw
    refine ifB_f (by simp; omega) ?_
    refine do_call Try.call70 (c_parts hl hn hnc hw hm fun p1 c1 p2 c2 w1 e1 hp h1 h2 => retS_ret ⟨_, _, _, _, _, _, _, _, _, _, _, _, _, rfl, ⟨?_⟩⟩)
    refine do_st7 (blk_alloc w1 _ _) fun w2 hb2 g2 => ?_
    have e2 : Ext w1 w2 := (ext_alloc w1 _).st g2 (Nat.le_refl _)
    have E2 := e1.trans e2
    have hcs := fun (w'' : World) (e : Ext w2 w'') => hp w'' (hl.ext (E2.trans e))
    refine do_call Try.call36 (c_height L (hcs _ (ext_refl _)).1 rfl h1 w2f (by omega) fun w3 e3 => retS_ret ⟨_, rfl, ?_⟩)
    refine do_call Try.call36 (c_height Rt (hcs _ e3).2 rfl h2 w3f (by omega) fun w4 e4 => retS_ret ⟨_, rfl, ?_⟩)
    have hl1 := L.height_le
    have hl2 := Rt.height_le
    refine do_max (retS_ret ⟨_, rfl, ?_⟩)
    have e : IntKind.wrap .i64 (1 + (if (Rt.height : Int) > (L.height : Int) then (Rt.height : Int) else (L.height : Int))) = ((BT.node x L Rt).height : Nat) := by
      simp only [BT.height]
      split <;> (rw [wrap_of (by omega) (by omega)]; omega)
    rw [e]
    exact h _ (E2.trans (e3.trans e4))
end Go.Proofs.Ytinkkhcffoikmaa
