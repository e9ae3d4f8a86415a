/-
  look.Pairs, look.Keys: what they make of a tree. (Printed by wip/sh/mklook.py.)
-/
/-
  Treaps, in plain: there is one treap of items whose keys are unlike.
-/
/-
  Pointers held against one another; are two trees the same?
-/
/-
  slices.SortStableFunc over pairs: swaps, rotations, insertions, merges.
-/
/-
  slices.SortStableFunc over pairs, part 2: insertion, merge, the whole.
-/
import Derived.Test.YtlfjaogbehpleaaGreatZ21
import Derived.LaidEqlPtr
import Derived.Test.YtlfjaogbehpleaaGreatZ17

namespace Go.Proofs.YtlfjaogbehpleaaGreat
open Go Go.Sh Go.RowKit
abbrev OwnK (w : World) (base : Nat) (p : Option Addr) (n c : Nat) (l : List Int) : Prop := w.ownsRow base 2 1 (.slice p n c) n (ints l)
theorem ownK_len {w : World} {base n c : Nat} {p : Option Addr} {l : List Int} (h : OwnK w base p n c l) : l.length = n := by
  have := h.1
  simp [ints] at this
  omega

/-- the state of a going over, behind some pairs -/
structure LkP (S : List Nat) (W1 : World) (b2 d d' : Nat) (L0 L1 : Loop) (l : List Pr) (w : World) : Prop where
  gd : Gd S W1 w
  l0 : w.heap[d + 1]? = some (.loop L0)
  l1 : w.heap[d' + 1]? = some (.loop L1)
  row : ∃ qq nn cc, Blk w b2 #[.slice qq nn cc] 22 ∧ OwnP w W1.heap.size qq nn cc l
theorem LkP.ext {S : List Nat} {W1 : World} {b2 d d' : Nat} {L0 L1 : Loop} {l : List Pr} {w w' : World} (h : LkP S W1 b2 d d' L0 L1 l w) (e : Ext w w') : LkP S W1 b2 d d' L0 L1 l w' := by
  obtain ⟨h1, h2, h3, qq, nn, cc, h4, h5⟩ := h
  exact ⟨h1.trans (gd_of e), e.heap h2, e.heap h3, qq, nn, cc, h4.ext e, e.row h5⟩
/-- the state of a going over, behind some pairs -/
structure LkK (S : List Nat) (W1 : World) (b2 d d' : Nat) (L0 L1 : Loop) (l : List Pr) (w : World) : Prop where
  gd : Gd S W1 w
  l0 : w.heap[d + 1]? = some (.loop L0)
  l1 : w.heap[d' + 1]? = some (.loop L1)
  row : ∃ qq nn cc, Blk w b2 #[.slice qq nn cc] 28 ∧ OwnK w W1.heap.size qq nn cc (l.map (·.1))
theorem LkK.ext {S : List Nat} {W1 : World} {b2 d d' : Nat} {L0 L1 : Loop} {l : List Pr} {w w' : World} (h : LkK S W1 b2 d d' L0 L1 l w) (e : Ext w w') : LkK S W1 b2 d d' L0 L1 l w' := by
  obtain ⟨h1, h2, h3, qq, nn, cc, h4, h5⟩ := h
  exact ⟨h1.trans (gd_of e), e.heap h2, e.heap h3, qq, nn, cc, h4.ext e, e.row h5⟩
set_option maxRecDepth 20000 in
set_option maxHeartbeats 1000000 in
theorem c_lkeys {t : Tr} {pt : Option Addr} {w : World} {R : Ending → World → Prop} (ht : IsN w pt t) (hz : t.size ≤ 1000000) (h : ∀ q n c w', Ext w w' → OwnK w' w.heap.size q n c (t.pairs.map (·.1)) → R (.returned (.slice q n c)) w') :
    Calls Tryz.prog 33 #[.pointer pt] w R := by
  refine sh33_ok _ ?_
  unfold sh33
  refine ⟨?_⟩
  have e1 := ext_alloc w (.cells #[.slice none 0 0] 28)
  have h1 := blk_alloc w #[.slice none 0 0] 28
  have lb := h1.lt
  obtain ⟨b2, hb2⟩ : ∃ b2, b2 = w.heap.size := ⟨_, rfl⟩
  rw [← hb2] at h1 lb ⊢
  generalize w.alloc (.cells #[.slice none 0 0] 28) = w1 at *
  refine do_call Tryz.call80 (c_lall (t := pt) fun b8 b10 b12 b4 w2 e2 z8 z10 z12 z4 k8 k10 k12 k4 => retS_ret ⟨_, _, _, rfl, do_rf fun fn L w3 d hdd hL hst hpe e3 hd3 hl3 => ?_⟩)
  rw [← hdd]
  have m3 : d + 1 < w3.heap.size := (Array.getElem?_eq_some_iff.1 hl3).1
  have s12 := e2.size
  have m8 := k8.lt
  have m10 := k10.lt
  have m12 := k12.lt
  have m4 := k4.lt
  refine callE_c Tryz.call230 (by rfl) (sh230_ok _ _ _ _ ?_)
  unfold sh230
  refine ⟨?_⟩
  have e4 := ext_alloc w3 (.cells #[.func (.yield (d + 1)) #[] #[]] 267)
  have h5 := blk_alloc w3 #[.func (.yield (d + 1)) #[] #[]] 267
  have m5 := h5.lt
  obtain ⟨b5, hb5⟩ : ∃ b5, b5 = w3.heap.size := ⟨_, rfl⟩
  rw [← hb5] at h5 m5 ⊢
  generalize w3.alloc (.cells #[.func (.yield (d + 1)) #[] #[]] 267) = w4 at *
  have k44 := (k4.ext e3).ext e4
  refine ⟨_, _, _, k44.cell (i := 0) rfl rfl, do_rf fun fn' L' w5 d' hdd' hL' hst' hpe' e5 hd5 hl5 => ?_⟩
  rw [← hdd']
  have m6 : d' + 1 < w5.heap.size := (Array.getElem?_eq_some_iff.1 hl5).1
  refine callE_c Tryz.call286 (by rfl) (sh286_ok _ _ _ _ _ _ ?_)
  unfold sh286
  refine ⟨⟨?_⟩⟩
  have e6 := ext_alloc w5 (.cells #[.func (.yield (d' + 1)) #[] #[]] 189)
  have h7 := blk_alloc w5 #[.func (.yield (d' + 1)) #[] #[]] 189
  have m7 := h7.lt
  obtain ⟨b7, hb7⟩ : ∃ b7, b7 = w5.heap.size := ⟨_, rfl⟩
  rw [← hb7] at h7 m7 ⊢
  generalize w5.alloc (.cells #[.func (.yield (d' + 1)) #[] #[]] 189) = w6 at *
  have e7 := ext_alloc w6 (.cells #[.nilFunc] 189)
  refine do_st (blk_alloc w6 _ _) (i := 0) (add_blk _ _) (by simp) fun W1 h9 g9 => ?_
  obtain ⟨b9, hb9⟩ : ∃ b9, b9 = w6.heap.size := ⟨_, rfl⟩
  rw [← hb9] at h9 g9 ⊢
  have h9 : Blk W1 b9 #[onL b9 b10 b7 b12] 189 := h9
  have e9 : Ext w6 W1 := e7.st g9 (by omega)
  have m9 := h9.lt
  have E5 := e6.trans e9
  have E4 := e5.trans E5
  have E3 := e4.trans E4
  have E2 := e3.trans E3
  have E1 := (e1.trans e2).trans E2
  refine ⟨_, _, _, h9.cell (i := 0) rfl rfl, _, (k8.ext E2).cell (i := 0) rfl rfl, ?_⟩
  have hS : ∀ k ∈ [b2, d + 1, d' + 1], k = b2 ∨ k = d + 1 ∨ k = d' + 1 := fun k hk => by simpa using hk
  have O : Oth [b2, d + 1, d' + 1] W1 := fun k hk => by
    rcases hS k hk with rfl | rfl | rfl
    · exact oth_blk ((h1.ext e2).ext E2) (by decide)
    · intro cs hb; have := E3.heap hl3; unfold Blk at hb; rw [this] at hb; cases hb
    · intro cs hb; have := E5.heap hl5; unfold Blk at hb; rw [this] at hb; cases hb
  have nS : ∀ {k : Nat}, k ≠ b2 → k ≠ d + 1 → k ≠ d' + 1 → k ∉ [b2, d + 1, d' + 1] := fun a b c hm => by
    rcases hS _ hm with h | h | h
    · exact a h
    · exact b h
    · exact c h
  have J0 : LkK [b2, d + 1, d' + 1] W1 b2 d d' L L' [] W1 := ⟨gd_refl _ _, E3.heap hl3, E5.heap hl5, none, 0, 0, (h1.ext e2).ext E2, World.ownsRow_nil _ _ _ _⟩
  refine do_onL (W1 := W1) (S := [b2, d + 1, d' + 1]) h9 (k10.ext E2) (h7.ext e9) (k12.ext E2) (nS (by omega) (by omega) (by omega)) (nS (by omega) (by omega) (by omega)) (nS (by omega) (by omega) (by omega)) (nS (by omega) (by omega) (by omega)) O
    (J := fun l w' => LkK [b2, d + 1, d' + 1] W1 b2 d d' L L' l w') (M := 1000000) (fun _ _ q => q.gd) (fun _ _ _ q e => q.ext e) ?_ t (L := []) (ht.ext E1) J0 (by simpa [Tr.pairs_length] using hz) fun w9 J9 => ?_
  · -- a round
    intro l w7 pn tl k v g tr R' J7 hlen hN hR
    obtain ⟨G7, q0, q1, qq, nn, cc, hB7, hO7⟩ := J7
    refine sh230_0_ok (by rw [q1, hL']) ?_
    unfold sh230_0
    refine ⟨_, q1, hst', ?_⟩
    have G8 := gd_one (put_grown w7 (d' + 1) (.loop { L' with state := .busy }))
    have p1 := put_heap (o' := .loop { L' with state := .busy }) q1
    have p0 := heap_gd q0 G8 (by simp; omega)
    have pB := hB7.gd G8 (by simp; omega)
    have l17 := G7.size
    have pO : OwnK (w7.putObj (d' + 1) (.loop { L' with state := .busy })) W1.heap.size qq nn cc (l.map (·.1)) := row_gd hO7 G8 (by simp; omega)
    have pN := hN.gd (S := [d' + 1]) (fun k hk cs hb => by simp at hk; subst hk; unfold Blk at hb; rw [q1] at hb; cases hb) G8
    have G18 : Gd [b2, d + 1, d' + 1] W1 (w7.putObj (d' + 1) (.loop { L' with state := .busy })) := G7.trans (G8.mono fun k hk => by simp at hk; simp [hk])
    generalize w7.putObj (d' + 1) (.loop { L' with state := .busy }) = w8 at *
    have e89 := ext_drew w8
    have k5 : ∀ w', Gd [b2, d + 1, d' + 1] W1 w' → World.cell? w' (blk b5) = some (.func (.yield (d + 1)) #[] #[]) := fun w' G => ((h5.ext E4).gd G (nS (by omega) (by omega) (by omega))).cell (i := 0) rfl rfl
    refine ⟨⟨fun w' => Gd [b2, d + 1, d' + 1] W1 w', G18.trans (gd_of e89), _, _, _, fun w' G => k5 w' G, ?_⟩⟩
    refine do_call Tryz.call131 (c_key (pN.ext e89) fun wk ek => retS_ret ⟨_, rfl, G18.trans (gd_of (e89.trans ek)), ?_⟩)
    refine do_call Tryz.call132 (c_val ((pN.ext e89).ext ek) fun wv ev => retS_ret ⟨_, rfl, G18.trans (gd_of ((e89.trans ek).trans ev)), ?_⟩)
    have e8v := (e89.trans ek).trans ev
    have r0 := e8v.heap p0
    have r1 := e8v.heap p1
    have rB := pB.ext e8v
    have rO : OwnK wv W1.heap.size qq nn cc (l.map (·.1)) := e8v.row pO
    have Gv := G18.trans (gd_of (S := [b2, d + 1, d' + 1]) e8v)
    clear p0 p1 pB pO pN
    refine sh33_0_ok (by rw [r0, hL]) ?_
    unfold sh33_0
    refine ⟨_, r0, hst, ?_⟩
    have G10 := gd_one (put_grown wv (d + 1) (.loop { L with state := .busy }))
    have s0 := put_heap (o' := .loop { L with state := .busy }) r0
    have s1 := heap_gd r1 G10 (by simp; omega)
    have sB := rB.gd G10 (by simp; omega)
    have lv := Gv.size
    have sO : OwnK (wv.putObj (d + 1) (.loop { L with state := .busy })) W1.heap.size qq nn cc (l.map (·.1)) := row_gd rO G10 (by simp; omega)
    have Gx := Gv.trans (G10.mono (T := [b2, d + 1, d' + 1]) fun k hk => by simp at hk; simp [hk])
    generalize wv.putObj (d + 1) (.loop { L with state := .busy }) = wx at *
    have lx := Gx.size
    refine ⟨_, _, _, sB.cell (i := 0) rfl rfl, ⟨?_⟩⟩
    have e11 := ext_alloc wx (.cells #[.int .i64 k] 2)
    have o11 : OwnK (wx.alloc (.cells #[.int .i64 k] 2)) W1.heap.size qq nn cc (l.map (·.1)) := e11.row sO
    have hnn : nn = l.length := by have := ownK_len o11; rw [List.length_map] at this; omega
    refine do_app elI o11 (m := 1) (cs_alloc wx _ _) (by simp) (by simp [Value.oneCell']) (by simp only [maxLen]; omega) (by omega) (Nat.le_trans lx e11.size) fun q12 c12 w12 o12 g12 => retS_ret ⟨_, _, _, rfl, ?_⟩
    have G12 := gd_row g12
    have hown : ∀ k ∈ (Value.slice qq nn cc).ownBlock.toList, W1.heap.size ≤ k := fun k hk => (World.ownsRow.lt o11 k (by simpa using hk)).1
    have nO : ∀ k, k < W1.heap.size → k ∉ (Value.slice qq nn cc).ownBlock.toList := fun k hk hm => by have := hown k hm; omega
    have tB := (sB.ext e11).gd G12 (nO _ (by omega))
    have t0 := heap_gd (e11.heap s0) G12 (nO _ (by omega))
    have t1 := heap_gd (e11.heap s1) G12 (nO _ (by omega))
    have G13 : Gd [b2, d + 1, d' + 1] W1 w12 := (Gx.trans (gd_of e11)).over G12 fun k hk => .inr (hown k hk)
    refine do_st tB (i := 0) (add_blk _ _) (by simp) fun w14 uB g14 => ?_
    have uB : Blk w14 b2 #[.slice q12 (nn + 1) c12] 28 := uB
    have G14 := gd_one g14
    have u0 := heap_gd t0 G14 (by simp; omega)
    have u1 := heap_gd t1 G14 (by simp; omega)
    have uO := row_gd o12 G14 (by simp; omega)
    refine ⟨_, u0, ?_⟩
    rw [rec_back hst hpe]
    have G15 := gd_one (put_grown w14 (d + 1) (.loop L))
    have v0 := put_heap (o' := .loop L) u0
    have v1 := heap_gd u1 G15 (by simp; omega)
    have vB := uB.gd G15 (by simp; omega)
    have vO := row_gd uO G15 (by simp; omega)
    have G16 : Gd [b2, d + 1, d' + 1] W1 (w14.putObj (d + 1) (.loop L)) := (G13.trans (G14.mono fun k hk => by simp at hk; simp [hk])).trans (G15.mono fun k hk => by simp at hk; simp [hk])
    generalize w14.putObj (d + 1) (.loop L) = w15 at *
    refine retS_ret ⟨_, rfl, ifB_f rfl ⟨_, v1, ?_⟩⟩
    rw [rec_back hst' hpe']
    have G17 := gd_one (put_grown w15 (d' + 1) (.loop L'))
    have l16 := G16.size
    refine hR _ ⟨G16.trans (G17.mono fun k hk => by simp at hk; simp [hk]), heap_gd v0 G17 (by simp; omega), put_heap v1, q12, nn + 1, c12, vB.gd G17 (by simp; omega), ?_⟩
    have := row_gd vO G17 (by simp; omega)
    unfold OwnK ints at *; rw [List.map_append, List.map_append]; exact this
  · refine retS_ret ⟨_, rfl, ?_⟩
    obtain ⟨G9, q0, q1, qq, nn, cc, hB9, hO9⟩ := J9
    simp only [List.nil_append] at hO9
    refine rf_done q1 (by rw [hst']; simp) hpe' fun o1 => ?_
    have l9 := G9.size
    have G10 := gd_one (put_grown w9 (d' + 1) o1)
    have n1 : d' ∉ [d' + 1] := by simp
    refine ⟨heap_gd (heap_gd (E5.heap hd5) G9 (nS (by omega) (by omega) (by omega))) G10 n1, ?_⟩
    have p0 := heap_gd q0 G10 (by simp; omega)
    have pB := hB9.gd G10 (by simp; omega)
    have pO := row_gd hO9 G10 (by simp; omega)
    have pd := heap_gd (heap_gd (E3.heap hd3) G9 (nS (by omega) (by omega) (by omega))) G10 (by simp; omega)
    have H10 : Gd [b2, d + 1, d' + 1] W1 (w9.putObj (d' + 1) o1) := G9.trans (G10.mono fun k hk => by simp at hk; simp [hk])
    generalize w9.putObj (d' + 1) o1 = w10 at *
    have G11 := gd_one (put_grown w10 d' (.deferred none))
    have l10 := H10.size
    have r0 := heap_gd p0 G11 (by simp; omega)
    have rB := pB.gd G11 (by simp; omega)
    have rO := row_gd pO G11 (by simp; omega)
    have rd := heap_gd pd G11 (by simp; omega)
    have E0 : Ext w W1 := E1
    have hbw : ∀ k ∈ [b2, d + 1, d' + 1], w.heap.size ≤ k := fun k hk => by
      have s1 := e1.size
      rcases hS k hk with h | h | h <;> omega
    have X10 : Ext w w10 := Ext.gd E0 H10 hbw
    have sw1 := e1.size
    have X11 : Ext w (w10.putObj d' (.deferred none)) := X10.put (by omega) _
    generalize w10.putObj d' (.deferred none) = w11 at *
    refine rf_done r0 (by rw [hst]; simp) hpe fun o2 => ?_
    have G12 := gd_one (put_grown w11 (d + 1) o2)
    have sB := rB.gd G12 (by simp; omega)
    have sO := row_gd rO G12 (by simp; omega)
    have sd := heap_gd rd G12 (by simp)
    have X12 : Ext w (w11.putObj (d + 1) o2) := X11.put (by omega) _
    generalize w11.putObj (d + 1) o2 = w12 at *
    refine ⟨_, _, _, sB.cell (i := 0) rfl rfl, ?_⟩
    refine do_st sB (i := 0) (add_blk _ _) (by simp) fun w13 uB g13 => ?_
    have uB : Blk w13 b2 #[.slice qq nn cc] 28 := uB
    have G13 := gd_one g13
    have uO := row_gd sO G13 (by simp; omega)
    have ud := heap_gd sd G13 (by simp; omega)
    have X13 : Ext w w13 := X12.st g13 (by omega)
    refine ⟨ud, ?_⟩
    have G14 := gd_one (put_grown w13 d (.deferred none))
    have vB := uB.gd G14 (by simp; omega)
    have vO := row_gd uO G14 (by simp; omega)
    have X14 : Ext w (w13.putObj d (.deferred none)) := X13.put (by omega) _
    exact ⟨_, _, _, vB.cell (i := 0) rfl rfl, h _ _ _ _ X14 (row_mono vO (by omega))⟩
end Go.Proofs.YtlfjaogbehpleaaGreat

namespace Go.Proofs.YtlfjaogbehpleaaGreat
open Go Go.Sh Go.RowKit

end Go.Proofs.YtlfjaogbehpleaaGreat

namespace Go.Proofs.YtlfjaogbehpleaaGreat
open Go Go.Sh Go.RowKit

theorem isN_fun : ∀ {a b : Tr} {p : Option Addr} {w : World}, IsN w p a → IsN w p b → a = b
  | .nil, .nil, _, _, _, _ => rfl
  | .nil, .node .., _, _, h, h' => by
    obtain ⟨b, _, _, rfl, _⟩ := h'
    cases h
  | .node .., .nil, _, _, h, h' => by
    obtain ⟨b, _, _, rfl, _⟩ := h
    cases h'
  | .node l k v g r, .node l' k' v' g' r', p, w, h, h' => by
    obtain ⟨b, pl, pr, rfl, hb, hl, hr⟩ := h
    obtain ⟨b', pl', pr', hp, hb', hl', hr'⟩ := h'
    have e : b = b' := by simpa [blk] using hp
    subst e
    have hcs : _ = _ := (Option.some.inj (hb.symm.trans hb'))
    simp only [Obj.cells.injEq] at hcs
    have hc := hcs.1
    simp only [Array.mk.injEq, List.cons.injEq, Value.int.injEq, Value.pointer.injEq, true_and, and_true] at hc
    obtain ⟨rfl, rfl, _, rfl, _, rfl, rfl⟩ := hc
    rw [isN_fun hl hl', isN_fun hr hr']
theorem ptr_same {P : Program} {tp te : TypeId} {j : TypeInfo} (w : World) (p : Option Addr) (hp : P.underlying tp = some (.pointer te)) (hte : P.info? te = some j) :
    (binOp .eql tp (.pointer p) (.pointer p)).run P w = .ok (.bool true) w := by
  cases p with
  | some a => exact run_eql_ptr_same w a hp hte
  | none =>
    have h : ∀ d : Nat, (Op.equalIn (d + 1) tp (.pointer none) (.pointer none)).run P w = .ok true w := fun d => by
      simp [Op.equalIn, run_underlying hp]
    simp only [binOp]
    simp [Op.equal, Op.maxDepth, h 9999]
theorem ptr_none {P : Program} {tp te : TypeId} {j : TypeInfo} (w : World) (a : Addr) (hp : P.underlying tp = some (.pointer te)) (hte : P.info? te = some j) :
    (binOp .eql tp (.pointer (some a)) (.pointer none)).run P w = .ok (.bool false) w ∧ (binOp .eql tp (.pointer none) (.pointer (some a))).run P w = .ok (.bool false) w := by
  have h : ∀ d : Nat, (Op.equalIn (d + 1) tp (.pointer (some a)) (.pointer none)).run P w = .ok false w := fun d => by
    simp [Op.equalIn, run_underlying hp]
  have k : ∀ d : Nat, (Op.equalIn (d + 1) tp (.pointer none) (.pointer (some a))).run P w = .ok false w := fun d => by
    simp [Op.equalIn, run_underlying hp]
  constructor
  · simp only [binOp]
    simp [Op.equal, Op.maxDepth, h 9999]
  · simp only [binOp]
    simp [Op.equal, Op.maxDepth, k 9999]
set_option maxRecDepth 100000 in
theorem do_pe {a b : Tr} {pa pb : Option Addr} {i j : Nat} {w : World} {K : Bool → Prop} (ha : IsN w pa a) (hb : IsN w pb b) (h1 : pa = pb → K true) (h0 : pa ≠ pb → K false) : doPE Tryz.prog .eql 68 (.tmp i) (.tmp j) (.pointer pa) (.pointer pb) w K := by
  have hu := Tryz.underlying68
  obtain ⟨ti, hti⟩ : ∃ ti, Tryz.prog.info? 220 = some ti := Option.isSome_iff_exists.1 (by kernel_rfl)
  have hz : (Tryz.prog.info? 220).map (fun t => t.size != 0) = some true := by kernel_rfl
  have hsz : ti.size ≠ 0 := by rw [hti] at hz; simpa using hz
  have hg : ∀ (b : Bool), (binOp .eql 68 (.pointer pa) (.pointer pb)).run Tryz.prog w = .ok (.bool b) w → (do eqGuard .eql 68 (.tmp i) (.tmp j) (.pointer pa) (.pointer pb); binOp .eql 68 (.pointer pa) (.pointer pb)).run Tryz.prog w = .ok (.bool b) w := fun b hb => by
    simp [eqGuard, hb]
  by_cases e : pa = pb
  · subst e
    exact ⟨true, hg _ (ptr_same w pa hu hti), h1 rfl⟩
  · refine ⟨false, hg _ ?_, h0 e⟩
    cases a with
    | nil =>
      have : pa = none := ha
      subst this
      cases b with
      | nil =>
        have : pb = none := hb
        exact absurd this.symm e
      | node l k v g r =>
        obtain ⟨bb, _, _, rfl, _⟩ := hb
        exact (ptr_none w _ hu hti).2
    | node l k v g r =>
      obtain ⟨ba, _, _, rfl, hba, _⟩ := ha
      cases b with
      | nil =>
        have : pb = none := hb
        subst this
        exact (ptr_none w _ hu hti).1
      | node l' k' v' g' r' =>
        obtain ⟨bb, _, _, rfl, hbb, _⟩ := hb
        exact run_eql_ptr_other w hu hti hsz (fun q => e (by rw [q])) hba hbb
/-- are two trees the same? -/
theorem c_shsame : ∀ (a b : Tr) {pa pb : Option Addr} {w : World} {R : Ending → World → Prop} (_ha : IsN w pa a) (_hb : IsN w pb b) (_h : ∀ r w', Ext w w' → (r = true ↔ a = b) → R (.returned (.bool r)) w'), Calls Tryz.prog 136 #[.pointer pa, .pointer pb] w R
  | a, b, pa, pb, w, R, ha, hb, h => by
    refine sh136_ok _ _ ?_
    unfold sh136
    refine do_pe ha hb (fun e => ifB_t rfl (h _ _ (ext_refl w) (by subst e; simpa using isN_fun ha hb))) fun hne => ifB_f rfl ?_
    intro K6
    cases a with
    | nil =>
      have : pa = none := ha
      subst this
      refine ifB_t rfl (h _ _ (ext_refl w) ?_)
      cases b with
      | nil => exact absurd (show pb = none from hb).symm hne
      | node => simp
    | node l k v g r =>
    obtain ⟨ba, pl, pr, rfl, hba, hl, hr⟩ := id ha
    refine ifB_f rfl ?_
    cases b with
    | nil =>
      have : pb = none := hb
      subst this
      exact ifB_t rfl (h _ _ (ext_refl w) (by simp))
    | node l' k' v' g' r' =>
    obtain ⟨bb, pl', pr', rfl, hbb, hl', hr'⟩ := id hb
    refine ifB_f rfl ?_
    refine do_call Tryz.call131 (c_key ha fun w1 e1 => retS_ret ⟨_, rfl, ?_⟩)
    refine do_call Tryz.call131 (c_key (hb.ext e1) fun w2 e2 => retS_ret ⟨_, rfl, ?_⟩)
    have E2 := e1.trans e2
    refine ifB_intro (fun q => h _ _ E2 ?_) fun qk => ?_
    · have q : k ≠ k' := by simpa [Tr.key] using q
      simp [q]
    have qk : k = k' := by simpa [Tr.key] using qk
    refine do_call Tryz.call132 (c_val (ha.ext E2) fun w3 e3 => retS_ret ⟨_, rfl, ?_⟩)
    refine do_call Tryz.call132 (c_val (hb.ext (E2.trans e3)) fun w4 e4 => retS_ret ⟨_, rfl, ?_⟩)
    have E4 := (E2.trans e3).trans e4
    refine ifB_intro (fun q => h _ _ E4 ?_) fun qv => ?_
    · have q : v ≠ v' := by simpa [Tr.val] using q
      simp [q]
    have qv : v = v' := by simpa [Tr.val] using qv
    refine do_call Tryz.call214 (c_tag (ha.ext E4) fun w5 e5 => retS_ret ⟨_, rfl, ?_⟩)
    refine do_call Tryz.call214 (c_tag (hb.ext (E4.trans e5)) fun w6 e6 => retS_ret ⟨_, rfl, ?_⟩)
    have E6 := (E4.trans e5).trans e6
    refine ifB_intro (fun q => h _ _ E6 ?_) fun qg => ?_
    · have q : g ≠ g' := by simpa [Tr.tag] using q
      simp [q]
    have qg : g = g' := by simpa [Tr.tag] using qg
    refine do_call Tryz.call32 (c_tsize (ha.ext E6) fun w7 e7 => retS_ret ⟨_, rfl, ?_⟩)
    refine do_call Tryz.call32 (c_tsize (hb.ext (E6.trans e7)) fun w8 e8 => retS_ret ⟨_, rfl, ?_⟩)
    have E8 := (E6.trans e7).trans e8
    refine ifB_intro (fun q => h _ _ E8 ?_) fun _ => ?_
    · simp only [Bool.false_eq_true, false_iff]
      intro e
      rw [e] at q
      simp at q
    refine do_call Tryz.call216 (c_tsum (ha.ext E8) fun w9 e9 => retS_ret ⟨_, rfl, ?_⟩)
    refine do_call Tryz.call216 (c_tsum (hb.ext (E8.trans e9)) fun w10 e10 => retS_ret ⟨_, rfl, ?_⟩)
    have E10 := (E8.trans e9).trans e10
    simp -zeta -zetaHave only [K6]
    refine ifB_intro (fun q => h _ _ E10 ?_) fun _ => ?_
    · simp only [Bool.false_eq_true, false_iff]
      intro e
      rw [e] at q
      simp at q
    intro K9
    refine do_call Tryz.call128 (c_left (ha.ext E10) fun ql hql => retS_ret ⟨_, rfl, ?_⟩)
    refine do_call Tryz.call128 (c_left (hb.ext E10) fun ql' hql' => retS_ret ⟨_, rfl, ?_⟩)
    refine do_call Tryz.call136 (c_shsame l l' hql hql' fun r1 w13 e13 i13 => retS_ret ⟨_, rfl, ?_⟩)
    have E13 := E10.trans e13
    cases r1 with
    | false =>
      refine ifB_f rfl (h _ _ E13 ?_)
      have : l ≠ l' := fun q => by have := i13.2 q; cases this
      simp [this]
    | true =>
    have ql1 := i13.1 rfl
    refine ifB_t rfl ?_
    refine do_call Tryz.call130 (c_right (ha.ext E13) fun qr hqr => retS_ret ⟨_, rfl, ?_⟩)
    refine do_call Tryz.call130 (c_right (hb.ext E13) fun qr' hqr' => retS_ret ⟨_, rfl, ?_⟩)
    refine do_call Tryz.call136 (c_shsame r r' hqr hqr' fun r2 w16 e16 i16 => retS_ret ⟨_, rfl, h _ _ (E13.trans e16) ?_⟩)
    rw [i16, qk, qv, qg, ql1]
    simp
end Go.Proofs.YtlfjaogbehpleaaGreat

namespace Go.Proofs.YtlfjaogbehpleaaGreat
open Go Go.Sh Go.RowKit

/-! ### Plain: sorted, stable -/
theorem cmp_lt {o a b : Int} (ho : isO o = true) : cmpI o a b < 0 ↔ codeI o a < codeI o b := by
  have ho' : 1 ≤ o ∧ o ≤ 7 := by simpa [isO] using ho
  unfold cmpI
  rw [if_pos ho']
  split
  · exact ⟨fun _ => by assumption, fun _ => by omega⟩
  · split <;> omega
abbrev Srt (o : Int) (l : List Pr) : Prop := l.Pairwise fun a b => codeI o a.1 ≤ codeI o b.1
def Stab (M L : List Pr) : Prop := ∀ k : Int, M.filter (fun x => x.1 == k) = L.filter (fun x => x.1 == k)
theorem Stab.refl (L : List Pr) : Stab L L := fun _ => rfl
theorem Stab.trans {A B C : List Pr} (h : Stab A B) (k : Stab B C) : Stab A C := fun i => (h i).trans (k i)
theorem Stab.app {A B C D : List Pr} (h : Stab A B) (k : Stab C D) : Stab (A ++ C) (B ++ D) := fun i => by rw [List.filter_append, List.filter_append, h i, k i]
theorem Stab.mem {A B : List Pr} (h : Stab A B) (x : Pr) : x ∈ A ↔ x ∈ B := by
  have : ∀ C : List Pr, x ∈ C ↔ x ∈ C.filter (fun y => y.1 == x.1) := fun C => by simp [List.mem_filter]
  rw [this A, this B, h x.1]
theorem filter_none' {p : Pr → Bool} {l : List Pr} (h : ∀ x ∈ l, p x = false) : l.filter p = [] := by
  rw [List.filter_eq_nil_iff]; intro x hx; simp [h x hx]
/-- two parts that have no key in common may be turned -/
theorem stab_swap {o : Int} {A B : List Pr} (h : ∀ a ∈ A, ∀ b ∈ B, codeI o b.1 < codeI o a.1) : Stab (B ++ A) (A ++ B) := fun k => by
  rw [List.filter_append, List.filter_append]
  by_cases hk : ∃ a ∈ A, a.1 = k
  · obtain ⟨a, ha, rfl⟩ := hk
    rw [filter_none' (l := B) fun b hb => by
      have := h a ha b hb
      cases hq : (b.1 == a.1)
      · rfl
      · have e : b.1 = a.1 := by simpa using hq
        rw [e] at this; omega]
    simp
  · rw [filter_none' (l := A) fun a ha => by
      cases hq : (a.1 == k)
      · rfl
      · exact absurd ⟨a, ha, by simpa using hq⟩ hk]
    simp
theorem srt_app {o : Int} {A B : List Pr} : Srt o (A ++ B) ↔ Srt o A ∧ Srt o B ∧ ∀ a ∈ A, ∀ b ∈ B, codeI o a.1 ≤ codeI o b.1 := List.pairwise_append
theorem srt_get {o : Int} {l : List Pr} (h : Srt o l) {i j : Nat} (hij : i ≤ j) (hj : j < l.length) : codeI o l[i].1 ≤ codeI o l[j].1 := by
  rcases Nat.lt_or_ge i j with h1 | h1
  · exact List.pairwise_iff_getElem.1 h i j (by omega) hj h1
  · have : i = j := by omega
    subst this; exact Int.le_refl _
/-! ### Swaps -/
theorem set_mid {α : Type} {U V : List α} {x y : α} {i : Nat} (hi : i = U.length) : (U ++ x :: V).set i y = U ++ y :: V := by
  subst hi
  rw [List.set_append_right _ _ (Nat.le_refl _), Nat.sub_self]; rfl
theorem own_st {l : List Pr} {p : Option Addr} {n c base k : Nat} {w : World} (ho : OwnP w base p n c l) (hk : k < n) {a : Addr} (ha : ∃ b, p = some b ∧ a = b.add (k * 2)) {u v : Int} {K : World → Prop}
    (h : ∀ w', OwnP w' base p n c (l.set k (u, v)) → w.grownBy w' (Value.slice p n c).ownBlock → K w') : doSt (a.add 0) (.int .i64 u) w fun w1 => doSt (a.add 1) (.int .i64 v) w1 K := by
  obtain ⟨b, hb, rfl⟩ := ha
  have hl := ownP_len ho
  rcases ownP_open ho with ⟨hp, hn0, _⟩ | ⟨g, cur, hp, hbg, hg, _, hcm, hcl, hct⟩
  · omega
  subst hp; cases hb
  rw [add_zero', add_add]
  have ea : (⟨g, 0, none⟩ : Addr).add (k * 2) = ⟨g, k * 2, none⟩ := add_blk g _
  have eb : (⟨g, 0, none⟩ : Addr).add (k * 2 + 1) = ⟨g, k * 2 + 1, none⟩ := add_blk g _
  rw [ea, eb]
  have hs := ho.stored (k * 2) (.int .i64 u)
  rw [prs_set1 (by omega)] at hs
  refine ⟨⟨_, by rw [ho.cellAt _ (by omega)]; exact List.getElem?_eq_getElem (by simp; omega)⟩, ho.frozenAt _, ?_⟩
  have ho1 : OwnP (w.setCell ⟨g, k * 2, none⟩ (.int .i64 u)) base (some ⟨g, 0, none⟩) n c (l.set k (u, (l[k]'(by omega)).2)) := hs.1
  have hs1 := ho1.stored (k * 2 + 1) (.int .i64 v)
  rw [prs_set2 (by simp; omega)] at hs1
  refine ⟨⟨_, by rw [ho1.cellAt _ (by omega)]; exact List.getElem?_eq_getElem (by simp; omega)⟩, ho1.frozenAt _, h _ ?_ (grown_trans hs.2 hs1.2)⟩
  have := hs1.1
  simp only [List.getElem_set_self, List.set_set] at this
  exact this
theorem do_swap {l : List Pr} {p : Option Addr} {n c B : Nat} {w : World} (ho : OwnP w B p n c l) {iX iY : Int} {x y : Nat} (hX : iX = (x : Int)) (hY : iY = (y : Int)) (hx : x < n) (hy : y < n) {K : World → Prop}
    (k : ∀ w', OwnP w' B p n c ((l.set x (l[y]'(by rw [ownP_len ho]; exact hy))).set y (l[x]'(by rw [ownP_len ho]; exact hx))) → w.grownBy w' (Value.slice p n c).ownBlock → K w') :
    doDr w (fun w16 => ∃ (C15 : World → Prop), C15 w16 ∧ (doIx p n 2 iY (fun a17 => ∃ (x18 : Int), (∀ w, C15 w → World.cell? w (a17.add 0) = some (.int .i64 x18)) ∧ (∃ (x19 : Int), (∀ w, C15 w → World.cell? w (a17.add 1) = some (.int .i64 x19)) ∧ (
      doIx p n 2 iX (fun a20 => ∃ (x21 : Int), (∀ w, C15 w → World.cell? w (a20.add 0) = some (.int .i64 x21)) ∧ (∃ (x22 : Int), (∀ w, C15 w → World.cell? w (a20.add 1) = some (.int .i64 x22)) ∧ (
      doIx p n 2 iX (fun a23 => doSt (a23.add 0) (.int .i64 x18) w16 (fun w24 => doSt (a23.add 1) (.int .i64 x19) w24 (fun w25 =>
      doIx p n 2 iY (fun a26 => doSt (a26.add 0) (.int .i64 x21) w25 (fun w27 => doSt (a26.add 1) (.int .i64 x22) w27 K))))))))))))) := by
  have hl := ownP_len ho
  have ho1 : OwnP w.drew B p n c l := row_to ho (ext_drew w) (Nat.le_refl _)
  refine ⟨⟨fun w' => w' = w.drew, rfl, ?_⟩⟩
  have hC : ∀ w', w' = w.drew → Cs w' p (prs l) := fun w' e => by subst e; exact ownP_cs ho1
  refine ix_prC hC rfl hl hY hy fun a r1 r2 => ⟨_, r1, _, r2, ?_⟩
  refine ix_prC hC rfl hl hX hx fun a r3 r4 => ⟨_, r3, _, r4, ?_⟩
  refine ix_pr (ownP_cs ho1) hl hX hx fun a _ _ ha => ?_
  refine own_st ho1 hx ha fun w2 ho2 g2 => ?_
  refine ix_pr (ownP_cs ho2) (by simp [hl]) hY hy fun a _ _ ha => ?_
  refine own_st ho2 hy ha fun w3 ho3 g3 => ?_
  exact k w3 ho3 (grown_trans (grown_trans (grown_drew w _) g2) g3)
/-- in a row that is parted at two elements -/
theorem swap_lists {U V W : List Pr} {a b : Pr} {x y : Nat} (hx : x = U.length) (hy : y = U.length + 1 + V.length) :
    ∀ (h1 : x < (U ++ a :: (V ++ b :: W)).length) (h2 : y < (U ++ a :: (V ++ b :: W)).length), ((U ++ a :: (V ++ b :: W)).set x (U ++ a :: (V ++ b :: W))[y]).set y (U ++ a :: (V ++ b :: W))[x] = U ++ b :: (V ++ a :: W) ∧
      ((U ++ a :: (V ++ b :: W)).set y (U ++ a :: (V ++ b :: W))[x]).set x (U ++ a :: (V ++ b :: W))[y] = U ++ b :: (V ++ a :: W) := by
  intro h1 h2
  have e1 : (U ++ a :: (V ++ b :: W))[x] = a := by
    subst hx; simp
  have e2 : (U ++ a :: (V ++ b :: W))[y] = b := by
    subst hy
    rw [List.getElem_append_right (by omega)]
    simp only [show U.length + 1 + V.length - U.length = V.length + 1 by omega, List.getElem_cons_succ]
    rw [List.getElem_append_right (Nat.le_refl _)]
    simp
  have e3 : ∀ (a b c : Pr), (U ++ a :: (V ++ b :: W)).set y c = U ++ a :: (V ++ c :: W) := fun a b c => by
    have := set_mid (U := U ++ a :: V) (V := W) (x := b) (y := c) (i := y) (by simp; omega)
    simpa using this
  have e4 : ∀ (a b c : Pr), (U ++ a :: (V ++ b :: W)).set x c = U ++ c :: (V ++ b :: W) := fun a b c => set_mid hx
  rw [e1, e2]
  exact ⟨by rw [e4, e3], by rw [e3, e4]⟩
/-- the state of a sort: a row of one's own, and all that was there before it -/
structure Rw (w0 : World) (B : Nat) (p : Option Addr) (n c : Nat) (w : World) (l : List Pr) : Prop where
  own : OwnP w B p n c l
  ext : Ext w0 w
  keys : ∀ x ∈ l, In x.1
theorem Rw.len {w0 : World} {B : Nat} {p : Option Addr} {n c : Nat} {w : World} {l : List Pr} (h : Rw w0 B p n c w l) : l.length = n := ownP_len h.own
/-- what the comparing function does -/
def Cmp (o : Int) (w0 : World) (f : Fn) (fx fc : Array Value) : Prop := ∀ (x y : Pr), In x.1 → In y.1 → ∀ w, Ext w0 w → ∀ R : Ending → World → Prop, (∀ w', Ext w w' → R (.returned (.int .i64 (cmpI o x.1 y.1))) w') → doCall Tryz.prog (.func f fx fc) #[agP x, agP y] w R
theorem c_swapRange {w0 : World} {B : Nat} {p : Option Addr} {n c : Nat} {f : Fn} {fx fc : Array Value} (hB : w0.heap.size ≤ B) (hm : n ≤ 1000000000000) {L A M Bq S : List Pr} {a b k : Nat} {w : World} {R : Ending → World → Prop}
    (hw : Rw w0 B p n c w (L ++ (A ++ (M ++ (Bq ++ S))))) (hA : A.length = k) (hBq : Bq.length = k) (ha : a = L.length) (hb : b = L.length + k + M.length)
    (h : ∀ w', Rw w0 B p n c w' (L ++ (Bq ++ (M ++ (A ++ S)))) → R (.returned (.tuple #[])) w') :
    Calls Tryz.prog 361 #[.slice p n c, .int .i64 (a : Nat), .int .i64 (b : Nat), .int .i64 (k : Nat), .func f fx fc] w R := by
  refine sh361_ok _ _ _ _ _ _ _ _ _ ?_
  unfold sh361
  have hlen := hw.len
  simp only [List.length_append] at hlen
  refine ⟨fun vs w' => ∃ t : Nat, vs = [.int .i64 t] ∧ t ≤ k ∧ Rw w0 B p n c w' (L ++ ((Bq.take t ++ A.drop t) ++ (M ++ ((A.take t ++ Bq.drop t) ++ S)))), fun vs _ => k - (intOf (vs.getD 0 undef)).toNat, ⟨0, rfl, by omega, by simpa using hw⟩, ?_⟩
  rintro i _ w1 ⟨t, hv, htk, hr⟩
  simp only [List.cons.injEq, Value.int.injEq, true_and, and_true] at hv
  subst hv
  refine ifB_intro (fun hlt => ?_) fun hge => ?_
  · have hlt : t < k := by have := of_decide_eq_true hlt; omega
    have hAt : A.drop t = (A[t]'(by omega)) :: A.drop (t + 1) := List.drop_eq_getElem_cons (by omega)
    have hBt : Bq.drop t = (Bq[t]'(by omega)) :: Bq.drop (t + 1) := List.drop_eq_getElem_cons (by omega)
    have el : L ++ ((Bq.take t ++ A.drop t) ++ (M ++ ((A.take t ++ Bq.drop t) ++ S))) = (L ++ Bq.take t) ++ (A[t]'(by omega)) :: ((A.drop (t + 1) ++ (M ++ A.take t)) ++ (Bq[t]'(by omega)) :: (Bq.drop (t + 1) ++ S)) := by
      rw [hAt, hBt]; simp only [List.append_assoc, List.cons_append]
    rw [el] at hr
    have hx : a + t = (L ++ Bq.take t).length := by simp; omega
    have hy : b + t = (L ++ Bq.take t).length + 1 + (A.drop (t + 1) ++ (M ++ A.take t)).length := by simp; omega
    have e1 : IntKind.wrap .i64 ((a : Int) + (t : Int)) = ((a + t : Nat) : Int) := by rw [wrap_of (by omega) (by omega)]; omega
    have e2 : IntKind.wrap .i64 ((b : Int) + (t : Int)) = ((b + t : Nat) : Int) := by rw [wrap_of (by omega) (by omega)]; omega
    have hlen1 := hr.len
    refine do_swap hr.own e1 e2 (by omega) (by omega) fun w2 ho2 g2 => ?_
    rw [(swap_lists hx hy (by omega) (by omega)).1] at ho2
    refine ⟨⟨t + 1, by rw [wrap_succ hlt (by omega)], by omega, ⟨?_, ext_own hr.own hr.ext g2 hB, fun x hx => hr.keys x ?_⟩⟩, ?_⟩
    · have : L ++ ((Bq.take (t + 1) ++ A.drop (t + 1)) ++ (M ++ ((A.take (t + 1) ++ Bq.drop (t + 1)) ++ S))) = (L ++ Bq.take t) ++ (Bq[t]'(by omega)) :: ((A.drop (t + 1) ++ (M ++ A.take t)) ++ (A[t]'(by omega)) :: (Bq.drop (t + 1) ++ S)) := by
        rw [show Bq.take (t + 1) = Bq.take t ++ [Bq[t]'(by omega)] from (List.take_append_getElem (by omega)).symm, show A.take (t + 1) = A.take t ++ [A[t]'(by omega)] from (List.take_append_getElem (by omega)).symm]
        simp only [List.append_assoc, List.cons_append, List.nil_append]
      rw [this]; exact ho2
    · rw [show Bq.take (t + 1) = Bq.take t ++ [Bq[t]'(by omega)] from (List.take_append_getElem (by omega)).symm, show A.take (t + 1) = A.take t ++ [A[t]'(by omega)] from (List.take_append_getElem (by omega)).symm] at hx
      simp only [List.mem_append, List.mem_cons, List.not_mem_nil, or_false] at hx ⊢
      rcases hx with h | ((h | h) | h) | h | ((h | h) | h) | h <;> simp [h]
    · rw [wrap_succ hlt (by omega)]; simp [intOf]; omega
  · have hge : t = k := by have := of_decide_eq_false hge; omega
    subst hge
    rw [List.take_of_length_le (by omega), List.take_of_length_le (by omega), List.drop_of_length_le (by omega), List.drop_of_length_le (by omega)] at hr
    exact h w1 (by simpa using hr)
theorem c_rotate {w0 : World} {B : Nat} {p : Option Addr} {n c : Nat} {f : Fn} {fx fc : Array Value} (hB : w0.heap.size ≤ B) (hm : n ≤ 1000000000000) {L U V S : List Pr} {a m b : Nat} {w : World} {R : Ending → World → Prop}
    (hw : Rw w0 B p n c w (L ++ (U ++ (V ++ S)))) (ha : a = L.length) (hmm : m = L.length + U.length) (hb : b = L.length + U.length + V.length) (hU : 0 < U.length) (hV : 0 < V.length)
    (h : ∀ w', Rw w0 B p n c w' (L ++ (V ++ (U ++ S))) → R (.returned (.tuple #[])) w') :
    Calls Tryz.prog 354 #[.slice p n c, .int .i64 (a : Nat), .int .i64 (m : Nat), .int .i64 (b : Nat), .func f fx fc] w R := by
  refine sh354_ok _ _ _ _ _ _ _ _ _ ?_
  unfold sh354
  have hlen := hw.len
  simp only [List.length_append] at hlen
  refine ⟨fun vs w' => ∃ (l u v s : List Pr), vs = [.int .i64 (u.length : Nat), .int .i64 (v.length : Nat)] ∧ Rw w0 B p n c w' (l ++ (u ++ (v ++ s))) ∧ 0 < u.length ∧ 0 < v.length ∧ m = l.length + u.length ∧ l ++ (v ++ (u ++ s)) = L ++ (V ++ (U ++ S)),
    fun vs _ => (intOf (vs.getD 0 undef)).toNat + (intOf (vs.getD 1 undef)).toNat, ⟨L, U, V, S, ?_, hw, hU, hV, hmm, rfl⟩, ?_⟩
  · rw [wrap_of (by omega) (by omega), wrap_of (by omega) (by omega), show (m : Int) - (a : Int) = (U.length : Int) by omega, show (b : Int) - (m : Int) = (V.length : Int) by omega]
  rintro i j _ w1 ⟨l, u, v, s, hv, hr, hu, hvv, hml, hfin⟩
  simp only [List.cons.injEq, Value.int.injEq, true_and, and_true] at hv
  obtain ⟨rfl, rfl⟩ := hv
  have hlen1 := hr.len
  simp only [List.length_append] at hlen1
  have e1 : IntKind.wrap .i64 ((m : Int) - (u.length : Int)) = ((m - u.length : Nat) : Int) := by rw [wrap_of (by omega) (by omega)]; omega
  refine ifB_intro (fun hne => ?_) fun heq => ?_
  · have hne : u.length ≠ v.length := by intro e; rw [e] at hne; simp at hne
    refine ifB_intro (fun hgt => ?_) fun hle => ?_
    · have hgt : v.length < u.length := by have := of_decide_eq_true hgt; omega
      rw [e1]
      have hsp : l ++ (u ++ (v ++ s)) = l ++ (u.take v.length ++ (u.drop v.length ++ (v ++ s))) := by rw [← List.append_assoc (u.take _), List.take_append_drop]
      rw [hsp] at hr
      refine do_call Tryz.call361 (c_swapRange hB hm hr (k := v.length) (by simp; omega) rfl (by omega) (by simp; omega) fun w2 hr2 => retS_ret ⟨rfl, ⟨l ++ v, u.drop v.length, u.take v.length, s, ?_, ?_, ?_, ?_, ?_, ?_⟩, ?_⟩)
      · rw [wrap_of (by omega) (by omega), List.length_drop, List.length_take, show ((u.length : Int) - (v.length : Int)) = ((u.length - v.length : Nat) : Int) by omega, show min v.length u.length = v.length by omega]
      · simpa using hr2
      · simp; omega
      · simp; omega
      · simp; omega
      · rw [← hfin]; simp only [List.append_assoc]; rw [← List.append_assoc (u.take _) (u.drop _), List.take_append_drop]
      · rw [wrap_of (by omega) (by omega)]; simp [intOf]; omega
    · have hle : u.length < v.length := by have := of_decide_eq_false hle; omega
      have e2 : IntKind.wrap .i64 (IntKind.wrap .i64 ((m : Int) + (v.length : Int)) - (u.length : Int)) = ((m + v.length - u.length : Nat) : Int) := by
        rw [wrap_of (x := (m : Int) + (v.length : Int)) (by omega) (by omega), wrap_of (by omega) (by omega)]; omega
      rw [e1, e2]
      have hsp : l ++ (u ++ (v ++ s)) = l ++ (u ++ (v.take (v.length - u.length) ++ (v.drop (v.length - u.length) ++ s))) := by rw [← List.append_assoc (v.take _), List.take_append_drop]
      rw [hsp] at hr
      refine do_call Tryz.call361 (c_swapRange hB hm hr (k := u.length) rfl (by simp; omega) (by omega) (by simp; omega) fun w2 hr2 => retS_ret ⟨rfl, ⟨l, v.drop (v.length - u.length), v.take (v.length - u.length), u ++ s, ?_, ?_, ?_, ?_, ?_, ?_⟩, ?_⟩)
      · rw [wrap_of (by omega) (by omega), List.length_drop, List.length_take, show ((v.length : Int) - (u.length : Int)) = ((v.length - u.length : Nat) : Int) by omega, show min (v.length - u.length) v.length = v.length - u.length by omega, show v.length - (v.length - u.length) = u.length by omega]
      · exact hr2
      · simp; omega
      · simp; omega
      · simp; omega
      · rw [← hfin, ← List.append_assoc (v.take _) (v.drop _), List.take_append_drop]
      · rw [wrap_of (by omega) (by omega)]; simp [intOf]; omega
  · have heq : u.length = v.length := by simp at heq; omega
    rw [e1]
    have hsp : l ++ (u ++ (v ++ s)) = l ++ (u ++ ([] ++ (v ++ s))) := rfl
    rw [hsp] at hr
    refine do_call Tryz.call361 (c_swapRange hB hm hr (k := u.length) rfl heq.symm (by omega) (by simp; omega) fun w2 hr2 => retS_ret ⟨rfl, h w2 ?_⟩)
    rw [← hfin]; exact hr2
end Go.Proofs.YtlfjaogbehpleaaGreat

namespace Go.Proofs.YtlfjaogbehpleaaGreat
open Go Go.Sh Go.RowKit

theorem last_split {l : List Pr} (h : 0 < l.length) : ∃ u z, l = u ++ [z] := by
  have hne : l ≠ [] := by intro e; subst e; simp at h
  exact ⟨l.dropLast, l.getLast hne, (List.dropLast_concat_getLast hne).symm⟩
set_option maxRecDepth 20000 in
theorem c_insertion {o : Int} {w0 : World} {B : Nat} {p : Option Addr} {n c : Nat} {f : Fn} {fx fc : Array Value} (hB : w0.heap.size ≤ B) (hm : n ≤ 1000000000000) (hcmp : Cmp o w0 f fx fc) (hO : isO o = true) {L X S : List Pr} {a b : Nat} {w : World} {R : Ending → World → Prop}
    (hw : Rw w0 B p n c w (L ++ (X ++ S))) (ha : a = L.length) (hb : b = L.length + X.length)
    (h : ∀ w' X', Srt o X' → Stab X' X → Rw w0 B p n c w' (L ++ (X' ++ S)) → R (.returned (.tuple #[])) w') :
    Calls Tryz.prog 329 #[.slice p n c, .int .i64 (a : Nat), .int .i64 (b : Nat), .func f fx fc] w R := by
  refine sh329_ok _ _ _ _ _ _ _ _ ?_
  unfold sh329
  have hlen := hw.len
  simp only [List.length_append] at hlen
  refine ⟨fun vs w' => ∃ (i : Nat) (Xp Y M : List Pr), vs = [.int .i64 i] ∧ X = Xp ++ Y ∧ Srt o M ∧ Stab M Xp ∧ M.length = Xp.length ∧ Rw w0 B p n c w' (L ++ (M ++ (Y ++ S))) ∧ ((i = a + Xp.length ∧ 0 < Xp.length) ∨ (X = [] ∧ i = a + 1)), fun vs _ => n + 2 - (intOf (vs.getD 0 undef)).toNat, ?_, ?_⟩
  · have e : IntKind.wrap .i64 ((a : Int) + 1) = ((a + 1 : Nat) : Int) := by rw [wrap_of (by omega) (by omega)]; omega
    rw [e]
    cases X with
    | nil => exact ⟨a + 1, [], [], [], rfl, rfl, List.Pairwise.nil, Stab.refl _, rfl, hw, .inr ⟨rfl, rfl⟩⟩
    | cons x xs => exact ⟨a + 1, [x], xs, [x], rfl, rfl, List.pairwise_singleton _ _, Stab.refl _, rfl, hw, .inl ⟨rfl, by simp⟩⟩
  rintro i' _ w1 ⟨i, Xp, Y, M, hv, hX, hsM, hstM, hMl, hr, hi⟩
  simp only [List.cons.injEq, Value.int.injEq, true_and, and_true] at hv
  subst hv
  have hXl : X.length = Xp.length + Y.length := by rw [hX, List.length_append]
  refine ifB_intro (fun hlt => ?_) fun hge => ?_
  rotate_left
  · have hge : b ≤ i := by have := of_decide_eq_false hge; omega
    have hY : Y = [] := by
      rcases hi with ⟨h1, h2⟩ | ⟨h1, h2⟩
      · exact List.eq_nil_of_length_eq_zero (by omega)
      · rw [h1] at hXl; exact List.eq_nil_of_length_eq_zero (by simp at hXl; omega)
    subst hY
    rw [List.append_nil] at hX
    subst hX
    exact h w1 M hsM hstM (by simpa using hr)
  have hlt : i < b := by have := of_decide_eq_true hlt; omega
  have hia : i = a + Xp.length ∧ 0 < Xp.length := by
    rcases hi with h1 | ⟨h1, h2⟩
    · exact h1
    · rw [h1] at hb; simp at hb; omega
  obtain ⟨hia, hpos⟩ := hia
  obtain ⟨x, Y', rfl⟩ : ∃ x Y', Y = x :: Y' := by
    cases Y with
    | nil => simp at hXl; omega
    | cons x Y' => exact ⟨x, Y', rfl⟩
  have hxI : In x.1 := hr.keys x (by simp)
  have ei : IntKind.wrap .i64 ((i : Int) + 1) = ((i + 1 : Nat) : Int) := wrap_succ (n := n) (by omega) (by omega)
  rw [ei]
  -- behind a round
  have hK : ∀ {w' : World} {M1 M2 : List Pr}, M = M1 ++ M2 → (∀ y ∈ M2, codeI o x.1 < codeI o y.1) → (∀ y ∈ M1, codeI o y.1 ≤ codeI o x.1) → Rw w0 B p n c w' (L ++ (M1 ++ x :: (M2 ++ (Y' ++ S)))) →
      (∃ (i2 : Nat) (Xp Y M : List Pr), [Value.int .i64 ((i + 1 : Nat) : Int)] = [.int .i64 (i2 : Nat)] ∧ X = Xp ++ Y ∧ Srt o M ∧ Stab M Xp ∧ M.length = Xp.length ∧ Rw w0 B p n c w' (L ++ (M ++ (Y ++ S))) ∧ ((i2 = a + Xp.length ∧ 0 < Xp.length) ∨ (X = [] ∧ i2 = a + 1))) ∧
        n + 2 - (intOf (([Value.int .i64 ((i + 1 : Nat) : Int)] : List Value).getD 0 undef)).toNat < n + 2 - (intOf (([Value.int .i64 (i : Int)] : List Value).getD 0 undef)).toNat := by
    intro w' M1 M2 hM h2 h1 hrw
    have hs := hsM
    rw [hM, srt_app] at hs
    refine ⟨⟨i + 1, Xp ++ [x], Y', M1 ++ x :: M2, rfl, by rw [hX]; simp, ?_, ?_, ?_, ?_, .inl ⟨?_, ?_⟩⟩, ?_⟩
    · rw [srt_app]
      refine ⟨hs.1, List.Pairwise.cons (fun y hy => by have := h2 y hy; omega) hs.2.1, fun y hy z hz => ?_⟩
      rcases List.mem_cons.1 hz with rfl | hz
      · exact h1 y hy
      · exact hs.2.2 y hy z hz
    · have e1 : Stab (M1 ++ ([x] ++ M2)) (M1 ++ (M2 ++ [x])) := (Stab.refl M1).app (stab_swap fun y hy z hz => by simp at hz; subst hz; exact h2 y hy)
      have e2 : Stab (M1 ++ (M2 ++ [x])) (Xp ++ [x]) := by rw [← List.append_assoc, ← hM]; exact hstM.app (Stab.refl _)
      exact e1.trans e2
    · have := congrArg List.length hM
      simp only [List.length_append, List.length_cons, List.length_nil] at this ⊢
      omega
    · rw [List.append_assoc, List.cons_append]; exact hrw
    · simp; omega
    · simp
    · simp [intOf]; omega
  refine ⟨fun vs w' => ∃ M1 M2 : List Pr, vs = [.int .i64 (a + M1.length : Nat)] ∧ M = M1 ++ M2 ∧ (∀ y ∈ M2, codeI o x.1 < codeI o y.1) ∧ Rw w0 B p n c w' (L ++ (M1 ++ x :: (M2 ++ (Y' ++ S)))), fun vs _ => (intOf (vs.getD 0 undef)).toNat,
    ⟨M, [], by rw [hMl, hia], by simp, by simp, by simpa using hr⟩, ?_⟩
  rintro j _ w2 ⟨M1, M2, hv, hM, h2, hr2⟩
  simp only [List.cons.injEq, Value.int.injEq, true_and, and_true] at hv
  subst hv
  have hlen2 := hr2.len
  simp only [List.length_append, List.length_cons] at hlen2
  have hsM' := hsM
  rw [hM, srt_app] at hsM'
  refine ⟨⟨fun w' => Ext w2 w', ext_drew _, ?_⟩⟩
  refine ifB_intro (fun hgt => ?_) fun hle => ?_
  rotate_left
  · have h0 : M1 = [] := List.eq_nil_of_length_eq_zero (by have := of_decide_eq_false hle; omega)
    have hr3 : Rw w0 B p n c w2.drew (L ++ (M1 ++ x :: (M2 ++ (Y' ++ S)))) := ⟨row_to hr2.own (ext_drew _) (Nat.le_refl _), hr2.ext.drew, hr2.keys⟩
    exact hK hM h2 (by rw [h0]; intro y hy; cases hy) hr3
  have hgt : 0 < M1.length := by have := of_decide_eq_true hgt; omega
  obtain ⟨u, z, rfl⟩ := last_split hgt
  simp only [List.length_append, List.length_cons, List.length_nil] at hlen2
  have ed : L ++ ((u ++ [z]) ++ x :: (M2 ++ (Y' ++ S))) = (L ++ u) ++ z :: ([] ++ x :: (M2 ++ (Y' ++ S))) := by simp
  rw [ed] at hr2
  have ej : IntKind.wrap .i64 (((a + (u ++ [z]).length : Nat) : Int) - 1) = ((a + u.length : Nat) : Int) := by
    rw [List.length_append, List.length_singleton, wrap_of (by omega) (by omega)]; omega
  rw [ej]
  have ej' : a + (u ++ [z]).length = a + u.length + 1 := by rw [List.length_append, List.length_singleton]; omega
  rw [ej']
  have hln := hr2.len
  have g1 : ((L ++ u) ++ z :: ([] ++ x :: (M2 ++ (Y' ++ S))))[a + u.length]'(by rw [hln]; omega) = z := by
    rw [List.getElem_append_right (by simp; omega)]; simp [ha]
  have g2 : ((L ++ u) ++ z :: ([] ++ x :: (M2 ++ (Y' ++ S))))[a + u.length + 1]'(by rw [hln]; omega) = x := by
    rw [List.getElem_append_right (by simp; omega)]; simp [ha, show L.length + u.length + 1 - (L.length + u.length) = 1 by omega]
  have hC : ∀ w', Ext w2 w' → Cs w' p (prs ((L ++ u) ++ z :: ([] ++ x :: (M2 ++ (Y' ++ S))))) := fun w' e => (ownP_cs hr2.own).ext e
  have hzI : In z.1 := hr2.keys z (by simp)
  refine ix_prC hC (ext_refl _) hln (k := a + u.length + 1) rfl (by omega) fun q r1 r2 => ⟨_, r1, _, r2, ?_⟩
  refine ix_prC hC (ext_refl _) hln (k := a + u.length) rfl (by omega) fun q r3 r4 => ⟨_, r3, _, r4, ?_⟩
  rw [g1, g2]
  refine hcmp x z hxI hzI w2.drew hr2.ext.drew _ fun w3 e3 => retS_ret ⟨_, rfl, ?_⟩
  have hr3 : Rw w0 B p n c w3 ((L ++ u) ++ z :: ([] ++ x :: (M2 ++ (Y' ++ S)))) := ⟨row_to hr2.own ((ext_drew _).trans e3) (Nat.le_refl _), hr2.ext.trans ((ext_drew _).trans e3), hr2.keys⟩
  refine ifB_intro (fun hc => ?_) fun hc => ?_
  · have hc : codeI o x.1 < codeI o z.1 := (cmp_lt hO).1 (of_decide_eq_true hc)
    refine do_swap hr3.own (x := a + u.length + 1) (y := a + u.length) rfl rfl (by omega) (by omega) fun w4 ho4 g4 => ?_
    rw [(swap_lists (x := a + u.length) (y := a + u.length + 1) (by simp; omega) (by simp; omega) (by rw [hln]; omega) (by rw [hln]; omega)).2] at ho4
    refine ⟨⟨u, z :: M2, rfl, by rw [hM]; simp, fun y hy => ?_, ⟨?_, ext_own hr3.own hr3.ext g4 hB, fun y hy => hr3.keys y ?_⟩⟩, ?_⟩
    · rcases List.mem_cons.1 hy with rfl | hy
      · exact hc
      · exact h2 y hy
    · simpa using ho4
    · simp only [List.mem_append, List.mem_cons, List.not_mem_nil, false_or] at hy ⊢
      rcases hy with h | h | h | (h | h) | h | h <;> simp [h]
    · simp [intOf]; omega
  · have hc : codeI o z.1 ≤ codeI o x.1 := by
      have := of_decide_eq_false hc
      rw [cmp_lt hO] at this; omega
    refine hK hM h2 (fun y hy => ?_) (by rw [ed]; exact hr3)
    rcases List.mem_append.1 hy with h | h
    · have := (srt_app.1 hsM'.1).2.2 y h z (by simp); omega
    · simp at h; subst h; exact hc
end Go.Proofs.YtlfjaogbehpleaaGreat

