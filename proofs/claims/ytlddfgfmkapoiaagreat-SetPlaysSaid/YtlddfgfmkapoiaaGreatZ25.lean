/-
  look.Pairs, look.Keys: what they make of a tree. (Printed by wip/sh/mklook.py.)
-/
/-
  set: sets of keys in memory.
-/
/-
  set: what a set is changed to, and which key is at a place; the chapter's example.
-/
import Derived.Test.YtlddfgfmkapoiaaGreatZ24

namespace Go.Proofs.YtlddfgfmkapoiaaGreat
open Go Go.Sh Go.RowKit
abbrev OwnK (w : World) (base : Nat) (p : Option Addr) (n c : Nat) (l : List Int) : Prop := w.ownsRow base 2 1 (.slice p n c) n (ints l)
theorem ownK_len {w : World} {base n c : Nat} {p : Option Addr} {l : List Int} (h : OwnK w base p n c l) : l.length = n := by
  have := h.1
  simp [ints] at this
  omega

/-- the state of a going over, behind some pairs -/
structure LkP (S : List Nat) (W1 : World) (b2 d d' : Nat) (L0 L1 : Loop) (l : List Pr) (w : World) : Prop where
  gd : Gd S W1 w
  l0 : w.heap[d + 1]? = some (.loop L0)
  l1 : w.heap[d' + 1]? = some (.loop L1)
  row : ∃ qq nn cc, Blk w b2 #[.slice qq nn cc] 22 ∧ OwnP w W1.heap.size qq nn cc l
theorem LkP.ext {S : List Nat} {W1 : World} {b2 d d' : Nat} {L0 L1 : Loop} {l : List Pr} {w w' : World} (h : LkP S W1 b2 d d' L0 L1 l w) (e : Ext w w') : LkP S W1 b2 d d' L0 L1 l w' := by
  obtain ⟨h1, h2, h3, qq, nn, cc, h4, h5⟩ := h
  exact ⟨h1.trans (gd_of e), e.heap h2, e.heap h3, qq, nn, cc, h4.ext e, e.row h5⟩
/-- the state of a going over, behind some pairs -/
structure LkK (S : List Nat) (W1 : World) (b2 d d' : Nat) (L0 L1 : Loop) (l : List Pr) (w : World) : Prop where
  gd : Gd S W1 w
  l0 : w.heap[d + 1]? = some (.loop L0)
  l1 : w.heap[d' + 1]? = some (.loop L1)
  row : ∃ qq nn cc, Blk w b2 #[.slice qq nn cc] 24 ∧ OwnK w W1.heap.size qq nn cc (l.map (·.1))
theorem LkK.ext {S : List Nat} {W1 : World} {b2 d d' : Nat} {L0 L1 : Loop} {l : List Pr} {w w' : World} (h : LkK S W1 b2 d d' L0 L1 l w) (e : Ext w w') : LkK S W1 b2 d d' L0 L1 l w' := by
  obtain ⟨h1, h2, h3, qq, nn, cc, h4, h5⟩ := h
  exact ⟨h1.trans (gd_of e), e.heap h2, e.heap h3, qq, nn, cc, h4.ext e, e.row h5⟩
set_option maxRecDepth 20000 in
set_option maxHeartbeats 1000000 in
theorem c_lkeys {t : Tr} {pt : Option Addr} {w : World} {R : Ending → World → Prop} (ht : IsN w pt t) (hz : t.size ≤ 1000000) (h : ∀ q n c w', Ext w w' → OwnK w' w.heap.size q n c (t.pairs.map (·.1)) → R (.returned (.slice q n c)) w') :
    Calls Tryz.prog 147 #[.pointer pt] w R := by
  refine sh147_ok _ ?_
  unfold sh147
  refine ⟨?_⟩
  have e1 := ext_alloc w (.cells #[.slice none 0 0] 24)
  have h1 := blk_alloc w #[.slice none 0 0] 24
  have lb := h1.lt
  obtain ⟨b2, hb2⟩ : ∃ b2, b2 = w.heap.size := ⟨_, rfl⟩
  rw [← hb2] at h1 lb ⊢
  generalize w.alloc (.cells #[.slice none 0 0] 24) = w1 at *
  refine do_call Tryz.call99 (c_lall (t := pt) fun b8 b10 b12 b4 w2 e2 z8 z10 z12 z4 k8 k10 k12 k4 => retS_ret ⟨_, _, _, rfl, do_rf fun fn L w3 d hdd hL hst hpe e3 hd3 hl3 => ?_⟩)
  rw [← hdd]
  have m3 : d + 1 < w3.heap.size := (Array.getElem?_eq_some_iff.1 hl3).1
  have s12 := e2.size
  have m8 := k8.lt
  have m10 := k10.lt
  have m12 := k12.lt
  have m4 := k4.lt
  refine callE_c Tryz.call240 (by rfl) (sh240_ok _ _ _ _ ?_)
  unfold sh240
  refine ⟨?_⟩
  have e4 := ext_alloc w3 (.cells #[.func (.yield (d + 1)) #[] #[]] 307)
  have h5 := blk_alloc w3 #[.func (.yield (d + 1)) #[] #[]] 307
  have m5 := h5.lt
  obtain ⟨b5, hb5⟩ : ∃ b5, b5 = w3.heap.size := ⟨_, rfl⟩
  rw [← hb5] at h5 m5 ⊢
  generalize w3.alloc (.cells #[.func (.yield (d + 1)) #[] #[]] 307) = w4 at *
  have k44 := (k4.ext e3).ext e4
  refine ⟨_, _, _, k44.cell (i := 0) rfl rfl, do_rf fun fn' L' w5 d' hdd' hL' hst' hpe' e5 hd5 hl5 => ?_⟩
  rw [← hdd']
  have m6 : d' + 1 < w5.heap.size := (Array.getElem?_eq_some_iff.1 hl5).1
  refine callE_c Tryz.call301 (by rfl) (sh301_ok _ _ _ _ _ _ ?_)
  unfold sh301
  refine ⟨⟨?_⟩⟩
  have e6 := ext_alloc w5 (.cells #[.func (.yield (d' + 1)) #[] #[]] 161)
  have h7 := blk_alloc w5 #[.func (.yield (d' + 1)) #[] #[]] 161
  have m7 := h7.lt
  obtain ⟨b7, hb7⟩ : ∃ b7, b7 = w5.heap.size := ⟨_, rfl⟩
  rw [← hb7] at h7 m7 ⊢
  generalize w5.alloc (.cells #[.func (.yield (d' + 1)) #[] #[]] 161) = w6 at *
  have e7 := ext_alloc w6 (.cells #[.nilFunc] 161)
  refine do_st (blk_alloc w6 _ _) (i := 0) (add_blk _ _) (by simp) fun W1 h9 g9 => ?_
  obtain ⟨b9, hb9⟩ : ∃ b9, b9 = w6.heap.size := ⟨_, rfl⟩
  rw [← hb9] at h9 g9 ⊢
  have h9 : Blk W1 b9 #[onL b9 b10 b7 b12] 161 := h9
  have e9 : Ext w6 W1 := e7.st g9 (by omega)
  have m9 := h9.lt
  have E5 := e6.trans e9
  have E4 := e5.trans E5
  have E3 := e4.trans E4
  have E2 := e3.trans E3
  have E1 := (e1.trans e2).trans E2
  refine ⟨_, _, _, h9.cell (i := 0) rfl rfl, _, (k8.ext E2).cell (i := 0) rfl rfl, ?_⟩
  have hS : ∀ k ∈ [b2, d + 1, d' + 1], k = b2 ∨ k = d + 1 ∨ k = d' + 1 := fun k hk => by simpa using hk
  have O : Oth [b2, d + 1, d' + 1] W1 := fun k hk => by
    rcases hS k hk with rfl | rfl | rfl
    · exact oth_blk ((h1.ext e2).ext E2) (by decide)
    · intro cs hb; have := E3.heap hl3; unfold Blk at hb; rw [this] at hb; cases hb
    · intro cs hb; have := E5.heap hl5; unfold Blk at hb; rw [this] at hb; cases hb
  have nS : ∀ {k : Nat}, k ≠ b2 → k ≠ d + 1 → k ≠ d' + 1 → k ∉ [b2, d + 1, d' + 1] := fun a b c hm => by
    rcases hS _ hm with h | h | h
    · exact a h
    · exact b h
    · exact c h
  have J0 : LkK [b2, d + 1, d' + 1] W1 b2 d d' L L' [] W1 := ⟨gd_refl _ _, E3.heap hl3, E5.heap hl5, none, 0, 0, (h1.ext e2).ext E2, World.ownsRow_nil _ _ _ _⟩
  refine do_onL (W1 := W1) (S := [b2, d + 1, d' + 1]) h9 (k10.ext E2) (h7.ext e9) (k12.ext E2) (nS (by omega) (by omega) (by omega)) (nS (by omega) (by omega) (by omega)) (nS (by omega) (by omega) (by omega)) (nS (by omega) (by omega) (by omega)) O
    (J := fun l w' => LkK [b2, d + 1, d' + 1] W1 b2 d d' L L' l w') (M := 1000000) (fun _ _ q => q.gd) (fun _ _ _ q e => q.ext e) ?_ t (L := []) (ht.ext E1) J0 (by simpa [Tr.pairs_length] using hz) fun w9 J9 => ?_
  · -- a round
    intro l w7 pn tl k v g tr R' J7 hlen hN hR
    obtain ⟨G7, q0, q1, qq, nn, cc, hB7, hO7⟩ := J7
    refine sh240_0_ok (by rw [q1, hL']) ?_
    unfold sh240_0
    refine ⟨_, q1, hst', ?_⟩
    have G8 := gd_one (put_grown w7 (d' + 1) (.loop { L' with state := .busy }))
    have p1 := put_heap (o' := .loop { L' with state := .busy }) q1
    have p0 := heap_gd q0 G8 (by simp; omega)
    have pB := hB7.gd G8 (by simp; omega)
    have l17 := G7.size
    have pO : OwnK (w7.putObj (d' + 1) (.loop { L' with state := .busy })) W1.heap.size qq nn cc (l.map (·.1)) := row_gd hO7 G8 (by simp; omega)
    have pN := hN.gd (S := [d' + 1]) (fun k hk cs hb => by simp at hk; subst hk; unfold Blk at hb; rw [q1] at hb; cases hb) G8
    have G18 : Gd [b2, d + 1, d' + 1] W1 (w7.putObj (d' + 1) (.loop { L' with state := .busy })) := G7.trans (G8.mono fun k hk => by simp at hk; simp [hk])
    generalize w7.putObj (d' + 1) (.loop { L' with state := .busy }) = w8 at *
    have e89 := ext_drew w8
    have k5 : ∀ w', Gd [b2, d + 1, d' + 1] W1 w' → World.cell? w' (blk b5) = some (.func (.yield (d + 1)) #[] #[]) := fun w' G => ((h5.ext E4).gd G (nS (by omega) (by omega) (by omega))).cell (i := 0) rfl rfl
    refine ⟨⟨fun w' => Gd [b2, d + 1, d' + 1] W1 w', G18.trans (gd_of e89), _, _, _, fun w' G => k5 w' G, ?_⟩⟩
    refine do_call Tryz.call108 (c_key (pN.ext e89) fun wk ek => retS_ret ⟨_, rfl, G18.trans (gd_of (e89.trans ek)), ?_⟩)
    refine do_call Tryz.call126 (c_val ((pN.ext e89).ext ek) fun wv ev => retS_ret ⟨_, rfl, G18.trans (gd_of ((e89.trans ek).trans ev)), ?_⟩)
    have e8v := (e89.trans ek).trans ev
    have r0 := e8v.heap p0
    have r1 := e8v.heap p1
    have rB := pB.ext e8v
    have rO : OwnK wv W1.heap.size qq nn cc (l.map (·.1)) := e8v.row pO
    have Gv := G18.trans (gd_of (S := [b2, d + 1, d' + 1]) e8v)
    clear p0 p1 pB pO pN
    refine sh147_0_ok (by rw [r0, hL]) ?_
    unfold sh147_0
    refine ⟨_, r0, hst, ?_⟩
    have G10 := gd_one (put_grown wv (d + 1) (.loop { L with state := .busy }))
    have s0 := put_heap (o' := .loop { L with state := .busy }) r0
    have s1 := heap_gd r1 G10 (by simp; omega)
    have sB := rB.gd G10 (by simp; omega)
    have lv := Gv.size
    have sO : OwnK (wv.putObj (d + 1) (.loop { L with state := .busy })) W1.heap.size qq nn cc (l.map (·.1)) := row_gd rO G10 (by simp; omega)
    have Gx := Gv.trans (G10.mono (T := [b2, d + 1, d' + 1]) fun k hk => by simp at hk; simp [hk])
    generalize wv.putObj (d + 1) (.loop { L with state := .busy }) = wx at *
    have lx := Gx.size
    refine ⟨_, _, _, sB.cell (i := 0) rfl rfl, ⟨?_⟩⟩
    have e11 := ext_alloc wx (.cells #[.int .i64 k] 2)
    have o11 : OwnK (wx.alloc (.cells #[.int .i64 k] 2)) W1.heap.size qq nn cc (l.map (·.1)) := e11.row sO
    have hnn : nn = l.length := by have := ownK_len o11; rw [List.length_map] at this; omega
    refine do_app elI o11 (m := 1) (cs_alloc wx _ _) (by simp) (by simp [Value.oneCell']) (by simp only [maxLen]; omega) (by omega) (Nat.le_trans lx e11.size) fun q12 c12 w12 o12 g12 => retS_ret ⟨_, _, _, rfl, ?_⟩
    have G12 := gd_row g12
    have hown : ∀ k ∈ (Value.slice qq nn cc).ownBlock.toList, W1.heap.size ≤ k := fun k hk => (World.ownsRow.lt o11 k (by simpa using hk)).1
    have nO : ∀ k, k < W1.heap.size → k ∉ (Value.slice qq nn cc).ownBlock.toList := fun k hk hm => by have := hown k hm; omega
    have tB := (sB.ext e11).gd G12 (nO _ (by omega))
    have t0 := heap_gd (e11.heap s0) G12 (nO _ (by omega))
    have t1 := heap_gd (e11.heap s1) G12 (nO _ (by omega))
    have G13 : Gd [b2, d + 1, d' + 1] W1 w12 := (Gx.trans (gd_of e11)).over G12 fun k hk => .inr (hown k hk)
    refine do_st tB (i := 0) (add_blk _ _) (by simp) fun w14 uB g14 => ?_
    have uB : Blk w14 b2 #[.slice q12 (nn + 1) c12] 24 := uB
    have G14 := gd_one g14
    have u0 := heap_gd t0 G14 (by simp; omega)
    have u1 := heap_gd t1 G14 (by simp; omega)
    have uO := row_gd o12 G14 (by simp; omega)
    refine ⟨_, u0, ?_⟩
    rw [rec_back hst hpe]
    have G15 := gd_one (put_grown w14 (d + 1) (.loop L))
    have v0 := put_heap (o' := .loop L) u0
    have v1 := heap_gd u1 G15 (by simp; omega)
    have vB := uB.gd G15 (by simp; omega)
    have vO := row_gd uO G15 (by simp; omega)
    have G16 : Gd [b2, d + 1, d' + 1] W1 (w14.putObj (d + 1) (.loop L)) := (G13.trans (G14.mono fun k hk => by simp at hk; simp [hk])).trans (G15.mono fun k hk => by simp at hk; simp [hk])
    generalize w14.putObj (d + 1) (.loop L) = w15 at *
    refine retS_ret ⟨_, rfl, ifB_f rfl ⟨_, v1, ?_⟩⟩
    rw [rec_back hst' hpe']
    have G17 := gd_one (put_grown w15 (d' + 1) (.loop L'))
    have l16 := G16.size
    refine hR _ ⟨G16.trans (G17.mono fun k hk => by simp at hk; simp [hk]), heap_gd v0 G17 (by simp; omega), put_heap v1, q12, nn + 1, c12, vB.gd G17 (by simp; omega), ?_⟩
    have := row_gd vO G17 (by simp; omega)
    unfold OwnK ints at *; rw [List.map_append, List.map_append]; exact this
  · refine retS_ret ⟨_, rfl, ?_⟩
    obtain ⟨G9, q0, q1, qq, nn, cc, hB9, hO9⟩ := J9
    simp only [List.nil_append] at hO9
    refine rf_done q1 (by rw [hst']; simp) hpe' fun o1 => ?_
    have l9 := G9.size
    have G10 := gd_one (put_grown w9 (d' + 1) o1)
    have n1 : d' ∉ [d' + 1] := by simp
    refine ⟨heap_gd (heap_gd (E5.heap hd5) G9 (nS (by omega) (by omega) (by omega))) G10 n1, ?_⟩
    have p0 := heap_gd q0 G10 (by simp; omega)
    have pB := hB9.gd G10 (by simp; omega)
    have pO := row_gd hO9 G10 (by simp; omega)
    have pd := heap_gd (heap_gd (E3.heap hd3) G9 (nS (by omega) (by omega) (by omega))) G10 (by simp; omega)
    have H10 : Gd [b2, d + 1, d' + 1] W1 (w9.putObj (d' + 1) o1) := G9.trans (G10.mono fun k hk => by simp at hk; simp [hk])
    generalize w9.putObj (d' + 1) o1 = w10 at *
    have G11 := gd_one (put_grown w10 d' (.deferred none))
    have l10 := H10.size
    have r0 := heap_gd p0 G11 (by simp; omega)
    have rB := pB.gd G11 (by simp; omega)
    have rO := row_gd pO G11 (by simp; omega)
    have rd := heap_gd pd G11 (by simp; omega)
    have E0 : Ext w W1 := E1
    have hbw : ∀ k ∈ [b2, d + 1, d' + 1], w.heap.size ≤ k := fun k hk => by
      have s1 := e1.size
      rcases hS k hk with h | h | h <;> omega
    have X10 : Ext w w10 := Ext.gd E0 H10 hbw
    have sw1 := e1.size
    have X11 : Ext w (w10.putObj d' (.deferred none)) := X10.put (by omega) _
    generalize w10.putObj d' (.deferred none) = w11 at *
    refine rf_done r0 (by rw [hst]; simp) hpe fun o2 => ?_
    have G12 := gd_one (put_grown w11 (d + 1) o2)
    have sB := rB.gd G12 (by simp; omega)
    have sO := row_gd rO G12 (by simp; omega)
    have sd := heap_gd rd G12 (by simp)
    have X12 : Ext w (w11.putObj (d + 1) o2) := X11.put (by omega) _
    generalize w11.putObj (d + 1) o2 = w12 at *
    refine ⟨_, _, _, sB.cell (i := 0) rfl rfl, ?_⟩
    refine do_st sB (i := 0) (add_blk _ _) (by simp) fun w13 uB g13 => ?_
    have uB : Blk w13 b2 #[.slice qq nn cc] 24 := uB
    have G13 := gd_one g13
    have uO := row_gd sO G13 (by simp; omega)
    have ud := heap_gd sd G13 (by simp; omega)
    have X13 : Ext w w13 := X12.st g13 (by omega)
    refine ⟨ud, ?_⟩
    have G14 := gd_one (put_grown w13 d (.deferred none))
    have vB := uB.gd G14 (by simp; omega)
    have vO := row_gd uO G14 (by simp; omega)
    have X14 : Ext w (w13.putObj d (.deferred none)) := X13.put (by omega) _
    exact ⟨_, _, _, vB.cell (i := 0) rfl rfl, h _ _ _ _ X14 (row_mono vO (by omega))⟩
end Go.Proofs.YtlddfgfmkapoiaaGreat

namespace Go.Proofs.YtlddfgfmkapoiaaGreat
open Go Go.Sh Go.RowKit

abbrev setV (b : Nat) (o : Int) (pd pt : Option Addr) : Array Value := #[.pointer (some (blk b)), .int .u8 o, .pointer pd, .pointer pt]
/-- a set that lies in memory: its keys -/
structure SetU (c o : Int) (b : Nat) (pd : Option Addr) (bx : Nat) (K : List Int) (w : World) : Prop where
  ex : ∃ t pt, Blk w bx (setV b o pd pt) 174 ∧ IsN w pt t ∧ KeyT c o t K
theorem SetU.ext {c o : Int} {b bx : Nat} {pd : Option Addr} {K : List Int} {w w' : World} (h : SetU c o b pd bx K w) (e : Ext w w') : SetU c o b pd bx K w' := by
  obtain ⟨t, pt, h1, h2, h3⟩ := h.ex
  exact ⟨t, pt, h1.ext e, h2.ext e, h3⟩
theorem SetU.gd {c o : Int} {b bx : Nat} {pd : Option Addr} {K : List Int} {S : List Nat} {w w' : World} (h : SetU c o b pd bx K w) (hO : Oth S w) (g : Gd S w w') (hb : bx ∉ S) : SetU c o b pd bx K w' := by
  obtain ⟨t, pt, h1, h2, h3⟩ := h.ex
  exact ⟨t, pt, h1.gd g hb, h2.gd hO g, h3⟩
theorem SetU.gs {c c' o : Int} {b b' bx : Nat} {pd : Option Addr} {K : List Int} {w w' : World} (h : SetU c o b pd bx K w) (hs : IsSch c' b' w) (g : Gs b' w w') : SetU c o b pd bx K w' := by
  obtain ⟨t, pt, h1, h2, h3⟩ := h.ex
  exact ⟨t, pt, h1.gs g (hs.ne h1 (by decide)), h2.gs hs g, h3⟩
theorem SetU.lt {c o : Int} {b bx : Nat} {pd : Option Addr} {K : List Int} {w : World} (h : SetU c o b pd bx K w) : bx < w.heap.size := by
  obtain ⟨t, pt, h1, h2, h3⟩ := h.ex
  exact h1.lt
theorem SetU.asc {c o : Int} {b bx : Nat} {pd : Option Addr} {K : List Int} {w : World} (h : SetU c o b pd bx K w) : K.Pairwise (ltO o) := by
  obtain ⟨t, pt, h1, h2, h3⟩ := h.ex
  exact h3.asc
theorem c_kindtree {b : Nat} {o : Int} {pd : Option Addr} {q : Option Addr} {n cp : Nat} {sp : Option Addr} {w : World} {R : Ending → World → Prop}
    (k : ∀ w', Ext w w' → doCall Tryz.prog (.func (.func 24) #[] #[]) #[.pointer sp, .int .u8 o, .pointer pd, .slice q n cp] w' (retS (fun v14 w15 => ∃ (x12 : Option Addr), ∃ (x13 : Int), v14 = (.tuple #[.pointer x12, .int .i64 x13] : Value) ∧ (
 R (.returned (.tuple #[.pointer x12, .int .i64 x13])) w15)) (fun ch w => Kfn R ch [] w))) (_hb : b = b) : Calls Tryz.prog 136 #[.agg #[.pointer sp, .int .u8 o, .pointer pd], .slice q n cp] w R := by
  refine sh136_ok _ _ _ _ _ _ ?_
  unfold sh136
  refine ⟨?_⟩
  have e0 := ext_alloc w (.cells #[.pointer sp, .int .u8 o, .pointer pd] 171)
  have h0 := blk_alloc w #[.pointer sp, .int .u8 o, .pointer pd] 171
  exact ⟨_, h0.cell (i := 0) (add_blk _ _) rfl, _, h0.cell (i := 1) (add_blk _ _) rfl, _, h0.cell (i := 2) (add_blk _ _) rfl, k _ e0⟩
theorem do_st3k {w : World} {b : Nat} {u v z x y t : Value} {ty : TypeId} (h : Blk w b #[u, v, z] ty) {K : World → Prop} (k : ∀ w', Blk w' b #[x, y, t] ty → w.grownBy w' (some b) → K w') :
    doSt ((blk b).add 0) x w fun w1 => doSt ((blk b).add 1) y w1 fun w2 => doSt ((blk b).add 2) t w2 K :=
  do_st h (i := 0) (add_blk _ _) (by simp) fun _ h1 g1 => do_st h1 (i := 1) (add_blk _ _) (by simp) fun _ h2 g2 => do_st h2 (i := 2) (add_blk _ _) (by simp) fun _ h3 g3 => k _ h3 (grown_trans (grown_trans g1 g2) g3)
theorem c_setnew {c o : Int} {b : Nat} {p : Option Addr} {D : Option (Nat × Nat × Nat × Nat)} {ds keys : List Int} {q : Option Addr} {n cp : Nat} {w : World} {R : Ending → World → Prop} (ho : isO o = true) (hs : IsSch c b w) (hd : IsD p D ds w) (hU : InU ds) (hN : topD D ≤ w.heap.size)
    (hl : Cs w q (ints keys)) (hn : keys.length = n) (hB : n ≤ 1000000) (hI : ∀ k ∈ keys, In k)
    (h : ∀ bx K w', Gd (b :: blksD D) w w' → IsSch c b w' → (∃ r, IsD p D r w' ∧ InU r) → w.heap.size ≤ bx → SetU c o b p bx K w' → (∀ k, k ∈ K ↔ k ∈ keys) → K.length ≤ n → R (.returned (.tuple #[.pointer (some (blk bx)), .int .i64 0])) w') :
    Calls Tryz.prog 63 #[.pointer (some (blk b)), .int .u8 o, .pointer p, .slice q n cp] w R := by
  refine sh63_ok _ _ _ _ _ _ ?_
  unfold sh63
  refine ⟨?_⟩
  have e0 := ext_alloc w (.cells #[.pointer none, .int .u8 0, .pointer none] 171)
  refine do_st3k (blk_alloc w _ _) fun w1 h1 g1 => ?_
  have E1 : Ext w w1 := e0.st g1 (Nat.le_refl _)
  have l1 := h1.lt
  obtain ⟨b7, hb7⟩ : ∃ b7, b7 = w.heap.size := ⟨_, rfl⟩
  rw [← hb7] at h1 g1 l1 ⊢
  refine ⟨_, h1.cell (i := 0) (add_blk _ _) rfl, _, h1.cell (i := 1) (add_blk _ _) rfl, _, h1.cell (i := 2) (add_blk _ _) rfl, ?_⟩
  have hs1 := hs.ext E1
  have hd1 := hd.ext E1
  have hslt := hs.lt
  have hDlt := hd.lt
  obtain ⟨K, hK, hm, hle⟩ := keyT_build (ds := ds) hs.1 ho hI hU
  refine do_call Tryz.call136 (c_kindtree (b := b) (fun w2 e2 => ?_) rfl)
  refine do_call Tryz.call24 (c_bkeys ho (hs1.ext e2) (hd1.ext e2) (Nat.le_trans hN (E1.trans e2).size) (hl.ext (E1.trans e2)) hn hB hI fun pt w3 g3 hs3 hd3 h3 => retS_ret ⟨_, _, rfl, retS_ret ⟨_, _, rfl, ifB_f rfl ?_⟩⟩)
  have nS : b7 ∉ b :: blksD D := fun hk => by
    rcases List.mem_cons.1 hk with e | hk
    · omega
    · have := (hDlt _ hk).1; omega
  have h13 := (h1.ext e2).gd g3 nS
  refine ⟨_, h13.cell (i := 0) (add_blk _ _) rfl, _, h13.cell (i := 1) (add_blk _ _) rfl, _, h13.cell (i := 2) (add_blk _ _) rfl, ⟨?_⟩⟩
  have e4 := ext_alloc w3 (.cells (setV b o p pt) 174)
  have h4 := blk_alloc w3 (setV b o p pt) 174
  have G3 : Gd (b :: blksD D) w w3 := (gd_of (E1.trans e2)).trans g3
  have hr : InU (restL c ds (sortL o 1 (zeroP keys))) := by unfold restL; split
                                                            · exact hU.drop _
                                                            · exact hU
  exact h _ K _ (G3.trans (gd_of e4)) (hs3.ext e4) ⟨_, hd3.ext e4, hr⟩ G3.size ⟨_, pt, h4, h3.ext e4, hK⟩ hm (by omega)
/-! ### two sets -/
section
variable {c o : Int} {b bY bx by_ : Nat} {px py : Option Addr} {K L : List Int} {w : World} {R : Ending → World → Prop} {f : Fn} {fx fc : Array Value}
end
/-! ### one set -/
section
variable {c o : Int} {b bx : Nat} {px : Option Addr} {K : List Int} {w : World} {R : Ending → World → Prop}
theorem c_stree (hx : SetU c o b px bx K w) (h : ∀ t pt, IsN w pt t → KeyT c o t K → R (.returned (.pointer pt)) w) : Calls Tryz.prog 143 #[.pointer (some (blk bx))] w R := by
  refine sh143_ok _ ?_
  unfold sh143
  obtain ⟨t, pt, h1, h2, h3⟩ := hx.ex
  exact ifB_f rfl ⟨_, rfl, _, h1.cell (i := 3) (add_blk _ _) rfl, h t pt h2 h3⟩
theorem c_slen (hx : SetU c o b px bx K w) (h : ∀ w', Ext w w' → R (.returned (.int .i64 K.length)) w') : Calls Tryz.prog 72 #[.pointer (some (blk bx))] w R := by
  refine sh72_ok _ ?_
  unfold sh72
  refine do_call Tryz.call143 (c_stree hx fun t pt h1 h2 => retS_ret ⟨_, rfl, ?_⟩)
  refine do_call Tryz.call91 (c_tsize h1 fun w1 e1 => retS_ret ⟨_, rfl, ?_⟩)
  rw [h2.len]; exact h _ e1
theorem c_skeys (hx : SetU c o b px bx K w) (hz : K.length ≤ 1000000) (h : ∀ q n cp w', Ext w w' → OwnK w' w.heap.size q n cp K → R (.returned (.slice q n cp)) w') : Calls Tryz.prog 76 #[.pointer (some (blk bx))] w R := by
  refine sh76_ok _ ?_
  unfold sh76
  refine do_call Tryz.call143 (c_stree hx fun t pt h1 h2 => retS_ret ⟨_, rfl, ?_⟩)
  refine do_call Tryz.call147 (c_lkeys h1 (by rw [h2.len]; exact hz) fun q n cp w1 e1 o1 => retS_ret ⟨_, _, _, rfl, ?_⟩)
  rw [h2.prs] at o1
  exact h _ _ _ _ e1 o1
end
theorem c_samekeys {l r : List Int} {q q' : Option Addr} {n c n' c' : Nat} {w : World} {R : Ending → World → Prop} (hl : Cs w q (ints l)) (hn : l.length = n) (hr : Cs w q' (ints r)) (hn' : r.length = n') (hm : n ≤ 1000000000000)
    (h : ∀ w', Ext w w' → R (.returned (.bool (decide (l = r)))) w') : Calls Tryz.prog 61 #[.slice q n c, .slice q' n' c'] w R := by
  refine sh61_ok _ _ _ _ _ _ ?_
  unfold sh61
  refine ifB_intro (fun hne => ?_) fun heq => ?_
  · have hne : l ≠ r := fun e => by subst e; simp [← hn, ← hn'] at hne
    have := h w (ext_refl w)
    rw [decide_eq_false hne] at this
    exact this
  have heq : n = n' := by simp at heq; omega
  subst heq
  refine ⟨fun vs w' => ∃ k : Nat, vs = [.int .i64 k] ∧ k ≤ n ∧ Ext w w' ∧ l.take k = r.take k, fun vs _ => n - (intOf (vs.getD 0 undef)).toNat, ⟨0, rfl, by omega, ext_refl w, by simp⟩, ?_⟩
  rintro i _ w2 ⟨k, hv, hkn, E, hlo⟩
  simp only [List.cons.injEq, Value.int.injEq, true_and, and_true] at hv
  subst hv
  refine ifB_intro (fun hlt => ?_) fun hge => ?_
  · have hlt : k < n := by have := of_decide_eq_true hlt; omega
    have d := ext_drew w2
    have hli : ∀ w', Ext w2 w' → Cs w' q (l.flatMap fun x => [.int .i64 x]) := fun w' e => by
      have := (hl.ext E).ext e
      unfold ints at this
      rwa [List.map_eq_flatMap] at this
    have hri : ∀ w', Ext w2 w' → Cs w' q' (r.flatMap fun x => [.int .i64 x]) := fun w' e => by
      have := (hr.ext E).ext e
      unfold ints at this
      rwa [List.map_eq_flatMap] at this
    refine ⟨⟨fun w' => Ext w2 w', d, ?_⟩⟩
    refine ix_flatC (ec := fun x : Int => [.int .i64 x]) (s := 1) (fun _ => rfl) (by omega) hli d hn (k := k) rfl hlt fun a r1 => ⟨l[k]'(by omega), fun w' e => by have := r1 w' e 0 _ rfl; rwa [add_zero'] at this, ?_⟩
    refine ix_flatC (ec := fun x : Int => [.int .i64 x]) (s := 1) (fun _ => rfl) (by omega) hri d hn' (k := k) rfl hlt fun a r2 => ⟨r[k]'(by omega), fun w' e => by have := r2 w' e 0 _ rfl; rwa [add_zero'] at this, ?_⟩
    refine ifB_intro (fun hne => ?_) fun he => ?_
    · have hne : l[k]'(by omega) ≠ r[k]'(by omega) := by simpa using hne
      have hlr : l ≠ r := fun e => by subst e; exact hne rfl
      have := h _ (E.trans d)
      rw [decide_eq_false hlr] at this
      exact this
    · have he : l[k]'(by omega) = r[k]'(by omega) := by simpa using he
      refine ⟨⟨k + 1, by rw [wrap_succ hlt (by omega)], by omega, E.trans d, ?_⟩, by rw [wrap_succ hlt (by omega)]; simp [intOf]; omega⟩
      rw [show l.take (k + 1) = l.take k ++ [l[k]'(by omega)] from (List.take_append_getElem (by omega)).symm, show r.take (k + 1) = r.take k ++ [r[k]'(by omega)] from (List.take_append_getElem (by omega)).symm, hlo, he]
  · have hge : k = n := by have := of_decide_eq_false hge; omega
    subst hge
    rw [List.take_of_length_le (by omega), List.take_of_length_le (by omega)] at hlo
    have := h _ E
    rw [decide_eq_true hlo] at this
    exact this
end Go.Proofs.YtlddfgfmkapoiaaGreat

namespace Go.Proofs.YtlddfgfmkapoiaaGreat
open Go Go.Sh Go.RowKit

theorem keys_filter {o : Int} {K L : List Int} (h : K.Pairwise (ltO o)) (h' : L.Pairwise (ltO o)) (p : Int → Bool) (hm : ∀ k, k ∈ L ↔ k ∈ K ∧ p k = true) : L = K.filter p :=
  keys_ext h' (h.sublist List.filter_sublist) fun k => (hm k).trans List.mem_filter.symm
theorem len_part (p : Int → Bool) : ∀ K : List Int, (K.filter p).length + (K.filter fun k => !p k).length = K.length
  | [] => rfl
  | k :: K => by
    have := len_part p K
    simp only [List.filter_cons]
    cases p k <;> simp <;> omega
/-- as many as there were, and those that came -/
theorem len_union {o : Int} {K L M : List Int} (hK : K.Pairwise (ltO o)) (hM : M.Pairwise (ltO o)) (hm : ∀ k, k ∈ M ↔ k ∈ K ∨ k ∈ L) : ∃ D : List Int, D.Pairwise (ltO o) ∧ (∀ k, k ∈ D ↔ k ∈ L ∧ k ∉ K) ∧ M.length = K.length + D.length := by
  refine ⟨M.filter fun k => !decide (k ∈ K), hM.sublist List.filter_sublist, fun k => ?_, ?_⟩
  · rw [List.mem_filter, hm]
    by_cases h : k ∈ K <;> simp [h]
  · have e := keys_filter hM hK (fun k => decide (k ∈ K)) fun k => by
      rw [hm]; by_cases h : k ∈ K <;> simp [h]
    have := len_part (fun k => decide (k ∈ K)) M
    rw [← e] at this
    omega
theorem maxA {x y : Nat} (h : y ≤ x) : max ((x : Int) - y) (0 - ((x : Int) - y)) = (x : Int) - y := by omega
theorem maxB' {x y : Nat} (h : x ≤ y) : max ((x : Int) - y) (0 - ((x : Int) - y)) = (y : Int) - x := by omega
/-! ### one set, changed -/
section
variable {c o : Int} {b bx : Nat} {p : Option Addr} {D : Option (Nat × Nat × Nat × Nat)} {ds keys K : List Int} {q : Option Addr} {n cp : Nat} {w : World} {R : Ending → World → Prop}
theorem c_swith {f : Fn} {fx fc : Array Value} (F : Tr → Tr → Tr) (M : List Int) (ho : isO o = true) (hs : IsSch c b w) (hd : IsD p D ds w) (hU : InU ds) (hN : topD D ≤ w.heap.size) (hx : SetU c o b p bx K w) (hnb : bx ∉ b :: blksD D) (hNx : topD D ≤ bx)
    (hl : Cs w q (ints keys)) (hn : keys.length = n) (hB : n ≤ 1000000) (hI : ∀ k ∈ keys, In k) (hz : K.length ≤ 1000000) (hz' : M.length ≤ 4000000)
    (hF : ∀ t u L, KeyT c o t K → KeyT c o u L → (∀ k, k ∈ L ↔ k ∈ keys) → KeyT c o (F t u) M)
    (k : ∀ t u L pt pu w' R', Gd (b :: blksD D) w w' → IsSch c b w' → Blk w' bx (setV b o p pt) 174 → IsN w' pt t → IsN w' pu u → KeyT c o t K → KeyT c o u L → L.length ≤ n → (∀ q w'', Gs b w' w'' → IsSch c b w'' → IsN w'' q (F t u) → R' (.returned (.tuple #[.pointer q, .int .i64 0])) w'') → doCall Tryz.prog (.func f fx fc) #[.pointer pt, .pointer pu] w' R')
    (h : ∀ w', Gd (bx :: b :: blksD D) w w' → IsSch c b w' → (∃ r, IsD p D r w' ∧ InU r) → SetU c o b p bx M w' → R (.returned (.tuple #[.int .i64 (max ((M.length : Int) - K.length) (0 - ((M.length : Int) - K.length))), .int .i64 0])) w') :
    Calls Tryz.prog 144 #[.pointer (some (blk bx)), .slice q n cp, .func f fx fc] w R := by
  refine sh144_ok _ _ _ _ _ _ _ ?_
  unfold sh144
  obtain ⟨t, pt, x1, x2, x3⟩ := hx.ex
  have r {w' : World} {pt' : Option Addr} (x : Blk w' bx (setV b o p pt') 174) (i : Nat) (v : Value) (hv : (setV b o p pt')[i]? = some v) : World.cell? w' (((blk bx).add 0).add i) = some v := by rw [add_zero']; exact x.cell (i := i) (add_blk _ _) hv
  refine ifB_f rfl ⟨_, rfl, _, r x1 0 _ rfl, _, r x1 1 _ rfl, _, r x1 2 _ rfl, ?_⟩
  obtain ⟨L, hL, hLm, hLl⟩ := keyT_build (ds := ds) hs.1 ho hI hU
  refine do_call Tryz.call136 (c_kindtree (b := b) (fun w2 e2 => ?_) rfl)
  refine do_call Tryz.call24 (c_bkeys ho (hs.ext e2) (hd.ext e2) (Nat.le_trans hN e2.size) (hl.ext e2) hn hB hI fun pu w3 g3 hs3 hd3 h3 => retS_ret ⟨_, _, rfl, retS_ret ⟨_, _, rfl, ?_⟩⟩)
  have G3 := (gd_of e2).trans g3
  have O := oth_sd hs hd
  have x13 := x1.gd G3 hnb
  have x23 := x2.gd O G3
  refine ⟨_, rfl, _, x13.cell (i := 3) (add_blk _ _) rfl, ?_⟩
  have hF' := hF t _ L x3 hL hLm
  refine k t _ L pt pu w3 _ G3 hs3 x13 x23 h3 x3 hL (by omega) fun q w4 g4 hs4 h4 => retS_ret ⟨_, _, rfl, ?_⟩
  have hne := hs3.ne x13 (by decide)
  have x14 := x13.gs g4 hne
  have x24 := x23.gs hs3 g4
  have d := ext_drew w4
  refine ⟨⟨fun w' => Ext w4 w', d, _, rfl, _, fun w' e => (x14.ext e).cell (i := 3) (add_blk _ _) rfl, ?_⟩⟩
  refine do_call Tryz.call91 (c_tsize (h4.ext d) fun w5 e5 => retS_ret ⟨_, rfl, d.trans e5, ?_⟩)
  refine do_call Tryz.call91 (c_tsize (x24.ext (d.trans e5)) fun w6 e6 => retS_ret ⟨_, rfl, _, rfl, ?_⟩)
  have e46 := (d.trans e5).trans e6
  refine do_st (x14.ext e46) (i := 3) (by rw [Sh.add_add, add_blk]) (by simp) fun w7 x7 g7 => ?_
  have x7 : Blk w7 bx (setV b o p q) 174 := x7
  rw [hF'.len, x3.len]
  refine do_maxk (retS_ret ⟨_, rfl, ?_⟩)
  rw [wrap_of (x := (M.length : Int) - K.length) (by omega) (by omega), wrap_of (x := 0 - ((M.length : Int) - K.length)) (by omega) (by omega)]
  have G7 : Gd [bx] w6 w7 := (gd_refl _ _).st g7 (.inr (by simp))
  have hr : InU (restL c ds (sortL o 1 (zeroP keys))) := by unfold restL; split
                                                            · exact hU.drop _
                                                            · exact hU
  refine h w7 ?_ ((hs4.ext e46).gd G7 (by simp [Ne.symm hne])) ⟨_, ((hd3.gs hs3 g4).ext e46).gd G7 (by simpa using hNx), hr⟩ ⟨_, q, x7, (h4.ext e46).gd (fun k hk => ?_) G7, hF'⟩
  · exact ((((G3.mono fun k hk => List.mem_cons_of_mem _ hk).trans (gd_gs g4 (by simp))).trans (gd_of e46)).st g7 (.inr (by simp)))
  · have : k = bx := by simpa using hk
    subst this
    exact oth_blk (x14.ext e46) (by decide)
theorem c_sadd (ho : isO o = true) (hs : IsSch c b w) (hd : IsD p D ds w) (hU : InU ds) (hN : topD D ≤ w.heap.size) (hx : SetU c o b p bx K w) (hnb : bx ∉ b :: blksD D) (hNx : topD D ≤ bx)
    (hl : Cs w q (ints keys)) (hn : keys.length = n) (hB : n ≤ 100000) (hI : ∀ k ∈ keys, In k) (hz : K.length ≤ 100000)
    (h : ∀ M w', Gd (bx :: b :: blksD D) w w' → IsSch c b w' → (∃ r, IsD p D r w' ∧ InU r) → SetU c o b p bx M w' → (∀ k, k ∈ M ↔ k ∈ K ∨ k ∈ keys) → M.length ≤ K.length + n → R (.returned (.tuple #[.int .i64 ((M.length : Int) - K.length), .int .i64 0])) w') :
    Calls Tryz.prog 74 #[.pointer (some (blk bx)), .slice q n cp] w R := by
  refine sh74_ok _ _ _ _ ?_
  unfold sh74
  refine ⟨?_⟩
  have e0 := ext_alloc w (.cells #[.pointer (some (blk bx))] 85)
  have h0 := blk_alloc w #[.pointer (some (blk bx))] 85
  have hslt := hs.lt
  have hDlt := hd.lt
  obtain ⟨b5, hb5⟩ : ∃ b5, b5 = w.heap.size := ⟨_, rfl⟩
  rw [← hb5] at h0 ⊢
  generalize w.alloc (.cells #[.pointer (some (blk bx))] 85) = w1 at *
  have n5 : b5 ∉ b :: blksD D := fun hk => by
    rcases List.mem_cons.1 hk with e | hk
    · omega
    · have := (hDlt _ hk).1; omega
  refine ⟨_, h0.cell (i := 0) rfl rfl, ?_⟩
  obtain ⟨t0, _, _, _, k0⟩ := hx.ex
  obtain ⟨L0, hL0, hLm0, hLl0⟩ := keyT_build (ds := ds) hs.1 ho hI hU
  obtain ⟨M, hM, hm, hlen⟩ := keyT_union ho k0 hL0
  have hm' : ∀ k, k ∈ M ↔ k ∈ K ∨ k ∈ keys := fun k => (hm k).trans (or_congr Iff.rfl (hLm0 k))
  obtain ⟨D', _, _, hge⟩ := len_union hx.asc hM.asc hm'
  refine do_call Tryz.call144 (c_swith (unionC c o 1) M ho (hs.ext e0) (hd.ext e0) hU (Nat.le_trans hN e0.size) (hx.ext e0) hnb hNx (hl.ext e0) hn (by omega) hI (by omega) (by omega) (fun t u L kt ku hL => ?_) (fun t u L pt pu w2 R' G2 hs2 x2 ht hu kt ku hLl hR => ?_) fun w2 g2 hs2 hd2 hx2 => retS_ret ⟨_, _, rfl, ?_⟩)
  · obtain ⟨M', hM', hm2, _⟩ := keyT_union ho kt ku
    have : M' = M := keys_ext hM'.asc hM.asc fun k => by rw [hm2, hm', hL]
    rw [← this]; exact hM'
  · have y2 := h0.gd G2 n5
    refine do_callc Tryz.call145 (by rfl) (sh145_ok _ _ _ ?_)
    unfold sh145
    have d := ext_drew w2
    have r {w' : World} (x : Blk w' bx (setV b o p pt) 174) (i : Nat) (v : Value) (hv : (setV b o p pt)[i]? = some v) : World.cell? w' (((blk bx).add 0).add i) = some v := by rw [add_zero']; exact x.cell (i := i) (add_blk _ _) hv
    refine ⟨⟨fun w' => Blk w' b5 #[.pointer (some (blk bx))] 85 ∧ Blk w' bx (setV b o p pt) 174, ⟨y2.ext d, x2.ext d⟩, _, fun w' e => e.1.cell (i := 0) rfl rfl, _, rfl, _, fun w' e => r e.2 0 _ rfl, _, fun w' e => e.1.cell (i := 0) rfl rfl, _, rfl, _, fun w' e => r e.2 1 _ rfl, ?_⟩⟩
    have z1 := kt.len
    have z2 := ku.len
    refine do_call Tryz.call86 (c_union ho (by decide) (hs2.ext d) (ht.ext d) (hu.ext d) kt.ok.ok.1 ku.ok.ok kt.ok.k ku.ok.k ku.ok.asc (by simp only [BIG]; omega) fun q w3 g3 hs3 h3 => retS_ret ⟨_, _, rfl, ⟨(y2.ext d).gs g3 (hs2.ne y2 (by decide)), (x2.ext d).gs g3 (hs2.ne x2 (by decide))⟩, hR q w3 ((gs_of d).trans g3) hs3 h3⟩)
  · rw [maxA (by omega)]
    exact h M w2 ((gd_of e0).trans g2) hs2 hd2 hx2 hm' (by omega)
theorem c_sdrop (ho : isO o = true) (hs : IsSch c b w) (hd : IsD p D ds w) (hU : InU ds) (hN : topD D ≤ w.heap.size) (hx : SetU c o b p bx K w) (hnb : bx ∉ b :: blksD D) (hNx : topD D ≤ bx)
    (hl : Cs w q (ints keys)) (hn : keys.length = n) (hB : n ≤ 100000) (hI : ∀ k ∈ keys, In k) (hz : K.length ≤ 100000)
    (h : ∀ M w', Gd (bx :: b :: blksD D) w w' → IsSch c b w' → (∃ r, IsD p D r w' ∧ InU r) → SetU c o b p bx M w' → (∀ k, k ∈ M ↔ k ∈ K ∧ k ∉ keys) → M.length ≤ K.length → R (.returned (.tuple #[.int .i64 ((K.length : Int) - M.length), .int .i64 0])) w') :
    Calls Tryz.prog 75 #[.pointer (some (blk bx)), .slice q n cp] w R := by
  refine sh75_ok _ _ _ _ ?_
  unfold sh75
  refine ⟨?_⟩
  have e0 := ext_alloc w (.cells #[.pointer (some (blk bx))] 85)
  have h0 := blk_alloc w #[.pointer (some (blk bx))] 85
  have hslt := hs.lt
  have hDlt := hd.lt
  obtain ⟨b5, hb5⟩ : ∃ b5, b5 = w.heap.size := ⟨_, rfl⟩
  rw [← hb5] at h0 ⊢
  generalize w.alloc (.cells #[.pointer (some (blk bx))] 85) = w1 at *
  have n5 : b5 ∉ b :: blksD D := fun hk => by
    rcases List.mem_cons.1 hk with e | hk
    · omega
    · have := (hDlt _ hk).1; omega
  refine ⟨_, h0.cell (i := 0) rfl rfl, ?_⟩
  obtain ⟨t0, _, _, _, k0⟩ := hx.ex
  obtain ⟨L0, hL0, hLm0, hLl0⟩ := keyT_build (ds := ds) hs.1 ho hI hU
  obtain ⟨M, hM, hm, hlen⟩ := keyT_less ho k0 hL0
  have hm' : ∀ k, k ∈ M ↔ k ∈ K ∧ k ∉ keys := fun k => (hm k).trans (and_congr Iff.rfl (not_congr (hLm0 k)))
  refine do_call Tryz.call144 (c_swith (lessC c o) M ho (hs.ext e0) (hd.ext e0) hU (Nat.le_trans hN e0.size) (hx.ext e0) hnb hNx (hl.ext e0) hn (by omega) hI (by omega) (by omega) (fun t u L kt ku hL => ?_) (fun t u L pt pu w2 R' G2 hs2 x2 ht hu kt ku hLl hR => ?_) fun w2 g2 hs2 hd2 hx2 => retS_ret ⟨_, _, rfl, ?_⟩)
  · obtain ⟨M', hM', hm2, _⟩ := keyT_less ho kt ku
    have : M' = M := keys_ext hM'.asc hM.asc fun k => by rw [hm2, hm', hL]
    rw [← this]; exact hM'
  · have y2 := h0.gd G2 n5
    refine do_callc Tryz.call146 (by rfl) (sh146_ok _ _ _ ?_)
    unfold sh146
    have d := ext_drew w2
    have r {w' : World} (x : Blk w' bx (setV b o p pt) 174) (i : Nat) (v : Value) (hv : (setV b o p pt)[i]? = some v) : World.cell? w' (((blk bx).add 0).add i) = some v := by rw [add_zero']; exact x.cell (i := i) (add_blk _ _) hv
    refine ⟨⟨fun w' => Blk w' b5 #[.pointer (some (blk bx))] 85 ∧ Blk w' bx (setV b o p pt) 174, ⟨y2.ext d, x2.ext d⟩, _, fun w' e => e.1.cell (i := 0) rfl rfl, _, rfl, _, fun w' e => r e.2 0 _ rfl, _, fun w' e => e.1.cell (i := 0) rfl rfl, _, rfl, _, fun w' e => r e.2 1 _ rfl, ?_⟩⟩
    have z1 := kt.len
    have z2 := ku.len
    refine do_call Tryz.call88 (c_less ho (hs2.ext d) (ht.ext d) (hu.ext d) kt.ok ku.ok (by simp only [BIG]; omega) fun q w3 g3 hs3 h3 => retS_ret ⟨_, _, rfl, ⟨(y2.ext d).gs g3 (hs2.ne y2 (by decide)), (x2.ext d).gs g3 (hs2.ne x2 (by decide))⟩, hR q w3 ((gs_of d).trans g3) hs3 h3⟩)
  · rw [maxB' (by omega)]
    exact h M w2 ((gd_of e0).trans g2) hs2 hd2 hx2 hm' (by omega)
theorem c_sat {i : Int} (hx : SetU c o b p bx K w) (hz : K.length ≤ 1000000) (h : ∀ w', Ext w w' → R (.returned (.tuple #[.int .i64 (if 0 ≤ i ∧ i < (K.length : Int) then K.getD i.toNat 0 else 0), .int .i64 (if 0 ≤ i ∧ i < (K.length : Int) then 0 else 320)])) w') : Calls Tryz.prog 77 #[.pointer (some (blk bx)), .int .i64 i] w R := by
  refine sh77_ok _ _ ?_
  unfold sh77
  obtain ⟨t, pt, x1, x2, x3⟩ := hx.ex
  refine ifB_f rfl ⟨_, rfl, _, x1.cell (i := 3) (add_blk _ _) rfl, ?_⟩
  have z := x3.len
  refine do_call Tryz.call148 (c_select x2 (by omega) fun w1 e1 => retS_ret ⟨_, _, _, rfl, ⟨?_⟩⟩)
  have e2 := ext_alloc w1 (.cells #[.int .i64 0, .int .i64 0] 46)
  refine do_st (blk_alloc w1 #[.int .i64 0, .int .i64 0] 46) (i := 0) (add_blk _ _) (by simp) fun w2 h2 g2 => ?_
  have h2 : Blk w2 w1.heap.size #[.int .i64 (selR t i).1, .int .i64 0] 46 := h2
  refine do_st h2 (i := 1) (add_blk _ _) (by simp) fun w3 h3 g3 => ?_
  have h3 : Blk w3 w1.heap.size #[.int .i64 (selR t i).1, .int .i64 (selR t i).2] 46 := h3
  refine ⟨_, h3.cell (i := 0) (add_blk _ _) rfl, ?_⟩
  have E := (e1.trans e2).st (grown_trans g2 g3) e1.size
  have e : (selR t i).1 = if 0 ≤ i ∧ i < (K.length : Int) then K.getD i.toNat 0 else 0 := by
    unfold selR
    rw [z]
    by_cases hi : 0 ≤ i ∧ i < (K.length : Int)
    · rw [if_pos hi, if_pos hi, ← x3.prs]
      rw [List.getD_eq_getElem?_getD, List.getD_eq_getElem?_getD, List.getElem?_map]
      cases t.pairs[i.toNat]? <;> rfl
    · rw [if_neg hi, if_neg hi]
  have := h _ E
  rw [← e] at this
  unfold selE
  rw [z]
  exact this
end
theorem c_alive40 {w : World} {R : Ending → World → Prop} (h : ∀ w', Ext w w' → R (.returned (.bool true)) w') : Calls Tryz.prog 62 #[] w R := by
  refine sh62_ok ?_
  unfold sh62
  refine do_call Tryz.call15 (c_l22of (fun h0 => by cases h0) fun hsc b w1 e1 hbw hs1 => retS_ret ⟨_, _, rfl, ifB_f rfl ⟨?_⟩⟩)
  have hb : w.heap.size ≤ b := by omega
  have hS : ∀ k ∈ (b :: blksD none), w.heap.size ≤ k := fun k hk => by simp [blksD] at hk; omega
  have nU : InU [] := fun x hx => by cases hx
  have i1 : ∀ k ∈ [(1 : Int), 3, 2, 3], In k := fun k hk => by
    simp at hk
    rcases hk with rfl | rfl | rfl | rfl <;> exact ⟨by decide, by decide⟩
  have i2 : ∀ k ∈ [(2 : Int), 5, 5], In k := fun k hk => by
    simp at hk
    rcases hk with rfl | rfl <;> exact ⟨by decide, by decide⟩
  have i3 : ∀ k ∈ [(1 : Int), 7], In k := fun k hk => by
    simp at hk
    rcases hk with rfl | rfl <;> exact ⟨by decide, by decide⟩
  have e2 := ext_alloc w1 (.cells #[.int .i64 1, .int .i64 3, .int .i64 2, .int .i64 3] 2)
  have c2 : Cs (w1.alloc (.cells #[.int .i64 1, .int .i64 3, .int .i64 2, .int .i64 3] 2)) (some (blk w1.heap.size)) (ints [1, 3, 2, 3]) := cs_alloc w1 _ _
  generalize w1.alloc (.cells #[.int .i64 1, .int .i64 3, .int .i64 2, .int .i64 3] 2) = w2 at *
  refine do_call Tryz.call63 (c_setnew (by decide) (hs1.ext e2) (isD_nil _) nU (Nat.zero_le _) c2 rfl (by omega) i1 fun bx K w3 g3 hs3 _ hbx hx hm hlen => retS_ret ⟨_, _, rfl, ?_⟩)
  have E3 := Ext.gd (e1.trans e2) g3 hS
  have hK : K = [3, 2, 1] := keys_ext hx.asc (by decide) fun k => by rw [hm]; simp; omega
  subst hK
  intro K13
  refine ifB_f rfl (ifB_f rfl ?_)
  refine do_call Tryz.call76 (c_skeys hx (by decide) fun q4 n4 c4 w4 e4 o4 => retS_ret ⟨_, _, _, rfl, ⟨?_⟩⟩)
  have e5 := ext_alloc w4 (.cells #[.int .i64 3, .int .i64 2, .int .i64 1] 2)
  have c5 : Cs (w4.alloc (.cells #[.int .i64 3, .int .i64 2, .int .i64 1] 2)) (some (blk w4.heap.size)) (ints [3, 2, 1]) := cs_alloc w4 _ _
  have n4' : n4 = 3 := (ownK_len o4).symm
  refine do_call Tryz.call61 (c_samekeys ((Cs.of_row o4).ext e5) (ownK_len o4) c5 rfl (by omega) fun w6 e6 => retS_ret ⟨_, rfl, ?_⟩)
  have e46 := (e4.trans e5).trans e6
  rw [decide_eq_true rfl]
  simp -zeta -zetaHave only [K13]
  refine ifB_f rfl ⟨?_⟩
  have E6 := E3.trans e46
  have hbx' : bx ∉ b :: blksD none := by
    obtain ⟨_, _, x1, _⟩ := hx.ex
    have := hs3.ne x1 (by decide)
    simp [blksD, this]
  have hS' : ∀ k ∈ (bx :: b :: blksD none), w.heap.size ≤ k := fun k hk => by
    rcases List.mem_cons.1 hk with rfl | hk
    · have := (e1.trans e2).size; omega
    · exact hS k hk
  have e7 := ext_alloc w6 (.cells #[.int .i64 2, .int .i64 5, .int .i64 5] 2)
  have c7 : Cs (w6.alloc (.cells #[.int .i64 2, .int .i64 5, .int .i64 5] 2)) (some (blk w6.heap.size)) (ints [2, 5, 5]) := cs_alloc w6 _ _
  generalize w6.alloc (.cells #[.int .i64 2, .int .i64 5, .int .i64 5] 2) = w7 at *
  have e37 := e46.trans e7
  refine do_call Tryz.call74 (c_sadd (by decide) (hs3.ext e37) (isD_nil _) nU (Nat.zero_le _) (hx.ext e37) hbx' (Nat.zero_le _) c7 rfl (by omega) i2 (by decide) fun M w8 g8 hs8 _ hx8 hm8 _ => retS_ret ⟨_, _, rfl, ⟨?_⟩⟩)
  have E8 := Ext.gd (E6.trans e7) g8 hS'
  have hM : M = [5, 3, 2, 1] := keys_ext hx8.asc (by decide) fun k => by rw [hm8]; simp; omega
  subst hM
  have e9 := ext_alloc w8 (.cells #[.int .i64 1, .int .i64 7] 2)
  have c9 : Cs (w8.alloc (.cells #[.int .i64 1, .int .i64 7] 2)) (some (blk w8.heap.size)) (ints [1, 7]) := cs_alloc w8 _ _
  generalize w8.alloc (.cells #[.int .i64 1, .int .i64 7] 2) = w9 at *
  refine do_call Tryz.call75 (c_sdrop (by decide) (hs8.ext e9) (isD_nil _) nU (Nat.zero_le _) (hx8.ext e9) hbx' (Nat.zero_le _) c9 rfl (by omega) i3 (by decide) fun M w10 g10 hs10 _ hx10 hm10 _ => retS_ret ⟨_, _, rfl, ?_⟩)
  have E10 := Ext.gd (E8.trans e9) g10 hS'
  have hM : M = [5, 3, 2] := keys_ext hx10.asc (by decide) fun k => by rw [hm10]; simp; omega
  subst hM
  refine do_call Tryz.call77 (c_sat hx10 (by decide) fun w11 e11 => retS_ret ⟨_, _, rfl, ?_⟩)
  intro K32
  refine ifB_t rfl (ifB_t rfl (ifB_t rfl (ifB_t rfl (ifB_t rfl (ifB_t rfl ?_)))))
  refine do_call Tryz.call72 (c_slen (hx10.ext e11) fun w12 e12 => retS_ret ⟨_, rfl, h _ ((E10.trans e11).trans e12)⟩)
end Go.Proofs.YtlddfgfmkapoiaaGreat

