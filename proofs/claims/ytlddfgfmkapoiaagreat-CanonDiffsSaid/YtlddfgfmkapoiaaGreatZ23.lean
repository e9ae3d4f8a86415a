/-
  set: what a set is changed to, and which key is at a place; the chapter's example.
-/
/-
  The document's answer of layer 40; has a set just these keys?
-/
/-
  canon.Diff of two canonical trees; the chapter's examples.
-/
/-
  The document's canonical tree; the chapter's examples.
-/
/-
  What is done with canonical trees, in plain: they stay canonical.
-/
/-
  sound.Check of any tree: nothing is wrong if, and only if, its keys rise.
-/
/-
  treap.Check of any tree; is a tree canonical?
-/
import Derived.Test.YtlddfgfmkapoiaaGreatZ22
import Derived.Test.YtlddfgfmkapoiaaGreatZ19

namespace Go.Proofs.YtlddfgfmkapoiaaGreat
open Go Go.Sh Go.RowKit

/-! ### one set, changed -/
section
variable {c o : Int} {b bx : Nat} {p : Option Addr} {D : Option (Nat × Nat × Nat × Nat)} {ds keys K : List Int} {q : Option Addr} {n cp : Nat} {w : World} {R : Ending → World → Prop}
end
end Go.Proofs.YtlddfgfmkapoiaaGreat

namespace Go.Proofs.YtlddfgfmkapoiaaGreat
open Go Go.Sh Go.RowKit

/-! ### rows of keys -/
/-- append of any row to a row of one's own -/
theorem do_appK {q : Option Addr} {n c base : Nat} {r : List Int} {w : World} (hrow : OwnK w base q n c r) {q2 : Option Addr} {m c2 : Nat} {s : List Int} (hs : Cs w q2 (ints s)) (hm : s.length = m) (hb : n + m ≤ 1000000000000) (hbase : base ≤ w.heap.size)
    {bs : Array Bool} {R : Ending → World → Prop}
    (h : ∀ p c' w', OwnK w' base p (n + m) c' (r ++ s) → (∀ w0, Ext w0 w → w0.heap.size ≤ base → Ext w0 w') → R (.returned (.slice p (n + m) c')) w') :
    doGo Tryz.prog (.builtin .append #[24, 24] 24 bs) #[.slice q n c, .slice q2 m c2] w R :=
  do_app elI hrow hs (by simp [ints, hm]) (fun u hu => by obtain ⟨x, _, rfl⟩ := List.mem_map.1 hu; rfl) (by simp only [maxLen]; omega) (by omega) hbase fun p c' w' h2 g2 => h p c' w' (by
    show w'.ownsRow _ _ _ _ _ (ints _)
    unfold ints at h2 ⊢
    rw [List.map_append]; exact h2) fun w0 e0 hb0 => e0.grown g2 fun k hk => Nat.le_trans hb0 (World.ownsRow.lt hrow k hk).1
theorem ownK_nil (w : World) (base : Nat) : OwnK w base none 0 0 [] := World.ownsRow_nil _ _ _ _
/-- a row of keys that is read alone -/
structure RK (w : World) (q : Option Addr) (n c : Nat) (L : List Int) : Prop where
  cs : Cs w q (ints L)
  len : L.length = n
  cap : n ≤ c
  bl : ∀ a, q = some a → ∃ cs, Blk w a.block cs 2
theorem RK.ext {w w' : World} {q : Option Addr} {n c : Nat} {L : List Int} (h : RK w q n c L) (e : Ext w w') : RK w' q n c L := ⟨h.cs.ext e, h.len, h.cap, fun a ha => (h.bl a ha).imp fun _ hb => hb.ext e⟩
theorem ownK_rk {w : World} {base n c : Nat} {p : Option Addr} {l : List Int} (h : OwnK w base p n c l) : RK w p n c l := ⟨Cs.of_row h, ownK_len h, row_cap h, fun a ha => by
  rcases h.2 with q | ⟨b, cap, cur, hv, hbb, hblk, rest⟩
  · have := q.1
    subst ha
    cases this
  · have := congrArg Value.ownBlock hv
    subst ha
    injection this with this
    rw [this]
    exact ⟨_, hblk⟩⟩
/-! ### has a set just these keys? -/
theorem prs_of_its {c : Int} (t : Tr) : t.pairs = (itsC c t).map fun x => (x.1, x.2.1) := by
  rw [items_pairs]
  unfold itsC
  rw [List.map_map]
  exact List.map_congr_left fun x _ => by show _ = ((itC c x).1, (itC c x).2.1); rw [itC_key, itC_val]
section
variable {c o : Int} {b bx : Nat} {px : Option Addr} {K : List Int} {w : World} {R : Ending → World → Prop}
theorem KeyT.inP {t : Tr} (h : KeyT c o t K) : InP t.pairs := fun x hx => by
  obtain ⟨y, hy, e⟩ : ∃ y ∈ itsC c t, (y.1, y.2.1) = x := by
    have : t.pairs = (itsC c t).map fun x => (x.1, x.2.1) := prs_of_its t
    rw [this] at hx
    exact List.mem_map.1 hx
  have h0 := h.val y hy
  rw [← e]
  exact ⟨h.inI y hy, by show In y.2.1; rw [h0]; exact ⟨by decide, by decide⟩⟩
theorem KeyT.zero {t : Tr} (h : KeyT c o t K) : ∀ x ∈ t.pairs, x.2 = 0 := fun x hx => by
  have : t.pairs = (itsC c t).map fun x => (x.1, x.2.1) := prs_of_its t
  rw [this] at hx
  obtain ⟨y, hy, rfl⟩ := List.mem_map.1 hx
  exact h.val y hy
end
end Go.Proofs.YtlddfgfmkapoiaaGreat

namespace Go.Proofs.YtlddfgfmkapoiaaGreat
open Go Go.Sh Go.RowKit

theorem c_unlike {s pa pb : Option Addr} {o : Int} {w : World} {R : Ending → World → Prop}
    (h : ∀ b5 b7 b9 b11 w', Ext w w' → w.heap.size ≤ b5 → w.heap.size ≤ b7 → w.heap.size ≤ b9 → w.heap.size ≤ b11 → Blk w' b5 #[.pointer s] 25 → Blk w' b7 #[.int .u8 o] 5 → Blk w' b9 #[.pointer pa] 35 → Blk w' b11 #[.pointer pb] 35 →
      R (.returned (.func (.func 201) #[] #[.pointer (some (blk b5)), .pointer (some (blk b7)), .pointer (some (blk b9)), .pointer (some (blk b11))])) w') : Calls Tryz.prog 133 #[.pointer s, .int .u8 o, .pointer pa, .pointer pb] w R := by
  refine sh133_ok _ _ _ _ ?_
  unfold sh133
  refine ⟨⟨⟨⟨?_⟩⟩⟩⟩
  have e0 := ext_alloc w (.cells #[.pointer s] 25)
  have h0 := blk_alloc w #[.pointer s] 25
  generalize w.alloc (.cells #[.pointer s] 25) = w1 at *
  have e1 := ext_alloc w1 (.cells #[.int .u8 o] 5)
  have h1 := blk_alloc w1 #[.int .u8 o] 5
  have s0 := e0.size
  generalize hw2 : w1.alloc (.cells #[.int .u8 o] 5) = w2 at *
  have e2 := ext_alloc w2 (.cells #[.pointer pa] 35)
  have h2 := blk_alloc w2 #[.pointer pa] 35
  have s1 := e1.size
  generalize hw3 : w2.alloc (.cells #[.pointer pa] 35) = w3 at *
  have e3 := ext_alloc w3 (.cells #[.pointer pb] 35)
  have h3 := blk_alloc w3 #[.pointer pb] 35
  have s2 := e2.size
  exact h _ _ _ _ _ (((e0.trans e1).trans e2).trans e3) (Nat.le_refl _) (by omega) (by omega) (by omega) (((h0.ext e1).ext e2).ext e3) ((h1.ext e2).ext e3) (h2.ext e3) h3
/-- the state of a going over two trees, behind some keys -/
structure DfK (S : List Nat) (W1 : World) (bs b4 d : Nat) (L : Loop) (l : List Int) (w : World) : Prop where
  gd : Gd S W1 w
  sch : IsSch 4 bs w
  l0 : w.heap[d + 1]? = some (.loop L)
  row : ∃ qq nn cc, Blk w b4 #[.slice qq nn cc] 24 ∧ OwnK w W1.heap.size qq nn cc l
set_option maxRecDepth 20000 in
set_option maxHeartbeats 1000000 in
theorem c_cdiff {o : Int} {a b : Tr} {pa pb : Option Addr} {w : World} {R : Ending → World → Prop} (ho : isO o = true) (ha : IsN w pa a) (hb : IsN w pb b) (ca : Can o a) (cb : Can o b) (za : a.size ≤ 100000) (zb : b.size ≤ 100000)
    (h : ∀ q n c w', Ext w w' → OwnK w' w.heap.size q n c (difT o a b.pairs) → R (.returned (.tuple #[.slice q n c, .int .i64 0])) w') : Calls Tryz.prog 58 #[.int .u8 o, .pointer pa, .pointer pb] w R := by
  refine sh58_ok _ _ _ ?_
  unfold sh58
  refine ⟨?_⟩
  have e1 := ext_alloc w (.cells #[.slice none 0 0] 24)
  have h1 := blk_alloc w #[.slice none 0 0] 24
  have l4 := h1.lt
  obtain ⟨b4, hb4⟩ : ∃ b4, b4 = w.heap.size := ⟨_, rfl⟩
  rw [← hb4] at h1 l4 ⊢
  generalize w.alloc (.cells #[.slice none 0 0] 24) = w1 at *
  refine do_call Tryz.call92 (c_schOf (fun hc => by cases hc) fun _ bs w2 e2 hbs hs2 => retS_ret ⟨_, _, rfl, ?_⟩)
  intro K22 K55
  refine ifB_f rfl ?_
  have E2 := e1.trans e2
  refine do_call Tryz.call51 (c_cis_yes ho (ha.ext E2) ca (by omega) fun w3 e3 => retS_ret ⟨_, rfl, ifB_f rfl ?_⟩)
  refine do_call Tryz.call51 (c_cis_yes ho (hb.ext (E2.trans e3)) cb (by omega) fun w4 e4 => retS_ret ⟨_, rfl, ?_⟩)
  simp -zeta -zetaHave only [K55]
  refine ifB_f rfl ?_
  simp -zeta -zetaHave only [K22]
  have e24 := e3.trans e4
  have E4 := E2.trans e24
  refine do_call Tryz.call133 (c_unlike fun b5 b7 b9 b11 w5 e5 z5 z7 z9 z11 k5 k7 k9 k11 => retS_ret ⟨_, _, _, rfl, do_rf fun fn L w6 d hdd hL hst hpe e6 hd6 hl6 => ?_⟩)
  rw [← hdd]
  have m6 : d + 1 < w6.heap.size := (Array.getElem?_eq_some_iff.1 hl6).1
  have s24 := e24.size
  have s2 := hs2.lt
  have m5 := k5.lt
  have m7 := k7.lt
  have m9 := k9.lt
  have m11 := k11.lt
  refine callE_c Tryz.call201 (by rfl) (sh201_ok _ _ _ _ _ _ _ ?_)
  unfold sh201
  refine ⟨⟨?_⟩⟩
  have e7 := ext_alloc w6 (.cells #[.func (.yield (d + 1)) #[] #[]] 103)
  have h7 := blk_alloc w6 #[.func (.yield (d + 1)) #[] #[]] 103
  have m8 := h7.lt
  obtain ⟨b8, hb8⟩ : ∃ b8, b8 = w6.heap.size := ⟨_, rfl⟩
  rw [← hb8] at h7 m8 ⊢
  generalize w6.alloc (.cells #[.func (.yield (d + 1)) #[] #[]] 103) = w7 at *
  have e8 := ext_alloc w7 (.cells #[.nilFunc] 74)
  refine do_st (blk_alloc w7 _ _) (i := 0) (add_blk _ _) (by simp) fun W1 h10 g10 => ?_
  obtain ⟨b10, hb10⟩ : ∃ b10, b10 = w7.heap.size := ⟨_, rfl⟩
  rw [← hb10] at h10 g10 ⊢
  have h10 : Blk W1 b10 #[onD b10 b8 b5 b7] 74 := h10
  have e10 : Ext w7 W1 := e8.st g10 (by omega)
  have m10 := h10.lt
  have E6 := e7.trans e10
  have E5 := e6.trans E6
  have E24 := (e24.trans e5).trans E5
  have EW := E2.trans E24
  refine ⟨_, _, _, h10.cell (i := 0) rfl rfl, _, (k9.ext E5).cell (i := 0) rfl rfl, _, (k11.ext E5).cell (i := 0) rfl rfl, ?_⟩
  have hS : ∀ k ∈ [bs, b4, d + 1], k = bs ∨ k = b4 ∨ k = d + 1 := fun k hk => by simpa using hk
  have nS : ∀ {k : Nat}, k ≠ bs → k ≠ b4 → k ≠ d + 1 → k ∉ [bs, b4, d + 1] := fun a b c hm => by
    rcases hS _ hm with h | h | h
    · exact a h
    · exact b h
    · exact c h
  have n4 : b4 ≠ bs := by omega
  have dbs : d + 1 ≠ bs := by omega
  have J0 : DfK [bs, b4, d + 1] W1 bs b4 d L [] W1 := ⟨gd_refl _ _, hs2.ext E24, E6.heap hl6, none, 0, 0, (h1.ext e2).ext E24, World.ownsRow_nil _ _ _ _⟩
  have lW : bs < W1.heap.size ∧ b4 < W1.heap.size ∧ d + 1 < W1.heap.size := ⟨by have := E24.size; omega, by have := EW.size; have := ((h1.ext e2).ext E24).lt; omega, by have := E6.size; omega⟩
  have Y : YD [bs, b4, d + 1] b10 b8 b5 b7 bs 1000000 (.yield (d + 1)) #[] #[] (fun l w' => DfK [bs, b4, d + 1] W1 bs b4 d L l w') := by
    refine ⟨fun _ _ q => q.sch, by simp, fun l w w' q e => ?_, fun l w w' q g hs => ?_, fun l w q k hk => ?_, fun l w q k hk => ?_, ?_, nS (by omega) (by omega) (by omega), nS (by omega) (by omega) (by omega), nS (by omega) (by omega) (by omega), nS (by omega) (by omega) (by omega)⟩
    · obtain ⟨q1, q2, q3, qq, nn, cc, q4, q5⟩ := q
      exact ⟨q1.trans (gd_of e), q2.ext e, e.heap q3, qq, nn, cc, q4.ext e, e.row q5⟩
    · obtain ⟨q1, q2, q3, qq, nn, cc, q4, q5⟩ := q
      have G := gd_gs (S := [bs]) g (by simp)
      exact ⟨q1.trans (G.mono fun k hk => by simp at hk; simp [hk]), hs, heap_gd q3 G (by simpa using dbs), qq, nn, cc, q4.gd G (by simpa using n4), row_gd q5 G (by simp; omega)⟩
    · obtain ⟨q1, q2, q3, qq, nn, cc, q4, q5⟩ := q
      rcases hS k hk with rfl | rfl | rfl
      · exact q2.oth
      · exact oth_blk q4 (by decide)
      · intro cs hb; unfold Blk at hb; rw [q3] at hb; cases hb
    · have := q.gd.size
      rcases hS k hk with rfl | rfl | rfl <;> omega
    · -- a key that is told
      intro l w7 k R' J7 hlen hR
      obtain ⟨G7, s7, q0, qq, nn, cc, hB7, hO7⟩ := J7
      refine sh58_0_ok (by rw [q0, hL]) ?_
      unfold sh58_0
      refine ⟨_, q0, hst, ?_⟩
      have G8 := gd_one (put_grown w7 (d + 1) (.loop { L with state := .busy }))
      have p0 := put_heap (o' := .loop { L with state := .busy }) q0
      have pB := hB7.gd G8 (by simp; omega)
      have ps := s7.gd G8 (by simpa using Ne.symm dbs)
      have l17 := G7.size
      have pO : OwnK (w7.putObj (d + 1) (.loop { L with state := .busy })) W1.heap.size qq nn cc l := row_gd hO7 G8 (by simp; omega)
      have H8 : Gk [bs, b4, d + 1] w7 (w7.putObj (d + 1) (.loop { L with state := .busy })) := gk_gd G8 (fun k hk => by simp at hk; simp [hk])
      have G18 : Gd [bs, b4, d + 1] W1 (w7.putObj (d + 1) (.loop { L with state := .busy })) := G7.trans (G8.mono fun k hk => by simp at hk; simp [hk])
      generalize w7.putObj (d + 1) (.loop { L with state := .busy }) = w8 at *
      have lx := G18.size
      refine ⟨_, _, _, pB.cell (i := 0) rfl rfl, ⟨?_⟩⟩
      have e11 := ext_alloc w8 (.cells #[.int .i64 k] 2)
      have o11 : OwnK (w8.alloc (.cells #[.int .i64 k] 2)) W1.heap.size qq nn cc l := e11.row pO
      have hnn : l.length = nn := ownK_len o11
      refine do_app elI o11 (m := 1) (cs_alloc w8 _ _) (by simp) (by simp [Value.oneCell']) (by simp only [maxLen]; omega) (by omega) (Nat.le_trans lx e11.size) fun q12 c12 w12 o12 g12 => retS_ret ⟨_, _, _, rfl, ?_⟩
      have G12 := gd_row g12
      have hown : ∀ k ∈ (Value.slice qq nn cc).ownBlock.toList, W1.heap.size ≤ k := fun k hk => (World.ownsRow.lt o11 k (by simpa using hk)).1
      have nO : ∀ k, k < W1.heap.size → k ∉ (Value.slice qq nn cc).ownBlock.toList := fun k hk hm => by have := hown k hm; omega
      have tB := (pB.ext e11).gd G12 (nO _ (by omega))
      have ts := (ps.ext e11).gd G12 (nO _ (by omega))
      have t0 := heap_gd (e11.heap p0) G12 (nO _ (by omega))
      have G13 : Gd [bs, b4, d + 1] W1 w12 := (G18.trans (gd_of e11)).over G12 fun k hk => .inr (hown k hk)
      have H13 : Gk [bs, b4, d + 1] w7 w12 := (H8.trans (gk_of e11)).trans (gk_row o11 g12)
      refine do_st tB (i := 0) (add_blk _ _) (by simp) fun w14 uB g14 => ?_
      have uB : Blk w14 b4 #[.slice q12 (nn + 1) c12] 24 := uB
      have G14 := gd_one g14
      have u0 := heap_gd t0 G14 (by simp; omega)
      have us := ts.gd G14 (by simpa using Ne.symm n4)
      have uO := row_gd o12 G14 (by simp; omega)
      refine ⟨_, u0, ?_⟩
      rw [rec_back hst hpe]
      have G15 := gd_one (put_grown w14 (d + 1) (.loop L))
      have v0 := put_heap (o' := .loop L) u0
      have vB := uB.gd G15 (by simp; omega)
      have vs := us.gd G15 (by simpa using Ne.symm dbs)
      have vO := row_gd uO G15 (by simp; omega)
      have G16 : Gd [bs, b4, d + 1] W1 (w14.putObj (d + 1) (.loop L)) := (G13.trans (G14.mono fun k hk => by simp at hk; simp [hk])).trans (G15.mono fun k hk => by simp at hk; simp [hk])
      have H16 : Gk [bs, b4, d + 1] w7 (w14.putObj (d + 1) (.loop L)) := (H13.trans (gk_gd G14 fun k hk => by simp at hk; simp [hk])).trans (gk_gd G15 fun k hk => by simp at hk; simp [hk])
      refine hR _ ⟨G16, vs, v0, q12, nn + 1, c12, vB, ?_⟩ H16
      unfold OwnK ints at *; rw [List.map_append]; exact vO
  have HD1 : HD b10 b8 b5 b7 bs o (.yield (d + 1)) #[] #[] W1 := ⟨h10, h7.ext e10, k5.ext E5, k7.ext E5⟩
  have aA : (a.pairs.map (·.1)).Pairwise (ltO o) := by rw [pairs_its (c := 4)]; exact ca.u.asc
  have iA : ∀ x ∈ a.pairs, In x.1 := fun x hx => by
    rw [prs_itsC (c := 4)] at hx
    obtain ⟨y, hy, rfl⟩ := List.mem_map.1 hx
    exact (inK_its (c := 4)).1 ca.u.k y hy
  refine do_onD ho Y a b (L := []) HD1 (ha.ext EW) (hb.ext EW) cb.u iA aA J0 (by simp only [List.length_nil]; omega) (by simp only [BIG]; omega) fun w9 J9 _ => ?_
  refine retS_ret ⟨_, rfl, ?_⟩
  obtain ⟨G9, _, q0, qq, nn, cc, hB9, hO9⟩ := J9
  simp only [List.nil_append] at hO9
  refine rf_done q0 (by rw [hst]; simp) hpe fun o1 => ?_
  have l9 := G9.size
  have G10 := gd_one (put_grown w9 (d + 1) o1)
  have pB := hB9.gd G10 (by simp; omega)
  have pO := row_gd hO9 G10 (by simp; omega)
  have pd := heap_gd (heap_gd (E6.heap hd6) G9 (nS (by omega) (by omega) (by omega))) G10 (by simp)
  have H10 : Gd [bs, b4, d + 1] W1 (w9.putObj (d + 1) o1) := G9.trans (G10.mono fun k hk => by simp at hk; simp [hk])
  generalize w9.putObj (d + 1) o1 = w10 at *
  refine ⟨_, _, _, pB.cell (i := 0) rfl rfl, ?_⟩
  refine do_st pB (i := 0) (add_blk _ _) (by simp) fun w11 uB g11 => ?_
  have uB : Blk w11 b4 #[.slice qq nn cc] 24 := uB
  have G11 := gd_one g11
  have l10 := H10.size
  have uO := row_gd pO G11 (by simp; omega)
  have ud := heap_gd pd G11 (by simp; omega)
  have X10 : Ext w w10 := Ext.gd EW H10 fun k hk => by
    rcases hS k hk with rfl | rfl | rfl
    · have := e1.size; omega
    · omega
    · have := E4.size; have := e5.size; omega
  have X11 : Ext w w11 := X10.st g11 (by omega)
  refine ⟨ud, ?_⟩
  have G12 := gd_one (put_grown w11 d (.deferred none))
  have vB := uB.gd G12 (by simp; omega)
  have vO := row_gd uO G12 (by simp; omega)
  have X12 : Ext w (w11.putObj d (.deferred none)) := X11.put (by have := E4.size; have := e5.size; omega) _
  exact ⟨_, _, _, vB.cell (i := 0) rfl rfl, h _ _ _ _ X12 (row_mono vO (by have := EW.size; omega))⟩
end Go.Proofs.YtlddfgfmkapoiaaGreat

namespace Go.Proofs.YtlddfgfmkapoiaaGreat
open Go Go.Sh Go.RowKit

set_option maxRecDepth 20000 in
theorem c_alive41 {w : World} {R : Ending → World → Prop} (h : ∀ w', Ext w w' → R (.returned (.bool true)) w') : Calls Tryz.prog 48 #[] w R := by
  refine sh48_ok ?_
  unfold sh48
  refine ⟨?_⟩
  have iA : InP [((1 : Int), (10 : Int)), (2, 20)] := fun x hx => by
    simp at hx
    rcases hx with rfl | rfl <;> exact ⟨⟨by decide, by decide⟩, ⟨by decide, by decide⟩⟩
  have iB : InP [((3 : Int), (30 : Int)), (2, 21)] := fun x hx => by
    simp at hx
    rcases hx with rfl | rfl <;> exact ⟨⟨by decide, by decide⟩, ⟨by decide, by decide⟩⟩
  have sA : sortL 1 3 [((1 : Int), (10 : Int)), (2, 20)] = [(1, 10), (2, 20)] := by decide +kernel
  have sB : sortL 1 3 [((3 : Int), (30 : Int)), (2, 21)] = [(2, 21), (3, 30)] := by decide +kernel
  have e0 := ext_alloc w (.cells #[.int .i64 1, .int .i64 10, .int .i64 2, .int .i64 20] 46)
  have c0 : Cs (w.alloc (.cells #[.int .i64 1, .int .i64 10, .int .i64 2, .int .i64 20] 46)) (some (blk w.heap.size)) (prs [((1 : Int), (10 : Int)), (2, 20)]) := cs_alloc w _ _
  generalize w.alloc (.cells #[.int .i64 1, .int .i64 10, .int .i64 2, .int .i64 20] 46) = w0 at *
  refine do_call Tryz.call49 (c_canof (by decide) (by decide) c0 rfl (by omega) iA fun pa a w1 e1 ha ca qa => retS_ret ⟨_, _, rfl, ⟨?_⟩⟩)
  rw [sA] at qa
  have e2 := ext_alloc w1 (.cells #[.int .i64 3, .int .i64 30, .int .i64 2, .int .i64 21] 46)
  have c2 : Cs (w1.alloc (.cells #[.int .i64 3, .int .i64 30, .int .i64 2, .int .i64 21] 46)) (some (blk w1.heap.size)) (prs [((3 : Int), (30 : Int)), (2, 21)]) := cs_alloc w1 _ _
  generalize w1.alloc (.cells #[.int .i64 3, .int .i64 30, .int .i64 2, .int .i64 21] 46) = w2 at *
  refine do_call Tryz.call49 (c_canof (by decide) (by decide) c2 rfl (by omega) iB fun pb b w3 e3 hb cb qb => retS_ret ⟨_, _, rfl, ?_⟩)
  rw [sB] at qb
  have za : a.size = 2 := by rw [← Tr.pairs_length, qa]; rfl
  have zb : b.size = 2 := by rw [← Tr.pairs_length, qb]; rfl
  have e13 := e2.trans e3
  have ha3 := ha.ext e13
  refine do_call Tryz.call58 (c_cdiff (by decide) ha3 hb ca cb (by omega) (by omega) fun q4 n4 c4 w4 e4 o4 => retS_ret ⟨_, _, _, _, rfl, ?_⟩)
  have aA : (a.pairs.map (·.1)).Pairwise (ltO 1) := by rw [qa]; decide
  have aB : (b.pairs.map (·.1)).Pairwise (ltO 1) := by rw [qb]; decide
  have SP := difT_spec (o := 1) (by decide) aA aB (fun x hx => by rw [qa] at hx; exact (iA x hx).1) (fun x hx => (iB x (by rw [qb] at hx; simp at hx ⊢; rcases hx with rfl | rfl <;> simp)).1)
  have hD : difT 1 a b.pairs = [1, 2, 3] := keys_ext SP.1 (by decide) fun k => by
    rw [SP.2, qa, qb]
    simp only [List.mem_cons, Prod.mk.injEq, List.not_mem_nil, or_false]
    constructor
    · rintro ⟨⟨v, q⟩ | ⟨v, q⟩, _⟩ <;> omega
    · intro q
      refine ⟨?_, fun ⟨v, q1, q2⟩ => by omega⟩
      rcases q with rfl | rfl | rfl
      · exact .inl ⟨10, by simp⟩
      · exact .inl ⟨20, by simp⟩
      · exact .inr ⟨30, by simp⟩
  rw [hD] at o4
  have hn4 := ownK_len o4
  refine do_call Tryz.call49 (c_canof_no (l := []) (by decide) (cs_nil _ _) rfl (by omega) (fun x hx => by cases hx) fun w5 e5 => retS_ret ⟨_, _, rfl, ?_⟩)
  intro K25
  refine ifB_t rfl (ifB_t rfl (ifB_t rfl (ifB_t rfl ⟨?_⟩)))
  have e6 := ext_alloc w5 (.cells #[.int .i64 1, .int .i64 2, .int .i64 3] 2)
  have c6 : Cs (w5.alloc (.cells #[.int .i64 1, .int .i64 2, .int .i64 3] 2)) (some (blk w5.heap.size)) (ints [1, 2, 3]) := cs_alloc w5 _ _
  generalize w5.alloc (.cells #[.int .i64 1, .int .i64 2, .int .i64 3] 2) = w6 at *
  have e46 := e5.trans e6
  refine do_call Tryz.call61 (c_samekeys ((Cs.of_row o4).ext e46) hn4 c6 rfl (by rw [← hn4]; decide) fun w7 e7 => retS_ret ⟨_, rfl, ?_⟩)
  rw [decide_eq_true rfl]
  refine ifB_t rfl ?_
  refine do_call Tryz.call55 (c_digest .nil rfl fun w8 e8 => retS_ret ⟨_, rfl, ifB_t rfl ?_⟩)
  have e48 := (e46.trans e7).trans e8
  refine do_call Tryz.call51 (c_cis_yes (by decide) (ha3.ext (e4.trans e48)) ca (by omega) fun w9 e9 => retS_ret ⟨_, rfl, ifB_t rfl ?_⟩)
  have e49 := (e4.trans e48).trans e9
  refine do_call Tryz.call54 (sh54_ok _ _ ?_)
  unfold sh54
  refine do_call Tryz.call121 (c_shsame a b (ha3.ext e49) (hb.ext e49) fun r w10 e10 i10 => retS_ret ⟨_, rfl, retS_ret ⟨_, rfl, ?_⟩⟩)
  have : r = false := by
    cases r with
    | false => rfl
    | true =>
      have := i10.1 rfl
      rw [this, qb] at qa
      simp at qa
  subst this
  exact h w10 ((((e0.trans e1).trans e13).trans e49).trans e10)
end Go.Proofs.YtlddfgfmkapoiaaGreat

namespace Go.Proofs.YtlddfgfmkapoiaaGreat
open Go Go.Sh Go.RowKit

/-- a canonical tree, whose values are such that may be -/
structure Cq (o : Int) (t : Tr) : Prop where
  can : Can o t
  vi : ∀ x ∈ itsC 4 t, In x.2.1
theorem Cq.ki {o : Int} {t : Tr} (h : Cq o t) : InI (itsC 4 t) := (inK_its (c := 4)).1 h.can.u.k
theorem Cq.inP {o : Int} {t : Tr} (h : Cq o t) : InP t.pairs := fun x hx => by
  rw [prs_itsC (c := 4)] at hx
  obtain ⟨y, hy, rfl⟩ := List.mem_map.1 hx
  exact ⟨h.ki y hy, h.vi y hy⟩
theorem Cq.asc {o : Int} {t : Tr} (h : Cq o t) : (t.pairs.map (·.1)).Pairwise (ltO o) := by rw [pairs_its (c := 4)]; exact h.can.u.asc
/-- the items of a tree are canonical ones -/
structure Ci (o : Int) (l : List It) : Prop where
  asc : asc o l
  k : InI l
  v : ∀ x ∈ l, In x.2.1
  m : ∀ x ∈ l, x.2.2 = mixK x.1
theorem Ci.filter {o : Int} {l : List It} (h : Ci o l) (p : It → Bool) : Ci o (l.filter p) := ⟨asc_filter h.asc, fun x hx => h.k x (List.mem_filter.1 hx).1, fun x hx => h.v x (List.mem_filter.1 hx).1, fun x hx => h.m x (List.mem_filter.1 hx).1⟩
/-! ### what is made of them -/
/-! ### the laws -/
theorem pw_filt {o : Int} : ∀ {l : List Pr}, (l.map (·.1)).Pairwise (ltO o) → ∀ {k v : Int}, (k, v) ∈ l → l.filter (fun x => x.1 == k) = [(k, v)]
  | [], _, _, _, h => by cases h
  | x :: l, hp, k, v, h => by
    simp only [List.map_cons, List.pairwise_cons, List.mem_map, forall_exists_index, and_imp, forall_apply_eq_imp_iff₂] at hp
    rcases List.mem_cons.1 h with e | h
    · subst e
      rw [List.filter_cons_of_pos (by simp), filter_none' fun y hy => ?_]
      have := ltO_ne (hp.1 y hy)
      simp at this ⊢
      exact fun e => this e.symm
    · rw [List.filter_cons_of_neg ?_, pw_filt hp.2 h]
      have := ltO_ne (hp.1 _ h)
      simpa using this
theorem lk_filt {o : Int} {l : List Pr} (hm : mayR o l = true) (k : Int) : (l.filter (fun x => x.1 == k)).map (·.2) = (lk o l k).toList := by
  cases h : lk o l k with
  | none => rw [filter_none' fun y hy => by simpa using (lk_none hm).1 h y hy]; rfl
  | some v => rw [pw_filt (mayR_iff.1 hm).2 ((lk_iff hm).1 h)]; rfl
end Go.Proofs.YtlddfgfmkapoiaaGreat

namespace Go.Proofs.YtlddfgfmkapoiaaGreat
open Go Go.Sh Go.RowKit

/-- do all keys stand as they may? -/
def chkT (o : Int) : (Int → Bool) → Tr → Bool
  | _, .nil => true
  | P, .node l k _ _ r => P k && (chkT o (fun x => P x && decide (cmpI o x k < 0)) l && chkT o (fun x => P x && decide (0 < cmpI o x k)) r)
theorem chkT_iff {o : Int} : ∀ {t : Tr} {P : Int → Bool}, chkT o P t = true ↔ (∀ x ∈ t.pairs, P x.1 = true) ∧ (t.pairs.map (·.1)).Pairwise (ltO o)
  | .nil, P => by simp [chkT, Tr.pairs]
  | .node l k v g r, P => by
    have e : (Tr.node l k v g r).pairs = l.pairs ++ (k, v) :: r.pairs := rfl
    rw [e]
    unfold chkT
    rw [Bool.and_eq_true, Bool.and_eq_true, chkT_iff (t := l), chkT_iff (t := r)]
    constructor
    · rintro ⟨pk, ⟨pl, al⟩, pr, ar⟩
      have pl' : ∀ x ∈ l.pairs, P x.1 = true ∧ cmpI o x.1 k < 0 := fun x hx => by have := pl x hx; simpa using this
      have pr' : ∀ x ∈ r.pairs, P x.1 = true ∧ 0 < cmpI o x.1 k := fun x hx => by have := pr x hx; simpa using this
      refine ⟨fun x hx => ?_, ?_⟩
      · rcases List.mem_append.1 hx with hx | hx
        · exact (pl' x hx).1
        · rcases List.mem_cons.1 hx with rfl | hx
          · exact pk
          · exact (pr' x hx).1
      · rw [List.map_append, List.map_cons]
        refine List.pairwise_append.2 ⟨al, List.pairwise_cons.2 ⟨fun y hy => ?_, ar⟩, fun x hx y hy => ?_⟩
        · obtain ⟨z, hz, rfl⟩ := List.mem_map.1 hy
          exact cmpI_pos (pr' z hz).2
        · obtain ⟨u, hu, rfl⟩ := List.mem_map.1 hx
          rcases List.mem_cons.1 hy with rfl | hy
          · exact (pl' u hu).2
          · obtain ⟨z, hz, rfl⟩ := List.mem_map.1 hy
            exact cmpI_trans (pl' u hu).2 (cmpI_pos (pr' z hz).2)
    · rintro ⟨hp, ha⟩
      rw [List.map_append, List.map_cons] at ha
      obtain ⟨al, ar, hx⟩ := List.pairwise_append.1 ha
      obtain ⟨hkr, ar⟩ := List.pairwise_cons.1 ar
      refine ⟨hp (k, v) (by simp), ⟨fun x hq => ?_, al⟩, fun x hq => ?_, ar⟩
      · have h1 := hp x (by simp [hq])
        have h2 : cmpI o x.1 k < 0 := hx x.1 (List.mem_map_of_mem (f := fun x : Pr => x.1) hq) k (by simp)
        simp [h1, h2]
      · have h1 := hp x (by simp [hq])
        have h2 : cmpI o k x.1 < 0 := hkr x.1 (List.mem_map_of_mem (f := fun x : Pr => x.1) hq)
        have h3 := cmpI_neg h2
        simp [h1, h3]
/-- a bound: which keys it lets through -/
def MayG (J : Nat → World → Prop) (d : Nat) (w : World) (P : Int → Bool) (f : Fn) (xs cs : Array Value) : Prop :=
  ∀ n w' key (K : Ending → World → Prop), KP d w w' → J n w' → In key → (∀ w'', Ext w' w'' → K (.returned (.bool (P key))) w'') → doCall Tryz.prog (.func f xs cs) #[.int .i64 key] w' K
theorem MayG.kp {J : Nat → World → Prop} {d : Nat} {w w1 : World} {P : Int → Bool} {f : Fn} {xs cs : Array Value} (h : MayG J d w P f xs cs) (k : KP d w w1) : MayG J d w1 P f xs cs := fun n w' key K q j hk hK => h n w' key K (k.trans q) j hk hK
section
variable {J : Nat → World → Prop} {d bo : Nat} {o : Int} {w0 : World}
theorem mayG_left (hJe : ∀ n w, J n w → Ext w0 w) (hJx : ∀ n w w', J n w → Ext w w' → J n w') (hJo : ∀ n w, J n w → Blk w bo #[.int .u8 o] 5) {w : World} {P : Int → Bool} {f : Fn} {xs cs : Array Value} {b8 b10 : Nat} {p : Option Addr} {l r : Tr} {k v g : Int} (h8 : d < b8) (h10 : d < b10)
    (hM : MayG J d w P f xs cs) (hb8 : Blk w b8 #[.pointer p] 35) (hb10 : Blk w b10 #[.func f xs cs] 319) (ht : IsN w0 p (.node l k v g r)) (hk : In k) :
    MayG J d w (fun x => P x && decide (cmpI o x k < 0)) (.func 249) #[] #[.pointer (some (blk b10)), .pointer (some (blk bo)), .pointer (some (blk b8))] := by
  intro n w' key K hkp hj hkey hK
  refine do_callc Tryz.call249 (by rfl) (sh249_ok _ _ _ _ ?_)
  unfold sh249
  intro K7
  have dr := ext_drew w'
  have hb8' := hkp _ _ _ h8 hb8
  have hb10' := hkp _ _ _ h10 hb10
  have hbo := hJo _ _ hj
  refine ⟨⟨fun w'' => Ext w' w'', dr, _, _, _, fun w'' e => (hb10'.ext e).cell (i := 0) rfl rfl, ?_⟩⟩
  refine hM n _ key _ (hkp.trans (.of dr)) (hJx _ _ _ hj dr) hkey fun w1 e1 => retS_ret ⟨_, rfl, dr.trans e1, ?_⟩
  cases hP : P key with
  | false =>
    have hh := hK _ (dr.trans e1)
    simp only [hP, Bool.false_and] at hh
    exact ifB_f rfl hh
  | true =>
  refine ifB_t rfl ⟨_, fun w'' e => (hbo.ext e).cell (i := 0) rfl rfl, _, fun w'' e => (hb8'.ext e).cell (i := 0) rfl rfl, ?_⟩
  have E1 := dr.trans e1
  refine do_call Tryz.call108 (c_key (ht.ext ((hJe _ _ hj).trans E1)) fun w2 e2 => retS_ret ⟨_, rfl, E1.trans e2, ?_⟩)
  refine do_call Tryz.call176 (c_compare hkey hk fun w3 e3 => retS_ret ⟨_, rfl, (E1.trans e2).trans e3, ?_⟩)
  simp -zeta -zetaHave only [K7]
  have hh := hK _ ((E1.trans e2).trans e3)
  simp only [hP, Bool.true_and] at hh
  exact hh
theorem mayG_right (hJe : ∀ n w, J n w → Ext w0 w) (hJx : ∀ n w w', J n w → Ext w w' → J n w') (hJo : ∀ n w, J n w → Blk w bo #[.int .u8 o] 5) {w : World} {P : Int → Bool} {f : Fn} {xs cs : Array Value} {b8 b10 : Nat} {p : Option Addr} {l r : Tr} {k v g : Int} (h8 : d < b8) (h10 : d < b10)
    (hM : MayG J d w P f xs cs) (hb8 : Blk w b8 #[.pointer p] 35) (hb10 : Blk w b10 #[.func f xs cs] 319) (ht : IsN w0 p (.node l k v g r)) (hk : In k) :
    MayG J d w (fun x => P x && decide (0 < cmpI o x k)) (.func 250) #[] #[.pointer (some (blk b10)), .pointer (some (blk bo)), .pointer (some (blk b8))] := by
  intro n w' key K hkp hj hkey hK
  refine do_callc Tryz.call250 (by rfl) (sh250_ok _ _ _ _ ?_)
  unfold sh250
  intro K7
  have dr := ext_drew w'
  have hb8' := hkp _ _ _ h8 hb8
  have hb10' := hkp _ _ _ h10 hb10
  have hbo := hJo _ _ hj
  refine ⟨⟨fun w'' => Ext w' w'', dr, _, _, _, fun w'' e => (hb10'.ext e).cell (i := 0) rfl rfl, ?_⟩⟩
  refine hM n _ key _ (hkp.trans (.of dr)) (hJx _ _ _ hj dr) hkey fun w1 e1 => retS_ret ⟨_, rfl, dr.trans e1, ?_⟩
  cases hP : P key with
  | false =>
    have hh := hK _ (dr.trans e1)
    simp only [hP, Bool.false_and] at hh
    exact ifB_f rfl hh
  | true =>
  refine ifB_t rfl ⟨_, fun w'' e => (hbo.ext e).cell (i := 0) rfl rfl, _, fun w'' e => (hb8'.ext e).cell (i := 0) rfl rfl, ?_⟩
  have E1 := dr.trans e1
  refine do_call Tryz.call108 (c_key (ht.ext ((hJe _ _ hj).trans E1)) fun w2 e2 => retS_ret ⟨_, rfl, E1.trans e2, ?_⟩)
  refine do_call Tryz.call176 (c_compare hkey hk fun w3 e3 => retS_ret ⟨_, rfl, (E1.trans e2).trans e3, ?_⟩)
  simp -zeta -zetaHave only [K7]
  have hh := hK _ ((E1.trans e2).trans e3)
  simp only [hP, Bool.true_and] at hh
  exact hh
set_option maxRecDepth 20000 in
set_option maxHeartbeats 1600000 in
theorem do_onG {JF : World → Prop} {Y1 : Fn} {Y2 Y3 : Array Value} {b5 b7 : Nat} {T5 T7 : TypeId} (hd5 : d < b5) (hd7 : d < b7) (hJd : ∀ n w, J n w → d < w.heap.size) (hJe : ∀ n w, J n w → Ext w0 w) (hJx : ∀ n w w', J n w → Ext w w' → J n w') (hJo : ∀ n w, J n w → Blk w bo #[.int .u8 o] 5)
    (hY : ∀ n q w (K : Ending → World → Prop), J n w → (∀ w', J (n + 1) w' → KP d w w' → K (.returned (.bool true)) w') → doCall Tryz.prog (.func Y1 Y2 Y3) #[.pointer q, .bool false] w K)
    (hF : ∀ n q w (K : Ending → World → Prop), J n w → (∀ w', JF w' → KP d w w' → K (.returned (.bool false)) w') → doCall Tryz.prog (.func Y1 Y2 Y3) #[.pointer q, .bool true] w K) :
    ∀ (t : Tr) {p : Option Addr} {n : Nat} {w : World} {P : Int → Bool} {f : Fn} {xs cs : Array Value} {K : Ending → World → Prop} (_ht : IsN w0 p t) (_hk : InK t) (_hM : MayG J d w P f xs cs) (_hj : J n w)
      (_h5 : Blk w b5 #[.func Y1 Y2 Y3] T5) (_h7 : Blk w b7 #[onS bo b5 b7] T7) (_h : chkT o P t = true → ∀ w', J (n + t.size) w' → KP d w w' → K (.returned (.bool true)) w') (_hb : chkT o P t = false → ∀ w', JF w' → KP d w w' → K (.returned (.bool false)) w'), doCall Tryz.prog (onS bo b5 b7) #[.pointer p, .func f xs cs] w K
  | t, p, n, w, P, f, xs, cs, K, ht, hk, hM, hj, h5, h7, h, hb => by
    refine do_callc Tryz.call248 (by rfl) (sh248_ok _ _ _ _ _ _ _ ?_)
    unfold sh248
    refine ⟨⟨?_⟩⟩
    have e1 := ext_alloc w (.cells #[.pointer p] 35)
    have h8 := blk_alloc w #[.pointer p] 35
    have d8 := hJd _ _ hj
    generalize w.heap.size = b8 at *
    generalize w.alloc (.cells #[.pointer p] 35) = w1 at *
    have e2 := ext_alloc w1 (.cells #[.func f xs cs] 319)
    have h10 := blk_alloc w1 #[.func f xs cs] 319
    have d10 : d < w1.heap.size := by have := h8.lt; omega
    generalize w1.heap.size = b10 at *
    generalize w1.alloc (.cells #[.func f xs cs] 319) = w2 at *
    have E2 := e1.trans e2
    have h82 := h8.ext e2
    have h52 := h5.ext E2
    have h72 := h7.ext E2
    have hj2 := hJx _ _ _ hj E2
    have hM2 := hM.kp (.of E2)
    refine ⟨_, h82.cell (i := 0) rfl rfl, ?_⟩
    rw [ht.isNone]
    match t, ht, hk, h, hb with
    | .nil, ht, hk, h, hb => exact ifB_t rfl (h rfl _ hj2 (.of E2))
    | .node l k v g r, ht, hk, h, hb =>
      refine ifB_f rfl ?_
      intro K15
      have e : (Tr.node l k v g r).size = l.size + 1 + r.size := rfl
      obtain ⟨kl, kk, kr⟩ := hk
      have dr := ext_drew w2
      have hC : ∀ w', KP d w2 w' → Blk w' b5 #[.func Y1 Y2 Y3] T5 ∧ Blk w' b8 #[.pointer p] 35 ∧ Blk w' b10 #[.func f xs cs] 319 ∧ Blk w' b7 #[onS bo b5 b7] T7 := fun w' q => ⟨q _ _ _ hd5 h52, q _ _ _ d8 h82, q _ _ _ d10 h10, q _ _ _ hd7 h72⟩
      have hj3 := hJx _ _ _ hj2 dr
      refine ⟨⟨fun w' => KP d w2 w', .of dr, _, _, _, fun w' q => (hC w' q).1.cell (i := 0) rfl rfl, _, fun w' q => (hC w' q).2.1.cell (i := 0) rfl rfl, _, _, _, fun w' q => (hC w' q).2.2.1.cell (i := 0) rfl rfl, _, fun w' q => (hC w' q).2.1.cell (i := 0) rfl rfl, ?_⟩⟩
      refine do_call Tryz.call108 (c_key (ht.ext (hJe _ _ hj3)) fun w4 e4 => retS_ret ⟨_, rfl, .of (dr.trans e4), ?_⟩)
      have hj4 := hJx _ _ _ hj3 e4
      refine hM2 n _ k _ (.of (dr.trans e4)) hj4 kk fun w5 e5 => retS_ret ⟨_, rfl, .of ((dr.trans e4).trans e5), ?_⟩
      have hj5 := hJx _ _ _ hj4 e5
      cases hPk : P k with
      | false =>
        refine hF n p _ _ hj5 fun w6 hf6 k6 => retS_ret ⟨_, rfl, ?_⟩
        have q6 : KP d w2 w6 := (KP.of ((dr.trans e4).trans e5)).trans k6
        exact ⟨q6, ifB_f rfl (hb (by simp [chkT, hPk]) _ hf6 ((KP.of E2).trans q6))⟩
      | true =>
      refine hY n p _ _ hj5 fun w6 hj6 k6 => retS_ret ⟨_, rfl, ?_⟩
      have q6 : KP d w2 w6 := (KP.of ((dr.trans e4).trans e5)).trans k6
      refine ⟨q6, ifB_t rfl ⟨_, _, _, fun w' q => (hC w' q).2.2.2.cell (i := 0) rfl rfl, _, fun w' q => (hC w' q).2.1.cell (i := 0) rfl rfl, ?_⟩⟩
      refine do_call Tryz.call123 (c_left0 ht (hJe _ _ hj6) fun pl hpl => retS_ret ⟨_, rfl, q6, ?_⟩)
      have ML := mayG_left hJe hJx hJo d8 d10 (hM2.kp q6) (hC w6 q6).2.1 (hC w6 q6).2.2.1 ht kk
      refine do_onG hd5 hd7 hJd hJe hJx hJo hY hF l hpl kl ML hj6 (hC w6 q6).1 (hC w6 q6).2.2.2 (fun hl w7 hj7 k7 => retS_ret ⟨_, rfl, q6.trans k7, ?_⟩) fun hl w7 hf7 k7 => retS_ret ⟨_, rfl, q6.trans k7, ifB_f rfl (hb (by simp [chkT, hl]) _ hf7 ((KP.of E2).trans (q6.trans k7)))⟩
      have q7 := q6.trans k7
      refine ifB_t rfl ⟨_, _, _, fun w' q => (hC w' q).2.2.2.cell (i := 0) rfl rfl, _, fun w' q => (hC w' q).2.1.cell (i := 0) rfl rfl, ?_⟩
      refine do_call Tryz.call125 (c_right0 ht (hJe _ _ hj7) fun pr hpr => retS_ret ⟨_, rfl, q7, ?_⟩)
      have MR := mayG_right hJe hJx hJo d8 d10 (hM2.kp q7) (hC w7 q7).2.1 (hC w7 q7).2.2.1 ht kk
      refine do_onG hd5 hd7 hJd hJe hJx hJo hY hF r hpr kr MR hj7 (hC w7 q7).1 (hC w7 q7).2.2.2 (fun hr w8 hj8 k8 => retS_ret ⟨_, rfl, q7.trans k8, ?_⟩) fun hr w8 hf8 k8 => retS_ret ⟨_, rfl, q7.trans k8, hb (by simp [chkT, hr]) _ hf8 ((KP.of E2).trans (q7.trans k8))⟩
      rw [show n + 1 + l.size + r.size = n + (Tr.node l k v g r).size by omega] at hj8
      exact h (by simp [chkT, hPk, hl, hr]) _ hj8 ((KP.of E2).trans (q7.trans k8))
  termination_by t => t.size
  decreasing_by all_goals simp_wf; simp only [Tr.size]; omega
end
set_option maxRecDepth 20000 in
set_option maxHeartbeats 1600000 in
theorem c_scheckG {o : Int} {t : Tr} {p : Option Addr} {w : World} {R : Ending → World → Prop} (ho : isO o = true) (ht : IsN w p t) (hk : InK t) (h : ∀ k e w', Ext w w' → (e = 0 ↔ (t.pairs.map (·.1)).Pairwise (ltO o)) → R (.returned (.tuple #[.int .i64 k, .int .i64 e])) w') :
    Calls Tryz.prog 117 #[.int .u8 o, .pointer p] w R := by
  refine sh117_ok _ _ ?_
  unfold sh117
  have ho7 : 1 ≤ o ∧ o ≤ 7 := by simpa [isO] using ho
  refine ⟨⟨?_⟩⟩
  have e0 := ext_alloc w (.cells #[.int .i64 0] 3)
  have h2 := blk_alloc w #[.int .i64 0] 3
  have k2 : w.heap.size ≤ w.heap.size := Nat.le_refl _
  generalize hb2 : w.heap.size = b2 at h2 k2 ⊢
  generalize w.alloc (.cells #[.int .i64 0] 3) = w1 at *
  have e1 := ext_alloc w1 (.cells #[.int .i64 0] 36)
  have h4 := blk_alloc w1 #[.int .i64 0] 36
  have l2 := h2.lt
  have n24 : b2 < w1.heap.size := l2
  generalize w1.heap.size = b4 at *
  generalize w1.alloc (.cells #[.int .i64 0] 36) = w2 at *
  have h22 := h2.ext e1
  have l4 := h4.lt
  intro K11 K40
  refine ifB_f (decide_eq_false (by omega)) ?_
  simp -zeta -zetaHave only [K40]
  refine ifB_f (decide_eq_false (by omega)) ?_
  simp -zeta -zetaHave only [K11]
  intro K13
  refine do_call Tryz.call194 (sh194_ok _ _ ?_)
  unfold sh194
  refine ⟨⟨retS_ret ⟨_, _, _, rfl, do_rf fun fn L w6 d hd hL hst hpe e6 hd6 hl6 => ?_⟩⟩⟩
  have e3 := ext_alloc w2 (.cells #[.int .u8 o] 5)
  have hbo := blk_alloc w2 #[.int .u8 o] 5
  generalize w2.heap.size = bo at *
  generalize w2.alloc (.cells #[.int .u8 o] 5) = w3 at *
  have e5 := ext_alloc w3 (.cells #[.pointer p] 35)
  have hbt := blk_alloc w3 #[.pointer p] 35
  generalize w3.heap.size = bt at *
  generalize w3.alloc (.cells #[.pointer p] 35) = w5 at *
  have e26 : Ext w2 w6 := (e3.trans e5).trans e6
  have E6 : Ext w w6 := (e0.trans e1).trans e26
  have hbt6 := hbt.ext e6
  have d2 : b2 < d := by have := (h22.ext (e3.trans e5)).lt; omega
  have d4 : b4 < d := by have := (h4.ext (e3.trans e5)).lt; omega
  have dO : bo < d := by have := (hbo.ext e5).lt; omega
  obtain ⟨J, hJ⟩ : ∃ J : Nat → World → Prop, J = fun n w' => Ext w w' ∧ Blk w' b2 #[.int .i64 (IntKind.wrap .i64 (n : Nat))] 3 ∧ Blk w' b4 #[.int .i64 0] 36 ∧ Blk w' bo #[.int .u8 o] 5 ∧ w'.heap[d]? = some (.deferred (some [])) ∧ w'.heap[d + 1]? = some (.loop L) := ⟨_, rfl⟩
  have hJe : ∀ n w', J n w' → Ext w w' := fun n w' q => by rw [hJ] at q; exact q.1
  have hJo : ∀ n w', J n w' → Blk w' bo #[.int .u8 o] 5 := fun n w' q => by rw [hJ] at q; exact q.2.2.2.1
  have hJd : ∀ n w', J n w' → d + 1 < w'.heap.size := fun n w' q => by rw [hJ] at q; exact (Array.getElem?_eq_some_iff.1 q.2.2.2.2.2).1
  have hJx : ∀ n w' w'', J n w' → Ext w' w'' → J n w'' := fun n w' w'' q e => by
    rw [hJ] at q ⊢
    exact ⟨q.1.trans e, q.2.1.ext e, q.2.2.1.ext e, q.2.2.2.1.ext e, e.heap q.2.2.2.2.1, e.heap q.2.2.2.2.2⟩
  have hwl : w.heap.size ≤ d := by omega
  have hY : ∀ n q w' (K : Ending → World → Prop), J n w' →
      (∀ w'', J (n + 1) w'' → KP (d + 1) w' w'' → K (.returned (.bool true)) w'') → doCall Tryz.prog (.func (.yield (d + 1)) #[] #[]) #[.pointer q, .bool false] w' K := by
    intro n q w5 K hj hK
    rw [hJ] at hj
    obtain ⟨E5, j2, j4, jo, jd, jl⟩ := hj
    refine sh117_0_ok (by rw [jl, hL]) ?_
    unfold sh117_0
    refine ⟨_, jl, hst, ?_⟩
    have g7 := put_grown w5 (d + 1) (.loop { L with state := .busy })
    have l7 := put_heap (o' := .loop { L with state := .busy }) jl
    have E7 := E5.put (l := d + 1) (by omega) (.loop { L with state := .busy })
    have hlt := (Array.getElem?_eq_some_iff.1 jl).1
    have j2 := j2.grown g7 (ne_some (by omega))
    have j4 := j4.grown g7 (ne_some (by omega))
    have jo := jo.grown g7 (ne_some (by omega))
    have jd := heap_grown g7 jd (ne_some (by omega))
    have hfr : KP (d + 1) w5 (w5.putObj (d + 1) (.loop { L with state := .busy })) := fun b cs ty hb hk => hk.grown g7 (ne_some (by omega))
    generalize w5.putObj (d + 1) (.loop { L with state := .busy }) = w7 at *
    refine ifB_f rfl ⟨_, j2.cell (i := 0) rfl rfl, ?_⟩
    refine do_st j2 (i := 0) (add_blk _ _) (by simp) fun w9 h9 g9 => ?_
    have l9 := heap_grown g9 l7 (ne_some (by omega))
    refine ⟨_, l9, hK _ ?_ fun b cs ty hb hk => ?_⟩
    · rw [hJ, rec_back hst hpe]
      have gp := put_grown w9 (d + 1) (.loop L)
      have h9 : Blk w9 b2 #[.int .i64 (IntKind.wrap .i64 ((n + 1 : Nat) : Int))] 3 := by
        have : IntKind.wrap .i64 (IntKind.wrap .i64 (n : Int) + 1) = IntKind.wrap .i64 ((n + 1 : Nat) : Int) := by rw [wrap_add]; rfl
        rw [this] at h9; exact h9
      exact ⟨(E7.st g9 (by omega)).put (by omega) _, h9.grown gp (ne_some (by omega)), (j4.grown g9 (ne_some (by omega))).grown gp (ne_some (by omega)), (jo.grown g9 (ne_some (by omega))).grown gp (ne_some (by omega)), heap_grown gp (heap_grown g9 jd (ne_some (by omega))) (ne_some (by omega)), put_heap l9⟩
    · exact ((hfr b cs ty hb hk).grown g9 (ne_some (by omega))).grown (put_grown _ _ _) (ne_some (by omega))
  obtain ⟨JF, hJF⟩ : ∃ JF : World → Prop, JF = fun w' => Ext w w' ∧ (∃ m, Blk w' b2 #[.int .i64 m] 3) ∧ Blk w' b4 #[.int .i64 120] 36 ∧ w'.heap[d]? = some (.deferred (some [])) ∧ w'.heap[d + 1]? = some (.loop { L with state := .done, pending := some (.exit 0) }) := ⟨_, rfl⟩
  have hF : ∀ n q w' (K : Ending → World → Prop), J n w' →
      (∀ w'', JF w'' → KP (d + 1) w' w'' → K (.returned (.bool false)) w'') → doCall Tryz.prog (.func (.yield (d + 1)) #[] #[]) #[.pointer q, .bool true] w' K := by
    intro n q w5 K hj hK
    rw [hJ] at hj
    obtain ⟨E5, j2, j4, jo, jd, jl⟩ := hj
    refine sh117_0_ok (by rw [jl, hL]) ?_
    unfold sh117_0
    refine ⟨_, jl, hst, ?_⟩
    have g7 := put_grown w5 (d + 1) (.loop { L with state := .busy })
    have l7 := put_heap (o' := .loop { L with state := .busy }) jl
    have E7 := E5.put (l := d + 1) (by omega) (.loop { L with state := .busy })
    have j2 := j2.grown g7 (ne_some (by omega))
    have j4 := j4.grown g7 (ne_some (by omega))
    have jd := heap_grown g7 jd (ne_some (by omega))
    have hfr : KP (d + 1) w5 (w5.putObj (d + 1) (.loop { L with state := .busy })) := fun b cs ty hb hk => hk.grown g7 (ne_some (by omega))
    generalize w5.putObj (d + 1) (.loop { L with state := .busy }) = w7 at *
    refine ifB_t rfl ?_
    refine do_st j4 (i := 0) (add_blk _ _) (by simp) fun w9 h9 g9 => ?_
    have h9 : Blk w9 b4 #[.int .i64 120] 36 := h9
    have l9 := heap_grown g9 l7 (ne_some (by omega))
    refine ⟨_, l9, hK _ ?_ fun b cs ty hb hk => ?_⟩
    · rw [hJF]
      have gp := put_grown w9 (d + 1) (.loop { L with state := .done, pending := some (.exit 0) })
      exact ⟨(E7.st g9 (by omega)).put (by omega) _, ⟨_, (j2.grown g9 (ne_some (by omega))).grown gp (ne_some (by omega))⟩, h9.grown gp (ne_some (by omega)), heap_grown gp (heap_grown g9 jd (ne_some (by omega))) (ne_some (by omega)), put_heap l9⟩
    · exact ((hfr b cs ty hb hk).grown g9 (ne_some (by omega))).grown (put_grown _ _ _) (ne_some (by omega))
  have hJ0 : J 0 w6 := by rw [hJ]; exact ⟨E6, h22.ext e26, h4.ext e26, hbo.ext (e5.trans e6), hd6, hl6⟩
  refine callE_c Tryz.call247 (by rfl) (sh247_ok _ _ _ _ _ ?_)
  unfold sh247
  refine ⟨⟨?_⟩⟩
  have e7 := ext_alloc w6 (.cells #[.func (.yield (d + 1)) #[] #[]] 317)
  have h7 := blk_alloc w6 #[.func (.yield (d + 1)) #[] #[]] 317
  have n7 : d + 1 < w6.heap.size := (Array.getElem?_eq_some_iff.1 hl6).1
  generalize w6.heap.size = b7 at *
  generalize w6.alloc (.cells #[.func (.yield (d + 1)) #[] #[]] 317) = w7 at *
  have n8 : b7 < w7.heap.size := h7.lt
  refine do_st (blk_alloc w7 _ _) (i := 0) (add_blk _ _) (by simp) fun w8 h8 g8 => ?_
  have e8 : Ext w7 w8 := (ext_alloc w7 _).st g8 (Nat.le_refl _)
  refine ⟨_, _, _, h8.cell (i := 0) rfl rfl, _, (hbt6.ext (e7.trans e8)).cell (i := 0) rfl rfl, ?_⟩
  have hM : MayG J (d + 1) w8 (fun _ => true) (.func 251) #[] #[] := by
    intro n w' key K _ _ _ hK
    refine do_call Tryz.call251 (sh251_ok _ ?_)
    unfold sh251
    exact hK _ (ext_refl _)
  have hout : ∀ (m ev : Int) (w10 : World), Ext w w10 → Blk w10 b2 #[.int .i64 m] 3 → Blk w10 b4 #[.int .i64 ev] 36 → w10.heap[d]? = some (.deferred (some [])) → (ev = 0 ↔ (t.pairs.map (·.1)).Pairwise (ltO o)) → K13 d w10 := by
    intro m ev w10 E10 j2 j4 jd hev
    simp -zeta -zetaHave only [K13]
    have dr := ext_drew w10
    refine ⟨⟨fun w' => Blk w' b2 #[.int .i64 m] 3 ∧ Blk w' b4 #[.int .i64 ev] 36, ⟨j2.ext dr, j4.ext dr⟩, _, fun w' q => q.1.cell (i := 0) rfl rfl, _, fun w' q => q.2.cell (i := 0) rfl rfl, ?_⟩⟩
    refine do_st (j2.ext dr) (i := 0) (add_blk _ _) (by simp) fun w11 h11' g11 => ⟨⟨h11', (j4.ext dr).grown g11 (ne_some (by omega))⟩, ?_⟩
    refine do_st ((j4.ext dr).grown g11 (ne_some (by omega))) (i := 0) (add_blk _ _) (by simp) fun w12 h12 g12 => ?_
    have jd12 := heap_grown g12 (heap_grown g11 (dr.heap jd) (ne_some (by omega))) (ne_some (by omega))
    refine ⟨jd12, ?_⟩
    have gp2 := put_grown w12 d (.deferred none)
    refine ⟨_, ((h11'.grown g12 (ne_some (by omega))).grown gp2 (ne_some (by omega))).cell (i := 0) rfl rfl, _, (h12.grown gp2 (ne_some (by omega))).cell (i := 0) rfl rfl, ?_⟩
    refine h _ _ _ ?_ hev
    have E12 := ((E10.trans dr).st g11 (by omega)).st g12 (by omega)
    exact E12.st gp2 (by omega)
  have hch : chkT o (fun _ => true) t = true ↔ (t.pairs.map (·.1)).Pairwise (ltO o) := by rw [chkT_iff]; simp
  refine do_onG (J := J) (JF := JF) (d := d + 1) (by omega) (by omega) hJd hJe hJx hJo hY hF t ht hk hM (hJx _ _ _ hJ0 (e7.trans e8)) (h7.ext e8) h8 (fun hc w9 hj9 _ => retS_ret ⟨_, rfl, ?_⟩) fun hc w9 hf9 _ => retS_ret ⟨_, rfl, ?_⟩
  · rw [hJ] at hj9
    obtain ⟨E9, j2, j4, _, jd, jl⟩ := hj9
    refine rf_done jl (by rw [hst]; simp) hpe fun ob => ?_
    have gp := put_grown w9 (d + 1) ob
    rw [← hd]
    exact hout _ 0 _ (E9.put (l := d + 1) (by omega) ob) (j2.grown gp (ne_some (by omega))) (j4.grown gp (ne_some (by omega))) (heap_grown gp jd (ne_some (by omega))) ⟨fun _ => hch.1 hc, fun _ => rfl⟩
  · rw [hJF] at hf9
    obtain ⟨E9, ⟨m, j2⟩, j4, jd, jl⟩ := hf9
    refine rf_exit jl (by simp) rfl rfl fun ob => ?_
    have gp := put_grown w9 (d + 1) ob
    rw [← hd]
    refine hout m 120 _ (E9.put (l := d + 1) (by omega) ob) (j2.grown gp (ne_some (by omega))) (j4.grown gp (ne_some (by omega))) (heap_grown gp jd (ne_some (by omega))) ⟨fun q => by simp at q, fun q => ?_⟩
    rw [hch.2 q] at hc; cases hc
end Go.Proofs.YtlddfgfmkapoiaaGreat

namespace Go.Proofs.YtlddfgfmkapoiaaGreat
open Go Go.Sh Go.RowKit

set_option maxRecDepth 20000 in
theorem do_tponG {b2 b4 : Nat} {T4 : TypeId} (hne : b4 ≠ b2) : ∀ (t : Tr) {p : Option Addr} {n : Int} {w : World} {R : Ending → World → Prop} (_h2 : Blk w b2 #[.int .i64 n] 3) (_h4 : Blk w b4 #[onT b2 b4] T4) (_ht : IsN w p t)
    (_h : ∀ r m w', Gs b2 w w' → Blk w' b2 #[.int .i64 m] 3 → (r = true ↔ Tp t) → R (.returned (.bool r)) w'), doCall Tryz.prog (onT b2 b4) #[.pointer p] w R
  | .nil, p, n, w, R, h2, h4, ht, h => by
    refine do_callc Tryz.call252 (by rfl) (sh252_ok _ _ _ ?_)
    unfold sh252
    have : p = none := ht
    subst this
    exact ifB_t rfl (h _ _ _ (gs_refl _ _) h2 (by simp [Tp]))
  | .node l k v g r, p, n, w, R, h2, h4, ht, h => by
    refine do_callc Tryz.call252 (by rfl) (sh252_ok _ _ _ ?_)
    unfold sh252
    rw [ht.isNone]
    refine ifB_f rfl ?_
    intro K6
    have hTp : Tp (.node l k v g r) ↔ Tp l ∧ Tp r ∧ abT l (.node l k v g r) = false ∧ abT r (.node l k v g r) = false := Iff.rfl
    refine do_call Tryz.call123 (c_left ht fun pl hpl => retS_ret ⟨_, rfl, ?_⟩)
    refine do_call Tryz.call253 (c_abT hpl ht fun w1 e1 => retS_ret ⟨_, rfl, ?_⟩)
    show ifB (abT l (.node l k v g r)) _ _
    cases al : abT l (.node l k v g r) with
    | true =>
      exact ifB_t rfl (h _ _ _ (gs_of e1) (h2.ext e1) (by rw [hTp]; simp [al]))
    | false =>
    refine ifB_f rfl (do_call Tryz.call125 (c_right (ht.ext e1) fun pr hpr => retS_ret ⟨_, rfl, ?_⟩))
    refine do_call Tryz.call253 (c_abT hpr (ht.ext e1) fun w2 e2 => retS_ret ⟨_, rfl, ?_⟩)
    have e02 := e1.trans e2
    have h22 := h2.ext e02
    show K6 (abT r (.node l k v g r)) w2
    simp -zeta -zetaHave only [K6]
    cases ar : abT r (.node l k v g r) with
    | true => exact ifB_t rfl (h _ _ _ (gs_of e02) h22 (by rw [hTp]; simp [ar]))
    | false =>
    refine ifB_f rfl ⟨_, h22.cell (i := 0) rfl rfl, ?_⟩
    refine do_st h22 (i := 0) (add_blk _ _) (by simp) fun w3 h3 g3 => ?_
    have G3 : Gs b2 w w3 := (gs_of e02).trans g3
    have h3 : Blk w3 b2 #[.int .i64 (IntKind.wrap .i64 (n + 1))] 3 := h3
    intro K11
    have d := ext_drew w3
    have G3' : Gs b2 w w3.drew := G3.trans (gs_of d)
    have h43 := h4.gs G3' hne
    have ht3 : IsN w3.drew p (.node l k v g r) := ht.st G3' h2 (by decide)
    refine ⟨⟨fun w' => Blk w' b4 #[onT b2 b4] T4, h43, _, _, _, fun w' q => q.cell (i := 0) rfl rfl, ?_⟩⟩
    refine do_call Tryz.call123 (c_left ht3 fun pl3 hpl3 => retS_ret ⟨_, rfl, h43, ?_⟩)
    refine do_tponG hne l (h3.ext d) h43 hpl3 fun r1 m1 w4 g4 h24 i4 => retS_ret ⟨_, rfl, h43.gs g4 hne, ?_⟩
    cases r1 with
    | false =>
      have : ¬ Tp l := fun q => by have := i4.2 q; cases this
      exact ifB_f rfl (h _ _ _ (G3'.trans g4) h24 (by rw [hTp]; simp [this]))
    | true =>
    have tl := i4.1 rfl
    refine ifB_t rfl ⟨_, _, _, fun w' q => q.cell (i := 0) rfl rfl, ?_⟩
    have ht4 := ht3.st g4 (h3.ext d) (by decide)
    refine do_call Tryz.call125 (c_right ht4 fun pr4 hpr4 => retS_ret ⟨_, rfl, h43.gs g4 hne, ?_⟩)
    refine do_tponG hne r h24 (h43.gs g4 hne) hpr4 fun r2 m2 w5 g5 h25 i5 => retS_ret ⟨_, rfl, (h43.gs g4 hne).gs g5 hne, ?_⟩
    exact h _ _ _ ((G3'.trans g4).trans g5) h25 (by rw [i5, hTp]; simp [tl, al, ar])
theorem c_tpcheckG {t : Tr} {p : Option Addr} {w : World} {R : Ending → World → Prop} (ht : IsN w p t) (h : ∀ k e w', Ext w w' → (e = 0 ↔ Tp t) → R (.returned (.tuple #[.int .i64 k, .int .i64 e])) w') :
    Calls Tryz.prog 195 #[.pointer p] w R := by
  refine sh195_ok _ ?_
  unfold sh195
  refine ⟨⟨?_⟩⟩
  have e1 := ext_alloc w (.cells #[.int .i64 0] 3)
  have h2 := blk_alloc w #[.int .i64 0] 3
  have l2 := h2.lt
  obtain ⟨b2, hb2⟩ : ∃ b2, b2 = w.heap.size := ⟨_, rfl⟩
  rw [← hb2] at h2 l2 ⊢
  generalize w.alloc (.cells #[.int .i64 0] 3) = w1 at *
  refine do_st (blk_alloc w1 _ _) (i := 0) (add_blk _ _) (by simp) fun w2 h4 g2 => ?_
  have e2 : Ext w1 w2 := (ext_alloc w1 _).st g2 (Nat.le_refl _)
  have hne : w1.heap.size ≠ b2 := by omega
  refine ⟨_, _, _, h4.cell (i := 0) rfl rfl, ?_⟩
  refine do_tponG hne t (h2.ext e2) h4 (ht.ext (e1.trans e2)) fun r m w3 g3 h3 i3 => retS_ret ⟨_, rfl, ?_⟩
  have E3 : Ext w w3 := Ext.gs (e1.trans e2) g3 (by omega)
  cases r with
  | false =>
    refine ifB_t rfl ⟨_, h3.cell (i := 0) rfl rfl, ?_⟩
    refine do_st h3 (i := 0) (add_blk _ _) (by simp) fun w4 h4' g4 => ⟨_, h4'.cell (i := 0) rfl rfl, h _ _ _ (E3.st g4 (by omega)) ?_⟩
    have : ¬ Tp t := fun q => by have := i3.2 q; cases this
    simp [this]
  | true =>
    refine ifB_f rfl ⟨_, h3.cell (i := 0) rfl rfl, ?_⟩
    refine do_st h3 (i := 0) (add_blk _ _) (by simp) fun w4 h4' g4 => ⟨_, h4'.cell (i := 0) rfl rfl, h _ _ _ (E3.st g4 (by omega)) ?_⟩
    simp [i3.1 rfl]
/-- is a tree canonical? -/
def canT (o : Int) (t : Tr) : Prop := isO o = true ∧ (t.pairs.map (·.1)).Pairwise (ltO o) ∧ Tp t ∧ MixT t
theorem c_scheck_no {o : Int} {p : Option Addr} {w : World} {R : Ending → World → Prop} (ho : isO o = false) (h : ∀ w', Ext w w' → R (.returned (.tuple #[.int .i64 0, .int .i64 2])) w') : Calls Tryz.prog 117 #[.int .u8 o, .pointer p] w R := by
  refine sh117_ok _ _ ?_
  unfold sh117
  refine ⟨⟨?_⟩⟩
  have e0 := ext_alloc w (.cells #[.int .i64 0] 3)
  have h2 := blk_alloc w #[.int .i64 0] 3
  have l2 := h2.lt
  obtain ⟨b2, hb2⟩ : ∃ b2, b2 = w.heap.size := ⟨_, rfl⟩
  rw [← hb2] at h2 l2 ⊢
  generalize w.alloc (.cells #[.int .i64 0] 3) = w1 at *
  have e1 := ext_alloc w1 (.cells #[.int .i64 0] 36)
  have h4 := blk_alloc w1 #[.int .i64 0] 36
  have h22 := h2.ext e1
  obtain ⟨b4, hb4⟩ : ∃ b4, b4 = w1.heap.size := ⟨_, rfl⟩
  rw [← hb4] at h4 ⊢
  generalize w1.alloc (.cells #[.int .i64 0] 36) = w2 at *
  intro K11 K40
  have hout : doSt ((blk b2).add 0) (.int .i64 0) w2 (fun w45 => doSt ((blk b4).add 0) (.int .i64 2) w45 (fun w46 => ∃ (x47 : Int), World.cell? w46 (blk b2) = some (.int .i64 x47) ∧ (
 ∃ (x48 : Int), World.cell? w46 (blk b4) = some (.int .i64 x48) ∧ (
 R (.returned (.tuple #[.int .i64 x47, .int .i64 x48])) w46)))) := by
    refine do_st h22 (i := 0) (add_blk _ _) (by simp) fun w3 h3 g3 => ?_
    refine do_st (h4.grown g3 (ne_some (by omega))) (i := 0) (add_blk _ _) (by simp) fun w4 k4 g4 => ?_
    exact ⟨_, (h3.grown g4 (ne_some (by omega))).cell (i := 0) rfl rfl, _, k4.cell (i := 0) rfl rfl, h _ (((e0.trans e1).st g3 (by omega)).st g4 (by omega))⟩
  refine ifB_intro (fun _ => hout) fun h1 => ?_
  have h1 := of_decide_eq_false h1
  have h7 : decide (o > 7) = true := decide_eq_true (by
    unfold isO at ho
    simp at ho
    omega)
  rw [h7]
  simp -zeta -zetaHave only [K40]
  exact ifB_t rfl hout
theorem c_cis {o : Int} {t : Tr} {p : Option Addr} {w : World} {R : Ending → World → Prop} (ht : IsN w p t) (hk : InK t) (h : ∀ r w', Ext w w' → (r = true ↔ canT o t) → R (.returned (.bool r)) w') :
    Calls Tryz.prog 51 #[.int .u8 o, .pointer p] w R := by
  refine sh51_ok _ _ ?_
  unfold sh51
  cases ho : isO o with
  | false =>
    refine do_call Tryz.call117 (c_scheck_no ho fun w1 e1 => retS_ret ⟨_, _, rfl, ?_⟩)
    intro K9
    exact ifB_f rfl (h _ _ e1 (by simp [canT, ho]))
  | true =>
  refine do_call Tryz.call117 (c_scheckG ho ht hk fun k e w1 e1 i1 => retS_ret ⟨_, _, rfl, ?_⟩)
  intro K9
  refine ifB_intro (fun q => ?_) fun q => ?_
  · have a1 := i1.1 (by simpa using q)
    refine do_call Tryz.call118 (sh118_ok _ ?_)
    unfold sh118
    refine do_call Tryz.call195 (c_tpcheckG (ht.ext e1) fun k2 e2' w2 e2 i2 => retS_ret ⟨_, _, rfl, retS_ret ⟨_, rfl, ?_⟩⟩)
    refine ifB_intro (fun q2 => ?_) fun q2 => ?_
    · have a2 := i2.1 (by simpa using q2)
      refine do_call Tryz.call119 (c_mixed t (ht.ext (e1.trans e2)) fun r w3 e3 i3 => retS_ret ⟨_, rfl, h _ w3 ((e1.trans e2).trans e3) ?_⟩)
      rw [i3]
      exact ⟨fun m => ⟨ho, a1, a2, m⟩, fun c => c.2.2.2⟩
    · have a2 : ¬ Tp t := fun c => by have := i2.2 c; simp [this] at q2
      exact h _ w2 (e1.trans e2) ⟨fun c => (by cases c), fun c => absurd c.2.2.1 a2⟩
  · have a1 : ¬ (t.pairs.map (·.1)).Pairwise (ltO o) := fun c => by have := i1.2 c; simp [this] at q
    exact h _ w1 e1 ⟨fun c => (by cases c), fun c => absurd c.2.1 a1⟩
theorem canT_can {o : Int} {t : Tr} (hk : InK t) (h : canT o t) : Can o t :=
  ⟨⟨⟨.inr (.inr (.inr ⟨rfl, h.2.2.1⟩)), fun q => absurd q (by decide)⟩, by unfold Go.Proofs.YtlddfgfmkapoiaaGreat.asc; rw [← pairs_its]; exact h.2.1, hk⟩, mixT_iff.1 h.2.2.2⟩
end Go.Proofs.YtlddfgfmkapoiaaGreat

