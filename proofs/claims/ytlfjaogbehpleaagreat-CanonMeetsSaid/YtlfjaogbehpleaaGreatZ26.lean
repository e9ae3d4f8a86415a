/-
  set: sets of keys in memory.
-/
/-
  set: what a set is changed to, and which key is at a place; the chapter's example.
-/
/-
  The document's answer of layer 40; has a set just these keys?
-/
/-
  canon.Diff of two canonical trees; the chapter's examples.
-/
/-
  The document's canonical tree; the chapter's examples.
-/
/-
  What is done with canonical trees, in plain: they stay canonical.
-/
/-
  sound.Check of any tree: nothing is wrong if, and only if, its keys rise.
-/
/-
  treap.Check of any tree; is a tree canonical?
-/
/-
  The document's answers of layer 41, of beads: digests, and which are canonical.
-/
/-
  The document's difference of two rows; canon.Diff of trees of which one is not canonical.
-/
/-
  What find.Get does.
-/
/-
  set: is a key there? A copy.
-/
/-
  CanonMeets, in plain: the keys in which two canonical trees differ, counted.
-/
import Derived.Test.YtlfjaogbehpleaaGreatZ25
import Derived.Test.YtlfjaogbehpleaaGreatZ22
import Derived.Test.YtlfjaogbehpleaaGreatZ21
import Derived.Test.YtlfjaogbehpleaaGreatZ20

namespace Go.Proofs.YtlfjaogbehpleaaGreat
open Go Go.Sh Go.RowKit

/-! ### two sets -/
section
variable {c o : Int} {b bY bx by_ : Nat} {px py : Option Addr} {K L : List Int} {w : World} {R : Ending → World → Prop} {f : Fn} {fx fc : Array Value}
end
/-! ### one set -/
section
variable {c o : Int} {b bx : Nat} {px : Option Addr} {K : List Int} {w : World} {R : Ending → World → Prop}
end
theorem c_samekeys {l r : List Int} {q q' : Option Addr} {n c n' c' : Nat} {w : World} {R : Ending → World → Prop} (hl : Cs w q (ints l)) (hn : l.length = n) (hr : Cs w q' (ints r)) (hn' : r.length = n') (hm : n ≤ 1000000000000)
    (h : ∀ w', Ext w w' → R (.returned (.bool (decide (l = r)))) w') : Calls Tryz.prog 66 #[.slice q n c, .slice q' n' c'] w R := by
  refine sh66_ok _ _ _ _ _ _ ?_
  unfold sh66
  refine ifB_intro (fun hne => ?_) fun heq => ?_
  · have hne : l ≠ r := fun e => by subst e; simp [← hn, ← hn'] at hne
    have := h w (ext_refl w)
    rw [decide_eq_false hne] at this
    exact this
  have heq : n = n' := by simp at heq; omega
  subst heq
  refine ⟨fun vs w' => ∃ k : Nat, vs = [.int .i64 k] ∧ k ≤ n ∧ Ext w w' ∧ l.take k = r.take k, fun vs _ => n - (intOf (vs.getD 0 undef)).toNat, ⟨0, rfl, by omega, ext_refl w, by simp⟩, ?_⟩
  rintro i _ w2 ⟨k, hv, hkn, E, hlo⟩
  simp only [List.cons.injEq, Value.int.injEq, true_and, and_true] at hv
  subst hv
  refine ifB_intro (fun hlt => ?_) fun hge => ?_
  · have hlt : k < n := by have := of_decide_eq_true hlt; omega
    have d := ext_drew w2
    have hli : ∀ w', Ext w2 w' → Cs w' q (l.flatMap fun x => [.int .i64 x]) := fun w' e => by
      have := (hl.ext E).ext e
      unfold ints at this
      rwa [List.map_eq_flatMap] at this
    have hri : ∀ w', Ext w2 w' → Cs w' q' (r.flatMap fun x => [.int .i64 x]) := fun w' e => by
      have := (hr.ext E).ext e
      unfold ints at this
      rwa [List.map_eq_flatMap] at this
    refine ⟨⟨fun w' => Ext w2 w', d, ?_⟩⟩
    refine ix_flatC (ec := fun x : Int => [.int .i64 x]) (s := 1) (fun _ => rfl) (by omega) hli d hn (k := k) rfl hlt fun a r1 => ⟨l[k]'(by omega), fun w' e => by have := r1 w' e 0 _ rfl; rwa [add_zero'] at this, ?_⟩
    refine ix_flatC (ec := fun x : Int => [.int .i64 x]) (s := 1) (fun _ => rfl) (by omega) hri d hn' (k := k) rfl hlt fun a r2 => ⟨r[k]'(by omega), fun w' e => by have := r2 w' e 0 _ rfl; rwa [add_zero'] at this, ?_⟩
    refine ifB_intro (fun hne => ?_) fun he => ?_
    · have hne : l[k]'(by omega) ≠ r[k]'(by omega) := by simpa using hne
      have hlr : l ≠ r := fun e => by subst e; exact hne rfl
      have := h _ (E.trans d)
      rw [decide_eq_false hlr] at this
      exact this
    · have he : l[k]'(by omega) = r[k]'(by omega) := by simpa using he
      refine ⟨⟨k + 1, by rw [wrap_succ hlt (by omega)], by omega, E.trans d, ?_⟩, by rw [wrap_succ hlt (by omega)]; simp [intOf]; omega⟩
      rw [show l.take (k + 1) = l.take k ++ [l[k]'(by omega)] from (List.take_append_getElem (by omega)).symm, show r.take (k + 1) = r.take k ++ [r[k]'(by omega)] from (List.take_append_getElem (by omega)).symm, hlo, he]
  · have hge : k = n := by have := of_decide_eq_false hge; omega
    subst hge
    rw [List.take_of_length_le (by omega), List.take_of_length_le (by omega)] at hlo
    have := h _ E
    rw [decide_eq_true hlo] at this
    exact this
end Go.Proofs.YtlfjaogbehpleaaGreat

namespace Go.Proofs.YtlfjaogbehpleaaGreat
open Go Go.Sh Go.RowKit

theorem len_part (p : Int → Bool) : ∀ K : List Int, (K.filter p).length + (K.filter fun k => !p k).length = K.length
  | [] => rfl
  | k :: K => by
    have := len_part p K
    simp only [List.filter_cons]
    cases p k <;> simp <;> omega
/-! ### one set, changed -/
section
variable {c o : Int} {b bx : Nat} {p : Option Addr} {D : Option (Nat × Nat × Nat × Nat)} {ds keys K : List Int} {q : Option Addr} {n cp : Nat} {w : World} {R : Ending → World → Prop}
end
end Go.Proofs.YtlfjaogbehpleaaGreat

namespace Go.Proofs.YtlfjaogbehpleaaGreat
open Go Go.Sh Go.RowKit

/-! ### rows of keys -/
/-- a row of keys that is read alone -/
structure RK (w : World) (q : Option Addr) (n c : Nat) (L : List Int) : Prop where
  cs : Cs w q (ints L)
  len : L.length = n
  cap : n ≤ c
  bl : ∀ a, q = some a → ∃ cs, Blk w a.block cs 2
theorem RK.ext {w w' : World} {q : Option Addr} {n c : Nat} {L : List Int} (h : RK w q n c L) (e : Ext w w') : RK w' q n c L := ⟨h.cs.ext e, h.len, h.cap, fun a ha => (h.bl a ha).imp fun _ hb => hb.ext e⟩
/-! ### has a set just these keys? -/
theorem prs_of_its {c : Int} (t : Tr) : t.pairs = (itsC c t).map fun x => (x.1, x.2.1) := by
  rw [items_pairs]
  unfold itsC
  rw [List.map_map]
  exact List.map_congr_left fun x _ => by show _ = ((itC c x).1, (itC c x).2.1); rw [itC_key, itC_val]
section
variable {c o : Int} {b bx : Nat} {px : Option Addr} {K : List Int} {w : World} {R : Ending → World → Prop}
theorem KeyT.inP {t : Tr} (h : KeyT c o t K) : InP t.pairs := fun x hx => by
  obtain ⟨y, hy, e⟩ : ∃ y ∈ itsC c t, (y.1, y.2.1) = x := by
    have : t.pairs = (itsC c t).map fun x => (x.1, x.2.1) := prs_of_its t
    rw [this] at hx
    exact List.mem_map.1 hx
  have h0 := h.val y hy
  rw [← e]
  exact ⟨h.inI y hy, by show In y.2.1; rw [h0]; exact ⟨by decide, by decide⟩⟩
theorem KeyT.zero {t : Tr} (h : KeyT c o t K) : ∀ x ∈ t.pairs, x.2 = 0 := fun x hx => by
  have : t.pairs = (itsC c t).map fun x => (x.1, x.2.1) := prs_of_its t
  rw [this] at hx
  obtain ⟨y, hy, rfl⟩ := List.mem_map.1 hx
  exact h.val y hy
end
end Go.Proofs.YtlfjaogbehpleaaGreat

namespace Go.Proofs.YtlfjaogbehpleaaGreat
open Go Go.Sh Go.RowKit

theorem c_unlike {s pa pb : Option Addr} {o : Int} {w : World} {R : Ending → World → Prop}
    (h : ∀ b5 b7 b9 b11 w', Ext w w' → w.heap.size ≤ b5 → w.heap.size ≤ b7 → w.heap.size ≤ b9 → w.heap.size ≤ b11 → Blk w' b5 #[.pointer s] 65 → Blk w' b7 #[.int .u8 o] 5 → Blk w' b9 #[.pointer pa] 68 → Blk w' b11 #[.pointer pb] 68 →
      R (.returned (.func (.func 139) #[] #[.pointer (some (blk b5)), .pointer (some (blk b7)), .pointer (some (blk b9)), .pointer (some (blk b11))])) w') : Calls Tryz.prog 71 #[.pointer s, .int .u8 o, .pointer pa, .pointer pb] w R := by
  refine sh71_ok _ _ _ _ ?_
  unfold sh71
  refine ⟨⟨⟨⟨?_⟩⟩⟩⟩
  have e0 := ext_alloc w (.cells #[.pointer s] 65)
  have h0 := blk_alloc w #[.pointer s] 65
  generalize w.alloc (.cells #[.pointer s] 65) = w1 at *
  have e1 := ext_alloc w1 (.cells #[.int .u8 o] 5)
  have h1 := blk_alloc w1 #[.int .u8 o] 5
  have s0 := e0.size
  generalize hw2 : w1.alloc (.cells #[.int .u8 o] 5) = w2 at *
  have e2 := ext_alloc w2 (.cells #[.pointer pa] 68)
  have h2 := blk_alloc w2 #[.pointer pa] 68
  have s1 := e1.size
  generalize hw3 : w2.alloc (.cells #[.pointer pa] 68) = w3 at *
  have e3 := ext_alloc w3 (.cells #[.pointer pb] 68)
  have h3 := blk_alloc w3 #[.pointer pb] 68
  have s2 := e2.size
  exact h _ _ _ _ _ (((e0.trans e1).trans e2).trans e3) (Nat.le_refl _) (by omega) (by omega) (by omega) (((h0.ext e1).ext e2).ext e3) ((h1.ext e2).ext e3) (h2.ext e3) h3
/-- the state of a going over two trees, behind some keys -/
structure DfK (S : List Nat) (W1 : World) (bs b4 d : Nat) (L : Loop) (l : List Int) (w : World) : Prop where
  gd : Gd S W1 w
  sch : IsSch 4 bs w
  l0 : w.heap[d + 1]? = some (.loop L)
  row : ∃ qq nn cc, Blk w b4 #[.slice qq nn cc] 28 ∧ OwnK w W1.heap.size qq nn cc l
set_option maxRecDepth 20000 in
set_option maxHeartbeats 1000000 in
theorem c_cdiff {o : Int} {a b : Tr} {pa pb : Option Addr} {w : World} {R : Ending → World → Prop} (ho : isO o = true) (ha : IsN w pa a) (hb : IsN w pb b) (ca : Can o a) (cb : Can o b) (za : a.size ≤ 100000) (zb : b.size ≤ 100000)
    (h : ∀ q n c w', Ext w w' → OwnK w' w.heap.size q n c (difT o a b.pairs) → R (.returned (.tuple #[.slice q n c, .int .i64 0])) w') : Calls Tryz.prog 29 #[.int .u8 o, .pointer pa, .pointer pb] w R := by
  refine sh29_ok _ _ _ ?_
  unfold sh29
  refine ⟨?_⟩
  have e1 := ext_alloc w (.cells #[.slice none 0 0] 28)
  have h1 := blk_alloc w #[.slice none 0 0] 28
  have l4 := h1.lt
  obtain ⟨b4, hb4⟩ : ∃ b4, b4 = w.heap.size := ⟨_, rfl⟩
  rw [← hb4] at h1 l4 ⊢
  generalize w.alloc (.cells #[.slice none 0 0] 28) = w1 at *
  refine do_call Tryz.call65 (c_schOf (fun hc => by cases hc) fun _ bs w2 e2 hbs hs2 => retS_ret ⟨_, _, rfl, ?_⟩)
  intro K22 K55
  refine ifB_f rfl ?_
  have E2 := e1.trans e2
  refine do_call Tryz.call68 (c_cis_yes ho (ha.ext E2) ca (by omega) fun w3 e3 => retS_ret ⟨_, rfl, ifB_f rfl ?_⟩)
  refine do_call Tryz.call68 (c_cis_yes ho (hb.ext (E2.trans e3)) cb (by omega) fun w4 e4 => retS_ret ⟨_, rfl, ?_⟩)
  simp -zeta -zetaHave only [K55]
  refine ifB_f rfl ?_
  simp -zeta -zetaHave only [K22]
  have e24 := e3.trans e4
  have E4 := E2.trans e24
  refine do_call Tryz.call71 (c_unlike fun b5 b7 b9 b11 w5 e5 z5 z7 z9 z11 k5 k7 k9 k11 => retS_ret ⟨_, _, _, rfl, do_rf fun fn L w6 d hdd hL hst hpe e6 hd6 hl6 => ?_⟩)
  rw [← hdd]
  have m6 : d + 1 < w6.heap.size := (Array.getElem?_eq_some_iff.1 hl6).1
  have s24 := e24.size
  have s2 := hs2.lt
  have m5 := k5.lt
  have m7 := k7.lt
  have m9 := k9.lt
  have m11 := k11.lt
  refine callE_c Tryz.call139 (by rfl) (sh139_ok _ _ _ _ _ _ _ ?_)
  unfold sh139
  refine ⟨⟨?_⟩⟩
  have e7 := ext_alloc w6 (.cells #[.func (.yield (d + 1)) #[] #[]] 205)
  have h7 := blk_alloc w6 #[.func (.yield (d + 1)) #[] #[]] 205
  have m8 := h7.lt
  obtain ⟨b8, hb8⟩ : ∃ b8, b8 = w6.heap.size := ⟨_, rfl⟩
  rw [← hb8] at h7 m8 ⊢
  generalize w6.alloc (.cells #[.func (.yield (d + 1)) #[] #[]] 205) = w7 at *
  have e8 := ext_alloc w7 (.cells #[.nilFunc] 123)
  refine do_st (blk_alloc w7 _ _) (i := 0) (add_blk _ _) (by simp) fun W1 h10 g10 => ?_
  obtain ⟨b10, hb10⟩ : ∃ b10, b10 = w7.heap.size := ⟨_, rfl⟩
  rw [← hb10] at h10 g10 ⊢
  have h10 : Blk W1 b10 #[onD b10 b8 b5 b7] 123 := h10
  have e10 : Ext w7 W1 := e8.st g10 (by omega)
  have m10 := h10.lt
  have E6 := e7.trans e10
  have E5 := e6.trans E6
  have E24 := (e24.trans e5).trans E5
  have EW := E2.trans E24
  refine ⟨_, _, _, h10.cell (i := 0) rfl rfl, _, (k9.ext E5).cell (i := 0) rfl rfl, _, (k11.ext E5).cell (i := 0) rfl rfl, ?_⟩
  have hS : ∀ k ∈ [bs, b4, d + 1], k = bs ∨ k = b4 ∨ k = d + 1 := fun k hk => by simpa using hk
  have nS : ∀ {k : Nat}, k ≠ bs → k ≠ b4 → k ≠ d + 1 → k ∉ [bs, b4, d + 1] := fun a b c hm => by
    rcases hS _ hm with h | h | h
    · exact a h
    · exact b h
    · exact c h
  have n4 : b4 ≠ bs := by omega
  have dbs : d + 1 ≠ bs := by omega
  have J0 : DfK [bs, b4, d + 1] W1 bs b4 d L [] W1 := ⟨gd_refl _ _, hs2.ext E24, E6.heap hl6, none, 0, 0, (h1.ext e2).ext E24, World.ownsRow_nil _ _ _ _⟩
  have lW : bs < W1.heap.size ∧ b4 < W1.heap.size ∧ d + 1 < W1.heap.size := ⟨by have := E24.size; omega, by have := EW.size; have := ((h1.ext e2).ext E24).lt; omega, by have := E6.size; omega⟩
  have Y : YD [bs, b4, d + 1] b10 b8 b5 b7 bs 1000000 (.yield (d + 1)) #[] #[] (fun l w' => DfK [bs, b4, d + 1] W1 bs b4 d L l w') := by
    refine ⟨fun _ _ q => q.sch, by simp, fun l w w' q e => ?_, fun l w w' q g hs => ?_, fun l w q k hk => ?_, fun l w q k hk => ?_, ?_, nS (by omega) (by omega) (by omega), nS (by omega) (by omega) (by omega), nS (by omega) (by omega) (by omega), nS (by omega) (by omega) (by omega)⟩
    · obtain ⟨q1, q2, q3, qq, nn, cc, q4, q5⟩ := q
      exact ⟨q1.trans (gd_of e), q2.ext e, e.heap q3, qq, nn, cc, q4.ext e, e.row q5⟩
    · obtain ⟨q1, q2, q3, qq, nn, cc, q4, q5⟩ := q
      have G := gd_gs (S := [bs]) g (by simp)
      exact ⟨q1.trans (G.mono fun k hk => by simp at hk; simp [hk]), hs, heap_gd q3 G (by simpa using dbs), qq, nn, cc, q4.gd G (by simpa using n4), row_gd q5 G (by simp; omega)⟩
    · obtain ⟨q1, q2, q3, qq, nn, cc, q4, q5⟩ := q
      rcases hS k hk with rfl | rfl | rfl
      · exact q2.oth
      · exact oth_blk q4 (by decide)
      · intro cs hb; unfold Blk at hb; rw [q3] at hb; cases hb
    · have := q.gd.size
      rcases hS k hk with rfl | rfl | rfl <;> omega
    · -- a key that is told
      intro l w7 k R' J7 hlen hR
      obtain ⟨G7, s7, q0, qq, nn, cc, hB7, hO7⟩ := J7
      refine sh29_0_ok (by rw [q0, hL]) ?_
      unfold sh29_0
      refine ⟨_, q0, hst, ?_⟩
      have G8 := gd_one (put_grown w7 (d + 1) (.loop { L with state := .busy }))
      have p0 := put_heap (o' := .loop { L with state := .busy }) q0
      have pB := hB7.gd G8 (by simp; omega)
      have ps := s7.gd G8 (by simpa using Ne.symm dbs)
      have l17 := G7.size
      have pO : OwnK (w7.putObj (d + 1) (.loop { L with state := .busy })) W1.heap.size qq nn cc l := row_gd hO7 G8 (by simp; omega)
      have H8 : Gk [bs, b4, d + 1] w7 (w7.putObj (d + 1) (.loop { L with state := .busy })) := gk_gd G8 (fun k hk => by simp at hk; simp [hk])
      have G18 : Gd [bs, b4, d + 1] W1 (w7.putObj (d + 1) (.loop { L with state := .busy })) := G7.trans (G8.mono fun k hk => by simp at hk; simp [hk])
      generalize w7.putObj (d + 1) (.loop { L with state := .busy }) = w8 at *
      have lx := G18.size
      refine ⟨_, _, _, pB.cell (i := 0) rfl rfl, ⟨?_⟩⟩
      have e11 := ext_alloc w8 (.cells #[.int .i64 k] 2)
      have o11 : OwnK (w8.alloc (.cells #[.int .i64 k] 2)) W1.heap.size qq nn cc l := e11.row pO
      have hnn : l.length = nn := ownK_len o11
      refine do_app elI o11 (m := 1) (cs_alloc w8 _ _) (by simp) (by simp [Value.oneCell']) (by simp only [maxLen]; omega) (by omega) (Nat.le_trans lx e11.size) fun q12 c12 w12 o12 g12 => retS_ret ⟨_, _, _, rfl, ?_⟩
      have G12 := gd_row g12
      have hown : ∀ k ∈ (Value.slice qq nn cc).ownBlock.toList, W1.heap.size ≤ k := fun k hk => (World.ownsRow.lt o11 k (by simpa using hk)).1
      have nO : ∀ k, k < W1.heap.size → k ∉ (Value.slice qq nn cc).ownBlock.toList := fun k hk hm => by have := hown k hm; omega
      have tB := (pB.ext e11).gd G12 (nO _ (by omega))
      have ts := (ps.ext e11).gd G12 (nO _ (by omega))
      have t0 := heap_gd (e11.heap p0) G12 (nO _ (by omega))
      have G13 : Gd [bs, b4, d + 1] W1 w12 := (G18.trans (gd_of e11)).over G12 fun k hk => .inr (hown k hk)
      have H13 : Gk [bs, b4, d + 1] w7 w12 := (H8.trans (gk_of e11)).trans (gk_row o11 g12)
      refine do_st tB (i := 0) (add_blk _ _) (by simp) fun w14 uB g14 => ?_
      have uB : Blk w14 b4 #[.slice q12 (nn + 1) c12] 28 := uB
      have G14 := gd_one g14
      have u0 := heap_gd t0 G14 (by simp; omega)
      have us := ts.gd G14 (by simpa using Ne.symm n4)
      have uO := row_gd o12 G14 (by simp; omega)
      refine ⟨_, u0, ?_⟩
      rw [rec_back hst hpe]
      have G15 := gd_one (put_grown w14 (d + 1) (.loop L))
      have v0 := put_heap (o' := .loop L) u0
      have vB := uB.gd G15 (by simp; omega)
      have vs := us.gd G15 (by simpa using Ne.symm dbs)
      have vO := row_gd uO G15 (by simp; omega)
      have G16 : Gd [bs, b4, d + 1] W1 (w14.putObj (d + 1) (.loop L)) := (G13.trans (G14.mono fun k hk => by simp at hk; simp [hk])).trans (G15.mono fun k hk => by simp at hk; simp [hk])
      have H16 : Gk [bs, b4, d + 1] w7 (w14.putObj (d + 1) (.loop L)) := (H13.trans (gk_gd G14 fun k hk => by simp at hk; simp [hk])).trans (gk_gd G15 fun k hk => by simp at hk; simp [hk])
      refine hR _ ⟨G16, vs, v0, q12, nn + 1, c12, vB, ?_⟩ H16
      unfold OwnK ints at *; rw [List.map_append]; exact vO
  have HD1 : HD b10 b8 b5 b7 bs o (.yield (d + 1)) #[] #[] W1 := ⟨h10, h7.ext e10, k5.ext E5, k7.ext E5⟩
  have aA : (a.pairs.map (·.1)).Pairwise (ltO o) := by rw [pairs_its (c := 4)]; exact ca.u.asc
  have iA : ∀ x ∈ a.pairs, In x.1 := fun x hx => by
    rw [prs_itsC (c := 4)] at hx
    obtain ⟨y, hy, rfl⟩ := List.mem_map.1 hx
    exact (inK_its (c := 4)).1 ca.u.k y hy
  refine do_onD ho Y a b (L := []) HD1 (ha.ext EW) (hb.ext EW) cb.u iA aA J0 (by simp only [List.length_nil]; omega) (by simp only [BIG]; omega) fun w9 J9 _ => ?_
  refine retS_ret ⟨_, rfl, ?_⟩
  obtain ⟨G9, _, q0, qq, nn, cc, hB9, hO9⟩ := J9
  simp only [List.nil_append] at hO9
  refine rf_done q0 (by rw [hst]; simp) hpe fun o1 => ?_
  have l9 := G9.size
  have G10 := gd_one (put_grown w9 (d + 1) o1)
  have pB := hB9.gd G10 (by simp; omega)
  have pO := row_gd hO9 G10 (by simp; omega)
  have pd := heap_gd (heap_gd (E6.heap hd6) G9 (nS (by omega) (by omega) (by omega))) G10 (by simp)
  have H10 : Gd [bs, b4, d + 1] W1 (w9.putObj (d + 1) o1) := G9.trans (G10.mono fun k hk => by simp at hk; simp [hk])
  generalize w9.putObj (d + 1) o1 = w10 at *
  refine ⟨_, _, _, pB.cell (i := 0) rfl rfl, ?_⟩
  refine do_st pB (i := 0) (add_blk _ _) (by simp) fun w11 uB g11 => ?_
  have uB : Blk w11 b4 #[.slice qq nn cc] 28 := uB
  have G11 := gd_one g11
  have l10 := H10.size
  have uO := row_gd pO G11 (by simp; omega)
  have ud := heap_gd pd G11 (by simp; omega)
  have X10 : Ext w w10 := Ext.gd EW H10 fun k hk => by
    rcases hS k hk with rfl | rfl | rfl
    · have := e1.size; omega
    · omega
    · have := E4.size; have := e5.size; omega
  have X11 : Ext w w11 := X10.st g11 (by omega)
  refine ⟨ud, ?_⟩
  have G12 := gd_one (put_grown w11 d (.deferred none))
  have vB := uB.gd G12 (by simp; omega)
  have vO := row_gd uO G12 (by simp; omega)
  have X12 : Ext w (w11.putObj d (.deferred none)) := X11.put (by have := E4.size; have := e5.size; omega) _
  exact ⟨_, _, _, vB.cell (i := 0) rfl rfl, h _ _ _ _ X12 (row_mono vO (by have := EW.size; omega))⟩
end Go.Proofs.YtlfjaogbehpleaaGreat

namespace Go.Proofs.YtlfjaogbehpleaaGreat
open Go Go.Sh Go.RowKit

set_option maxRecDepth 20000 in
theorem c_alive41 {w : World} {R : Ending → World → Prop} (h : ∀ w', Ext w w' → R (.returned (.bool true)) w') : Calls Tryz.prog 27 #[] w R := by
  refine sh27_ok ?_
  unfold sh27
  refine ⟨?_⟩
  have iA : InP [((1 : Int), (10 : Int)), (2, 20)] := fun x hx => by
    simp at hx
    rcases hx with rfl | rfl <;> exact ⟨⟨by decide, by decide⟩, ⟨by decide, by decide⟩⟩
  have iB : InP [((3 : Int), (30 : Int)), (2, 21)] := fun x hx => by
    simp at hx
    rcases hx with rfl | rfl <;> exact ⟨⟨by decide, by decide⟩, ⟨by decide, by decide⟩⟩
  have sA : sortL 1 3 [((1 : Int), (10 : Int)), (2, 20)] = [(1, 10), (2, 20)] := by decide +kernel
  have sB : sortL 1 3 [((3 : Int), (30 : Int)), (2, 21)] = [(2, 21), (3, 30)] := by decide +kernel
  have e0 := ext_alloc w (.cells #[.int .i64 1, .int .i64 10, .int .i64 2, .int .i64 20] 63)
  have c0 : Cs (w.alloc (.cells #[.int .i64 1, .int .i64 10, .int .i64 2, .int .i64 20] 63)) (some (blk w.heap.size)) (prs [((1 : Int), (10 : Int)), (2, 20)]) := cs_alloc w _ _
  generalize w.alloc (.cells #[.int .i64 1, .int .i64 10, .int .i64 2, .int .i64 20] 63) = w0 at *
  refine do_call Tryz.call28 (c_canof (by decide) (by decide) c0 rfl (by omega) iA fun pa a w1 e1 ha ca qa => retS_ret ⟨_, _, rfl, ⟨?_⟩⟩)
  rw [sA] at qa
  have e2 := ext_alloc w1 (.cells #[.int .i64 3, .int .i64 30, .int .i64 2, .int .i64 21] 63)
  have c2 : Cs (w1.alloc (.cells #[.int .i64 3, .int .i64 30, .int .i64 2, .int .i64 21] 63)) (some (blk w1.heap.size)) (prs [((3 : Int), (30 : Int)), (2, 21)]) := cs_alloc w1 _ _
  generalize w1.alloc (.cells #[.int .i64 3, .int .i64 30, .int .i64 2, .int .i64 21] 63) = w2 at *
  refine do_call Tryz.call28 (c_canof (by decide) (by decide) c2 rfl (by omega) iB fun pb b w3 e3 hb cb qb => retS_ret ⟨_, _, rfl, ?_⟩)
  rw [sB] at qb
  have za : a.size = 2 := by rw [← Tr.pairs_length, qa]; rfl
  have zb : b.size = 2 := by rw [← Tr.pairs_length, qb]; rfl
  have e13 := e2.trans e3
  have ha3 := ha.ext e13
  refine do_call Tryz.call29 (c_cdiff (by decide) ha3 hb ca cb (by omega) (by omega) fun q4 n4 c4 w4 e4 o4 => retS_ret ⟨_, _, _, _, rfl, ?_⟩)
  have aA : (a.pairs.map (·.1)).Pairwise (ltO 1) := by rw [qa]; decide
  have aB : (b.pairs.map (·.1)).Pairwise (ltO 1) := by rw [qb]; decide
  have SP := difT_spec (o := 1) (by decide) aA aB (fun x hx => by rw [qa] at hx; exact (iA x hx).1) (fun x hx => (iB x (by rw [qb] at hx; simp at hx ⊢; rcases hx with rfl | rfl <;> simp)).1)
  have hD : difT 1 a b.pairs = [1, 2, 3] := keys_ext SP.1 (by decide) fun k => by
    rw [SP.2, qa, qb]
    simp only [List.mem_cons, Prod.mk.injEq, List.not_mem_nil, or_false]
    constructor
    · rintro ⟨⟨v, q⟩ | ⟨v, q⟩, _⟩ <;> omega
    · intro q
      refine ⟨?_, fun ⟨v, q1, q2⟩ => by omega⟩
      rcases q with rfl | rfl | rfl
      · exact .inl ⟨10, by simp⟩
      · exact .inl ⟨20, by simp⟩
      · exact .inr ⟨30, by simp⟩
  rw [hD] at o4
  have hn4 := ownK_len o4
  refine do_call Tryz.call28 (c_canof_no (l := []) (by decide) (cs_nil _ _) rfl (by omega) (fun x hx => by cases hx) fun w5 e5 => retS_ret ⟨_, _, rfl, ?_⟩)
  intro K25
  refine ifB_t rfl (ifB_t rfl (ifB_t rfl (ifB_t rfl ⟨?_⟩)))
  have e6 := ext_alloc w5 (.cells #[.int .i64 1, .int .i64 2, .int .i64 3] 2)
  have c6 : Cs (w5.alloc (.cells #[.int .i64 1, .int .i64 2, .int .i64 3] 2)) (some (blk w5.heap.size)) (ints [1, 2, 3]) := cs_alloc w5 _ _
  generalize w5.alloc (.cells #[.int .i64 1, .int .i64 2, .int .i64 3] 2) = w6 at *
  have e46 := e5.trans e6
  refine do_call Tryz.call66 (c_samekeys ((Cs.of_row o4).ext e46) hn4 c6 rfl (by rw [← hn4]; decide) fun w7 e7 => retS_ret ⟨_, rfl, ?_⟩)
  rw [decide_eq_true rfl]
  refine ifB_t rfl ?_
  refine do_call Tryz.call67 (c_digest .nil rfl fun w8 e8 => retS_ret ⟨_, rfl, ifB_t rfl ?_⟩)
  have e48 := (e46.trans e7).trans e8
  refine do_call Tryz.call68 (c_cis_yes (by decide) (ha3.ext (e4.trans e48)) ca (by omega) fun w9 e9 => retS_ret ⟨_, rfl, ifB_t rfl ?_⟩)
  have e49 := (e4.trans e48).trans e9
  refine do_call Tryz.call69 (sh69_ok _ _ ?_)
  unfold sh69
  refine do_call Tryz.call136 (c_shsame a b (ha3.ext e49) (hb.ext e49) fun r w10 e10 i10 => retS_ret ⟨_, rfl, retS_ret ⟨_, rfl, ?_⟩⟩)
  have : r = false := by
    cases r with
    | false => rfl
    | true =>
      have := i10.1 rfl
      rw [this, qb] at qa
      simp at qa
  subst this
  exact h w10 ((((e0.trans e1).trans e13).trans e49).trans e10)
end Go.Proofs.YtlfjaogbehpleaaGreat

namespace Go.Proofs.YtlfjaogbehpleaaGreat
open Go Go.Sh Go.RowKit

/-- a canonical tree, whose values are such that may be -/
structure Cq (o : Int) (t : Tr) : Prop where
  can : Can o t
  vi : ∀ x ∈ itsC 4 t, In x.2.1
theorem Cq.ki {o : Int} {t : Tr} (h : Cq o t) : InI (itsC 4 t) := (inK_its (c := 4)).1 h.can.u.k
theorem Cq.inP {o : Int} {t : Tr} (h : Cq o t) : InP t.pairs := fun x hx => by
  rw [prs_itsC (c := 4)] at hx
  obtain ⟨y, hy, rfl⟩ := List.mem_map.1 hx
  exact ⟨h.ki y hy, h.vi y hy⟩
theorem Cq.asc {o : Int} {t : Tr} (h : Cq o t) : (t.pairs.map (·.1)).Pairwise (ltO o) := by rw [pairs_its (c := 4)]; exact h.can.u.asc
theorem cq_of {o : Int} {t : Tr} (h : Can o t) (hI : InP t.pairs) : Cq o t := ⟨h, fun x hx => (hI (x.1, x.2.1) (by rw [prs_itsC (c := 4)]; exact List.mem_map.2 ⟨x, hx, rfl⟩)).2⟩
/-- the items of a tree are canonical ones -/
structure Ci (o : Int) (l : List It) : Prop where
  asc : asc o l
  k : InI l
  v : ∀ x ∈ l, In x.2.1
  m : ∀ x ∈ l, x.2.2 = mixK x.1
theorem Cq.ci {o : Int} {t : Tr} (h : Cq o t) : Ci o (itsC 4 t) := ⟨h.can.u.asc, h.ki, h.vi, h.can.mx⟩
theorem cq_mk {o : Int} {t : Tr} (ok : OkM 4 t) (h : Ci o (itsC 4 t)) : Cq o t := ⟨⟨⟨ok, h.asc, (inK_its (c := 4)).2 h.k⟩, h.m⟩, h.v⟩
theorem Ci.filter {o : Int} {l : List It} (h : Ci o l) (p : It → Bool) : Ci o (l.filter p) := ⟨asc_filter h.asc, fun x hx => h.k x (List.mem_filter.1 hx).1, fun x hx => h.v x (List.mem_filter.1 hx).1, fun x hx => h.m x (List.mem_filter.1 hx).1⟩
theorem ci_ins {o p : Int} {l : List It} {z : It} (hl : Ci o l) (hz : In z.1 ∧ In z.2.1 ∧ z.2.2 = mixK z.1) : Ci o (insL o p l z) := by
  have e : insL o p l z = foldI o p l [z] := rfl
  refine ⟨by rw [e]; exact asc_foldI hl.asc, fun y hy => ?_, fun y hy => ?_, fun y hy => ?_⟩
  · rcases mem_insL hy with h | rfl | ⟨u, hu, rfl⟩
    · exact hl.k y h
    · exact hz.1
    · exact hl.k u hu
  · rcases mem_insL hy with h | rfl | ⟨u, hu, rfl⟩
    · exact hl.v y h
    · exact hz.2.1
    · exact comb_in (hl.v u hu) hz.2.1
  · rcases mem_insL hy with h | rfl | ⟨u, hu, rfl⟩
    · exact hl.m y h
    · exact hz.2.2
    · exact hl.m u hu
theorem ci_fold {o p : Int} : ∀ {b l : List It}, Ci o l → Ci o b → Ci o (foldI o p l b)
  | [], l, hl, _ => hl
  | z :: b, l, hl, hb => by
    rw [foldI_cons]
    exact ci_fold (ci_ins hl ⟨hb.k z (by simp), hb.v z (by simp), hb.m z (by simp)⟩) ⟨(List.pairwise_cons.1 hb.asc).2, fun x hx => hb.k x (by simp [hx]), fun x hx => hb.v x (by simp [hx]), fun x hx => hb.m x (by simp [hx])⟩
/-! ### what is made of them -/
theorem ci_meet {o p : Int} {l b : List It} (h : Ci o l) (g : Ci o b) : Ci o (meetL p l b) := by
  have e : (meetL p l b).map (·.1) = (l.filter fun x => (findK b x.1).isSome).map (·.1) := by
    unfold meetL
    generalize l = A
    induction A with
    | nil => rfl
    | cons x A ih =>
      rw [List.filterMap_cons, List.filter_cons]
      unfold meetG at ih ⊢
      cases findK b x.1 with
      | none => simpa using ih
      | some y => simpa using ih
  have hm : ∀ x ∈ meetL p l b, ∃ y ∈ l, ∃ z ∈ b, x = (y.1, comb p y.2.1 z.2.1, y.2.2) := fun x hx => by
    obtain ⟨y, hy, q⟩ := List.mem_filterMap.1 hx
    unfold meetG at q
    cases hf : findK b y.1 with
    | none => rw [hf] at q; cases q
    | some u =>
      rw [hf] at q
      simp only [Option.map_some, Option.some.injEq] at q
      exact ⟨y, hy, u, List.mem_of_find?_eq_some hf, q.symm⟩
  refine ⟨?_, fun x hx => ?_, fun x hx => ?_, fun x hx => ?_⟩
  · unfold Go.Proofs.YtlfjaogbehpleaaGreat.asc; rw [e]; exact (h.filter _).asc
  · obtain ⟨y, hy, z, hz, rfl⟩ := hm x hx; exact h.k y hy
  · obtain ⟨y, hy, z, hz, rfl⟩ := hm x hx; exact comb_in (h.v y hy) (g.v z hz)
  · obtain ⟨y, hy, z, hz, rfl⟩ := hm x hx; exact h.m y hy
theorem cq_meet {o p : Int} {t u : Tr} (ho : isO o = true) (h : Cq o t) (g : Cq o u) : Cq o (meetC 4 o p t u) ∧ itsC 4 (meetC 4 o p t u) = meetL p (itsC 4 t) (itsC 4 u) := by
  have V := meetC_ok (p := p) ho h.can.u g.can.u
  exact ⟨cq_mk V.1 (by rw [V.2.1]; exact ci_meet h.ci g.ci), V.2.1⟩
/-! ### the laws -/
end Go.Proofs.YtlfjaogbehpleaaGreat

namespace Go.Proofs.YtlfjaogbehpleaaGreat
open Go Go.Sh Go.RowKit

/-- a bound: which keys it lets through -/
def MayG (J : Nat → World → Prop) (d : Nat) (w : World) (P : Int → Bool) (f : Fn) (xs cs : Array Value) : Prop :=
  ∀ n w' key (K : Ending → World → Prop), KP d w w' → J n w' → In key → (∀ w'', Ext w' w'' → K (.returned (.bool (P key))) w'') → doCall Tryz.prog (.func f xs cs) #[.int .i64 key] w' K
theorem MayG.kp {J : Nat → World → Prop} {d : Nat} {w w1 : World} {P : Int → Bool} {f : Fn} {xs cs : Array Value} (h : MayG J d w P f xs cs) (k : KP d w w1) : MayG J d w1 P f xs cs := fun n w' key K q j hk hK => h n w' key K (k.trans q) j hk hK
section
variable {J : Nat → World → Prop} {d bo : Nat} {o : Int} {w0 : World}
end
end Go.Proofs.YtlfjaogbehpleaaGreat

namespace Go.Proofs.YtlfjaogbehpleaaGreat
open Go Go.Sh Go.RowKit

end Go.Proofs.YtlfjaogbehpleaaGreat

namespace Go.Proofs.YtlfjaogbehpleaaGreat
open Go Go.Sh Go.RowKit

/-! ### turning -/
/-! ### digests -/
/-! ### canonical beads -/
/-! ### are beads the same? -/
end Go.Proofs.YtlfjaogbehpleaaGreat

namespace Go.Proofs.YtlfjaogbehpleaaGreat
open Go Go.Sh Go.RowKit

/-- have two rows a pair of a key in common? -/
def comB (A B : List Pr) (k : Int) : Bool := A.any fun x => decide (x.1 = k) && decide (x ∈ B)
theorem comB_iff {A B : List Pr} {k : Int} : comB A B k = true ↔ ∃ v, (k, v) ∈ A ∧ (k, v) ∈ B := by
  unfold comB
  rw [List.any_eq_true]
  constructor
  · rintro ⟨x, hx, h⟩
    simp at h
    obtain ⟨rfl, h⟩ := h
    exact ⟨x.2, hx, h⟩
  · rintro ⟨v, h1, h2⟩
    exact ⟨(k, v), h1, by simp [h2]⟩
section
variable {o : Int} {a b : List Pr} {qa qb : Option Addr} {na ca nb cb : Nat} {w : World} {R : Ending → World → Prop}
end
end Go.Proofs.YtlfjaogbehpleaaGreat

namespace Go.Proofs.YtlfjaogbehpleaaGreat
open Go Go.Sh Go.RowKit

/-- the last node on the way that is picked -/
def lastN (o key : Int) (sel : Int → Bool) : Tr → Tr → Tr
  | .nil, acc => acc
  | .node l k v g r, acc =>
    let acc' := if sel (cmpI o key k) then .node l k v g r else acc
    if cmpI o key k < 0 then lastN o key sel l acc' else if cmpI o key k = 0 then acc' else lastN o key sel r acc'
def lastR (o : Int) (t : Tr) (key : Int) (sel : Int → Bool) : Tr := cond (isO o) (lastN o key sel t .nil) .nil
theorem lastN_next {o key : Int} {sel : Int → Bool} {s acc : Tr} (h : s.nn = true) : lastN o key sel s acc =
    if cmpI o key s.key = 0 then (if sel (cmpI o key s.key) then s else acc) else lastN o key sel (s.next o key) (if sel (cmpI o key s.key) then s else acc) := by
  cases s with
  | nil => cases h
  | node l k v g r =>
    show lastN o key sel (.node l k v g r) acc = if cmpI o key k = 0 then (if sel (cmpI o key k) then .node l k v g r else acc) else lastN o key sel (if cmpI o key k < 0 then l else r) (if sel (cmpI o key k) then .node l k v g r else acc)
    rw [lastN]
    generalize cmpI o key k = c
    by_cases h1 : c < 0
    · rw [if_pos h1, if_neg (show ¬ c = 0 by omega), if_pos h1]
    · rw [if_neg h1, if_neg h1]
set_option maxRecDepth 20000 in
theorem c_fway1 {o key : Int} {t : Tr} {pt : Option Addr} {bt bo bk : Nat} {f : Fn} {fx fc : Array Value} {St : Tr → World → Prop} {Fin : World → Prop} {w0 w : World} {R : Ending → World → Prop}
    (hy : WayTo o key w0 pt t bt bo bk (.func f fx fc) St Fin) (ht : IsN w0 pt t) (hk : In key) (hA : AllK t) (h0 : St t w)
    (hno : isO o = false → ∀ w', St t w' → R (.returned (.tuple #[])) w') (hnil : ∀ w', isO o = true → St .nil w' → R (.returned (.tuple #[])) w') (hfin : ∀ w', isO o = true → Fin w' → R (.returned (.tuple #[])) w') :
    Calls Tryz.prog 152 #[.func f fx fc, .pointer (some (blk bo)), .pointer (some (blk bt)), .pointer (some (blk bk))] w R := by
  refine sh152_ok _ _ _ _ _ _ ?_
  unfold sh152
  refine ⟨_, (hy.blks _ _ h0).2.2.1.cell (i := 0) rfl rfl, ?_⟩
  refine do_call Tryz.call40 (c_name fun w1 e1 => retS_ret ⟨_, rfl, ?_⟩)
  rw [name_empty]
  have hs1 := hy.ext _ _ _ h0 e1
  cases ho : isO o
  · exact ifB_t rfl (hno ho _ hs1)
  refine ifB_f rfl ?_
  refine ⟨_, (hy.blks _ _ hs1).2.1.cell (i := 0) rfl rfl, ?_⟩
  refine ⟨fun vs w' => ∃ (s : Tr) (p : Option Addr), vs = [.pointer p] ∧ IsN w0 p s ∧ St s w' ∧ AllK s ∧ s.size ≤ t.size, fun vs w' => szAt (vs.getD 0 undef) w', ⟨t, pt, rfl, ht, hs1, hA, Nat.le_refl _⟩, ?_⟩
  rintro p _ w2 ⟨s, p', hv, hN0, hs, hA, hsz⟩
  simp only [List.cons.injEq, Value.pointer.injEq, and_true] at hv
  subst hv
  have hN : IsN w2 p s := hN0.ext (hy.blks _ _ hs).1
  have hnone := hN.isNone
  refine ifB_intro (fun hp => ?_) fun hp => ?_
  rotate_left
  · have hsn : s.nn = false := by rw [hnone] at hp; simpa using hp
    cases s with
    | nil => exact hnil _ ho hs
    | node l k v g r => cases hsn
  have hsn : s.nn = true := by rw [hnone] at hp; simpa using hp
  refine ⟨⟨fun w' => Ext w2 w', ext_drew _, _, fun w' e => ((hy.blks _ _ hs).2.2.1.ext e).cell (i := 0) rfl rfl, _, fun w' e => ((hy.blks _ _ hs).2.2.2.ext e).cell (i := 0) rfl rfl, ?_⟩⟩
  refine do_call Tryz.call131 (c_key (hN.ext (ext_drew _)) fun w3 e3 => retS_ret ⟨_, rfl, (ext_drew _).trans e3, ?_⟩)
  have hsk : In s.key := by
    cases s with
    | nil => cases hsn
    | node l k v g r => exact hA.node.2.1
  refine do_call Tryz.call64 (c_compare hk hsk fun w4 e4 => retS_ret ⟨_, rfl, ?_⟩)
  have E4 : Ext w2 w4 := (ext_drew w2).trans (e3.trans e4)
  have hs4 := hy.ext _ _ _ hs E4
  refine hy.yields s p w4 hsn hA hsz hN0 hs4 _ fun w5 h5 => retS_ret ⟨_, rfl, ifB_f rfl ?_⟩
  refine ifB_intro (fun h1 => ?_) fun h1 => ?_
  · have h1 : cmpI o key s.key = 0 := by simpa using h1
    rw [if_pos h1] at h5
    exact hfin _ ho h5
  · have h1 : cmpI o key s.key ≠ 0 := by simpa using h1
    rw [if_neg h1] at h5
    have hlt := Tr.next_lt hsn o key
    refine ifB_intro (fun h2 => ?_) fun h2 => ?_
    · have h2 := of_decide_eq_true h2
      have hnx : s.next o key = s.left := by unfold Tr.next; rw [if_pos h2]
      rw [hnx] at h5 hlt
      refine do_call Tryz.call128 (c_left0 hN0 (hy.blks _ _ h5).1 fun ql hql => retS_ret ⟨_, rfl, ⟨s.left, ql, rfl, hql, h5, hA.left, by omega⟩, ?_⟩)
      show szAt (.pointer ql) w5 < szAt (.pointer p) w2
      rw [szAt_of (hql.ext (hy.blks _ _ h5).1), szAt_of hN]; exact hlt
    · have h2 := of_decide_eq_false h2
      have hnx : s.next o key = s.right := by unfold Tr.next; rw [if_neg h2]
      rw [hnx] at h5 hlt
      refine do_call Tryz.call130 (c_right0 hN0 (hy.blks _ _ h5).1 fun ql hql => retS_ret ⟨_, rfl, ⟨s.right, ql, rfl, hql, h5, hA.right, by omega⟩, ?_⟩)
      show szAt (.pointer ql) w5 < szAt (.pointer p) w2
      rw [szAt_of (hql.ext (hy.blks _ _ h5).1), szAt_of hN]; exact hlt
theorem c_fway {o key : Int} {pt : Option Addr} {w : World} {R : Ending → World → Prop} (h : ∀ bt bo bk w', Ext w w' → w.heap.size ≤ bt → w.heap.size ≤ bo → w.heap.size ≤ bk → Blk w' bt #[.pointer pt] 68 → Blk w' bo #[.int .u8 o] 5 → Blk w' bk #[.int .i64 key] 2 →
      R (.returned (.func (.func 152) #[] #[.pointer (some (blk bo)), .pointer (some (blk bt)), .pointer (some (blk bk))])) w') : Calls Tryz.prog 82 #[.int .u8 o, .pointer pt, .int .i64 key] w R := by
  refine sh82_ok _ _ _ ?_
  unfold sh82
  refine ⟨⟨⟨?_⟩⟩⟩
  have e1 := ext_alloc w (.cells #[.int .u8 o] 5)
  have h1 := blk_alloc w #[.int .u8 o] 5
  generalize hb1 : w.heap.size = b1 at *
  generalize w.alloc (.cells #[.int .u8 o] 5) = w1 at *
  have e2 := ext_alloc w1 (.cells #[.pointer pt] 68)
  have h2 := blk_alloc w1 #[.pointer pt] 68
  have h1' := h1.ext e2
  have l1 := h1.lt
  generalize hb2 : w1.heap.size = b2 at *
  generalize w1.alloc (.cells #[.pointer pt] 68) = w2 at *
  have e3 := ext_alloc w2 (.cells #[.int .i64 key] 2)
  have h3 := blk_alloc w2 #[.int .i64 key] 2
  have l2 := h2.lt
  exact h _ _ _ _ ((e1.trans e2).trans e3) (by omega) (by omega) (by omega) (h2.ext e3) (h1'.ext e3) h3
/-- the function that keeps -/
abbrev keepV (bx : Nat) : Value := .func (.func 150) #[] #[.pointer (some (blk bx))]
theorem c_findlast {w : World} {R : Ending → World → Prop} (h : ∀ b w', Ext w w' → w.heap.size ≤ b → Blk w' b #[.pointer none] 68 → R (.returned (.tuple #[keepV b, .func (.func 151) #[] #[.pointer (some (blk b))]])) w') :
    Calls Tryz.prog 81 #[] w R := by
  refine sh81_ok ?_
  unfold sh81
  exact ⟨h _ _ (ext_alloc w _) (Nat.le_refl _) (blk_alloc w _ _)⟩
theorem c_findkeep {p kp : Option Addr} {is : Bool} {bx : Nat} {w : World} {R : Ending → World → Prop} (hb : Blk w bx #[.pointer kp] 68) (h : ∀ w', w.grownBy w' (some bx) → Blk w' bx #[.pointer (if is then p else kp)] 68 → R (.returned (.tuple #[])) w') :
    doCall Tryz.prog (keepV bx) #[.pointer p, .bool is] w R := by
  refine do_callc Tryz.call150 (by rfl) (sh150_ok _ _ _ ?_)
  unfold sh150
  cases is
  · exact ifB_f rfl (h w (grown_refl w _) hb)
  · exact ifB_t rfl (do_st (i := 0) hb (add_blk _ _) (by simp) fun w1 h1 g1 => h w1 g1 h1)
theorem putf_back {w w1 : World} {l b : Nat} {o o1 : Obj} (h : w.heap[l]? = some o) (g : (w.putObj l o1).grownBy w1 (some b)) : w.grownBy (w1.putObj l o) (some b) := by
  have g0 := put_grown w l o1
  have g2 := put_grown w1 l o
  have hl := (Array.getElem?_eq_some_iff.1 h).1
  refine ⟨(g2.os.trans g.os).trans g0.os, (g2.tape.trans g.tape).trans g0.tape, (g2.output.trans g.output).trans g0.output, Nat.le_trans g0.size (Nat.le_trans g.size g2.size), fun k hk hne => ?_⟩
  by_cases hkl : k = l
  · subst hkl
    rw [h]
    exact World.putObj_heap_same (Nat.lt_of_lt_of_le hl (Nat.le_trans g0.size g.size))
  · rw [g2.block k (Nat.lt_of_lt_of_le hk (Nat.le_trans g0.size g.size)) (ne_some hkl), g.block k (Nat.lt_of_lt_of_le hk g0.size) hne, g0.block k hk (ne_some hkl)]
theorem c_findpair {p : Option Addr} {t : Tr} {w : World} {R : Ending → World → Prop} (ht : IsN w p t) (h : ∀ w', Ext w w' → R (.returned (.tuple #[agP (t.key, t.val), .bool t.nn])) w') : Calls Tryz.prog 83 #[.pointer p] w R := by
  refine sh83_ok _ ?_
  unfold sh83
  refine ⟨?_⟩
  have e1 := ext_alloc w (.cells #[.int .i64 0, .int .i64 0] 63)
  have hb := blk_alloc w #[.int .i64 0, .int .i64 0] 63
  cases t with
  | nil =>
    obtain rfl : p = none := ht
    exact ifB_t rfl (do_st2 hb fun w2 h2 g2 => ⟨_, h2.cell (i := 0) (add_blk _ _) rfl, _, h2.cell (i := 1) (add_blk _ _) rfl, h _ (e1.st g2 (Nat.le_refl _))⟩)
  | node l k v g r =>
    have hnn : p.isNone = false := ht.isNone
    refine ifB_f hnn ?_
    refine do_call Tryz.call131 (c_key (ht.ext e1) fun w2 e2 => retS_ret ⟨_, rfl, ?_⟩)
    refine do_call Tryz.call132 (c_val ((ht.ext e1).ext e2) fun w3 e3 => retS_ret ⟨_, rfl, ?_⟩)
    refine do_st2 (hb.ext (e2.trans e3)) fun w4 h4 g4 => ⟨_, h4.cell (i := 0) (add_blk _ _) rfl, _, h4.cell (i := 1) (add_blk _ _) rfl, h _ ((e1.trans (e2.trans e3)).st g4 (Nat.le_refl _))⟩
/-- what the states of a search are -/
def StF (o key : Int) (sel : Int → Bool) (w : World) (t : Tr) (pt : Option Addr) (bx bf bt bo bk d : Nat) (L : Loop) (s : Tr) (w' : World) : Prop :=
  Ext w w' ∧ (∃ kp acc, Blk w' bx #[.pointer kp] 68 ∧ IsN w kp acc ∧ lastN o key sel s acc = lastN o key sel t .nil ∧ (s = t → acc = .nil)) ∧ Blk w' bf #[keepV bx] 142 ∧
    Blk w' bt #[.pointer pt] 68 ∧ Blk w' bo #[.int .u8 o] 5 ∧ Blk w' bk #[.int .i64 key] 2 ∧ w'.heap[d]? = some (.deferred (some [])) ∧ w'.heap[d + 1]? = some (.loop L)
def FinF (o key : Int) (sel : Int → Bool) (w : World) (t : Tr) (bx d : Nat) (L : Loop) (w' : World) : Prop :=
  Ext w w' ∧ (∃ kp, Blk w' bx #[.pointer kp] 68 ∧ IsN w kp (lastN o key sel t .nil)) ∧ w'.heap[d]? = some (.deferred (some [])) ∧ w'.heap[d + 1]? = some (.loop L)
theorem fwayTo {o key : Int} {sel : Int → Bool} {w : World} {t : Tr} {pt : Option Addr} {bx bf bt bo bk d : Nat} {L : Loop} (hw : w.heap.size ≤ bx) (n1 : bx < bf) (n2 : bf < bt) (n3 : bf < bo) (n4 : bf < bk) (n5 : bt < d)
    (hround : ∀ (p kp : Option Addr) (c : Int) (w' : World) (R' : Ending → World → Prop), w'.heap[d + 1]? = some (.loop L) → Blk w' bf #[keepV bx] 142 → Blk w' bx #[.pointer kp] 68 →
      (∀ w'', w'.grownBy w'' (some bx) → Blk w'' bx #[.pointer (if sel c then p else kp)] 68 → R' (.returned (.bool true)) w'') → doCall Tryz.prog (.func (.yield (d + 1)) #[] #[]) #[.pointer p, .int .i64 c] w' R') :
    WayTo o key w pt t bt bo bk (.func (.yield (d + 1)) #[] #[]) (StF o key sel w t pt bx bf bt bo bk d L) (FinF o key sel w t bx d L) := by
  refine ⟨?_, ?_, ?_, ?_⟩
  · rintro s w' ⟨E, _, _, h1, h2, h3, _⟩
    exact ⟨E, h1, h2, h3⟩
  · rintro s w' w'' ⟨E, ⟨kp, acc, h0, h1, h2⟩, h3, h4, h5, h6, h7, h8⟩ e
    exact ⟨E.trans e, ⟨kp, acc, h0.ext e, h1, h2⟩, h3.ext e, h4.ext e, h5.ext e, h6.ext e, e.heap h7, e.heap h8⟩
  · rintro s p w' hsn hA hsz hN ⟨E, ⟨kp, acc, h0, h1, h2, h2'⟩, h3, h4, h5, h6, h7, h8⟩ R' hR'
    refine hround p kp _ w' R' h8 h3 h0 fun w'' g hb => hR' w'' ?_
    have hE := E.st g hw
    rw [lastN_next hsn] at h2
    have hN' : IsN w (if sel (cmpI o key s.key) then p else kp) (if sel (cmpI o key s.key) then s else acc) := by split <;> assumption
    by_cases hc : cmpI o key s.key = 0
    · rw [if_pos hc] at h2 ⊢
      rw [h2] at hN'
      exact ⟨hE, ⟨_, hb, hN'⟩, heap_grown g h7 (ne_some (by omega)), heap_grown g h8 (ne_some (by omega))⟩
    · rw [if_neg hc] at h2 ⊢
      refine ⟨hE, ⟨_, _, hb, hN', h2, fun e => ?_⟩, h3.grown g (ne_some (by omega)), h4.grown g (ne_some (by omega)), h5.grown g (ne_some (by omega)), h6.grown g (ne_some (by omega)), heap_grown g h7 (ne_some (by omega)), heap_grown g h8 (ne_some (by omega))⟩
      have := Tr.next_lt hsn o key
      rw [e] at this; omega
  · rintro w' ⟨E, _⟩
    exact E
set_option maxRecDepth 20000 in
theorem c_fget {o key : Int} {t : Tr} {pt : Option Addr} {w : World} {R : Ending → World → Prop} (ht : IsN w pt t) (hk : In key) (hA : AllK t)
    (h : ∀ w', Ext w w' → R (.returned (.tuple #[.int .i64 (lastR o t key (fun c => ((c : Int) == 0))).val, .bool (lastR o t key (fun c => ((c : Int) == 0))).nn])) w') : Calls Tryz.prog 34 #[.int .u8 o, .pointer pt, .int .i64 key] w R := by
  refine sh34_ok _ _ _ ?_
  unfold sh34
  have e0 := ext_refl w
  intro K11
  refine do_call Tryz.call81 (c_findlast fun bx w2 e2 hbx hx => retS_ret (.inl ⟨_, _, _, _, _, _, rfl, ⟨?_⟩⟩))
  have lx := hx.lt
  refine do_st (blk_alloc w2 #[.nilFunc] 142) (i := 0) (add_blk _ _) (by simp) fun w3 hf3 g3 => ?_
  have hf3 : Blk w3 w2.heap.size #[keepV bx] 142 := hf3
  have e3 : Ext w2 w3 := (ext_alloc w2 _).st g3 (Nat.le_refl _)
  obtain ⟨bf, hbf⟩ : ∃ bf, bf = w2.heap.size := ⟨_, rfl⟩
  rw [← hbf] at hf3 ⊢
  have lf := hf3.lt
  simp -zeta -zetaHave only [K11]
  refine do_call Tryz.call82 (c_fway fun bt bo bk w4 e4 hbt hbo hbk h1 h2 h3 => retS_ret ⟨_, _, _, rfl, do_rf fun fn L w5 d hd hL hst hpe e5 hd5 hl5 => ?_⟩)
  have E4 : Ext w w4 := (e0.trans e2).trans (e3.trans e4)
  have E5 := E4.trans e5
  have hx5 := hx.ext ((e3.trans e4).trans e5)
  have hf5 := hf3.ext (e4.trans e5)
  have ht5 := h1.ext e5
  have ho5 := h2.ext e5
  have hk5 := h3.ext e5
  have n1 : bx < bf := by omega
  have n2 : bf < bt := by omega
  have n3 : bf < bo := by omega
  have n4 : bf < bk := by omega
  have n5 : bt < d := by rw [hd]; exact h1.lt
  have hwx : w.heap.size ≤ bx := Nat.le_trans e0.size hbx
  clear e2 e3 e4 e5 hx hf3 h1 h2 h3 g3 lx lf
  rw [← hd]
  have hround : ∀ (p kp : Option Addr) (c : Int) (w' : World) (R' : Ending → World → Prop), w'.heap[d + 1]? = some (.loop L) → Blk w' bf #[keepV bx] 142 → Blk w' bx #[.pointer kp] 68 →
      (∀ w'', w'.grownBy w'' (some bx) → Blk w'' bx #[.pointer (if ((c : Int) == 0) then p else kp)] 68 → R' (.returned (.bool true)) w'') → doCall Tryz.prog (.func (.yield (d + 1)) #[] #[]) #[.pointer p, .int .i64 c] w' R' := by
    intro p kp c w' R' hl hf hx hR'
    refine sh34_0_ok (by rw [hl, hL]) ?_
    unfold sh34_0
    refine ⟨_, hl, hst, ?_⟩
    have g1 := put_grown w' (d + 1) (.loop { L with state := .busy })
    refine ⟨_, _, _, (hf.grown g1 (ne_some (by omega))).cell (i := 0) rfl rfl, ?_⟩
    refine c_findkeep (hx.grown g1 (ne_some (by omega))) fun w1 g2 hx1 => retS_ret ⟨rfl, _, heap_grown g2 (put_heap hl) (ne_some (by omega)), ?_⟩
    rw [rec_back hst hpe]
    exact hR' _ (putf_back hl g2) (hx1.grown (put_grown _ _ _) (ne_some (by omega)))
  have hend : ∀ {w' : World} {kp : Option Addr} (Kf : List PanicEntry → World → Prop), Ext w w' → Blk w' bx #[.pointer kp] 68 → IsN w kp (lastR o t key (fun c => ((c : Int) == 0))) → w'.heap[d]? = some (.deferred (some [])) →
      doCall Tryz.prog (.func (.func 151) #[] #[.pointer (some (blk bx))]) #[] w' (retS (fun v22 w23 => ∃ (x21 : Option Addr), v22 = (.pointer x21 : Value) ∧ (
        doCall Tryz.prog (.func (.func 83) #[] #[]) #[.pointer x21] w23 (retS (fun v27 w28 => ∃ (x24 : Int), ∃ (x25 : Int), ∃ (x26 : Bool), v27 = (.tuple #[.agg #[.int .i64 x24, .int .i64 x25], .bool x26] : Value) ∧ (
        doAl (.cells #[.int .i64 0, .int .i64 0] 63) w28 (fun b29 w30 => doSt ((blk b29).add 0) (.int .i64 x24) w30 (fun w31 => doSt ((blk b29).add 1) (.int .i64 x25) w31 (fun w32 =>
        ∃ (x33 : Int), World.cell? w32 ((blk b29).add 1) = some (.int .i64 x33) ∧ (w32.heap[d]? = some (.deferred (some [])) ∧ (
        R (.returned (.tuple #[.int .i64 x33, .bool x26])) (w32.putObj d (.deferred none))))))))) Kf))) Kf) := by
    intro w' kp Kf E hb hN hd'
    refine do_callc Tryz.call151 (by rfl) (sh151_ok _ ?_)
    unfold sh151
    refine ⟨_, hb.cell (i := 0) rfl rfl, retS_ret ⟨_, rfl, ?_⟩⟩
    refine do_call Tryz.call83 (c_findpair (hN.ext E) fun w6 e6 => retS_ret ⟨_, _, _, rfl, ⟨?_⟩⟩)
    refine do_st2 (blk_alloc w6 _ _) fun w7 h7 g7 => ⟨_, h7.cell (i := 1) (add_blk _ _) rfl, ?_⟩
    have e7 : Ext w' w7 := e6.trans ((ext_alloc w6 _).st g7 (Nat.le_refl _))
    exact ⟨e7.heap hd', h _ ((E.trans e7).put (by omega) _)⟩
  have hW := fwayTo (o := o) (key := key) (sel := (fun c => ((c : Int) == 0))) (t := t) (pt := pt) hwx n1 n2 n3 n4 n5 hround
  refine callE_c Tryz.call152 (by rfl) (c_fway1 hW ht hk hA ⟨E5, ⟨none, .nil, hx5, rfl, rfl, fun _ => rfl⟩, hf5, ht5, ho5, hk5, hd5, hl5⟩ ?_ ?_ ?_)
  · rintro hno w' ⟨E6, ⟨kp, acc, h0, h1, h2, h2'⟩, h3, h4, h5, h6, h7, h8⟩
    refine rf_done h8 (by rw [hst]; simp) hpe fun ob => ?_
    have gob := put_grown w' (d + 1) ob
    refine hend _ (E6.put (by omega) _) (h0.grown gob (ne_some (by omega))) ?_ (heap_grown gob h7 (ne_some (by omega)))
    unfold lastR; rw [hno]; rw [h2' rfl] at h1; exact h1
  · rintro w' hyes ⟨E6, ⟨kp, acc, h0, h1, h2, h2'⟩, h3, h4, h5, h6, h7, h8⟩
    refine rf_done h8 (by rw [hst]; simp) hpe fun ob => ?_
    have gob := put_grown w' (d + 1) ob
    refine hend _ (E6.put (by omega) _) (h0.grown gob (ne_some (by omega))) ?_ (heap_grown gob h7 (ne_some (by omega)))
    unfold lastR; rw [hyes, cond_true, ← h2]; exact h1
  · rintro w' hyes ⟨E6, ⟨kp, h0, h1⟩, h7, h8⟩
    refine rf_done h8 (by rw [hst]; simp) hpe fun ob => ?_
    have gob := put_grown w' (d + 1) ob
    refine hend _ (E6.put (by omega) _) (h0.grown gob (ne_some (by omega))) ?_ (heap_grown gob h7 (ne_some (by omega)))
    unfold lastR; rw [hyes, cond_true]; exact h1
end Go.Proofs.YtlfjaogbehpleaaGreat

namespace Go.Proofs.YtlfjaogbehpleaaGreat
open Go Go.Sh Go.RowKit

theorem lastN_mem {o key : Int} (ho : isO o = true) (hk : In key) : ∀ {t acc : Tr}, AllK t → (t.pairs.map (·.1)).Pairwise (ltO o) → acc.nn = false → ((lastN o key (fun c => (c : Int) == 0) t acc).nn = true ↔ key ∈ t.pairs.map (·.1))
  | .nil, acc, _, _, ha => by simp [lastN, ha, Tr.pairs]
  | .node l k v g r, acc, hA, hp, ha => by
    have e0 : (Tr.node l k v g r).pairs = l.pairs ++ (k, v) :: r.pairs := rfl
    have hAl : AllK l := fun x hx => hA x (by rw [e0]; simp [hx])
    have hAk : In k := hA (k, v) (by rw [e0]; simp)
    have hAr : AllK r := fun x hx => hA x (by rw [e0]; simp [hx])
    have e : (Tr.node l k v g r).pairs.map (·.1) = l.pairs.map (·.1) ++ k :: r.pairs.map (·.1) := by
      show (l.pairs ++ (k, v) :: r.pairs).map (·.1) = _
      simp
    rw [e] at hp ⊢
    obtain ⟨hpl, hpr, hx⟩ := List.pairwise_append.1 hp
    obtain ⟨hkr, hpr⟩ := List.pairwise_cons.1 hpr
    rw [lastN]
    have hself := cmpI_self o key
    by_cases h1 : cmpI o key k < 0
    · have n1 : ¬ cmpI o key k = 0 := by omega
      rw [if_pos h1]
      simp only [beq_eq_false_iff_ne.2 n1, Bool.false_eq_true, if_false]
      rw [lastN_mem ho hk hAl hpl ha, List.mem_append, List.mem_cons]
      constructor
      · exact .inl
      · rintro (h | rfl | h)
        · exact h
        · omega
        · have : cmpI o key key < 0 := cmpI_trans h1 (hkr _ h)
          omega
    · rw [if_neg h1]
      by_cases h2 : cmpI o key k = 0
      · rw [if_pos h2]
        have hkk := cmpI_eq ho hk hAk h2
        simp only [h2, beq_self_eq_true, if_true]
        simp [hkk, Tr.nn]
      · rw [if_neg h2]
        simp only [beq_eq_false_iff_ne.2 h2, Bool.false_eq_true, if_false]
        have h3 : ltO o k key := cmpI_pos (by omega)
        rw [lastN_mem ho hk hAr hpr ha, List.mem_append, List.mem_cons]
        constructor
        · intro h; exact .inr (.inr h)
        · rintro (h | rfl | h)
          · have : cmpI o key key < 0 := cmpI_trans (hx _ h _ (by simp)) h3
            omega
          · omega
          · exact h
section
variable {c o : Int} {b bx : Nat} {px : Option Addr} {K : List Int} {w : World} {R : Ending → World → Prop}
end
end Go.Proofs.YtlfjaogbehpleaaGreat

namespace Go.Proofs.YtlfjaogbehpleaaGreat
open Go Go.Sh Go.RowKit

theorem lastN_val {o key : Int} (ho : isO o = true) (hk : In key) : ∀ {t acc : Tr}, AllK t → (t.pairs.map (·.1)).Pairwise (ltO o) → acc.nn = false → (lastN o key (fun c => (c : Int) == 0) t acc).nn = true → (key, (lastN o key (fun c => (c : Int) == 0) t acc).val) ∈ t.pairs
  | .nil, acc, _, _, ha, h => by simp [lastN, ha] at h
  | .node l k v g r, acc, hA, hp, ha, h => by
    have e0 : (Tr.node l k v g r).pairs = l.pairs ++ (k, v) :: r.pairs := rfl
    have hAl : AllK l := fun x hx => hA x (by rw [e0]; simp [hx])
    have hAk : In k := hA (k, v) (by rw [e0]; simp)
    have hAr : AllK r := fun x hx => hA x (by rw [e0]; simp [hx])
    have e : (Tr.node l k v g r).pairs.map (·.1) = l.pairs.map (·.1) ++ k :: r.pairs.map (·.1) := by rw [e0]; simp
    rw [e] at hp
    obtain ⟨hpl, hpr, _⟩ := List.pairwise_append.1 hp
    have hpr := (List.pairwise_cons.1 hpr).2
    rw [e0]
    rw [lastN] at h ⊢
    by_cases h1 : cmpI o key k < 0
    · have n1 : ¬ cmpI o key k = 0 := by omega
      rw [if_pos h1] at h ⊢
      simp only [beq_eq_false_iff_ne.2 n1, Bool.false_eq_true, if_false] at h ⊢
      exact List.mem_append_left _ (lastN_val ho hk hAl hpl ha h)
    · rw [if_neg h1] at h ⊢
      by_cases h2 : cmpI o key k = 0
      · rw [if_pos h2] at h ⊢
        have hkk := cmpI_eq ho hk hAk h2
        simp only [h2, beq_self_eq_true, if_true]
        subst hkk
        simp [Tr.val]
      · rw [if_neg h2] at h ⊢
        simp only [beq_eq_false_iff_ne.2 h2, Bool.false_eq_true, if_false] at h ⊢
        exact List.mem_append_right _ (List.mem_cons_of_mem _ (lastN_val ho hk hAr hpr ha h))
theorem c_fgetP {o key : Int} {t : Tr} {pt : Option Addr} {w : World} {R : Ending → World → Prop} (ho : isO o = true) (hk : In key) (ht : IsN w pt t) (hc : Cq o t)
    (h : ∀ x p w', Ext w w' → (p = true ↔ ∃ v, (key, v) ∈ t.pairs) → (p = true → (key, x) ∈ t.pairs) → R (.returned (.tuple #[.int .i64 x, .bool p])) w') : Calls Tryz.prog 34 #[.int .u8 o, .pointer pt, .int .i64 key] w R := by
  have hA : AllK t := fun x hx => (hc.inP x hx).1
  refine c_fget ht hk hA fun w1 e1 => h _ _ w1 e1 ?_ ?_
  · unfold lastR
    rw [ho, cond_true, lastN_mem ho hk hA hc.asc rfl, List.mem_map]
    constructor
    · rintro ⟨y, hy, rfl⟩; exact ⟨y.2, hy⟩
    · rintro ⟨v, hv⟩; exact ⟨_, hv, rfl⟩
  · unfold lastR
    rw [ho, cond_true]
    exact lastN_val ho hk hA hc.asc rfl
theorem cq_apart {o : Int} {t u : Tr} (ho : isO o = true) (h : Cq o t) (g : Cq o u) : Cq o (apartC 4 o t u) ∧ ∀ k, k ∈ (apartC 4 o t u).pairs.map (·.1) ↔ ((∃ v, (k, v) ∈ t.pairs) ∧ ¬ ∃ v, (k, v) ∈ u.pairs) ∨ ((∃ v, (k, v) ∈ u.pairs) ∧ ¬ ∃ v, (k, v) ∈ t.pairs) := by
  have V := apartC_ok ho h.can.u g.can.u
  have c1 := h.ci.filter fun x => (findK (itsC 4 u) x.1).isNone
  have c2 := g.ci.filter fun x => (findK (itsC 4 t) x.1).isNone
  have C : Ci o (itsC 4 (apartC 4 o t u)) := by rw [V.2.1]; exact ci_fold c1 c2
  refine ⟨cq_mk V.1 C, fun k => ?_⟩
  have ek : ∀ (s : Tr), (∃ x ∈ itsC 4 s, x.1 = k) ↔ ∃ v, (k, v) ∈ s.pairs := fun s => by
    rw [prs_itsC (c := 4) s]
    constructor
    · rintro ⟨x, hx, rfl⟩; exact ⟨x.2.1, List.mem_map.2 ⟨x, hx, rfl⟩⟩
    · rintro ⟨v, hv⟩
      obtain ⟨x, hx, e⟩ := List.mem_map.1 hv
      exact ⟨x, hx, (Prod.mk.inj e).1⟩
  rw [pairs_its (c := 4), List.mem_map, V.2.1]
  unfold apartL
  rw [mem_fold (l := lessL (itsC 4 t) (itsC 4 u)) (b := lessL (itsC 4 u) (itsC 4 t)) ho c1.k c2.k, less_mem, less_mem, ek, ek]
theorem meet_keys_mem {o p : Int} {t u : Tr} (ho : isO o = true) (h : Cq o t) (g : Cq o u) (k : Int) : k ∈ (meetC 4 o p t u).pairs.map (·.1) ↔ (∃ v, (k, v) ∈ t.pairs) ∧ ∃ v, (k, v) ∈ u.pairs := by
  have M := cq_meet (p := p) ho h g
  have ek : ∀ (s : Tr), (∃ x ∈ itsC 4 s, x.1 = k) ↔ ∃ v, (k, v) ∈ s.pairs := fun s => by
    rw [prs_itsC (c := 4) s]
    constructor
    · rintro ⟨x, hx, rfl⟩; exact ⟨x.2.1, List.mem_map.2 ⟨x, hx, rfl⟩⟩
    · rintro ⟨v, hv⟩
      obtain ⟨x, hx, e⟩ := List.mem_map.1 hv
      exact ⟨x, hx, (Prod.mk.inj e).1⟩
  rw [pairs_its (c := 4), List.mem_map, M.2, meet_mem, ek, ek]
/-- as many keys differ as stand apart, and as have unlike values -/
theorem meets_count {o : Int} {t u : Tr} (ho : isO o = true) (h : Cq o t) (g : Cq o u) : (difT o t u.pairs).length = (apartC 4 o t u).size + (((meetC 4 o 1 t u).pairs.map (·.1)).filter fun k => !comB t.pairs u.pairs k).length := by
  have S := difT_spec ho h.asc g.asc (fun x hx => (h.inP x hx).1) fun x hx => (g.inP x hx).1
  have A := cq_apart ho h g
  have M := cq_meet (p := 1) ho h g
  have hk := meet_keys_mem (p := 1) ho h g
  have e1 : ((meetC 4 o 1 t u).pairs.map (·.1)).filter (fun k => !comB t.pairs u.pairs k) = (difT o t u.pairs).filter fun k => comB (t.pairs.map fun x => (x.1, 0)) (u.pairs.map fun x => (x.1, 0)) k := by
    refine keys_ext (M.1.asc.sublist List.filter_sublist) (S.1.sublist List.filter_sublist) fun k => ?_
    rw [List.mem_filter, List.mem_filter, hk, S.2, comB_iff]
    have hc : (!comB t.pairs u.pairs k) = true ↔ ¬ ∃ v, (k, v) ∈ t.pairs ∧ (k, v) ∈ u.pairs := by
      rw [← comB_iff]; simp
    rw [hc]
    have hz : (∃ v, (k, v) ∈ (t.pairs.map fun x : Pr => ((x.1, 0) : Pr)) ∧ (k, v) ∈ (u.pairs.map fun x : Pr => ((x.1, 0) : Pr))) ↔ (∃ v, (k, v) ∈ t.pairs) ∧ ∃ v, (k, v) ∈ u.pairs := by
      simp only [List.mem_map, Prod.mk.injEq]
      constructor
      · rintro ⟨v, ⟨x, hx, rfl, _⟩, y, hy, e, _⟩
        exact ⟨⟨x.2, hx⟩, y.2, by rw [← e]; exact hy⟩
      · rintro ⟨⟨v, hv⟩, v', hv'⟩
        exact ⟨0, ⟨(k, v), hv, rfl, rfl⟩, (k, v'), hv', rfl, rfl⟩
    rw [hz]
    constructor
    · rintro ⟨⟨q, r⟩, n⟩; exact ⟨⟨.inl q, n⟩, q, r⟩
    · rintro ⟨⟨_, n⟩, q, r⟩; exact ⟨⟨q, r⟩, n⟩
  have e2 : (apartC 4 o t u).pairs.map (·.1) = (difT o t u.pairs).filter fun k => !comB (t.pairs.map fun x => (x.1, 0)) (u.pairs.map fun x => (x.1, 0)) k := by
    refine keys_ext A.1.asc (S.1.sublist List.filter_sublist) fun k => ?_
    rw [A.2, List.mem_filter, S.2]
    have hc : (!comB (t.pairs.map fun x : Pr => ((x.1, 0) : Pr)) (u.pairs.map fun x : Pr => ((x.1, 0) : Pr)) k) = true ↔ ¬ ((∃ v, (k, v) ∈ t.pairs) ∧ ∃ v, (k, v) ∈ u.pairs) := by
      rw [Bool.not_eq_true', ← Bool.not_eq_true, comB_iff]
      simp only [List.mem_map, Prod.mk.injEq]
      constructor
      · rintro n ⟨⟨v, hv⟩, v', hv'⟩
        exact n ⟨0, ⟨(k, v), hv, rfl, rfl⟩, (k, v'), hv', rfl, rfl⟩
      · rintro n ⟨v, ⟨x, hx, rfl, _⟩, y, hy, e, _⟩
        exact n ⟨⟨x.2, hx⟩, y.2, by rw [← e]; exact hy⟩
    rw [hc]
    constructor
    · rintro (⟨q, n⟩ | ⟨q, n⟩)
      · exact ⟨⟨.inl q, fun ⟨v, _, r⟩ => n ⟨v, r⟩⟩, fun ⟨_, r⟩ => n r⟩
      · exact ⟨⟨.inr q, fun ⟨v, r, _⟩ => n ⟨v, r⟩⟩, fun ⟨r, _⟩ => n r⟩
    · rintro ⟨⟨q | q, _⟩, n⟩
      · exact .inl ⟨q, fun r => n ⟨q, r⟩⟩
      · exact .inr ⟨q, fun r => n ⟨r, q⟩⟩
  have L := len_part (fun k => comB (t.pairs.map fun x : Pr => ((x.1, 0) : Pr)) (u.pairs.map fun x : Pr => ((x.1, 0) : Pr)) k) (difT o t u.pairs)
  rw [← e1, ← e2, List.length_map, Tr.pairs_length] at L
  omega
end Go.Proofs.YtlfjaogbehpleaaGreat

