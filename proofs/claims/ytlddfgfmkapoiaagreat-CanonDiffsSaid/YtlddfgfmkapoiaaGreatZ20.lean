/-
  build.Row: a tree of a row, with its tags.
-/
/-
  look: going over a tree.
-/
/-
  look.Pairs, look.Keys: what they make of a tree. (Printed by wip/sh/mklook.py.)
-/
/-
  Treaps, in plain: there is one treap of items whose keys are unlike.
-/
/-
  Pointers held against one another; are two trees the same?
-/
/-
  slices.SortStableFunc over pairs: swaps, rotations, insertions, merges.
-/
/-
  slices.SortStableFunc over pairs, part 2: insertion, merge, the whole.
-/
import Derived.Test.YtlddfgfmkapoiaaGreatZ19
import Derived.LaidEqlPtr
import Derived.Test.YtlddfgfmkapoiaaGreatZ15

namespace Go.Proofs.YtlddfgfmkapoiaaGreat
open Go Go.Sh Go.RowKit

theorem Gd.over {S T : List Nat} {w0 w1 w2 : World} (g : Gd S w0 w1) (k : Gd T w1 w2) (h : ∀ k ∈ T, k ∈ S ∨ w0.heap.size ≤ k) : Gd S w0 w2 :=
  ⟨k.1.trans g.1, k.2.1.trans g.2.1, k.2.2.1.trans g.2.2.1, Nat.le_trans g.size k.size, fun i hi hn => (k.2.2.2.2 i (Nat.lt_of_lt_of_le hi g.size) fun q => by
    rcases h i q with h | h
    · exact hn h
    · omega).trans (g.2.2.2.2 i hi hn)⟩
theorem gd_row {r : Option Nat} {w w' : World} (g : w.grownBy w' r) : Gd r.toList w w' := ⟨g.os, g.tape, g.output, World.grownBy.size g, fun k hk hn => g.block k hk fun e => hn (by rw [← e]; simp)⟩
theorem gd_one {k : Nat} {w w' : World} (g : w.grownBy w' (some k)) : Gd [k] w w' := gd_row g
abbrev tgF (bl bs bd : Nat) : Value := .func (.func 183) #[] #[.pointer (some (blk bl)), .pointer (some (blk bs)), .pointer (some (blk bd))]
theorem c_tagged {s p q : Option Addr} {n cp : Nat} {w : World} {R : Ending → World → Prop}
    (h : ∀ bs bd bl w', Ext w w' → w.heap.size ≤ bs → bs < bd → bd < bl → Blk w' bs #[.pointer s] 25 → Blk w' bd #[.pointer p] 31 → Blk w' bl #[.slice q n cp] 22 → R (.returned (tgF bl bs bd)) w') :
    Calls Tryz.prog 102 #[.pointer s, .pointer p, .slice q n cp] w R := by
  refine sh102_ok _ _ _ _ _ ?_
  unfold sh102
  refine ⟨⟨⟨?_⟩⟩⟩
  have e0 := ext_alloc w (.cells #[.pointer s] 25)
  have h0 := blk_alloc w #[.pointer s] 25
  have l0 := h0.lt
  generalize hw1 : w.alloc (.cells #[.pointer s] 25) = w1 at *
  have e1 := ext_alloc w1 (.cells #[.pointer p] 31)
  have h1 := blk_alloc w1 #[.pointer p] 31
  have l1 := h1.lt
  generalize hw2 : w1.alloc (.cells #[.pointer p] 31) = w2 at *
  have e2 := ext_alloc w2 (.cells #[.slice q n cp] 22)
  exact h _ _ _ _ ((e0.trans e1).trans e2) (Nat.le_refl _) l0 l1 ((h0.ext e1).ext e2) (h1.ext e2) (blk_alloc _ _ _)
/-- what stays while a row is gone over -/
structure RowJ (c : Int) (b : Nat) (S : List Nat) (w0 : World) (bs bd bl d : Nat) (p q : Option Addr) (n cp : Nat) (w : World) : Prop where
  gd : Gd S w0 w
  sch : IsSch c b w
  fs : Blk w bs #[.pointer (some (blk b))] 25
  fd : Blk w bd #[.pointer p] 31
  fl : Blk w bl #[.slice q n cp] 22
  df : w.heap[d]? = some (.deferred (some []))
theorem RowJ.go {c : Int} {b : Nat} {S T : List Nat} {w0 : World} {bs bd bl d : Nat} {p q : Option Addr} {n cp : Nat} {w w' : World} (h : RowJ c b S w0 bs bd bl d p q n cp w) (g : Gd T w w')
    (hT : ∀ k ∈ T, k ≠ b ∧ k ≠ bs ∧ k ≠ bd ∧ k ≠ bl ∧ k ≠ d ∧ (k ∈ S ∨ w0.heap.size ≤ k)) : RowJ c b S w0 bs bd bl d p q n cp w' :=
  ⟨h.gd.over g fun k hk => (hT k hk).2.2.2.2.2, h.sch.gd g fun hk => (hT _ hk).1 rfl, h.fs.gd g fun hk => (hT _ hk).2.1 rfl, h.fd.gd g fun hk => (hT _ hk).2.2.1 rfl, h.fl.gd g fun hk => (hT _ hk).2.2.2.1 rfl, heap_gd h.df g fun hk => (hT _ hk).2.2.2.2.1 rfl⟩
theorem RowJ.ext {c : Int} {b : Nat} {S : List Nat} {w0 : World} {bs bd bl d : Nat} {p q : Option Addr} {n cp : Nat} {w w' : World} (h : RowJ c b S w0 bs bd bl d p q n cp w) (e : Ext w w') : RowJ c b S w0 bs bd bl d p q n cp w' :=
  h.go (gd_of (S := []) e) fun k hk => by cases hk
set_option maxRecDepth 20000 in
set_option maxHeartbeats 1600000 in
theorem c_brow {c o : Int} {b : Nat} {p : Option Addr} {D : Option (Nat × Nat × Nat × Nat)} {ds : List Int} {l : List Pr} {q : Option Addr} {n cp : Nat} {w : World} {R : Ending → World → Prop} (hs : IsSch c b w) (hd : IsD p D ds w) (hN : topD D ≤ w.heap.size)
    (hl : ∀ w', Gd (b :: blksD D) w w' → Cs w' q (prs l)) (hn : l.length = n) (hB : n ≤ 1000000) (hI : InP l) (hm : mayR o l = true)
    (h : ∀ qt w', Gd (b :: blksD D) w w' → IsSch c b w' → IsD p D (restL c ds l) w' → IsN w' qt (bldC c (tagL c ds l)) → R (.returned (.tuple #[.pointer qt, .int .i64 0])) w') :
    Calls Tryz.prog 32 #[.pointer (some (blk b)), .int .u8 o, .pointer p, .slice q n cp] w R := by
  refine sh32_ok _ _ _ _ _ _ ?_
  unfold sh32
  intro K13 _
  refine ifB_f rfl (do_call Tryz.call101 (c_may (hl w (gd_refl _ _)) hn (by omega) hI fun w1 e1 => retS_ret ⟨_, rfl, ?_⟩))
  rw [hm]
  refine ifB_f rfl ?_
  simp -zeta -zetaHave only [K13]
  refine ⟨?_⟩
  have e2 := ext_alloc w1 (.cells #[.slice none 0 0] 40)
  have ha := blk_alloc w1 #[.slice none 0 0] 40
  have l1 := e1.size
  have la := ha.lt
  generalize hba : w1.heap.size = ba at *
  generalize w1.alloc (.cells #[.slice none 0 0] 40) = w2 at *
  refine do_call Tryz.call102 (c_tagged fun bs bd bl w3 e3 hbs hsd hdl h1 h2 h3 => retS_ret ⟨_, _, _, rfl, do_rf fun fn L w4 d hdd hL hst hpe e4 hd4 hl4 => ?_⟩)
  have m3 := h3.lt
  have m4 := e4.size
  have E14 := (e2.trans e3).trans e4
  have E4 := e1.trans E14
  have hslt := hs.lt
  have hDlt := hd.lt
  have hbD := hd.sch hs
  have hdlt : d + 1 < w4.heap.size := (Array.getElem?_eq_some_iff.1 hl4).1
  have J4 : RowJ c b (b :: blksD D) w bs bd bl d p q n cp w4 := ⟨gd_of E4, hs.ext E4, h1.ext e4, h2.ext e4, h3.ext e4, hd4⟩
  have hD4 := hd.ext E4
  have ha4 := (ha.ext e3).ext e4
  rw [← hdd]
  -- what is changed beside a row: fresh blocks, the record, what holds all
  have fresh : ∀ {T : List Nat}, (∀ k ∈ T, k = ba ∨ k = d + 1 ∨ w4.heap.size ≤ k) → ∀ k ∈ T, k ≠ b ∧ k ≠ bs ∧ k ≠ bd ∧ k ≠ bl ∧ k ≠ d ∧ (k ∈ (b :: blksD D) ∨ w.heap.size ≤ k) := fun hT k hk => by
    have := hT k hk
    exact ⟨by omega, by omega, by omega, by omega, by omega, .inr (by omega)⟩
  have top : ∀ {T : List Nat}, (∀ k ∈ T, k = ba ∨ k = d + 1 ∨ w4.heap.size ≤ k) → ∀ k ∈ T, topD D ≤ k := fun hT k hk => by
    have := hT k hk
    omega
  have drw : ∀ k ∈ blksD D, k ≠ b ∧ k ≠ bs ∧ k ≠ bd ∧ k ≠ bl ∧ k ≠ d ∧ (k ∈ (b :: blksD D) ∨ w.heap.size ≤ k) := fun k hk => by
    have := (hDlt k hk).1
    exact ⟨fun e => hbD (e ▸ hk), by omega, by omega, by omega, by omega, .inl (List.mem_cons_of_mem _ hk)⟩
  have drwB : ∀ k ∈ blksD D, k < w.heap.size := fun k hk => (hDlt k hk).1
  refine callE_c Tryz.call183 (by rfl) (sh183_ok _ _ _ _ _ _ ?_)
  unfold sh183
  refine ⟨_, _, _, J4.fl.cell (i := 0) rfl rfl, fun vs w' => ∃ (i : Nat) (qq : Option Addr) (nn cc : Nat), vs = [.int .i64 i] ∧ i ≤ n ∧ RowJ c b (b :: blksD D) w bs bd bl d p q n cp w' ∧ IsD p D (restL c ds (l.take i)) w' ∧ Blk w' ba #[.slice qq nn cc] 40 ∧ OwnI w' w4.heap.size qq nn cc (tagL c ds (l.take i)) ∧ w'.heap[d + 1]? = some (.loop L) ∧ w4.heap.size ≤ w'.heap.size,
    fun vs _ => n - (intOf (vs.getD 0 undef)).toNat, ⟨0, none, 0, 0, rfl, by omega, J4, ?_, ha4, ?_, hl4, Nat.le_refl _⟩, ?_⟩
  · have : restL c ds (l.take 0) = ds := by unfold restL; simp
    rw [this]; exact hD4
  · rw [List.take_zero, tagL_nil]; exact ownI_nil _ _
  rintro i j w5 ⟨m, qq, nn, cc, hv, hmn, J5, hD5, ha5, ho5, hl5, hsz5⟩
  simp only [List.cons.injEq, Value.int.injEq, and_true, true_and] at hv
  subst hv
  refine ifB_intro (fun hlt => ?_) fun hge => ?_
  · have hlt : m < n := by have := of_decide_eq_true hlt; omega
    have hml : m < l.length := by omega
    refine ix_pr (hl w5 J5.gd) hn rfl hlt fun a r1 r2 _ => ⟨_, r1, _, r2, ⟨?_⟩⟩
    -- the pair, and the item
    have e6 := ext_alloc w5 (.cells #[.int .i64 0, .int .i64 0] 46)
    refine do_st2 (blk_alloc w5 _ _) fun w6 h6 g6 => ?_
    have E6 : Ext w5 w6 := e6.st g6 (Nat.le_refl _)
    have l6 := h6.lt
    generalize hbx : w5.heap.size = bx at *
    refine ⟨_, h6.cell (i := 0) (add_blk _ _) rfl, _, h6.cell (i := 1) (add_blk _ _) rfl, ⟨?_⟩⟩
    have e7 := ext_alloc w6 (.cells #[.int .i64 0, .int .i64 0, .int .u64 0] 114)
    refine do_st3 (blk_alloc w6 _ _) fun w7 h7 g7 => ?_
    have E7 : Ext w6 w7 := e7.st g7 (Nat.le_refl _)
    have l7 := h7.lt
    have l67 := E7.size
    generalize hby : w6.heap.size = by_ at *
    have E57 := E6.trans E7
    have h67 := h6.ext E7
    intro K30
    have J7 := J5.ext E57
    have hD7 := hD5.ext E57
    have ha7 := ha5.ext E57
    have ho7 : OwnI w7 w4.heap.size qq nn cc (tagL c ds (l.take m)) := E57.row ho5
    have hl7 := E57.heap hl5
    have hnn : nn ≤ 1000000 := by
      have := ownI_len ho5
      rw [tagL_len, List.length_take] at this; omega
    -- behind the tag
    have hK : ∀ (g : Int) w8, Blk w8 by_ #[.int .i64 (l[m]).1, .int .i64 (l[m]).2, .int .u64 g] 114 → RowJ c b (b :: blksD D) w bs bd bl d p q n cp w8 → IsD p D (restL c ds (l.take (m + 1))) w8 → Blk w8 ba #[.slice qq nn cc] 40 → OwnI w8 w4.heap.size qq nn cc (tagL c ds (l.take m)) → w8.heap[d + 1]? = some (.loop L) → w4.heap.size ≤ w8.heap.size →
        tagL c ds (l.take (m + 1)) = tagL c ds (l.take m) ++ [((l[m]).1, (l[m]).2, g)] → K30 w8 := by
      intro g w8 h8 J8 hD8 ha8 ho8 hl8 hsz8 htg
      refine ⟨_, h8.cell (i := 0) (add_blk _ _) rfl, _, h8.cell (i := 1) (add_blk _ _) rfl, _, h8.cell (i := 2) (add_blk _ _) rfl, ?_⟩
      refine sh32_0_ok (by rw [hl8, hL]) ?_
      unfold sh32_0
      refine ⟨?_⟩
      have e9 := ext_alloc w8 (.cells #[.int .i64 0, .int .i64 0, .int .u64 0] 114)
      refine do_st3 (blk_alloc w8 _ _) fun w9 h9 g9 => ?_
      have E9 : Ext w8 w9 := e9.st g9 (Nat.le_refl _)
      have l89 := E9.size
      have l9 := h9.lt
      refine ⟨_, E9.heap hl8, hst, ?_⟩
      have g10 := put_grown w9 (d + 1) (.loop { L with state := .busy })
      have hl10 := put_heap (o' := .loop { L with state := .busy }) (E9.heap hl8)
      have G10 := gd_one g10
      have T1 : ∀ k ∈ [d + 1], k = ba ∨ k = d + 1 ∨ w4.heap.size ≤ k := fun k hk => by simp at hk; omega
      have J10 := (J8.ext E9).go G10 (fresh T1)
      have hD10 := (hD8.ext E9).gd G10 (top T1)
      have ha10 := (ha8.ext E9).gd G10 (by simp; omega)
      have ho10 : OwnI (w9.putObj (d + 1) (.loop { L with state := .busy })) w4.heap.size qq nn cc (tagL c ds (l.take m)) := row_gd (E9.row ho8) G10 (by simp; omega)
      have h910 := h9.gd G10 (by simp; omega)
      have sz10 : w9.heap.size ≤ (w9.putObj (d + 1) (.loop { L with state := .busy })).heap.size := G10.size
      generalize w9.putObj (d + 1) (.loop { L with state := .busy }) = w10 at *
      refine ⟨_, _, _, ha10.cell (i := 0) rfl rfl, _, h910.cell (i := 0) (add_blk _ _) rfl, _, h910.cell (i := 1) (add_blk _ _) rfl, _, h910.cell (i := 2) (add_blk _ _) rfl, ?_⟩
      refine do_app1I (x := ((l[m]).1, (l[m]).2, g)) ho10 (by omega) (by omega) fun q11 c11 w11 ho11 hx11 g11 hor => ⟨_, _, _, rfl, ?_⟩
      have G11 := gd_row g11
      have T2 : ∀ k ∈ (Value.slice qq nn cc).ownBlock.toList, k = ba ∨ k = d + 1 ∨ w4.heap.size ≤ k := fun k hk => by
        have hk : (Value.slice qq nn cc).ownBlock = some k := by simpa using hk
        exact .inr (.inr (World.ownsRow.lt ho10 k hk).1)
      have N2 : ∀ k, k < w4.heap.size → k ∉ (Value.slice qq nn cc).ownBlock.toList := fun k hk hm => by
        have hm : (Value.slice qq nn cc).ownBlock = some k := by simpa using hm
        have := (World.ownsRow.lt ho10 k hm).1
        omega
      have J11 := J10.go G11 (fresh T2)
      have hD11 := hD10.gd G11 (top T2)
      have ha11 := ha10.gd G11 (N2 _ (by omega))
      have hl11 := heap_gd hl10 G11 (N2 _ (by omega))
      have l11 := G11.size
      refine do_st ha11 (i := 0) (add_blk _ _) (by simp) fun w12 ha12 g12 => ?_
      have ha12 : Blk w12 ba #[.slice q11 (nn + 1) c11] 40 := ha12
      have G12 := gd_one g12
      have T3 : ∀ k ∈ [ba], k = ba ∨ k = d + 1 ∨ w4.heap.size ≤ k := fun k hk => by simp at hk; omega
      have J12 := J11.go G12 (fresh T3)
      have hD12 := hD11.gd G12 (top T3)
      have ho12 : OwnI w12 w4.heap.size q11 (nn + 1) c11 (tagL c ds (l.take m) ++ [((l[m]).1, (l[m]).2, g)]) := row_gd ho11 G12 (by simp; omega)
      have hl12 := heap_gd hl11 G12 (by simp; omega)
      have l12 := G12.size
      refine ⟨_, hl12, ?_⟩
      rw [rec_back hst hpe]
      have g13 := put_grown w12 (d + 1) (.loop L)
      have G13 := gd_one g13
      have l13 := G13.size
      refine retS_ret ⟨_, rfl, ifB_f rfl ⟨⟨m + 1, q11, nn + 1, c11, ?_, by omega, J12.go G13 (fresh T1), hD12.gd G13 (top T1), ha12.gd G13 (by simp; omega), ?_, put_heap hl12, by omega⟩, ?_⟩⟩
      · rw [wrap_succ hlt (by omega)]
      · rw [htg]
        exact row_gd ho12 G13 (by simp; omega)
      · rw [wrap_succ hlt (by omega)]
        simp [intOf]; omega
    refine ⟨_, J7.fs.cell (i := 0) rfl rfl, ?_⟩
    refine do_call Tryz.call184 (c_scode J7.sch (retS_ret ⟨_, rfl, ?_⟩))
    refine ifB_intro (fun h4 => ?_) fun h4 => ?_
    · have h4 : c = 4 := by simpa using h4
      refine ⟨_, J7.fd.cell (i := 0) rfl rfl, _, h67.cell (i := 0) (add_blk _ _) rfl, ?_⟩
      refine do_call Tryz.call185 (c_dnext hD7 fun w8 G8 hD8 => retS_ret ⟨_, rfl, ?_⟩)
      have l8 := G8.size
      have nD : ∀ {k : Nat}, w.heap.size ≤ k → k ∉ blksD D := fun hk hm => by have := drwB _ hm; omega
      have h78 := h7.gd G8 (nD (by omega))
      refine do_st h78 (i := 2) (by rw [Sh.add_add, add_blk]) (by simp) fun w9 h9 g9 => ?_
      have G9 := gd_one g9
      have T4 : ∀ k ∈ [by_], k = ba ∨ k = d + 1 ∨ w4.heap.size ≤ k := fun k hk => by simp at hk; omega
      have l9 := G9.size
      refine hK (headD (restL c ds (l.take m)) (l[m]).1) w9 h9 ((J7.go G8 drw).go G9 (fresh T4)) ?_ ((ha7.gd G8 (nD (by omega))).gd G9 (by simp; omega)) ?_ (heap_gd (heap_gd hl7 G8 (nD (by omega))) G9 (by simp; omega)) (by omega) ?_
      · rw [restL_take hml, if_pos h4]
        exact hD8.gd G9 (top T4)
      · have k1 : OwnI w8 w4.heap.size qq nn cc (tagL c ds (l.take m)) := row_gd ho7 G8 fun k hk => by have := drwB k hk; omega
        -- the item's own block is no row's
        refine World.ownsRow.kept k1 g9 ?_
        cases hq : (Value.slice qq nn cc).ownBlock with
        | none => exact .inl rfl
        | some k =>
          refine .inr fun e => ?_
          have := (World.ownsRow.lt ho5 k hq).2
          injection e with e
          omega
      · rw [tagL_take hml, if_pos h4]
    · have h4 : c ≠ 4 := by simpa using h4
      refine hK 0 w7 h7 J7 ?_ ha7 ho7 hl7 (by omega) ?_
      · rw [restL_take hml, if_neg h4]; exact hD7
      · rw [tagL_take hml, if_neg h4]
  · have hge : m = n := by have := of_decide_eq_false hge; omega
    subst hge
    rw [List.take_of_length_le (by omega)] at hD5 ho5
    refine rf_done hl5 (by rw [hst]; simp) hpe fun oo => ?_
    have g6 := put_grown w5 (d + 1) oo
    have G6 := gd_one g6
    have T1 : ∀ k ∈ [d + 1], k = ba ∨ k = d + 1 ∨ w4.heap.size ≤ k := fun k hk => by simp at hk; omega
    have J6 := J5.go G6 (fresh T1)
    have hD6 := hD5.gd G6 (top T1)
    have ha6 := ha5.gd G6 (by simp; omega)
    have ho6 : OwnI (w5.putObj (d + 1) oo) w4.heap.size qq nn cc (tagL c ds l) := row_gd ho5 G6 (by simp; omega)
    have l56 := G6.size
    generalize w5.putObj (d + 1) oo = w6 at *
    have hlen := ownI_len ho6
    rw [tagL_len] at hlen
    refine ⟨_, _, _, ha6.cell (i := 0) rfl rfl, ?_⟩
    refine do_call Tryz.call93 (c_bitems J6.sch (fun w' g => ownI_cs (row_gd (S := [b]) ho6 (gd_gs g (by simp)) (by simp; omega))) (by rw [tagL_len]; exact hlen) (row_cap ho6) (by omega) fun q7 w7 g7 hs7 h7 => retS_ret ⟨_, rfl, ?_⟩)
    have hd7 := heap_grown g7 J6.df (ne_some (by omega))
    refine ⟨hd7, ?_⟩
    have g8 := put_grown w7 d (.deferred none)
    have G8 := gd_one g8
    have l7 := World.grownBy.size g7
    have G7 : Gd (b :: blksD D) w w7 := J6.gd.trans (gd_gs g7 (by simp))
    refine h q7 _ (G7.over G8 fun k hk => .inr (by simp at hk; omega)) (hs7.gd G8 (by simp; omega)) ((hD6.gs J6.sch g7).gd G8 fun k hk => by simp at hk; omega) (h7.gd ?_ G8)
    intro k hk cs hb
    simp only [List.mem_cons, List.not_mem_nil, or_false] at hk
    subst hk
    unfold Blk at hb
    rw [hd7] at hb
    cases hb
end Go.Proofs.YtlddfgfmkapoiaaGreat

namespace Go.Proofs.YtlddfgfmkapoiaaGreat
open Go Go.Sh Go.RowKit

end Go.Proofs.YtlddfgfmkapoiaaGreat

namespace Go.Proofs.YtlddfgfmkapoiaaGreat
open Go Go.Sh Go.RowKit
abbrev OwnK (w : World) (base : Nat) (p : Option Addr) (n c : Nat) (l : List Int) : Prop := w.ownsRow base 2 1 (.slice p n c) n (ints l)
theorem ownK_len {w : World} {base n c : Nat} {p : Option Addr} {l : List Int} (h : OwnK w base p n c l) : l.length = n := by
  have := h.1
  simp [ints] at this
  omega

/-- the state of a going over, behind some pairs -/
structure LkP (S : List Nat) (W1 : World) (b2 d d' : Nat) (L0 L1 : Loop) (l : List Pr) (w : World) : Prop where
  gd : Gd S W1 w
  l0 : w.heap[d + 1]? = some (.loop L0)
  l1 : w.heap[d' + 1]? = some (.loop L1)
  row : ∃ qq nn cc, Blk w b2 #[.slice qq nn cc] 22 ∧ OwnP w W1.heap.size qq nn cc l
theorem LkP.ext {S : List Nat} {W1 : World} {b2 d d' : Nat} {L0 L1 : Loop} {l : List Pr} {w w' : World} (h : LkP S W1 b2 d d' L0 L1 l w) (e : Ext w w') : LkP S W1 b2 d d' L0 L1 l w' := by
  obtain ⟨h1, h2, h3, qq, nn, cc, h4, h5⟩ := h
  exact ⟨h1.trans (gd_of e), e.heap h2, e.heap h3, qq, nn, cc, h4.ext e, e.row h5⟩
/-- the state of a going over, behind some pairs -/
structure LkK (S : List Nat) (W1 : World) (b2 d d' : Nat) (L0 L1 : Loop) (l : List Pr) (w : World) : Prop where
  gd : Gd S W1 w
  l0 : w.heap[d + 1]? = some (.loop L0)
  l1 : w.heap[d' + 1]? = some (.loop L1)
  row : ∃ qq nn cc, Blk w b2 #[.slice qq nn cc] 24 ∧ OwnK w W1.heap.size qq nn cc (l.map (·.1))
theorem LkK.ext {S : List Nat} {W1 : World} {b2 d d' : Nat} {L0 L1 : Loop} {l : List Pr} {w w' : World} (h : LkK S W1 b2 d d' L0 L1 l w) (e : Ext w w') : LkK S W1 b2 d d' L0 L1 l w' := by
  obtain ⟨h1, h2, h3, qq, nn, cc, h4, h5⟩ := h
  exact ⟨h1.trans (gd_of e), e.heap h2, e.heap h3, qq, nn, cc, h4.ext e, e.row h5⟩
end Go.Proofs.YtlddfgfmkapoiaaGreat

namespace Go.Proofs.YtlddfgfmkapoiaaGreat
open Go Go.Sh Go.RowKit

end Go.Proofs.YtlddfgfmkapoiaaGreat

namespace Go.Proofs.YtlddfgfmkapoiaaGreat
open Go Go.Sh Go.RowKit

theorem isN_fun : ∀ {a b : Tr} {p : Option Addr} {w : World}, IsN w p a → IsN w p b → a = b
  | .nil, .nil, _, _, _, _ => rfl
  | .nil, .node .., _, _, h, h' => by
    obtain ⟨b, _, _, rfl, _⟩ := h'
    cases h
  | .node .., .nil, _, _, h, h' => by
    obtain ⟨b, _, _, rfl, _⟩ := h
    cases h'
  | .node l k v g r, .node l' k' v' g' r', p, w, h, h' => by
    obtain ⟨b, pl, pr, rfl, hb, hl, hr⟩ := h
    obtain ⟨b', pl', pr', hp, hb', hl', hr'⟩ := h'
    have e : b = b' := by simpa [blk] using hp
    subst e
    have hcs : _ = _ := (Option.some.inj (hb.symm.trans hb'))
    simp only [Obj.cells.injEq] at hcs
    have hc := hcs.1
    simp only [Array.mk.injEq, List.cons.injEq, Value.int.injEq, Value.pointer.injEq, true_and, and_true] at hc
    obtain ⟨rfl, rfl, _, rfl, _, rfl, rfl⟩ := hc
    rw [isN_fun hl hl', isN_fun hr hr']
theorem ptr_same {P : Program} {tp te : TypeId} {j : TypeInfo} (w : World) (p : Option Addr) (hp : P.underlying tp = some (.pointer te)) (hte : P.info? te = some j) :
    (binOp .eql tp (.pointer p) (.pointer p)).run P w = .ok (.bool true) w := by
  cases p with
  | some a => exact run_eql_ptr_same w a hp hte
  | none =>
    have h : ∀ d : Nat, (Op.equalIn (d + 1) tp (.pointer none) (.pointer none)).run P w = .ok true w := fun d => by
      simp [Op.equalIn, run_underlying hp]
    simp only [binOp]
    simp [Op.equal, Op.maxDepth, h 9999]
theorem ptr_none {P : Program} {tp te : TypeId} {j : TypeInfo} (w : World) (a : Addr) (hp : P.underlying tp = some (.pointer te)) (hte : P.info? te = some j) :
    (binOp .eql tp (.pointer (some a)) (.pointer none)).run P w = .ok (.bool false) w ∧ (binOp .eql tp (.pointer none) (.pointer (some a))).run P w = .ok (.bool false) w := by
  have h : ∀ d : Nat, (Op.equalIn (d + 1) tp (.pointer (some a)) (.pointer none)).run P w = .ok false w := fun d => by
    simp [Op.equalIn, run_underlying hp]
  have k : ∀ d : Nat, (Op.equalIn (d + 1) tp (.pointer none) (.pointer (some a))).run P w = .ok false w := fun d => by
    simp [Op.equalIn, run_underlying hp]
  constructor
  · simp only [binOp]
    simp [Op.equal, Op.maxDepth, h 9999]
  · simp only [binOp]
    simp [Op.equal, Op.maxDepth, k 9999]
set_option maxRecDepth 100000 in
theorem do_pe {a b : Tr} {pa pb : Option Addr} {i j : Nat} {w : World} {K : Bool → Prop} (ha : IsN w pa a) (hb : IsN w pb b) (h1 : pa = pb → K true) (h0 : pa ≠ pb → K false) : doPE Tryz.prog .eql 35 (.tmp i) (.tmp j) (.pointer pa) (.pointer pb) w K := by
  have hu := Tryz.underlying35
  obtain ⟨ti, hti⟩ : ∃ ti, Tryz.prog.info? 249 = some ti := Option.isSome_iff_exists.1 (by kernel_rfl)
  have hz : (Tryz.prog.info? 249).map (fun t => t.size != 0) = some true := by kernel_rfl
  have hsz : ti.size ≠ 0 := by rw [hti] at hz; simpa using hz
  have hg : ∀ (b : Bool), (binOp .eql 35 (.pointer pa) (.pointer pb)).run Tryz.prog w = .ok (.bool b) w → (do eqGuard .eql 35 (.tmp i) (.tmp j) (.pointer pa) (.pointer pb); binOp .eql 35 (.pointer pa) (.pointer pb)).run Tryz.prog w = .ok (.bool b) w := fun b hb => by
    simp [eqGuard, hb]
  by_cases e : pa = pb
  · subst e
    exact ⟨true, hg _ (ptr_same w pa hu hti), h1 rfl⟩
  · refine ⟨false, hg _ ?_, h0 e⟩
    cases a with
    | nil =>
      have : pa = none := ha
      subst this
      cases b with
      | nil =>
        have : pb = none := hb
        exact absurd this.symm e
      | node l k v g r =>
        obtain ⟨bb, _, _, rfl, _⟩ := hb
        exact (ptr_none w _ hu hti).2
    | node l k v g r =>
      obtain ⟨ba, _, _, rfl, hba, _⟩ := ha
      cases b with
      | nil =>
        have : pb = none := hb
        subst this
        exact (ptr_none w _ hu hti).1
      | node l' k' v' g' r' =>
        obtain ⟨bb, _, _, rfl, hbb, _⟩ := hb
        exact run_eql_ptr_other w hu hti hsz (fun q => e (by rw [q])) hba hbb
/-- are two trees the same? -/
theorem c_shsame : ∀ (a b : Tr) {pa pb : Option Addr} {w : World} {R : Ending → World → Prop} (_ha : IsN w pa a) (_hb : IsN w pb b) (_h : ∀ r w', Ext w w' → (r = true ↔ a = b) → R (.returned (.bool r)) w'), Calls Tryz.prog 121 #[.pointer pa, .pointer pb] w R
  | a, b, pa, pb, w, R, ha, hb, h => by
    refine sh121_ok _ _ ?_
    unfold sh121
    refine do_pe ha hb (fun e => ifB_t rfl (h _ _ (ext_refl w) (by subst e; simpa using isN_fun ha hb))) fun hne => ifB_f rfl ?_
    intro K6
    cases a with
    | nil =>
      have : pa = none := ha
      subst this
      refine ifB_t rfl (h _ _ (ext_refl w) ?_)
      cases b with
      | nil => exact absurd (show pb = none from hb).symm hne
      | node => simp
    | node l k v g r =>
    obtain ⟨ba, pl, pr, rfl, hba, hl, hr⟩ := id ha
    refine ifB_f rfl ?_
    cases b with
    | nil =>
      have : pb = none := hb
      subst this
      exact ifB_t rfl (h _ _ (ext_refl w) (by simp))
    | node l' k' v' g' r' =>
    obtain ⟨bb, pl', pr', rfl, hbb, hl', hr'⟩ := id hb
    refine ifB_f rfl ?_
    refine do_call Tryz.call108 (c_key ha fun w1 e1 => retS_ret ⟨_, rfl, ?_⟩)
    refine do_call Tryz.call108 (c_key (hb.ext e1) fun w2 e2 => retS_ret ⟨_, rfl, ?_⟩)
    have E2 := e1.trans e2
    refine ifB_intro (fun q => h _ _ E2 ?_) fun qk => ?_
    · have q : k ≠ k' := by simpa [Tr.key] using q
      simp [q]
    have qk : k = k' := by simpa [Tr.key] using qk
    refine do_call Tryz.call126 (c_val (ha.ext E2) fun w3 e3 => retS_ret ⟨_, rfl, ?_⟩)
    refine do_call Tryz.call126 (c_val (hb.ext (E2.trans e3)) fun w4 e4 => retS_ret ⟨_, rfl, ?_⟩)
    have E4 := (E2.trans e3).trans e4
    refine ifB_intro (fun q => h _ _ E4 ?_) fun qv => ?_
    · have q : v ≠ v' := by simpa [Tr.val] using q
      simp [q]
    have qv : v = v' := by simpa [Tr.val] using qv
    refine do_call Tryz.call196 (c_tag (ha.ext E4) fun w5 e5 => retS_ret ⟨_, rfl, ?_⟩)
    refine do_call Tryz.call196 (c_tag (hb.ext (E4.trans e5)) fun w6 e6 => retS_ret ⟨_, rfl, ?_⟩)
    have E6 := (E4.trans e5).trans e6
    refine ifB_intro (fun q => h _ _ E6 ?_) fun qg => ?_
    · have q : g ≠ g' := by simpa [Tr.tag] using q
      simp [q]
    have qg : g = g' := by simpa [Tr.tag] using qg
    refine do_call Tryz.call91 (c_tsize (ha.ext E6) fun w7 e7 => retS_ret ⟨_, rfl, ?_⟩)
    refine do_call Tryz.call91 (c_tsize (hb.ext (E6.trans e7)) fun w8 e8 => retS_ret ⟨_, rfl, ?_⟩)
    have E8 := (E6.trans e7).trans e8
    refine ifB_intro (fun q => h _ _ E8 ?_) fun _ => ?_
    · simp only [Bool.false_eq_true, false_iff]
      intro e
      rw [e] at q
      simp at q
    refine do_call Tryz.call107 (c_tsum (ha.ext E8) fun w9 e9 => retS_ret ⟨_, rfl, ?_⟩)
    refine do_call Tryz.call107 (c_tsum (hb.ext (E8.trans e9)) fun w10 e10 => retS_ret ⟨_, rfl, ?_⟩)
    have E10 := (E8.trans e9).trans e10
    simp -zeta -zetaHave only [K6]
    refine ifB_intro (fun q => h _ _ E10 ?_) fun _ => ?_
    · simp only [Bool.false_eq_true, false_iff]
      intro e
      rw [e] at q
      simp at q
    intro K9
    refine do_call Tryz.call123 (c_left (ha.ext E10) fun ql hql => retS_ret ⟨_, rfl, ?_⟩)
    refine do_call Tryz.call123 (c_left (hb.ext E10) fun ql' hql' => retS_ret ⟨_, rfl, ?_⟩)
    refine do_call Tryz.call121 (c_shsame l l' hql hql' fun r1 w13 e13 i13 => retS_ret ⟨_, rfl, ?_⟩)
    have E13 := E10.trans e13
    cases r1 with
    | false =>
      refine ifB_f rfl (h _ _ E13 ?_)
      have : l ≠ l' := fun q => by have := i13.2 q; cases this
      simp [this]
    | true =>
    have ql1 := i13.1 rfl
    refine ifB_t rfl ?_
    refine do_call Tryz.call125 (c_right (ha.ext E13) fun qr hqr => retS_ret ⟨_, rfl, ?_⟩)
    refine do_call Tryz.call125 (c_right (hb.ext E13) fun qr' hqr' => retS_ret ⟨_, rfl, ?_⟩)
    refine do_call Tryz.call121 (c_shsame r r' hqr hqr' fun r2 w16 e16 i16 => retS_ret ⟨_, rfl, h _ _ (E13.trans e16) ?_⟩)
    rw [i16, qk, qv, qg, ql1]
    simp
end Go.Proofs.YtlddfgfmkapoiaaGreat

namespace Go.Proofs.YtlddfgfmkapoiaaGreat
open Go Go.Sh Go.RowKit

/-! ### Plain: sorted, stable -/
theorem cmp_lt {o a b : Int} (ho : isO o = true) : cmpI o a b < 0 ↔ codeI o a < codeI o b := by
  have ho' : 1 ≤ o ∧ o ≤ 7 := by simpa [isO] using ho
  unfold cmpI
  rw [if_pos ho']
  split
  · exact ⟨fun _ => by assumption, fun _ => by omega⟩
  · split <;> omega
abbrev Srt (o : Int) (l : List Pr) : Prop := l.Pairwise fun a b => codeI o a.1 ≤ codeI o b.1
def Stab (M L : List Pr) : Prop := ∀ k : Int, M.filter (fun x => x.1 == k) = L.filter (fun x => x.1 == k)
theorem Stab.refl (L : List Pr) : Stab L L := fun _ => rfl
theorem Stab.trans {A B C : List Pr} (h : Stab A B) (k : Stab B C) : Stab A C := fun i => (h i).trans (k i)
theorem Stab.app {A B C D : List Pr} (h : Stab A B) (k : Stab C D) : Stab (A ++ C) (B ++ D) := fun i => by rw [List.filter_append, List.filter_append, h i, k i]
theorem Stab.mem {A B : List Pr} (h : Stab A B) (x : Pr) : x ∈ A ↔ x ∈ B := by
  have : ∀ C : List Pr, x ∈ C ↔ x ∈ C.filter (fun y => y.1 == x.1) := fun C => by simp [List.mem_filter]
  rw [this A, this B, h x.1]
theorem filter_none' {p : Pr → Bool} {l : List Pr} (h : ∀ x ∈ l, p x = false) : l.filter p = [] := by
  rw [List.filter_eq_nil_iff]; intro x hx; simp [h x hx]
/-- two parts that have no key in common may be turned -/
theorem stab_swap {o : Int} {A B : List Pr} (h : ∀ a ∈ A, ∀ b ∈ B, codeI o b.1 < codeI o a.1) : Stab (B ++ A) (A ++ B) := fun k => by
  rw [List.filter_append, List.filter_append]
  by_cases hk : ∃ a ∈ A, a.1 = k
  · obtain ⟨a, ha, rfl⟩ := hk
    rw [filter_none' (l := B) fun b hb => by
      have := h a ha b hb
      cases hq : (b.1 == a.1)
      · rfl
      · have e : b.1 = a.1 := by simpa using hq
        rw [e] at this; omega]
    simp
  · rw [filter_none' (l := A) fun a ha => by
      cases hq : (a.1 == k)
      · rfl
      · exact absurd ⟨a, ha, by simpa using hq⟩ hk]
    simp
theorem srt_app {o : Int} {A B : List Pr} : Srt o (A ++ B) ↔ Srt o A ∧ Srt o B ∧ ∀ a ∈ A, ∀ b ∈ B, codeI o a.1 ≤ codeI o b.1 := List.pairwise_append
theorem srt_get {o : Int} {l : List Pr} (h : Srt o l) {i j : Nat} (hij : i ≤ j) (hj : j < l.length) : codeI o l[i].1 ≤ codeI o l[j].1 := by
  rcases Nat.lt_or_ge i j with h1 | h1
  · exact List.pairwise_iff_getElem.1 h i j (by omega) hj h1
  · have : i = j := by omega
    subst this; exact Int.le_refl _
/-! ### Swaps -/
theorem set_mid {α : Type} {U V : List α} {x y : α} {i : Nat} (hi : i = U.length) : (U ++ x :: V).set i y = U ++ y :: V := by
  subst hi
  rw [List.set_append_right _ _ (Nat.le_refl _), Nat.sub_self]; rfl
theorem own_st {l : List Pr} {p : Option Addr} {n c base k : Nat} {w : World} (ho : OwnP w base p n c l) (hk : k < n) {a : Addr} (ha : ∃ b, p = some b ∧ a = b.add (k * 2)) {u v : Int} {K : World → Prop}
    (h : ∀ w', OwnP w' base p n c (l.set k (u, v)) → w.grownBy w' (Value.slice p n c).ownBlock → K w') : doSt (a.add 0) (.int .i64 u) w fun w1 => doSt (a.add 1) (.int .i64 v) w1 K := by
  obtain ⟨b, hb, rfl⟩ := ha
  have hl := ownP_len ho
  rcases ownP_open ho with ⟨hp, hn0, _⟩ | ⟨g, cur, hp, hbg, hg, _, hcm, hcl, hct⟩
  · omega
  subst hp; cases hb
  rw [add_zero', add_add]
  have ea : (⟨g, 0, none⟩ : Addr).add (k * 2) = ⟨g, k * 2, none⟩ := add_blk g _
  have eb : (⟨g, 0, none⟩ : Addr).add (k * 2 + 1) = ⟨g, k * 2 + 1, none⟩ := add_blk g _
  rw [ea, eb]
  have hs := ho.stored (k * 2) (.int .i64 u)
  rw [prs_set1 (by omega)] at hs
  refine ⟨⟨_, by rw [ho.cellAt _ (by omega)]; exact List.getElem?_eq_getElem (by simp; omega)⟩, ho.frozenAt _, ?_⟩
  have ho1 : OwnP (w.setCell ⟨g, k * 2, none⟩ (.int .i64 u)) base (some ⟨g, 0, none⟩) n c (l.set k (u, (l[k]'(by omega)).2)) := hs.1
  have hs1 := ho1.stored (k * 2 + 1) (.int .i64 v)
  rw [prs_set2 (by simp; omega)] at hs1
  refine ⟨⟨_, by rw [ho1.cellAt _ (by omega)]; exact List.getElem?_eq_getElem (by simp; omega)⟩, ho1.frozenAt _, h _ ?_ (grown_trans hs.2 hs1.2)⟩
  have := hs1.1
  simp only [List.getElem_set_self, List.set_set] at this
  exact this
theorem do_swap {l : List Pr} {p : Option Addr} {n c B : Nat} {w : World} (ho : OwnP w B p n c l) {iX iY : Int} {x y : Nat} (hX : iX = (x : Int)) (hY : iY = (y : Int)) (hx : x < n) (hy : y < n) {K : World → Prop}
    (k : ∀ w', OwnP w' B p n c ((l.set x (l[y]'(by rw [ownP_len ho]; exact hy))).set y (l[x]'(by rw [ownP_len ho]; exact hx))) → w.grownBy w' (Value.slice p n c).ownBlock → K w') :
    doDr w (fun w16 => ∃ (C15 : World → Prop), C15 w16 ∧ (doIx p n 2 iY (fun a17 => ∃ (x18 : Int), (∀ w, C15 w → World.cell? w (a17.add 0) = some (.int .i64 x18)) ∧ (∃ (x19 : Int), (∀ w, C15 w → World.cell? w (a17.add 1) = some (.int .i64 x19)) ∧ (
      doIx p n 2 iX (fun a20 => ∃ (x21 : Int), (∀ w, C15 w → World.cell? w (a20.add 0) = some (.int .i64 x21)) ∧ (∃ (x22 : Int), (∀ w, C15 w → World.cell? w (a20.add 1) = some (.int .i64 x22)) ∧ (
      doIx p n 2 iX (fun a23 => doSt (a23.add 0) (.int .i64 x18) w16 (fun w24 => doSt (a23.add 1) (.int .i64 x19) w24 (fun w25 =>
      doIx p n 2 iY (fun a26 => doSt (a26.add 0) (.int .i64 x21) w25 (fun w27 => doSt (a26.add 1) (.int .i64 x22) w27 K))))))))))))) := by
  have hl := ownP_len ho
  have ho1 : OwnP w.drew B p n c l := row_to ho (ext_drew w) (Nat.le_refl _)
  refine ⟨⟨fun w' => w' = w.drew, rfl, ?_⟩⟩
  have hC : ∀ w', w' = w.drew → Cs w' p (prs l) := fun w' e => by subst e; exact ownP_cs ho1
  refine ix_prC hC rfl hl hY hy fun a r1 r2 => ⟨_, r1, _, r2, ?_⟩
  refine ix_prC hC rfl hl hX hx fun a r3 r4 => ⟨_, r3, _, r4, ?_⟩
  refine ix_pr (ownP_cs ho1) hl hX hx fun a _ _ ha => ?_
  refine own_st ho1 hx ha fun w2 ho2 g2 => ?_
  refine ix_pr (ownP_cs ho2) (by simp [hl]) hY hy fun a _ _ ha => ?_
  refine own_st ho2 hy ha fun w3 ho3 g3 => ?_
  exact k w3 ho3 (grown_trans (grown_trans (grown_drew w _) g2) g3)
/-- in a row that is parted at two elements -/
theorem swap_lists {U V W : List Pr} {a b : Pr} {x y : Nat} (hx : x = U.length) (hy : y = U.length + 1 + V.length) :
    ∀ (h1 : x < (U ++ a :: (V ++ b :: W)).length) (h2 : y < (U ++ a :: (V ++ b :: W)).length), ((U ++ a :: (V ++ b :: W)).set x (U ++ a :: (V ++ b :: W))[y]).set y (U ++ a :: (V ++ b :: W))[x] = U ++ b :: (V ++ a :: W) ∧
      ((U ++ a :: (V ++ b :: W)).set y (U ++ a :: (V ++ b :: W))[x]).set x (U ++ a :: (V ++ b :: W))[y] = U ++ b :: (V ++ a :: W) := by
  intro h1 h2
  have e1 : (U ++ a :: (V ++ b :: W))[x] = a := by
    subst hx; simp
  have e2 : (U ++ a :: (V ++ b :: W))[y] = b := by
    subst hy
    rw [List.getElem_append_right (by omega)]
    simp only [show U.length + 1 + V.length - U.length = V.length + 1 by omega, List.getElem_cons_succ]
    rw [List.getElem_append_right (Nat.le_refl _)]
    simp
  have e3 : ∀ (a b c : Pr), (U ++ a :: (V ++ b :: W)).set y c = U ++ a :: (V ++ c :: W) := fun a b c => by
    have := set_mid (U := U ++ a :: V) (V := W) (x := b) (y := c) (i := y) (by simp; omega)
    simpa using this
  have e4 : ∀ (a b c : Pr), (U ++ a :: (V ++ b :: W)).set x c = U ++ c :: (V ++ b :: W) := fun a b c => set_mid hx
  rw [e1, e2]
  exact ⟨by rw [e4, e3], by rw [e3, e4]⟩
/-- the state of a sort: a row of one's own, and all that was there before it -/
structure Rw (w0 : World) (B : Nat) (p : Option Addr) (n c : Nat) (w : World) (l : List Pr) : Prop where
  own : OwnP w B p n c l
  ext : Ext w0 w
  keys : ∀ x ∈ l, In x.1
theorem Rw.len {w0 : World} {B : Nat} {p : Option Addr} {n c : Nat} {w : World} {l : List Pr} (h : Rw w0 B p n c w l) : l.length = n := ownP_len h.own
/-- what the comparing function does -/
def Cmp (o : Int) (w0 : World) (f : Fn) (fx fc : Array Value) : Prop := ∀ (x y : Pr), In x.1 → In y.1 → ∀ w, Ext w0 w → ∀ R : Ending → World → Prop, (∀ w', Ext w w' → R (.returned (.int .i64 (cmpI o x.1 y.1))) w') → doCall Tryz.prog (.func f fx fc) #[agP x, agP y] w R
theorem c_swapRange {w0 : World} {B : Nat} {p : Option Addr} {n c : Nat} {f : Fn} {fx fc : Array Value} (hB : w0.heap.size ≤ B) (hm : n ≤ 1000000000000) {L A M Bq S : List Pr} {a b k : Nat} {w : World} {R : Ending → World → Prop}
    (hw : Rw w0 B p n c w (L ++ (A ++ (M ++ (Bq ++ S))))) (hA : A.length = k) (hBq : Bq.length = k) (ha : a = L.length) (hb : b = L.length + k + M.length)
    (h : ∀ w', Rw w0 B p n c w' (L ++ (Bq ++ (M ++ (A ++ S)))) → R (.returned (.tuple #[])) w') :
    Calls Tryz.prog 345 #[.slice p n c, .int .i64 (a : Nat), .int .i64 (b : Nat), .int .i64 (k : Nat), .func f fx fc] w R := by
  refine sh345_ok _ _ _ _ _ _ _ _ _ ?_
  unfold sh345
  have hlen := hw.len
  simp only [List.length_append] at hlen
  refine ⟨fun vs w' => ∃ t : Nat, vs = [.int .i64 t] ∧ t ≤ k ∧ Rw w0 B p n c w' (L ++ ((Bq.take t ++ A.drop t) ++ (M ++ ((A.take t ++ Bq.drop t) ++ S)))), fun vs _ => k - (intOf (vs.getD 0 undef)).toNat, ⟨0, rfl, by omega, by simpa using hw⟩, ?_⟩
  rintro i _ w1 ⟨t, hv, htk, hr⟩
  simp only [List.cons.injEq, Value.int.injEq, true_and, and_true] at hv
  subst hv
  refine ifB_intro (fun hlt => ?_) fun hge => ?_
  · have hlt : t < k := by have := of_decide_eq_true hlt; omega
    have hAt : A.drop t = (A[t]'(by omega)) :: A.drop (t + 1) := List.drop_eq_getElem_cons (by omega)
    have hBt : Bq.drop t = (Bq[t]'(by omega)) :: Bq.drop (t + 1) := List.drop_eq_getElem_cons (by omega)
    have el : L ++ ((Bq.take t ++ A.drop t) ++ (M ++ ((A.take t ++ Bq.drop t) ++ S))) = (L ++ Bq.take t) ++ (A[t]'(by omega)) :: ((A.drop (t + 1) ++ (M ++ A.take t)) ++ (Bq[t]'(by omega)) :: (Bq.drop (t + 1) ++ S)) := by
      rw [hAt, hBt]; simp only [List.append_assoc, List.cons_append]
    rw [el] at hr
    have hx : a + t = (L ++ Bq.take t).length := by simp; omega
    have hy : b + t = (L ++ Bq.take t).length + 1 + (A.drop (t + 1) ++ (M ++ A.take t)).length := by simp; omega
    have e1 : IntKind.wrap .i64 ((a : Int) + (t : Int)) = ((a + t : Nat) : Int) := by rw [wrap_of (by omega) (by omega)]; omega
    have e2 : IntKind.wrap .i64 ((b : Int) + (t : Int)) = ((b + t : Nat) : Int) := by rw [wrap_of (by omega) (by omega)]; omega
    have hlen1 := hr.len
    refine do_swap hr.own e1 e2 (by omega) (by omega) fun w2 ho2 g2 => ?_
    rw [(swap_lists hx hy (by omega) (by omega)).1] at ho2
    refine ⟨⟨t + 1, by rw [wrap_succ hlt (by omega)], by omega, ⟨?_, ext_own hr.own hr.ext g2 hB, fun x hx => hr.keys x ?_⟩⟩, ?_⟩
    · have : L ++ ((Bq.take (t + 1) ++ A.drop (t + 1)) ++ (M ++ ((A.take (t + 1) ++ Bq.drop (t + 1)) ++ S))) = (L ++ Bq.take t) ++ (Bq[t]'(by omega)) :: ((A.drop (t + 1) ++ (M ++ A.take t)) ++ (A[t]'(by omega)) :: (Bq.drop (t + 1) ++ S)) := by
        rw [show Bq.take (t + 1) = Bq.take t ++ [Bq[t]'(by omega)] from (List.take_append_getElem (by omega)).symm, show A.take (t + 1) = A.take t ++ [A[t]'(by omega)] from (List.take_append_getElem (by omega)).symm]
        simp only [List.append_assoc, List.cons_append, List.nil_append]
      rw [this]; exact ho2
    · rw [show Bq.take (t + 1) = Bq.take t ++ [Bq[t]'(by omega)] from (List.take_append_getElem (by omega)).symm, show A.take (t + 1) = A.take t ++ [A[t]'(by omega)] from (List.take_append_getElem (by omega)).symm] at hx
      simp only [List.mem_append, List.mem_cons, List.not_mem_nil, or_false] at hx ⊢
      rcases hx with h | ((h | h) | h) | h | ((h | h) | h) | h <;> simp [h]
    · rw [wrap_succ hlt (by omega)]; simp [intOf]; omega
  · have hge : t = k := by have := of_decide_eq_false hge; omega
    subst hge
    rw [List.take_of_length_le (by omega), List.take_of_length_le (by omega), List.drop_of_length_le (by omega), List.drop_of_length_le (by omega)] at hr
    exact h w1 (by simpa using hr)
theorem c_rotate {w0 : World} {B : Nat} {p : Option Addr} {n c : Nat} {f : Fn} {fx fc : Array Value} (hB : w0.heap.size ≤ B) (hm : n ≤ 1000000000000) {L U V S : List Pr} {a m b : Nat} {w : World} {R : Ending → World → Prop}
    (hw : Rw w0 B p n c w (L ++ (U ++ (V ++ S)))) (ha : a = L.length) (hmm : m = L.length + U.length) (hb : b = L.length + U.length + V.length) (hU : 0 < U.length) (hV : 0 < V.length)
    (h : ∀ w', Rw w0 B p n c w' (L ++ (V ++ (U ++ S))) → R (.returned (.tuple #[])) w') :
    Calls Tryz.prog 330 #[.slice p n c, .int .i64 (a : Nat), .int .i64 (m : Nat), .int .i64 (b : Nat), .func f fx fc] w R := by
  refine sh330_ok _ _ _ _ _ _ _ _ _ ?_
  unfold sh330
  have hlen := hw.len
  simp only [List.length_append] at hlen
  refine ⟨fun vs w' => ∃ (l u v s : List Pr), vs = [.int .i64 (u.length : Nat), .int .i64 (v.length : Nat)] ∧ Rw w0 B p n c w' (l ++ (u ++ (v ++ s))) ∧ 0 < u.length ∧ 0 < v.length ∧ m = l.length + u.length ∧ l ++ (v ++ (u ++ s)) = L ++ (V ++ (U ++ S)),
    fun vs _ => (intOf (vs.getD 0 undef)).toNat + (intOf (vs.getD 1 undef)).toNat, ⟨L, U, V, S, ?_, hw, hU, hV, hmm, rfl⟩, ?_⟩
  · rw [wrap_of (by omega) (by omega), wrap_of (by omega) (by omega), show (m : Int) - (a : Int) = (U.length : Int) by omega, show (b : Int) - (m : Int) = (V.length : Int) by omega]
  rintro i j _ w1 ⟨l, u, v, s, hv, hr, hu, hvv, hml, hfin⟩
  simp only [List.cons.injEq, Value.int.injEq, true_and, and_true] at hv
  obtain ⟨rfl, rfl⟩ := hv
  have hlen1 := hr.len
  simp only [List.length_append] at hlen1
  have e1 : IntKind.wrap .i64 ((m : Int) - (u.length : Int)) = ((m - u.length : Nat) : Int) := by rw [wrap_of (by omega) (by omega)]; omega
  refine ifB_intro (fun hne => ?_) fun heq => ?_
  · have hne : u.length ≠ v.length := by intro e; rw [e] at hne; simp at hne
    refine ifB_intro (fun hgt => ?_) fun hle => ?_
    · have hgt : v.length < u.length := by have := of_decide_eq_true hgt; omega
      rw [e1]
      have hsp : l ++ (u ++ (v ++ s)) = l ++ (u.take v.length ++ (u.drop v.length ++ (v ++ s))) := by rw [← List.append_assoc (u.take _), List.take_append_drop]
      rw [hsp] at hr
      refine do_call Tryz.call345 (c_swapRange hB hm hr (k := v.length) (by simp; omega) rfl (by omega) (by simp; omega) fun w2 hr2 => retS_ret ⟨rfl, ⟨l ++ v, u.drop v.length, u.take v.length, s, ?_, ?_, ?_, ?_, ?_, ?_⟩, ?_⟩)
      · rw [wrap_of (by omega) (by omega), List.length_drop, List.length_take, show ((u.length : Int) - (v.length : Int)) = ((u.length - v.length : Nat) : Int) by omega, show min v.length u.length = v.length by omega]
      · simpa using hr2
      · simp; omega
      · simp; omega
      · simp; omega
      · rw [← hfin]; simp only [List.append_assoc]; rw [← List.append_assoc (u.take _) (u.drop _), List.take_append_drop]
      · rw [wrap_of (by omega) (by omega)]; simp [intOf]; omega
    · have hle : u.length < v.length := by have := of_decide_eq_false hle; omega
      have e2 : IntKind.wrap .i64 (IntKind.wrap .i64 ((m : Int) + (v.length : Int)) - (u.length : Int)) = ((m + v.length - u.length : Nat) : Int) := by
        rw [wrap_of (x := (m : Int) + (v.length : Int)) (by omega) (by omega), wrap_of (by omega) (by omega)]; omega
      rw [e1, e2]
      have hsp : l ++ (u ++ (v ++ s)) = l ++ (u ++ (v.take (v.length - u.length) ++ (v.drop (v.length - u.length) ++ s))) := by rw [← List.append_assoc (v.take _), List.take_append_drop]
      rw [hsp] at hr
      refine do_call Tryz.call345 (c_swapRange hB hm hr (k := u.length) rfl (by simp; omega) (by omega) (by simp; omega) fun w2 hr2 => retS_ret ⟨rfl, ⟨l, v.drop (v.length - u.length), v.take (v.length - u.length), u ++ s, ?_, ?_, ?_, ?_, ?_, ?_⟩, ?_⟩)
      · rw [wrap_of (by omega) (by omega), List.length_drop, List.length_take, show ((v.length : Int) - (u.length : Int)) = ((v.length - u.length : Nat) : Int) by omega, show min (v.length - u.length) v.length = v.length - u.length by omega, show v.length - (v.length - u.length) = u.length by omega]
      · exact hr2
      · simp; omega
      · simp; omega
      · simp; omega
      · rw [← hfin, ← List.append_assoc (v.take _) (v.drop _), List.take_append_drop]
      · rw [wrap_of (by omega) (by omega)]; simp [intOf]; omega
  · have heq : u.length = v.length := by simp at heq; omega
    rw [e1]
    have hsp : l ++ (u ++ (v ++ s)) = l ++ (u ++ ([] ++ (v ++ s))) := rfl
    rw [hsp] at hr
    refine do_call Tryz.call345 (c_swapRange hB hm hr (k := u.length) rfl heq.symm (by omega) (by simp; omega) fun w2 hr2 => retS_ret ⟨rfl, h w2 ?_⟩)
    rw [← hfin]; exact hr2
end Go.Proofs.YtlddfgfmkapoiaaGreat

namespace Go.Proofs.YtlddfgfmkapoiaaGreat
open Go Go.Sh Go.RowKit

theorem last_split {l : List Pr} (h : 0 < l.length) : ∃ u z, l = u ++ [z] := by
  have hne : l ≠ [] := by intro e; subst e; simp at h
  exact ⟨l.dropLast, l.getLast hne, (List.dropLast_concat_getLast hne).symm⟩
set_option maxRecDepth 20000 in
theorem c_insertion {o : Int} {w0 : World} {B : Nat} {p : Option Addr} {n c : Nat} {f : Fn} {fx fc : Array Value} (hB : w0.heap.size ≤ B) (hm : n ≤ 1000000000000) (hcmp : Cmp o w0 f fx fc) (hO : isO o = true) {L X S : List Pr} {a b : Nat} {w : World} {R : Ending → World → Prop}
    (hw : Rw w0 B p n c w (L ++ (X ++ S))) (ha : a = L.length) (hb : b = L.length + X.length)
    (h : ∀ w' X', Srt o X' → Stab X' X → Rw w0 B p n c w' (L ++ (X' ++ S)) → R (.returned (.tuple #[])) w') :
    Calls Tryz.prog 296 #[.slice p n c, .int .i64 (a : Nat), .int .i64 (b : Nat), .func f fx fc] w R := by
  refine sh296_ok _ _ _ _ _ _ _ _ ?_
  unfold sh296
  have hlen := hw.len
  simp only [List.length_append] at hlen
  refine ⟨fun vs w' => ∃ (i : Nat) (Xp Y M : List Pr), vs = [.int .i64 i] ∧ X = Xp ++ Y ∧ Srt o M ∧ Stab M Xp ∧ M.length = Xp.length ∧ Rw w0 B p n c w' (L ++ (M ++ (Y ++ S))) ∧ ((i = a + Xp.length ∧ 0 < Xp.length) ∨ (X = [] ∧ i = a + 1)), fun vs _ => n + 2 - (intOf (vs.getD 0 undef)).toNat, ?_, ?_⟩
  · have e : IntKind.wrap .i64 ((a : Int) + 1) = ((a + 1 : Nat) : Int) := by rw [wrap_of (by omega) (by omega)]; omega
    rw [e]
    cases X with
    | nil => exact ⟨a + 1, [], [], [], rfl, rfl, List.Pairwise.nil, Stab.refl _, rfl, hw, .inr ⟨rfl, rfl⟩⟩
    | cons x xs => exact ⟨a + 1, [x], xs, [x], rfl, rfl, List.pairwise_singleton _ _, Stab.refl _, rfl, hw, .inl ⟨rfl, by simp⟩⟩
  rintro i' _ w1 ⟨i, Xp, Y, M, hv, hX, hsM, hstM, hMl, hr, hi⟩
  simp only [List.cons.injEq, Value.int.injEq, true_and, and_true] at hv
  subst hv
  have hXl : X.length = Xp.length + Y.length := by rw [hX, List.length_append]
  refine ifB_intro (fun hlt => ?_) fun hge => ?_
  rotate_left
  · have hge : b ≤ i := by have := of_decide_eq_false hge; omega
    have hY : Y = [] := by
      rcases hi with ⟨h1, h2⟩ | ⟨h1, h2⟩
      · exact List.eq_nil_of_length_eq_zero (by omega)
      · rw [h1] at hXl; exact List.eq_nil_of_length_eq_zero (by simp at hXl; omega)
    subst hY
    rw [List.append_nil] at hX
    subst hX
    exact h w1 M hsM hstM (by simpa using hr)
  have hlt : i < b := by have := of_decide_eq_true hlt; omega
  have hia : i = a + Xp.length ∧ 0 < Xp.length := by
    rcases hi with h1 | ⟨h1, h2⟩
    · exact h1
    · rw [h1] at hb; simp at hb; omega
  obtain ⟨hia, hpos⟩ := hia
  obtain ⟨x, Y', rfl⟩ : ∃ x Y', Y = x :: Y' := by
    cases Y with
    | nil => simp at hXl; omega
    | cons x Y' => exact ⟨x, Y', rfl⟩
  have hxI : In x.1 := hr.keys x (by simp)
  have ei : IntKind.wrap .i64 ((i : Int) + 1) = ((i + 1 : Nat) : Int) := wrap_succ (n := n) (by omega) (by omega)
  rw [ei]
  -- behind a round
  have hK : ∀ {w' : World} {M1 M2 : List Pr}, M = M1 ++ M2 → (∀ y ∈ M2, codeI o x.1 < codeI o y.1) → (∀ y ∈ M1, codeI o y.1 ≤ codeI o x.1) → Rw w0 B p n c w' (L ++ (M1 ++ x :: (M2 ++ (Y' ++ S)))) →
      (∃ (i2 : Nat) (Xp Y M : List Pr), [Value.int .i64 ((i + 1 : Nat) : Int)] = [.int .i64 (i2 : Nat)] ∧ X = Xp ++ Y ∧ Srt o M ∧ Stab M Xp ∧ M.length = Xp.length ∧ Rw w0 B p n c w' (L ++ (M ++ (Y ++ S))) ∧ ((i2 = a + Xp.length ∧ 0 < Xp.length) ∨ (X = [] ∧ i2 = a + 1))) ∧
        n + 2 - (intOf (([Value.int .i64 ((i + 1 : Nat) : Int)] : List Value).getD 0 undef)).toNat < n + 2 - (intOf (([Value.int .i64 (i : Int)] : List Value).getD 0 undef)).toNat := by
    intro w' M1 M2 hM h2 h1 hrw
    have hs := hsM
    rw [hM, srt_app] at hs
    refine ⟨⟨i + 1, Xp ++ [x], Y', M1 ++ x :: M2, rfl, by rw [hX]; simp, ?_, ?_, ?_, ?_, .inl ⟨?_, ?_⟩⟩, ?_⟩
    · rw [srt_app]
      refine ⟨hs.1, List.Pairwise.cons (fun y hy => by have := h2 y hy; omega) hs.2.1, fun y hy z hz => ?_⟩
      rcases List.mem_cons.1 hz with rfl | hz
      · exact h1 y hy
      · exact hs.2.2 y hy z hz
    · have e1 : Stab (M1 ++ ([x] ++ M2)) (M1 ++ (M2 ++ [x])) := (Stab.refl M1).app (stab_swap fun y hy z hz => by simp at hz; subst hz; exact h2 y hy)
      have e2 : Stab (M1 ++ (M2 ++ [x])) (Xp ++ [x]) := by rw [← List.append_assoc, ← hM]; exact hstM.app (Stab.refl _)
      exact e1.trans e2
    · have := congrArg List.length hM
      simp only [List.length_append, List.length_cons, List.length_nil] at this ⊢
      omega
    · rw [List.append_assoc, List.cons_append]; exact hrw
    · simp; omega
    · simp
    · simp [intOf]; omega
  refine ⟨fun vs w' => ∃ M1 M2 : List Pr, vs = [.int .i64 (a + M1.length : Nat)] ∧ M = M1 ++ M2 ∧ (∀ y ∈ M2, codeI o x.1 < codeI o y.1) ∧ Rw w0 B p n c w' (L ++ (M1 ++ x :: (M2 ++ (Y' ++ S)))), fun vs _ => (intOf (vs.getD 0 undef)).toNat,
    ⟨M, [], by rw [hMl, hia], by simp, by simp, by simpa using hr⟩, ?_⟩
  rintro j _ w2 ⟨M1, M2, hv, hM, h2, hr2⟩
  simp only [List.cons.injEq, Value.int.injEq, true_and, and_true] at hv
  subst hv
  have hlen2 := hr2.len
  simp only [List.length_append, List.length_cons] at hlen2
  have hsM' := hsM
  rw [hM, srt_app] at hsM'
  refine ⟨⟨fun w' => Ext w2 w', ext_drew _, ?_⟩⟩
  refine ifB_intro (fun hgt => ?_) fun hle => ?_
  rotate_left
  · have h0 : M1 = [] := List.eq_nil_of_length_eq_zero (by have := of_decide_eq_false hle; omega)
    have hr3 : Rw w0 B p n c w2.drew (L ++ (M1 ++ x :: (M2 ++ (Y' ++ S)))) := ⟨row_to hr2.own (ext_drew _) (Nat.le_refl _), hr2.ext.drew, hr2.keys⟩
    exact hK hM h2 (by rw [h0]; intro y hy; cases hy) hr3
  have hgt : 0 < M1.length := by have := of_decide_eq_true hgt; omega
  obtain ⟨u, z, rfl⟩ := last_split hgt
  simp only [List.length_append, List.length_cons, List.length_nil] at hlen2
  have ed : L ++ ((u ++ [z]) ++ x :: (M2 ++ (Y' ++ S))) = (L ++ u) ++ z :: ([] ++ x :: (M2 ++ (Y' ++ S))) := by simp
  rw [ed] at hr2
  have ej : IntKind.wrap .i64 (((a + (u ++ [z]).length : Nat) : Int) - 1) = ((a + u.length : Nat) : Int) := by
    rw [List.length_append, List.length_singleton, wrap_of (by omega) (by omega)]; omega
  rw [ej]
  have ej' : a + (u ++ [z]).length = a + u.length + 1 := by rw [List.length_append, List.length_singleton]; omega
  rw [ej']
  have hln := hr2.len
  have g1 : ((L ++ u) ++ z :: ([] ++ x :: (M2 ++ (Y' ++ S))))[a + u.length]'(by rw [hln]; omega) = z := by
    rw [List.getElem_append_right (by simp; omega)]; simp [ha]
  have g2 : ((L ++ u) ++ z :: ([] ++ x :: (M2 ++ (Y' ++ S))))[a + u.length + 1]'(by rw [hln]; omega) = x := by
    rw [List.getElem_append_right (by simp; omega)]; simp [ha, show L.length + u.length + 1 - (L.length + u.length) = 1 by omega]
  have hC : ∀ w', Ext w2 w' → Cs w' p (prs ((L ++ u) ++ z :: ([] ++ x :: (M2 ++ (Y' ++ S))))) := fun w' e => (ownP_cs hr2.own).ext e
  have hzI : In z.1 := hr2.keys z (by simp)
  refine ix_prC hC (ext_refl _) hln (k := a + u.length + 1) rfl (by omega) fun q r1 r2 => ⟨_, r1, _, r2, ?_⟩
  refine ix_prC hC (ext_refl _) hln (k := a + u.length) rfl (by omega) fun q r3 r4 => ⟨_, r3, _, r4, ?_⟩
  rw [g1, g2]
  refine hcmp x z hxI hzI w2.drew hr2.ext.drew _ fun w3 e3 => retS_ret ⟨_, rfl, ?_⟩
  have hr3 : Rw w0 B p n c w3 ((L ++ u) ++ z :: ([] ++ x :: (M2 ++ (Y' ++ S)))) := ⟨row_to hr2.own ((ext_drew _).trans e3) (Nat.le_refl _), hr2.ext.trans ((ext_drew _).trans e3), hr2.keys⟩
  refine ifB_intro (fun hc => ?_) fun hc => ?_
  · have hc : codeI o x.1 < codeI o z.1 := (cmp_lt hO).1 (of_decide_eq_true hc)
    refine do_swap hr3.own (x := a + u.length + 1) (y := a + u.length) rfl rfl (by omega) (by omega) fun w4 ho4 g4 => ?_
    rw [(swap_lists (x := a + u.length) (y := a + u.length + 1) (by simp; omega) (by simp; omega) (by rw [hln]; omega) (by rw [hln]; omega)).2] at ho4
    refine ⟨⟨u, z :: M2, rfl, by rw [hM]; simp, fun y hy => ?_, ⟨?_, ext_own hr3.own hr3.ext g4 hB, fun y hy => hr3.keys y ?_⟩⟩, ?_⟩
    · rcases List.mem_cons.1 hy with rfl | hy
      · exact hc
      · exact h2 y hy
    · simpa using ho4
    · simp only [List.mem_append, List.mem_cons, List.not_mem_nil, false_or] at hy ⊢
      rcases hy with h | h | h | (h | h) | h | h <;> simp [h]
    · simp [intOf]; omega
  · have hc : codeI o z.1 ≤ codeI o x.1 := by
      have := of_decide_eq_false hc
      rw [cmp_lt hO] at this; omega
    refine hK hM h2 (fun y hy => ?_) (by rw [ed]; exact hr3)
    rcases List.mem_append.1 hy with h | h
    · have := (srt_app.1 hsM'.1).2.2 y h z (by simp); omega
    · simp at h; subst h; exact hc
end Go.Proofs.YtlddfgfmkapoiaaGreat

