/-
  build.Row: a tree of a row, with its tags.
-/
/-
  look: going over a tree.
-/
/-
  look.Pairs, look.Keys: what they make of a tree. (Printed by wip/sh/mklook.py.)
-/
/-
  Treaps, in plain: there is one treap of items whose keys are unlike.
-/
/-
  Pointers held against one another; are two trees the same?
-/
import Derived.Test.YtlddfgfmkapoiaaGreatZ18
import Derived.LaidEqlPtr

namespace Go.Proofs.YtlddfgfmkapoiaaGreat
open Go Go.Sh Go.RowKit

theorem Gd.over {S T : List Nat} {w0 w1 w2 : World} (g : Gd S w0 w1) (k : Gd T w1 w2) (h : ∀ k ∈ T, k ∈ S ∨ w0.heap.size ≤ k) : Gd S w0 w2 :=
  ⟨k.1.trans g.1, k.2.1.trans g.2.1, k.2.2.1.trans g.2.2.1, Nat.le_trans g.size k.size, fun i hi hn => (k.2.2.2.2 i (Nat.lt_of_lt_of_le hi g.size) fun q => by
    rcases h i q with h | h
    · exact hn h
    · omega).trans (g.2.2.2.2 i hi hn)⟩
theorem gd_row {r : Option Nat} {w w' : World} (g : w.grownBy w' r) : Gd r.toList w w' := ⟨g.os, g.tape, g.output, World.grownBy.size g, fun k hk hn => g.block k hk fun e => hn (by rw [← e]; simp)⟩
theorem gd_one {k : Nat} {w w' : World} (g : w.grownBy w' (some k)) : Gd [k] w w' := gd_row g
abbrev tgF (bl bs bd : Nat) : Value := .func (.func 183) #[] #[.pointer (some (blk bl)), .pointer (some (blk bs)), .pointer (some (blk bd))]
theorem c_tagged {s p q : Option Addr} {n cp : Nat} {w : World} {R : Ending → World → Prop}
    (h : ∀ bs bd bl w', Ext w w' → w.heap.size ≤ bs → bs < bd → bd < bl → Blk w' bs #[.pointer s] 25 → Blk w' bd #[.pointer p] 31 → Blk w' bl #[.slice q n cp] 22 → R (.returned (tgF bl bs bd)) w') :
    Calls Tryz.prog 102 #[.pointer s, .pointer p, .slice q n cp] w R := by
  refine sh102_ok _ _ _ _ _ ?_
  unfold sh102
  refine ⟨⟨⟨?_⟩⟩⟩
  have e0 := ext_alloc w (.cells #[.pointer s] 25)
  have h0 := blk_alloc w #[.pointer s] 25
  have l0 := h0.lt
  generalize hw1 : w.alloc (.cells #[.pointer s] 25) = w1 at *
  have e1 := ext_alloc w1 (.cells #[.pointer p] 31)
  have h1 := blk_alloc w1 #[.pointer p] 31
  have l1 := h1.lt
  generalize hw2 : w1.alloc (.cells #[.pointer p] 31) = w2 at *
  have e2 := ext_alloc w2 (.cells #[.slice q n cp] 22)
  exact h _ _ _ _ ((e0.trans e1).trans e2) (Nat.le_refl _) l0 l1 ((h0.ext e1).ext e2) (h1.ext e2) (blk_alloc _ _ _)
/-- what stays while a row is gone over -/
structure RowJ (c : Int) (b : Nat) (S : List Nat) (w0 : World) (bs bd bl d : Nat) (p q : Option Addr) (n cp : Nat) (w : World) : Prop where
  gd : Gd S w0 w
  sch : IsSch c b w
  fs : Blk w bs #[.pointer (some (blk b))] 25
  fd : Blk w bd #[.pointer p] 31
  fl : Blk w bl #[.slice q n cp] 22
  df : w.heap[d]? = some (.deferred (some []))
theorem RowJ.go {c : Int} {b : Nat} {S T : List Nat} {w0 : World} {bs bd bl d : Nat} {p q : Option Addr} {n cp : Nat} {w w' : World} (h : RowJ c b S w0 bs bd bl d p q n cp w) (g : Gd T w w')
    (hT : ∀ k ∈ T, k ≠ b ∧ k ≠ bs ∧ k ≠ bd ∧ k ≠ bl ∧ k ≠ d ∧ (k ∈ S ∨ w0.heap.size ≤ k)) : RowJ c b S w0 bs bd bl d p q n cp w' :=
  ⟨h.gd.over g fun k hk => (hT k hk).2.2.2.2.2, h.sch.gd g fun hk => (hT _ hk).1 rfl, h.fs.gd g fun hk => (hT _ hk).2.1 rfl, h.fd.gd g fun hk => (hT _ hk).2.2.1 rfl, h.fl.gd g fun hk => (hT _ hk).2.2.2.1 rfl, heap_gd h.df g fun hk => (hT _ hk).2.2.2.2.1 rfl⟩
theorem RowJ.ext {c : Int} {b : Nat} {S : List Nat} {w0 : World} {bs bd bl d : Nat} {p q : Option Addr} {n cp : Nat} {w w' : World} (h : RowJ c b S w0 bs bd bl d p q n cp w) (e : Ext w w') : RowJ c b S w0 bs bd bl d p q n cp w' :=
  h.go (gd_of (S := []) e) fun k hk => by cases hk
set_option maxRecDepth 20000 in
set_option maxHeartbeats 1600000 in
theorem c_brow {c o : Int} {b : Nat} {p : Option Addr} {D : Option (Nat × Nat × Nat × Nat)} {ds : List Int} {l : List Pr} {q : Option Addr} {n cp : Nat} {w : World} {R : Ending → World → Prop} (hs : IsSch c b w) (hd : IsD p D ds w) (hN : topD D ≤ w.heap.size)
    (hl : ∀ w', Gd (b :: blksD D) w w' → Cs w' q (prs l)) (hn : l.length = n) (hB : n ≤ 1000000) (hI : InP l) (hm : mayR o l = true)
    (h : ∀ qt w', Gd (b :: blksD D) w w' → IsSch c b w' → IsD p D (restL c ds l) w' → IsN w' qt (bldC c (tagL c ds l)) → R (.returned (.tuple #[.pointer qt, .int .i64 0])) w') :
    Calls Tryz.prog 32 #[.pointer (some (blk b)), .int .u8 o, .pointer p, .slice q n cp] w R := by
  refine sh32_ok _ _ _ _ _ _ ?_
  unfold sh32
  intro K13 _
  refine ifB_f rfl (do_call Tryz.call101 (c_may (hl w (gd_refl _ _)) hn (by omega) hI fun w1 e1 => retS_ret ⟨_, rfl, ?_⟩))
  rw [hm]
  refine ifB_f rfl ?_
  simp -zeta -zetaHave only [K13]
  refine ⟨?_⟩
  have e2 := ext_alloc w1 (.cells #[.slice none 0 0] 40)
  have ha := blk_alloc w1 #[.slice none 0 0] 40
  have l1 := e1.size
  have la := ha.lt
  generalize hba : w1.heap.size = ba at *
  generalize w1.alloc (.cells #[.slice none 0 0] 40) = w2 at *
  refine do_call Tryz.call102 (c_tagged fun bs bd bl w3 e3 hbs hsd hdl h1 h2 h3 => retS_ret ⟨_, _, _, rfl, do_rf fun fn L w4 d hdd hL hst hpe e4 hd4 hl4 => ?_⟩)
  have m3 := h3.lt
  have m4 := e4.size
  have E14 := (e2.trans e3).trans e4
  have E4 := e1.trans E14
  have hslt := hs.lt
  have hDlt := hd.lt
  have hbD := hd.sch hs
  have hdlt : d + 1 < w4.heap.size := (Array.getElem?_eq_some_iff.1 hl4).1
  have J4 : RowJ c b (b :: blksD D) w bs bd bl d p q n cp w4 := ⟨gd_of E4, hs.ext E4, h1.ext e4, h2.ext e4, h3.ext e4, hd4⟩
  have hD4 := hd.ext E4
  have ha4 := (ha.ext e3).ext e4
  rw [← hdd]
  -- what is changed beside a row: fresh blocks, the record, what holds all
  have fresh : ∀ {T : List Nat}, (∀ k ∈ T, k = ba ∨ k = d + 1 ∨ w4.heap.size ≤ k) → ∀ k ∈ T, k ≠ b ∧ k ≠ bs ∧ k ≠ bd ∧ k ≠ bl ∧ k ≠ d ∧ (k ∈ (b :: blksD D) ∨ w.heap.size ≤ k) := fun hT k hk => by
    have := hT k hk
    exact ⟨by omega, by omega, by omega, by omega, by omega, .inr (by omega)⟩
  have top : ∀ {T : List Nat}, (∀ k ∈ T, k = ba ∨ k = d + 1 ∨ w4.heap.size ≤ k) → ∀ k ∈ T, topD D ≤ k := fun hT k hk => by
    have := hT k hk
    omega
  have drw : ∀ k ∈ blksD D, k ≠ b ∧ k ≠ bs ∧ k ≠ bd ∧ k ≠ bl ∧ k ≠ d ∧ (k ∈ (b :: blksD D) ∨ w.heap.size ≤ k) := fun k hk => by
    have := (hDlt k hk).1
    exact ⟨fun e => hbD (e ▸ hk), by omega, by omega, by omega, by omega, .inl (List.mem_cons_of_mem _ hk)⟩
  have drwB : ∀ k ∈ blksD D, k < w.heap.size := fun k hk => (hDlt k hk).1
  refine callE_c Tryz.call183 (by rfl) (sh183_ok _ _ _ _ _ _ ?_)
  unfold sh183
  refine ⟨_, _, _, J4.fl.cell (i := 0) rfl rfl, fun vs w' => ∃ (i : Nat) (qq : Option Addr) (nn cc : Nat), vs = [.int .i64 i] ∧ i ≤ n ∧ RowJ c b (b :: blksD D) w bs bd bl d p q n cp w' ∧ IsD p D (restL c ds (l.take i)) w' ∧ Blk w' ba #[.slice qq nn cc] 40 ∧ OwnI w' w4.heap.size qq nn cc (tagL c ds (l.take i)) ∧ w'.heap[d + 1]? = some (.loop L) ∧ w4.heap.size ≤ w'.heap.size,
    fun vs _ => n - (intOf (vs.getD 0 undef)).toNat, ⟨0, none, 0, 0, rfl, by omega, J4, ?_, ha4, ?_, hl4, Nat.le_refl _⟩, ?_⟩
  · have : restL c ds (l.take 0) = ds := by unfold restL; simp
    rw [this]; exact hD4
  · rw [List.take_zero, tagL_nil]; exact ownI_nil _ _
  rintro i j w5 ⟨m, qq, nn, cc, hv, hmn, J5, hD5, ha5, ho5, hl5, hsz5⟩
  simp only [List.cons.injEq, Value.int.injEq, and_true, true_and] at hv
  subst hv
  refine ifB_intro (fun hlt => ?_) fun hge => ?_
  · have hlt : m < n := by have := of_decide_eq_true hlt; omega
    have hml : m < l.length := by omega
    refine ix_pr (hl w5 J5.gd) hn rfl hlt fun a r1 r2 _ => ⟨_, r1, _, r2, ⟨?_⟩⟩
    -- the pair, and the item
    have e6 := ext_alloc w5 (.cells #[.int .i64 0, .int .i64 0] 46)
    refine do_st2 (blk_alloc w5 _ _) fun w6 h6 g6 => ?_
    have E6 : Ext w5 w6 := e6.st g6 (Nat.le_refl _)
    have l6 := h6.lt
    generalize hbx : w5.heap.size = bx at *
    refine ⟨_, h6.cell (i := 0) (add_blk _ _) rfl, _, h6.cell (i := 1) (add_blk _ _) rfl, ⟨?_⟩⟩
    have e7 := ext_alloc w6 (.cells #[.int .i64 0, .int .i64 0, .int .u64 0] 114)
    refine do_st3 (blk_alloc w6 _ _) fun w7 h7 g7 => ?_
    have E7 : Ext w6 w7 := e7.st g7 (Nat.le_refl _)
    have l7 := h7.lt
    have l67 := E7.size
    generalize hby : w6.heap.size = by_ at *
    have E57 := E6.trans E7
    have h67 := h6.ext E7
    intro K30
    have J7 := J5.ext E57
    have hD7 := hD5.ext E57
    have ha7 := ha5.ext E57
    have ho7 : OwnI w7 w4.heap.size qq nn cc (tagL c ds (l.take m)) := E57.row ho5
    have hl7 := E57.heap hl5
    have hnn : nn ≤ 1000000 := by
      have := ownI_len ho5
      rw [tagL_len, List.length_take] at this; omega
    -- behind the tag
    have hK : ∀ (g : Int) w8, Blk w8 by_ #[.int .i64 (l[m]).1, .int .i64 (l[m]).2, .int .u64 g] 114 → RowJ c b (b :: blksD D) w bs bd bl d p q n cp w8 → IsD p D (restL c ds (l.take (m + 1))) w8 → Blk w8 ba #[.slice qq nn cc] 40 → OwnI w8 w4.heap.size qq nn cc (tagL c ds (l.take m)) → w8.heap[d + 1]? = some (.loop L) → w4.heap.size ≤ w8.heap.size →
        tagL c ds (l.take (m + 1)) = tagL c ds (l.take m) ++ [((l[m]).1, (l[m]).2, g)] → K30 w8 := by
      intro g w8 h8 J8 hD8 ha8 ho8 hl8 hsz8 htg
      refine ⟨_, h8.cell (i := 0) (add_blk _ _) rfl, _, h8.cell (i := 1) (add_blk _ _) rfl, _, h8.cell (i := 2) (add_blk _ _) rfl, ?_⟩
      refine sh32_0_ok (by rw [hl8, hL]) ?_
      unfold sh32_0
      refine ⟨?_⟩
      have e9 := ext_alloc w8 (.cells #[.int .i64 0, .int .i64 0, .int .u64 0] 114)
      refine do_st3 (blk_alloc w8 _ _) fun w9 h9 g9 => ?_
      have E9 : Ext w8 w9 := e9.st g9 (Nat.le_refl _)
      have l89 := E9.size
      have l9 := h9.lt
      refine ⟨_, E9.heap hl8, hst, ?_⟩
      have g10 := put_grown w9 (d + 1) (.loop { L with state := .busy })
      have hl10 := put_heap (o' := .loop { L with state := .busy }) (E9.heap hl8)
      have G10 := gd_one g10
      have T1 : ∀ k ∈ [d + 1], k = ba ∨ k = d + 1 ∨ w4.heap.size ≤ k := fun k hk => by simp at hk; omega
      have J10 := (J8.ext E9).go G10 (fresh T1)
      have hD10 := (hD8.ext E9).gd G10 (top T1)
      have ha10 := (ha8.ext E9).gd G10 (by simp; omega)
      have ho10 : OwnI (w9.putObj (d + 1) (.loop { L with state := .busy })) w4.heap.size qq nn cc (tagL c ds (l.take m)) := row_gd (E9.row ho8) G10 (by simp; omega)
      have h910 := h9.gd G10 (by simp; omega)
      have sz10 : w9.heap.size ≤ (w9.putObj (d + 1) (.loop { L with state := .busy })).heap.size := G10.size
      generalize w9.putObj (d + 1) (.loop { L with state := .busy }) = w10 at *
      refine ⟨_, _, _, ha10.cell (i := 0) rfl rfl, _, h910.cell (i := 0) (add_blk _ _) rfl, _, h910.cell (i := 1) (add_blk _ _) rfl, _, h910.cell (i := 2) (add_blk _ _) rfl, ?_⟩
      refine do_app1I (x := ((l[m]).1, (l[m]).2, g)) ho10 (by omega) (by omega) fun q11 c11 w11 ho11 hx11 g11 hor => ⟨_, _, _, rfl, ?_⟩
      have G11 := gd_row g11
      have T2 : ∀ k ∈ (Value.slice qq nn cc).ownBlock.toList, k = ba ∨ k = d + 1 ∨ w4.heap.size ≤ k := fun k hk => by
        have hk : (Value.slice qq nn cc).ownBlock = some k := by simpa using hk
        exact .inr (.inr (World.ownsRow.lt ho10 k hk).1)
      have N2 : ∀ k, k < w4.heap.size → k ∉ (Value.slice qq nn cc).ownBlock.toList := fun k hk hm => by
        have hm : (Value.slice qq nn cc).ownBlock = some k := by simpa using hm
        have := (World.ownsRow.lt ho10 k hm).1
        omega
      have J11 := J10.go G11 (fresh T2)
      have hD11 := hD10.gd G11 (top T2)
      have ha11 := ha10.gd G11 (N2 _ (by omega))
      have hl11 := heap_gd hl10 G11 (N2 _ (by omega))
      have l11 := G11.size
      refine do_st ha11 (i := 0) (add_blk _ _) (by simp) fun w12 ha12 g12 => ?_
      have ha12 : Blk w12 ba #[.slice q11 (nn + 1) c11] 40 := ha12
      have G12 := gd_one g12
      have T3 : ∀ k ∈ [ba], k = ba ∨ k = d + 1 ∨ w4.heap.size ≤ k := fun k hk => by simp at hk; omega
      have J12 := J11.go G12 (fresh T3)
      have hD12 := hD11.gd G12 (top T3)
      have ho12 : OwnI w12 w4.heap.size q11 (nn + 1) c11 (tagL c ds (l.take m) ++ [((l[m]).1, (l[m]).2, g)]) := row_gd ho11 G12 (by simp; omega)
      have hl12 := heap_gd hl11 G12 (by simp; omega)
      have l12 := G12.size
      refine ⟨_, hl12, ?_⟩
      rw [rec_back hst hpe]
      have g13 := put_grown w12 (d + 1) (.loop L)
      have G13 := gd_one g13
      have l13 := G13.size
      refine retS_ret ⟨_, rfl, ifB_f rfl ⟨⟨m + 1, q11, nn + 1, c11, ?_, by omega, J12.go G13 (fresh T1), hD12.gd G13 (top T1), ha12.gd G13 (by simp; omega), ?_, put_heap hl12, by omega⟩, ?_⟩⟩
      · rw [wrap_succ hlt (by omega)]
      · rw [htg]
        exact row_gd ho12 G13 (by simp; omega)
      · rw [wrap_succ hlt (by omega)]
        simp [intOf]; omega
    refine ⟨_, J7.fs.cell (i := 0) rfl rfl, ?_⟩
    refine do_call Tryz.call184 (c_scode J7.sch (retS_ret ⟨_, rfl, ?_⟩))
    refine ifB_intro (fun h4 => ?_) fun h4 => ?_
    · have h4 : c = 4 := by simpa using h4
      refine ⟨_, J7.fd.cell (i := 0) rfl rfl, _, h67.cell (i := 0) (add_blk _ _) rfl, ?_⟩
      refine do_call Tryz.call185 (c_dnext hD7 fun w8 G8 hD8 => retS_ret ⟨_, rfl, ?_⟩)
      have l8 := G8.size
      have nD : ∀ {k : Nat}, w.heap.size ≤ k → k ∉ blksD D := fun hk hm => by have := drwB _ hm; omega
      have h78 := h7.gd G8 (nD (by omega))
      refine do_st h78 (i := 2) (by rw [Sh.add_add, add_blk]) (by simp) fun w9 h9 g9 => ?_
      have G9 := gd_one g9
      have T4 : ∀ k ∈ [by_], k = ba ∨ k = d + 1 ∨ w4.heap.size ≤ k := fun k hk => by simp at hk; omega
      have l9 := G9.size
      refine hK (headD (restL c ds (l.take m)) (l[m]).1) w9 h9 ((J7.go G8 drw).go G9 (fresh T4)) ?_ ((ha7.gd G8 (nD (by omega))).gd G9 (by simp; omega)) ?_ (heap_gd (heap_gd hl7 G8 (nD (by omega))) G9 (by simp; omega)) (by omega) ?_
      · rw [restL_take hml, if_pos h4]
        exact hD8.gd G9 (top T4)
      · have k1 : OwnI w8 w4.heap.size qq nn cc (tagL c ds (l.take m)) := row_gd ho7 G8 fun k hk => by have := drwB k hk; omega
        -- the item's own block is no row's
        refine World.ownsRow.kept k1 g9 ?_
        cases hq : (Value.slice qq nn cc).ownBlock with
        | none => exact .inl rfl
        | some k =>
          refine .inr fun e => ?_
          have := (World.ownsRow.lt ho5 k hq).2
          injection e with e
          omega
      · rw [tagL_take hml, if_pos h4]
    · have h4 : c ≠ 4 := by simpa using h4
      refine hK 0 w7 h7 J7 ?_ ha7 ho7 hl7 (by omega) ?_
      · rw [restL_take hml, if_neg h4]; exact hD7
      · rw [tagL_take hml, if_neg h4]
  · have hge : m = n := by have := of_decide_eq_false hge; omega
    subst hge
    rw [List.take_of_length_le (by omega)] at hD5 ho5
    refine rf_done hl5 (by rw [hst]; simp) hpe fun oo => ?_
    have g6 := put_grown w5 (d + 1) oo
    have G6 := gd_one g6
    have T1 : ∀ k ∈ [d + 1], k = ba ∨ k = d + 1 ∨ w4.heap.size ≤ k := fun k hk => by simp at hk; omega
    have J6 := J5.go G6 (fresh T1)
    have hD6 := hD5.gd G6 (top T1)
    have ha6 := ha5.gd G6 (by simp; omega)
    have ho6 : OwnI (w5.putObj (d + 1) oo) w4.heap.size qq nn cc (tagL c ds l) := row_gd ho5 G6 (by simp; omega)
    have l56 := G6.size
    generalize w5.putObj (d + 1) oo = w6 at *
    have hlen := ownI_len ho6
    rw [tagL_len] at hlen
    refine ⟨_, _, _, ha6.cell (i := 0) rfl rfl, ?_⟩
    refine do_call Tryz.call93 (c_bitems J6.sch (fun w' g => ownI_cs (row_gd (S := [b]) ho6 (gd_gs g (by simp)) (by simp; omega))) (by rw [tagL_len]; exact hlen) (row_cap ho6) (by omega) fun q7 w7 g7 hs7 h7 => retS_ret ⟨_, rfl, ?_⟩)
    have hd7 := heap_grown g7 J6.df (ne_some (by omega))
    refine ⟨hd7, ?_⟩
    have g8 := put_grown w7 d (.deferred none)
    have G8 := gd_one g8
    have l7 := World.grownBy.size g7
    have G7 : Gd (b :: blksD D) w w7 := J6.gd.trans (gd_gs g7 (by simp))
    refine h q7 _ (G7.over G8 fun k hk => .inr (by simp at hk; omega)) (hs7.gd G8 (by simp; omega)) ((hD6.gs J6.sch g7).gd G8 fun k hk => by simp at hk; omega) (h7.gd ?_ G8)
    intro k hk cs hb
    simp only [List.mem_cons, List.not_mem_nil, or_false] at hk
    subst hk
    unfold Blk at hb
    rw [hd7] at hb
    cases hb
end Go.Proofs.YtlddfgfmkapoiaaGreat

namespace Go.Proofs.YtlddfgfmkapoiaaGreat
open Go Go.Sh Go.RowKit

abbrev lkF : Value := .func (.func 123) #[] #[]
abbrev rkF : Value := .func (.func 125) #[] #[]
abbrev onL (b9 b10 b7 b12 : Nat) : Value := .func (.func 302) #[] #[.pointer (some (blk b9)), .pointer (some (blk b10)), .pointer (some (blk b7)), .pointer (some (blk b12))]
/-- all pairs of a tree, from left to right -/
theorem c_lall {t : Option Addr} {w : World} {R : Ending → World → Prop}
    (h : ∀ b8 b10 b12 b4 w', Ext w w' → w.heap.size ≤ b8 → w.heap.size ≤ b10 → w.heap.size ≤ b12 → w.heap.size ≤ b4 → Blk w' b8 #[.pointer t] 35 → Blk w' b10 #[lkF] 195 → Blk w' b12 #[rkF] 195 →
      Blk w' b4 #[.func (.func 301) #[] #[.pointer (some (blk b10)), .pointer (some (blk b12)), .pointer (some (blk b8))]] 241 →
      R (.returned (.func (.func 240) #[] #[.pointer (some (blk b4))])) w') : Calls Tryz.prog 99 #[.pointer t] w R := by
  refine sh99_ok _ ?_
  unfold sh99
  refine do_call Tryz.call181 (sh181_ok _ ?_)
  unfold sh181
  refine do_call Tryz.call241 (sh241_ok _ _ _ _ _ _ _ ?_)
  unfold sh241
  refine ⟨⟨⟨?_⟩⟩⟩
  have e0 := ext_alloc w (.cells #[.pointer t] 35)
  have h0 := blk_alloc w #[.pointer t] 35
  have m0 := h0.lt
  obtain ⟨b8, z8⟩ : ∃ b8, b8 = w.heap.size := ⟨_, rfl⟩
  rw [← z8] at h0 m0 ⊢
  generalize w.alloc (.cells #[.pointer t] 35) = w1 at *
  have e1 := ext_alloc w1 (.cells #[lkF] 195)
  have h1 := blk_alloc w1 #[lkF] 195
  have m1 := h1.lt
  obtain ⟨b10, z10⟩ : ∃ b10, b10 = w1.heap.size := ⟨_, rfl⟩
  rw [← z10] at h1 m1 ⊢
  generalize w1.alloc (.cells #[lkF] 195) = w2 at *
  have e2 := ext_alloc w2 (.cells #[rkF] 195)
  have h2 := blk_alloc w2 #[rkF] 195
  have m2 := h2.lt
  obtain ⟨b12, z12⟩ : ∃ b12, b12 = w2.heap.size := ⟨_, rfl⟩
  rw [← z12] at h2 m2 ⊢
  generalize w2.alloc (.cells #[rkF] 195) = w3 at *
  refine retS_ret ⟨_, _, _, rfl, retS_ret ⟨_, _, _, rfl, ?_⟩⟩
  refine do_call Tryz.call180 (sh180_ok _ _ _ ?_)
  unfold sh180
  refine ⟨retS_ret ⟨_, _, _, rfl, ?_⟩⟩
  have e3 := ext_alloc w3 (.cells #[.func (.func 301) #[] #[.pointer (some (blk b10)), .pointer (some (blk b12)), .pointer (some (blk b8))]] 241)
  have h3 := blk_alloc w3 #[.func (.func 301) #[] #[.pointer (some (blk b10)), .pointer (some (blk b12)), .pointer (some (blk b8))]] 241
  have s0 := e0.size
  have s1 := e1.size
  have s2 := e2.size
  exact h b8 b10 b12 _ _ (((e0.trans e1).trans e2).trans e3) (by omega) (by omega) (by omega) (by omega) (((h0.ext e1).ext e2).ext e3) ((h1.ext e2).ext e3) (h2.ext e3) h3
theorem c_leftG {W1 w : World} {S : List Nat} {p : Option Addr} {t : Tr} {R : Ending → World → Prop} (ht : IsN W1 p t) (hO : Oth S W1) (G : Gd S W1 w) (h : ∀ q, IsN W1 q t.left → R (.returned (.pointer q)) w) : Calls Tryz.prog 123 #[.pointer p] w R := by
  refine sh123_ok _ ?_
  unfold sh123
  cases t with
  | nil => obtain rfl : p = none := ht; exact ifB_t rfl (h _ rfl)
  | node l k v g r =>
    obtain ⟨b, pl, pr, rfl, hn, hl, hr⟩ := ht
    exact ifB_f rfl ⟨_, rfl, _, (hn.gd G fun hm => hO b hm _ hn).cell (i := 5) (add_blk _ _) rfl, h _ hl⟩
theorem c_rightG {W1 w : World} {S : List Nat} {p : Option Addr} {t : Tr} {R : Ending → World → Prop} (ht : IsN W1 p t) (hO : Oth S W1) (G : Gd S W1 w) (h : ∀ q, IsN W1 q t.right → R (.returned (.pointer q)) w) : Calls Tryz.prog 125 #[.pointer p] w R := by
  refine sh125_ok _ ?_
  unfold sh125
  cases t with
  | nil => obtain rfl : p = none := ht; exact ifB_t rfl (h _ rfl)
  | node l k v g r =>
    obtain ⟨b, pl, pr, rfl, hn, hl, hr⟩ := ht
    exact ifB_f rfl ⟨_, rfl, _, (hn.gd G fun hm => hO b hm _ hn).cell (i := 6) (add_blk _ _) rfl, h _ hr⟩
/-- the going over itself: whatever is kept, behind the pairs so far, is kept behind those of a tree -/
theorem do_onL {W1 : World} {S : List Nat} {b9 b10 b7 b12 : Nat} {y1 : Fn} {y2 y3 : Array Value} {T9 T10 T7 T12 : TypeId} (h9 : Blk W1 b9 #[onL b9 b10 b7 b12] T9) (h10 : Blk W1 b10 #[lkF] T10) (h7 : Blk W1 b7 #[.func y1 y2 y3] T7) (h12 : Blk W1 b12 #[rkF] T12)
    (n9 : b9 ∉ S) (n10 : b10 ∉ S) (n7 : b7 ∉ S) (n12 : b12 ∉ S) (hO : Oth S W1) {J : List Pr → World → Prop} {M : Nat} (hJg : ∀ l w, J l w → Gd S W1 w) (hJe : ∀ l w w', J l w → Ext w w' → J l w')
    (hy : ∀ (l : List Pr) (w : World) (pn : Option Addr) (tl : Tr) (k v g : Int) (tr : Tr) (R : Ending → World → Prop), J l w → l.length + 1 ≤ M → IsN w pn (.node tl k v g tr) → (∀ w', J (l ++ [(k, v)]) w' → R (.returned (.bool true)) w') → doCall Tryz.prog (.func y1 y2 y3) #[.pointer pn] w R) :
    ∀ (t : Tr) {L : List Pr} {p : Option Addr} {w : World} {R : Ending → World → Prop} (_ht : IsN W1 p t) (_hJ : J L w) (_hM : L.length + t.pairs.length ≤ M) (_h : ∀ w', J (L ++ t.pairs) w' → R (.returned (.bool true)) w'), doCall Tryz.prog (onL b9 b10 b7 b12) #[.pointer p] w R
  | .nil, L, p, w, R, ht, hJ, hM, h => by
    refine do_callc Tryz.call302 (by rfl) (sh302_ok _ _ _ _ _ ?_)
    unfold sh302
    intro K8
    have : p = none := ht
    subst this
    have hJ' := hJe _ _ _ hJ (ext_drew w)
    refine ⟨⟨fun w' => Gd S W1 w', hJg _ _ hJ', ifB_t rfl (h _ ?_)⟩⟩
    simpa [Tr.pairs] using hJ'
  | .node l k v g r, L, p, w, R, ht, hJ, hM, h => by
    refine do_callc Tryz.call302 (by rfl) (sh302_ok _ _ _ _ _ ?_)
    unfold sh302
    intro K8
    obtain ⟨bn, pl, pr, hp, hb, hl, hr⟩ := id ht
    subst hp
    have hlen : (Tr.node l k v g r).pairs.length = l.pairs.length + (1 + r.pairs.length) := by simp [Tr.pairs]; omega
    have hJ' := hJe _ _ _ hJ (ext_drew w)
    have on9 : ∀ w', Gd S W1 w' → World.cell? w' (blk b9) = some (onL b9 b10 b7 b12) := fun w' G => (h9.gd G n9).cell (i := 0) rfl rfl
    have on10 : ∀ w', Gd S W1 w' → World.cell? w' (blk b10) = some lkF := fun w' G => (h10.gd G n10).cell (i := 0) rfl rfl
    have on7 : ∀ w', Gd S W1 w' → World.cell? w' (blk b7) = some (.func y1 y2 y3) := fun w' G => (h7.gd G n7).cell (i := 0) rfl rfl
    have on12 : ∀ w', Gd S W1 w' → World.cell? w' (blk b12) = some rkF := fun w' G => (h12.gd G n12).cell (i := 0) rfl rfl
    refine ⟨⟨fun w' => Gd S W1 w', hJg _ _ hJ', ifB_f rfl ⟨_, _, _, fun w' G => on9 w' G, _, _, _, fun w' G => on10 w' G, ?_⟩⟩⟩
    refine do_call Tryz.call123 (c_leftG ht hO (hJg _ _ hJ') fun ql hql1 => retS_ret ⟨_, rfl, hJg _ _ hJ', ?_⟩)
    refine do_onL h9 h10 h7 h12 n9 n10 n7 n12 hO hJg hJe hy l hql1 hJ' (by omega) fun w1 J1 => retS_ret ⟨_, rfl, hJg _ _ J1, ifB_t rfl ?_⟩
    refine ⟨_, _, _, fun w' G => on7 w' G, ?_⟩
    refine hy (L ++ l.pairs) w1 _ l k v g r _ J1 (by rw [List.length_append]; omega) (ht.gd hO (hJg _ _ J1)) fun w2 J2 => retS_ret ⟨_, rfl, hJg _ _ J2, ifB_t rfl ?_⟩
    refine ⟨_, _, _, fun w' G => on9 w' G, _, _, _, fun w' G => on12 w' G, ?_⟩
    refine do_call Tryz.call125 (c_rightG ht hO (hJg _ _ J2) fun qr hqr1 => retS_ret ⟨_, rfl, hJg _ _ J2, ?_⟩)
    refine do_onL h9 h10 h7 h12 n9 n10 n7 n12 hO hJg hJe hy r hqr1 J2 (by simp only [List.length_append, List.length_cons, List.length_nil]; omega) fun w3 J3 => retS_ret ⟨_, rfl, hJg _ _ J3, ?_⟩
    refine h w3 ?_
    have e : L ++ (Tr.node l k v g r).pairs = L ++ l.pairs ++ [(k, v)] ++ r.pairs := by simp [Tr.pairs]
    rw [e]; exact J3
end Go.Proofs.YtlddfgfmkapoiaaGreat

namespace Go.Proofs.YtlddfgfmkapoiaaGreat
open Go Go.Sh Go.RowKit
abbrev OwnK (w : World) (base : Nat) (p : Option Addr) (n c : Nat) (l : List Int) : Prop := w.ownsRow base 2 1 (.slice p n c) n (ints l)
theorem ownK_len {w : World} {base n c : Nat} {p : Option Addr} {l : List Int} (h : OwnK w base p n c l) : l.length = n := by
  have := h.1
  simp [ints] at this
  omega

/-- the state of a going over, behind some pairs -/
structure LkP (S : List Nat) (W1 : World) (b2 d d' : Nat) (L0 L1 : Loop) (l : List Pr) (w : World) : Prop where
  gd : Gd S W1 w
  l0 : w.heap[d + 1]? = some (.loop L0)
  l1 : w.heap[d' + 1]? = some (.loop L1)
  row : ∃ qq nn cc, Blk w b2 #[.slice qq nn cc] 22 ∧ OwnP w W1.heap.size qq nn cc l
theorem LkP.ext {S : List Nat} {W1 : World} {b2 d d' : Nat} {L0 L1 : Loop} {l : List Pr} {w w' : World} (h : LkP S W1 b2 d d' L0 L1 l w) (e : Ext w w') : LkP S W1 b2 d d' L0 L1 l w' := by
  obtain ⟨h1, h2, h3, qq, nn, cc, h4, h5⟩ := h
  exact ⟨h1.trans (gd_of e), e.heap h2, e.heap h3, qq, nn, cc, h4.ext e, e.row h5⟩
set_option maxRecDepth 20000 in
set_option maxHeartbeats 1000000 in
theorem c_lpairs {t : Tr} {pt : Option Addr} {w : World} {R : Ending → World → Prop} (ht : IsN w pt t) (hz : t.size ≤ 1000000) (h : ∀ q n c w', Ext w w' → OwnP w' w.heap.size q n c t.pairs → R (.returned (.slice q n c)) w') :
    Calls Tryz.prog 29 #[.pointer pt] w R := by
  refine sh29_ok _ ?_
  unfold sh29
  refine ⟨?_⟩
  have e1 := ext_alloc w (.cells #[.slice none 0 0] 22)
  have h1 := blk_alloc w #[.slice none 0 0] 22
  have lb := h1.lt
  obtain ⟨b2, hb2⟩ : ∃ b2, b2 = w.heap.size := ⟨_, rfl⟩
  rw [← hb2] at h1 lb ⊢
  generalize w.alloc (.cells #[.slice none 0 0] 22) = w1 at *
  refine do_call Tryz.call99 (c_lall (t := pt) fun b8 b10 b12 b4 w2 e2 z8 z10 z12 z4 k8 k10 k12 k4 => retS_ret ⟨_, _, _, rfl, do_rf fun fn L w3 d hdd hL hst hpe e3 hd3 hl3 => ?_⟩)
  rw [← hdd]
  have m3 : d + 1 < w3.heap.size := (Array.getElem?_eq_some_iff.1 hl3).1
  have s12 := e2.size
  have m8 := k8.lt
  have m10 := k10.lt
  have m12 := k12.lt
  have m4 := k4.lt
  refine callE_c Tryz.call240 (by rfl) (sh240_ok _ _ _ _ ?_)
  unfold sh240
  refine ⟨?_⟩
  have e4 := ext_alloc w3 (.cells #[.func (.yield (d + 1)) #[] #[]] 307)
  have h5 := blk_alloc w3 #[.func (.yield (d + 1)) #[] #[]] 307
  have m5 := h5.lt
  obtain ⟨b5, hb5⟩ : ∃ b5, b5 = w3.heap.size := ⟨_, rfl⟩
  rw [← hb5] at h5 m5 ⊢
  generalize w3.alloc (.cells #[.func (.yield (d + 1)) #[] #[]] 307) = w4 at *
  have k44 := (k4.ext e3).ext e4
  refine ⟨_, _, _, k44.cell (i := 0) rfl rfl, do_rf fun fn' L' w5 d' hdd' hL' hst' hpe' e5 hd5 hl5 => ?_⟩
  rw [← hdd']
  have m6 : d' + 1 < w5.heap.size := (Array.getElem?_eq_some_iff.1 hl5).1
  refine callE_c Tryz.call301 (by rfl) (sh301_ok _ _ _ _ _ _ ?_)
  unfold sh301
  refine ⟨⟨?_⟩⟩
  have e6 := ext_alloc w5 (.cells #[.func (.yield (d' + 1)) #[] #[]] 161)
  have h7 := blk_alloc w5 #[.func (.yield (d' + 1)) #[] #[]] 161
  have m7 := h7.lt
  obtain ⟨b7, hb7⟩ : ∃ b7, b7 = w5.heap.size := ⟨_, rfl⟩
  rw [← hb7] at h7 m7 ⊢
  generalize w5.alloc (.cells #[.func (.yield (d' + 1)) #[] #[]] 161) = w6 at *
  have e7 := ext_alloc w6 (.cells #[.nilFunc] 161)
  refine do_st (blk_alloc w6 _ _) (i := 0) (add_blk _ _) (by simp) fun W1 h9 g9 => ?_
  obtain ⟨b9, hb9⟩ : ∃ b9, b9 = w6.heap.size := ⟨_, rfl⟩
  rw [← hb9] at h9 g9 ⊢
  have h9 : Blk W1 b9 #[onL b9 b10 b7 b12] 161 := h9
  have e9 : Ext w6 W1 := e7.st g9 (by omega)
  have m9 := h9.lt
  have E5 := e6.trans e9
  have E4 := e5.trans E5
  have E3 := e4.trans E4
  have E2 := e3.trans E3
  have E1 := (e1.trans e2).trans E2
  refine ⟨_, _, _, h9.cell (i := 0) rfl rfl, _, (k8.ext E2).cell (i := 0) rfl rfl, ?_⟩
  have hS : ∀ k ∈ [b2, d + 1, d' + 1], k = b2 ∨ k = d + 1 ∨ k = d' + 1 := fun k hk => by simpa using hk
  have O : Oth [b2, d + 1, d' + 1] W1 := fun k hk => by
    rcases hS k hk with rfl | rfl | rfl
    · exact oth_blk ((h1.ext e2).ext E2) (by decide)
    · intro cs hb; have := E3.heap hl3; unfold Blk at hb; rw [this] at hb; cases hb
    · intro cs hb; have := E5.heap hl5; unfold Blk at hb; rw [this] at hb; cases hb
  have nS : ∀ {k : Nat}, k ≠ b2 → k ≠ d + 1 → k ≠ d' + 1 → k ∉ [b2, d + 1, d' + 1] := fun a b c hm => by
    rcases hS _ hm with h | h | h
    · exact a h
    · exact b h
    · exact c h
  have J0 : LkP [b2, d + 1, d' + 1] W1 b2 d d' L L' [] W1 := ⟨gd_refl _ _, E3.heap hl3, E5.heap hl5, none, 0, 0, (h1.ext e2).ext E2, ownP_nil _ _⟩
  refine do_onL (W1 := W1) (S := [b2, d + 1, d' + 1]) h9 (k10.ext E2) (h7.ext e9) (k12.ext E2) (nS (by omega) (by omega) (by omega)) (nS (by omega) (by omega) (by omega)) (nS (by omega) (by omega) (by omega)) (nS (by omega) (by omega) (by omega)) O
    (J := fun l w' => LkP [b2, d + 1, d' + 1] W1 b2 d d' L L' l w') (M := 1000000) (fun _ _ q => q.gd) (fun _ _ _ q e => q.ext e) ?_ t (L := []) (ht.ext E1) J0 (by simpa [Tr.pairs_length] using hz) fun w9 J9 => ?_
  · -- a round
    intro l w7 pn tl k v g tr R' J7 hlen hN hR
    obtain ⟨G7, q0, q1, qq, nn, cc, hB7, hO7⟩ := J7
    refine sh240_0_ok (by rw [q1, hL']) ?_
    unfold sh240_0
    refine ⟨_, q1, hst', ?_⟩
    have G8 := gd_one (put_grown w7 (d' + 1) (.loop { L' with state := .busy }))
    have p1 := put_heap (o' := .loop { L' with state := .busy }) q1
    have p0 := heap_gd q0 G8 (by simp; omega)
    have pB := hB7.gd G8 (by simp; omega)
    have l17 := G7.size
    have pO : OwnP (w7.putObj (d' + 1) (.loop { L' with state := .busy })) W1.heap.size qq nn cc l := row_gd hO7 G8 (by simp; omega)
    have pN := hN.gd (S := [d' + 1]) (fun k hk cs hb => by simp at hk; subst hk; unfold Blk at hb; rw [q1] at hb; cases hb) G8
    have G18 : Gd [b2, d + 1, d' + 1] W1 (w7.putObj (d' + 1) (.loop { L' with state := .busy })) := G7.trans (G8.mono fun k hk => by simp at hk; simp [hk])
    generalize w7.putObj (d' + 1) (.loop { L' with state := .busy }) = w8 at *
    have e89 := ext_drew w8
    have k5 : ∀ w', Gd [b2, d + 1, d' + 1] W1 w' → World.cell? w' (blk b5) = some (.func (.yield (d + 1)) #[] #[]) := fun w' G => ((h5.ext E4).gd G (nS (by omega) (by omega) (by omega))).cell (i := 0) rfl rfl
    refine ⟨⟨fun w' => Gd [b2, d + 1, d' + 1] W1 w', G18.trans (gd_of e89), _, _, _, fun w' G => k5 w' G, ?_⟩⟩
    refine do_call Tryz.call108 (c_key (pN.ext e89) fun wk ek => retS_ret ⟨_, rfl, G18.trans (gd_of (e89.trans ek)), ?_⟩)
    refine do_call Tryz.call126 (c_val ((pN.ext e89).ext ek) fun wv ev => retS_ret ⟨_, rfl, G18.trans (gd_of ((e89.trans ek).trans ev)), ?_⟩)
    have e8v := (e89.trans ek).trans ev
    have r0 := e8v.heap p0
    have r1 := e8v.heap p1
    have rB := pB.ext e8v
    have rO : OwnP wv W1.heap.size qq nn cc l := e8v.row pO
    have Gv := G18.trans (gd_of (S := [b2, d + 1, d' + 1]) e8v)
    clear p0 p1 pB pO pN
    refine sh29_0_ok (by rw [r0, hL]) ?_
    unfold sh29_0
    refine ⟨_, r0, hst, ?_⟩
    have G10 := gd_one (put_grown wv (d + 1) (.loop { L with state := .busy }))
    have s0 := put_heap (o' := .loop { L with state := .busy }) r0
    have s1 := heap_gd r1 G10 (by simp; omega)
    have sB := rB.gd G10 (by simp; omega)
    have lv := Gv.size
    have sO : OwnP (wv.putObj (d + 1) (.loop { L with state := .busy })) W1.heap.size qq nn cc l := row_gd rO G10 (by simp; omega)
    have Gx := Gv.trans (G10.mono (T := [b2, d + 1, d' + 1]) fun k hk => by simp at hk; simp [hk])
    generalize wv.putObj (d + 1) (.loop { L with state := .busy }) = wx at *
    have lx := Gx.size
    refine ⟨_, _, _, sB.cell (i := 0) rfl rfl, ⟨?_⟩⟩
    have e11 := ext_alloc wx (.cells #[.int .i64 k, .int .i64 v] 46)
    have o11 : OwnP (wx.alloc (.cells #[.int .i64 k, .int .i64 v] 46)) W1.heap.size qq nn cc l := e11.row sO
    have hnn : nn = l.length := by have := ownP_len o11; omega
    refine do_app elP o11 (m := 1) (cs_alloc wx _ _) (by simp) (by simp [Value.oneCell']) (by simp only [maxLen]; omega) (by omega) (Nat.le_trans lx e11.size) fun q12 c12 w12 o12 g12 => retS_ret ⟨_, _, _, rfl, ?_⟩
    have G12 := gd_row g12
    have hown : ∀ k ∈ (Value.slice qq nn cc).ownBlock.toList, W1.heap.size ≤ k := fun k hk => (World.ownsRow.lt o11 k (by simpa using hk)).1
    have nO : ∀ k, k < W1.heap.size → k ∉ (Value.slice qq nn cc).ownBlock.toList := fun k hk hm => by have := hown k hm; omega
    have tB := (sB.ext e11).gd G12 (nO _ (by omega))
    have t0 := heap_gd (e11.heap s0) G12 (nO _ (by omega))
    have t1 := heap_gd (e11.heap s1) G12 (nO _ (by omega))
    have G13 : Gd [b2, d + 1, d' + 1] W1 w12 := (Gx.trans (gd_of e11)).over G12 fun k hk => .inr (hown k hk)
    refine do_st tB (i := 0) (add_blk _ _) (by simp) fun w14 uB g14 => ?_
    have uB : Blk w14 b2 #[.slice q12 (nn + 1) c12] 22 := uB
    have G14 := gd_one g14
    have u0 := heap_gd t0 G14 (by simp; omega)
    have u1 := heap_gd t1 G14 (by simp; omega)
    have uO := row_gd o12 G14 (by simp; omega)
    refine ⟨_, u0, ?_⟩
    rw [rec_back hst hpe]
    have G15 := gd_one (put_grown w14 (d + 1) (.loop L))
    have v0 := put_heap (o' := .loop L) u0
    have v1 := heap_gd u1 G15 (by simp; omega)
    have vB := uB.gd G15 (by simp; omega)
    have vO := row_gd uO G15 (by simp; omega)
    have G16 : Gd [b2, d + 1, d' + 1] W1 (w14.putObj (d + 1) (.loop L)) := (G13.trans (G14.mono fun k hk => by simp at hk; simp [hk])).trans (G15.mono fun k hk => by simp at hk; simp [hk])
    generalize w14.putObj (d + 1) (.loop L) = w15 at *
    refine retS_ret ⟨_, rfl, ifB_f rfl ⟨_, v1, ?_⟩⟩
    rw [rec_back hst' hpe']
    have G17 := gd_one (put_grown w15 (d' + 1) (.loop L'))
    have l16 := G16.size
    refine hR _ ⟨G16.trans (G17.mono fun k hk => by simp at hk; simp [hk]), heap_gd v0 G17 (by simp; omega), put_heap v1, q12, nn + 1, c12, vB.gd G17 (by simp; omega), ?_⟩
    have := row_gd vO G17 (by simp; omega)
    unfold OwnP; rw [prs_append]; exact this
  · refine retS_ret ⟨_, rfl, ?_⟩
    obtain ⟨G9, q0, q1, qq, nn, cc, hB9, hO9⟩ := J9
    simp only [List.nil_append] at hO9
    refine rf_done q1 (by rw [hst']; simp) hpe' fun o1 => ?_
    have l9 := G9.size
    have G10 := gd_one (put_grown w9 (d' + 1) o1)
    have n1 : d' ∉ [d' + 1] := by simp
    refine ⟨heap_gd (heap_gd (E5.heap hd5) G9 (nS (by omega) (by omega) (by omega))) G10 n1, ?_⟩
    have p0 := heap_gd q0 G10 (by simp; omega)
    have pB := hB9.gd G10 (by simp; omega)
    have pO := row_gd hO9 G10 (by simp; omega)
    have pd := heap_gd (heap_gd (E3.heap hd3) G9 (nS (by omega) (by omega) (by omega))) G10 (by simp; omega)
    have H10 : Gd [b2, d + 1, d' + 1] W1 (w9.putObj (d' + 1) o1) := G9.trans (G10.mono fun k hk => by simp at hk; simp [hk])
    generalize w9.putObj (d' + 1) o1 = w10 at *
    have G11 := gd_one (put_grown w10 d' (.deferred none))
    have l10 := H10.size
    have r0 := heap_gd p0 G11 (by simp; omega)
    have rB := pB.gd G11 (by simp; omega)
    have rO := row_gd pO G11 (by simp; omega)
    have rd := heap_gd pd G11 (by simp; omega)
    have E0 : Ext w W1 := E1
    have hbw : ∀ k ∈ [b2, d + 1, d' + 1], w.heap.size ≤ k := fun k hk => by
      have s1 := e1.size
      rcases hS k hk with h | h | h <;> omega
    have X10 : Ext w w10 := Ext.gd E0 H10 hbw
    have sw1 := e1.size
    have X11 : Ext w (w10.putObj d' (.deferred none)) := X10.put (by omega) _
    generalize w10.putObj d' (.deferred none) = w11 at *
    refine rf_done r0 (by rw [hst]; simp) hpe fun o2 => ?_
    have G12 := gd_one (put_grown w11 (d + 1) o2)
    have sB := rB.gd G12 (by simp; omega)
    have sO := row_gd rO G12 (by simp; omega)
    have sd := heap_gd rd G12 (by simp)
    have X12 : Ext w (w11.putObj (d + 1) o2) := X11.put (by omega) _
    generalize w11.putObj (d + 1) o2 = w12 at *
    refine ⟨_, _, _, sB.cell (i := 0) rfl rfl, ?_⟩
    refine do_st sB (i := 0) (add_blk _ _) (by simp) fun w13 uB g13 => ?_
    have uB : Blk w13 b2 #[.slice qq nn cc] 22 := uB
    have G13 := gd_one g13
    have uO := row_gd sO G13 (by simp; omega)
    have ud := heap_gd sd G13 (by simp; omega)
    have X13 : Ext w w13 := X12.st g13 (by omega)
    refine ⟨ud, ?_⟩
    have G14 := gd_one (put_grown w13 d (.deferred none))
    have vB := uB.gd G14 (by simp; omega)
    have vO := row_gd uO G14 (by simp; omega)
    have X14 : Ext w (w13.putObj d (.deferred none)) := X13.put (by omega) _
    exact ⟨_, _, _, vB.cell (i := 0) rfl rfl, h _ _ _ _ X14 (row_mono vO (by omega))⟩

/-- the state of a going over, behind some pairs -/
structure LkK (S : List Nat) (W1 : World) (b2 d d' : Nat) (L0 L1 : Loop) (l : List Pr) (w : World) : Prop where
  gd : Gd S W1 w
  l0 : w.heap[d + 1]? = some (.loop L0)
  l1 : w.heap[d' + 1]? = some (.loop L1)
  row : ∃ qq nn cc, Blk w b2 #[.slice qq nn cc] 24 ∧ OwnK w W1.heap.size qq nn cc (l.map (·.1))
theorem LkK.ext {S : List Nat} {W1 : World} {b2 d d' : Nat} {L0 L1 : Loop} {l : List Pr} {w w' : World} (h : LkK S W1 b2 d d' L0 L1 l w) (e : Ext w w') : LkK S W1 b2 d d' L0 L1 l w' := by
  obtain ⟨h1, h2, h3, qq, nn, cc, h4, h5⟩ := h
  exact ⟨h1.trans (gd_of e), e.heap h2, e.heap h3, qq, nn, cc, h4.ext e, e.row h5⟩
end Go.Proofs.YtlddfgfmkapoiaaGreat

namespace Go.Proofs.YtlddfgfmkapoiaaGreat
open Go Go.Sh Go.RowKit

def ab (a b : It) : Bool := decide (b.2.2 < a.2.2) || (decide (a.2.2 = b.2.2) && decide (b.1 < a.1))
theorem ab_iff {a b : It} : ab a b = true ↔ b.2.2 < a.2.2 ∨ (a.2.2 = b.2.2 ∧ b.1 < a.1) := by simp [ab]
theorem ab_no {a b : It} : ab a b = false ↔ ¬ (b.2.2 < a.2.2 ∨ (a.2.2 = b.2.2 ∧ b.1 < a.1)) := by rw [← ab_iff]; simp
theorem ab_trans {a b c : It} (h : ab a b = false) (k : ab b c = false) : ab a c = false := by
  rw [ab_no] at *; omega
theorem ab_of {a b : It} (h : ab a b = false) (k : a.1 ≠ b.1) : ab b a = true := by
  rw [ab_no] at h; rw [ab_iff]; omega
theorem ab_asymm {a b : It} (h : ab a b = true) : ab b a = false := by
  rw [ab_iff] at h; rw [ab_no]; omega
theorem ab_self (a : It) : ab a a = false := by rw [ab_no]; omega
abbrev zI : It := (0, 0, 0)
/-- the place of the highest one of the first items -/
def topK (l : List It) (n : Nat) : Nat := (List.range n).foldl (fun k i => if ab (l.getD i zI) (l.getD k zI) then i else k) 0
theorem topK_succ (l : List It) (n : Nat) : topK l (n + 1) = if ab (l.getD n zI) (l.getD (topK l n) zI) then n else topK l n := by
  simp [topK, List.range_succ]
theorem topK_one (l : List It) : topK l 1 = 0 := by
  rw [topK_succ]; show (if _ then 0 else 0) = 0; split <;> rfl
theorem topK_lt (l : List It) : ∀ n, topK l (n + 1) < n + 1
  | 0 => by rw [topK_one]; omega
  | n + 1 => by
    have := topK_lt l n
    rw [topK_succ]; split <;> omega
theorem topK_lt' {l : List It} (h : 0 < l.length) : topK l l.length < l.length := by
  obtain ⟨n, hn⟩ : ∃ n, l.length = n + 1 := ⟨l.length - 1, by omega⟩
  rw [hn]; exact topK_lt l n
theorem topK_max {l : List It} {j : Nat} (h : ∀ i, i < l.length → i ≠ j → ab (l.getD j zI) (l.getD i zI) = true) (hj : j < l.length) : topK l l.length = j := by
  have : ∀ n, n ≤ l.length → j < n → topK l n = j := by
    intro n
    induction n with
    | zero => intro _ q; omega
    | succ n ih =>
      intro hn hjn
      rw [topK_succ]
      rcases Nat.lt_or_ge j n with q | q
      · rw [ih (by omega) q, if_neg (by rw [ab_asymm (h n (by omega) (by omega))]; simp)]
      · have e : n = j := by omega
        subst e
        cases n with
        | zero => show (if _ then 0 else 0) = 0; split <;> rfl
        | succ m =>
          have := topK_lt l m
          rw [if_pos (h _ (by omega) (by omega))]
  exact this _ (Nat.le_refl _) hj
def ofT (l : List It) : Tr :=
  if h : 0 < l.length then .node (ofT (l.take (topK l l.length))) (l.getD (topK l l.length) zI).1 (l.getD (topK l l.length) zI).2.1 (l.getD (topK l l.length) zI).2.2 (ofT (l.drop (topK l l.length + 1))) else .nil
termination_by l.length
decreasing_by
  · have := topK_lt' h
    simp only [List.length_take]; omega
  · simp only [List.length_drop]; omega
theorem ofT_nil : ofT [] = .nil := by rw [ofT]; rfl
theorem ofT_eq {l : List It} (h : 0 < l.length) : ofT l = .node (ofT (l.take (topK l l.length))) (l.getD (topK l l.length) zI).1 (l.getD (topK l l.length) zI).2.1 (l.getD (topK l l.length) zI).2.2 (ofT (l.drop (topK l l.length + 1))) := by
  rw [ofT, dif_pos h]
abbrev rootI (t : Tr) : It := (t.key, t.val, t.tag)
theorem abT_ab {a b : Tr} (ha : a.nn = true) (hb : b.nn = true) : abT a b = ab (rootI a) (rootI b) := by simp [abT, ab, ha, hb]
theorem tp_le : ∀ {t : Tr}, Tp t → ∀ y ∈ itT t, ab y (rootI t) = false
  | .nil, _, y, hy => by cases hy
  | .node l k v g r, h, y, hy => by
    obtain ⟨hl, hr, h1, h2⟩ := h
    rcases List.mem_append.1 hy with q | q
    · have hn : l.nn = true := by cases l with
        | nil => cases q
        | node _ _ _ _ _ => rfl
      rw [abT_ab hn rfl] at h1
      exact ab_trans (tp_le hl y q) h1
    · rcases List.mem_cons.1 q with rfl | q
      · exact ab_self _
      · have hn : r.nn = true := by cases r with
          | nil => cases q
          | node _ _ _ _ _ => rfl
        rw [abT_ab hn rfl] at h2
        exact ab_trans (tp_le hr y q) h2
abbrev Unl (l : List It) : Prop := l.Pairwise fun a b => a.1 ≠ b.1
/-- there is one treap of items -/
theorem tp_one : ∀ {t : Tr}, Tp t → Unl (itT t) → t = ofT (itT t)
  | .nil, _, _ => by
    show Tr.nil = ofT []
    rw [ofT_nil]
  | .node l k v g r, h, hu => by
    have hle := tp_le h
    obtain ⟨hl, hr, _, _⟩ := h
    have hu' : Unl (itT l ++ (k, v, g) :: itT r) := hu
    obtain ⟨ul, ur, ulr⟩ := List.pairwise_append.1 hu'
    obtain ⟨uk, ur⟩ := List.pairwise_cons.1 ur
    have e : itT (.node l k v g r) = itT l ++ (k, v, g) :: itT r := rfl
    have hx : (itT l ++ (k, v, g) :: itT r).getD (itT l).length zI = (k, v, g) := by simp
    have ht : topK (itT l ++ (k, v, g) :: itT r) (itT l ++ (k, v, g) :: itT r).length = (itT l).length := by
      refine topK_max (fun i hi hne => ?_) (by simp)
      rw [hx]
      have hg : (itT l ++ (k, v, g) :: itT r).getD i zI = (itT l ++ (k, v, g) :: itT r)[i] := by simp [List.getD, List.getElem?_eq_getElem hi]
      rw [hg]
      refine ab_of (hle _ (List.getElem_mem hi)) ?_
      rcases Nat.lt_or_ge i (itT l).length with q | q
      · rw [List.getElem_append_left q]
        exact ulr _ (List.getElem_mem q) _ (by simp)
      · rw [List.getElem_append_right q]
        obtain ⟨m, hm⟩ : ∃ m, i - (itT l).length = m + 1 := ⟨i - (itT l).length - 1, by omega⟩
        simp only [hm, List.getElem_cons_succ]
        exact Ne.symm (uk _ (List.getElem_mem _))
    have h0 : 0 < (itT l ++ (k, v, g) :: itT r).length := by rw [List.length_append, List.length_cons]; omega
    rw [e, ofT_eq h0, ht, hx, List.take_left' rfl, ← tp_one hl ul]
    have : (itT l ++ (k, v, g) :: itT r).drop ((itT l).length + 1) = itT r := by
      rw [← List.drop_drop, List.drop_left' rfl]; rfl
    rw [this, ← tp_one hr ur]
end Go.Proofs.YtlddfgfmkapoiaaGreat

namespace Go.Proofs.YtlddfgfmkapoiaaGreat
open Go Go.Sh Go.RowKit

theorem isN_fun : ∀ {a b : Tr} {p : Option Addr} {w : World}, IsN w p a → IsN w p b → a = b
  | .nil, .nil, _, _, _, _ => rfl
  | .nil, .node .., _, _, h, h' => by
    obtain ⟨b, _, _, rfl, _⟩ := h'
    cases h
  | .node .., .nil, _, _, h, h' => by
    obtain ⟨b, _, _, rfl, _⟩ := h
    cases h'
  | .node l k v g r, .node l' k' v' g' r', p, w, h, h' => by
    obtain ⟨b, pl, pr, rfl, hb, hl, hr⟩ := h
    obtain ⟨b', pl', pr', hp, hb', hl', hr'⟩ := h'
    have e : b = b' := by simpa [blk] using hp
    subst e
    have hcs : _ = _ := (Option.some.inj (hb.symm.trans hb'))
    simp only [Obj.cells.injEq] at hcs
    have hc := hcs.1
    simp only [Array.mk.injEq, List.cons.injEq, Value.int.injEq, Value.pointer.injEq, true_and, and_true] at hc
    obtain ⟨rfl, rfl, _, rfl, _, rfl, rfl⟩ := hc
    rw [isN_fun hl hl', isN_fun hr hr']
theorem ptr_same {P : Program} {tp te : TypeId} {j : TypeInfo} (w : World) (p : Option Addr) (hp : P.underlying tp = some (.pointer te)) (hte : P.info? te = some j) :
    (binOp .eql tp (.pointer p) (.pointer p)).run P w = .ok (.bool true) w := by
  cases p with
  | some a => exact run_eql_ptr_same w a hp hte
  | none =>
    have h : ∀ d : Nat, (Op.equalIn (d + 1) tp (.pointer none) (.pointer none)).run P w = .ok true w := fun d => by
      simp [Op.equalIn, run_underlying hp]
    simp only [binOp]
    simp [Op.equal, Op.maxDepth, h 9999]
theorem ptr_none {P : Program} {tp te : TypeId} {j : TypeInfo} (w : World) (a : Addr) (hp : P.underlying tp = some (.pointer te)) (hte : P.info? te = some j) :
    (binOp .eql tp (.pointer (some a)) (.pointer none)).run P w = .ok (.bool false) w ∧ (binOp .eql tp (.pointer none) (.pointer (some a))).run P w = .ok (.bool false) w := by
  have h : ∀ d : Nat, (Op.equalIn (d + 1) tp (.pointer (some a)) (.pointer none)).run P w = .ok false w := fun d => by
    simp [Op.equalIn, run_underlying hp]
  have k : ∀ d : Nat, (Op.equalIn (d + 1) tp (.pointer none) (.pointer (some a))).run P w = .ok false w := fun d => by
    simp [Op.equalIn, run_underlying hp]
  constructor
  · simp only [binOp]
    simp [Op.equal, Op.maxDepth, h 9999]
  · simp only [binOp]
    simp [Op.equal, Op.maxDepth, k 9999]
set_option maxRecDepth 100000 in
theorem do_pe {a b : Tr} {pa pb : Option Addr} {i j : Nat} {w : World} {K : Bool → Prop} (ha : IsN w pa a) (hb : IsN w pb b) (h1 : pa = pb → K true) (h0 : pa ≠ pb → K false) : doPE Tryz.prog .eql 35 (.tmp i) (.tmp j) (.pointer pa) (.pointer pb) w K := by
  have hu := Tryz.underlying35
  obtain ⟨ti, hti⟩ : ∃ ti, Tryz.prog.info? 249 = some ti := Option.isSome_iff_exists.1 (by kernel_rfl)
  have hz : (Tryz.prog.info? 249).map (fun t => t.size != 0) = some true := by kernel_rfl
  have hsz : ti.size ≠ 0 := by rw [hti] at hz; simpa using hz
  have hg : ∀ (b : Bool), (binOp .eql 35 (.pointer pa) (.pointer pb)).run Tryz.prog w = .ok (.bool b) w → (do eqGuard .eql 35 (.tmp i) (.tmp j) (.pointer pa) (.pointer pb); binOp .eql 35 (.pointer pa) (.pointer pb)).run Tryz.prog w = .ok (.bool b) w := fun b hb => by
    simp [eqGuard, hb]
  by_cases e : pa = pb
  · subst e
    exact ⟨true, hg _ (ptr_same w pa hu hti), h1 rfl⟩
  · refine ⟨false, hg _ ?_, h0 e⟩
    cases a with
    | nil =>
      have : pa = none := ha
      subst this
      cases b with
      | nil =>
        have : pb = none := hb
        exact absurd this.symm e
      | node l k v g r =>
        obtain ⟨bb, _, _, rfl, _⟩ := hb
        exact (ptr_none w _ hu hti).2
    | node l k v g r =>
      obtain ⟨ba, _, _, rfl, hba, _⟩ := ha
      cases b with
      | nil =>
        have : pb = none := hb
        subst this
        exact (ptr_none w _ hu hti).1
      | node l' k' v' g' r' =>
        obtain ⟨bb, _, _, rfl, hbb, _⟩ := hb
        exact run_eql_ptr_other w hu hti hsz (fun q => e (by rw [q])) hba hbb
/-- are two trees the same? -/
theorem c_shsame : ∀ (a b : Tr) {pa pb : Option Addr} {w : World} {R : Ending → World → Prop} (_ha : IsN w pa a) (_hb : IsN w pb b) (_h : ∀ r w', Ext w w' → (r = true ↔ a = b) → R (.returned (.bool r)) w'), Calls Tryz.prog 121 #[.pointer pa, .pointer pb] w R
  | a, b, pa, pb, w, R, ha, hb, h => by
    refine sh121_ok _ _ ?_
    unfold sh121
    refine do_pe ha hb (fun e => ifB_t rfl (h _ _ (ext_refl w) (by subst e; simpa using isN_fun ha hb))) fun hne => ifB_f rfl ?_
    intro K6
    cases a with
    | nil =>
      have : pa = none := ha
      subst this
      refine ifB_t rfl (h _ _ (ext_refl w) ?_)
      cases b with
      | nil => exact absurd (show pb = none from hb).symm hne
      | node => simp
    | node l k v g r =>
    obtain ⟨ba, pl, pr, rfl, hba, hl, hr⟩ := id ha
    refine ifB_f rfl ?_
    cases b with
    | nil =>
      have : pb = none := hb
      subst this
      exact ifB_t rfl (h _ _ (ext_refl w) (by simp))
    | node l' k' v' g' r' =>
    obtain ⟨bb, pl', pr', rfl, hbb, hl', hr'⟩ := id hb
    refine ifB_f rfl ?_
    refine do_call Tryz.call108 (c_key ha fun w1 e1 => retS_ret ⟨_, rfl, ?_⟩)
    refine do_call Tryz.call108 (c_key (hb.ext e1) fun w2 e2 => retS_ret ⟨_, rfl, ?_⟩)
    have E2 := e1.trans e2
    refine ifB_intro (fun q => h _ _ E2 ?_) fun qk => ?_
    · have q : k ≠ k' := by simpa [Tr.key] using q
      simp [q]
    have qk : k = k' := by simpa [Tr.key] using qk
    refine do_call Tryz.call126 (c_val (ha.ext E2) fun w3 e3 => retS_ret ⟨_, rfl, ?_⟩)
    refine do_call Tryz.call126 (c_val (hb.ext (E2.trans e3)) fun w4 e4 => retS_ret ⟨_, rfl, ?_⟩)
    have E4 := (E2.trans e3).trans e4
    refine ifB_intro (fun q => h _ _ E4 ?_) fun qv => ?_
    · have q : v ≠ v' := by simpa [Tr.val] using q
      simp [q]
    have qv : v = v' := by simpa [Tr.val] using qv
    refine do_call Tryz.call196 (c_tag (ha.ext E4) fun w5 e5 => retS_ret ⟨_, rfl, ?_⟩)
    refine do_call Tryz.call196 (c_tag (hb.ext (E4.trans e5)) fun w6 e6 => retS_ret ⟨_, rfl, ?_⟩)
    have E6 := (E4.trans e5).trans e6
    refine ifB_intro (fun q => h _ _ E6 ?_) fun qg => ?_
    · have q : g ≠ g' := by simpa [Tr.tag] using q
      simp [q]
    have qg : g = g' := by simpa [Tr.tag] using qg
    refine do_call Tryz.call91 (c_tsize (ha.ext E6) fun w7 e7 => retS_ret ⟨_, rfl, ?_⟩)
    refine do_call Tryz.call91 (c_tsize (hb.ext (E6.trans e7)) fun w8 e8 => retS_ret ⟨_, rfl, ?_⟩)
    have E8 := (E6.trans e7).trans e8
    refine ifB_intro (fun q => h _ _ E8 ?_) fun _ => ?_
    · simp only [Bool.false_eq_true, false_iff]
      intro e
      rw [e] at q
      simp at q
    refine do_call Tryz.call107 (c_tsum (ha.ext E8) fun w9 e9 => retS_ret ⟨_, rfl, ?_⟩)
    refine do_call Tryz.call107 (c_tsum (hb.ext (E8.trans e9)) fun w10 e10 => retS_ret ⟨_, rfl, ?_⟩)
    have E10 := (E8.trans e9).trans e10
    simp -zeta -zetaHave only [K6]
    refine ifB_intro (fun q => h _ _ E10 ?_) fun _ => ?_
    · simp only [Bool.false_eq_true, false_iff]
      intro e
      rw [e] at q
      simp at q
    intro K9
    refine do_call Tryz.call123 (c_left (ha.ext E10) fun ql hql => retS_ret ⟨_, rfl, ?_⟩)
    refine do_call Tryz.call123 (c_left (hb.ext E10) fun ql' hql' => retS_ret ⟨_, rfl, ?_⟩)
    refine do_call Tryz.call121 (c_shsame l l' hql hql' fun r1 w13 e13 i13 => retS_ret ⟨_, rfl, ?_⟩)
    have E13 := E10.trans e13
    cases r1 with
    | false =>
      refine ifB_f rfl (h _ _ E13 ?_)
      have : l ≠ l' := fun q => by have := i13.2 q; cases this
      simp [this]
    | true =>
    have ql1 := i13.1 rfl
    refine ifB_t rfl ?_
    refine do_call Tryz.call125 (c_right (ha.ext E13) fun qr hqr => retS_ret ⟨_, rfl, ?_⟩)
    refine do_call Tryz.call125 (c_right (hb.ext E13) fun qr' hqr' => retS_ret ⟨_, rfl, ?_⟩)
    refine do_call Tryz.call121 (c_shsame r r' hqr hqr' fun r2 w16 e16 i16 => retS_ret ⟨_, rfl, h _ _ (E13.trans e16) ?_⟩)
    rw [i16, qk, qv, qg, ql1]
    simp
end Go.Proofs.YtlddfgfmkapoiaaGreat

