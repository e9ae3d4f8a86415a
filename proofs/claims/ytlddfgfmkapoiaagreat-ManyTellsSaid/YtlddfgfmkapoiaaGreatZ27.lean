/-
  The document's answers of layer 27; what its statements share.
-/
/-
  Printed by a program (gen.py): what the functions of the program do, as formulas; each with the proof that its call is what the formula says.
-/
/-
  Printed by a program (gen.py): what the functions of the program do, as formulas; each with the proof that its call is what the formula says.
-/
/-
  BuildRows, BuildSorts: what they compute.
-/
/-
  Arguments opened to cells: slices of structs. No claim of its own.
-/
/-
  The arguments of the statements, opened.
-/
import Derived.Test.YtlddfgfmkapoiaaGreatZ26
import Derived.Test.YtlddfgfmkapoiaaGreatZ02
import Derived.Test.YtlddfgfmkapoiaaGreatProg
import Derived.Test.YtlddfgfmkapoiaaGreatZ05
import Derived.Test.YtlddfgfmkapoiaaGreatZ03
import Derived.Deep.Slices
import Derived.Deep.Fields
import Derived.ChangeSame
import Derived.Lib.SmallJoins
import Derived.Test.YtlddfgfmkapoiaaGreatZ16
import Derived.Test.YtlddfgfmkapoiaaGreatZ04
import Derived.SizedLaws

namespace Go.Proofs.YtlddfgfmkapoiaaGreat
open Go Go.Sh Go.RowKit

theorem IsRd.two {b M N : Nat} {ds : List Int} {S : List Nat} {w w' : World} (h : IsRd b M N ds w) (g : Gd S w w') (hS : ∀ k ∈ S, N ≤ k) : IsRd b M N ds w' := h.gd g fun k hk => .inl (hS k hk)
set_option maxRecDepth 20000 in
set_option maxHeartbeats 1000000 in
theorem c_r27items {c : Int} {b M N : Nat} {ds : List Int} {l : List Pr} {q : Option Addr} {n cp : Nat} {w : World} {R : Ending → World → Prop} (hd : IsRd b M N ds w) (hN : N ≤ w.heap.size) (hl : ∀ w', Gs b w w' → Cs w' q (prs l)) (hn : l.length = n) (hB : n ≤ 1000000)
    (h : ∀ q' n' c' w', Gs b w w' → IsRd b M N (restL c ds l) w' → OwnI w' w.heap.size q' n' c' (tagL c ds l) → R (.returned (.slice q' n' c')) w') :
    Calls Tryz.prog 35 #[.int .u8 c, .pointer (some (blk b)), .slice q n cp] w R := by
  refine sh35_ok _ _ _ _ _ ?_
  unfold sh35
  have hbN := hd.lt.2
  refine ⟨fun vs w' => ∃ (i nn cc : Nat) (qq : Option Addr), vs = [.slice qq nn cc, .int .i64 i] ∧ i ≤ n ∧ Gs b w w' ∧ IsRd b M N (restL c ds (l.take i)) w' ∧ OwnI w' w.heap.size qq nn cc (tagL c ds (l.take i)),
    fun vs _ => n - (intOf (vs.getD 1 undef)).toNat, ⟨0, 0, 0, none, rfl, by omega, gs_refl _ _, ?_, ?_⟩, ?_⟩
  · have : restL c ds (l.take 0) = ds := by unfold restL; simp
    rw [this]; exact hd
  · rw [List.take_zero, tagL_nil]; exact ownI_nil _ _
  rintro q' n' c' x' _ w1 ⟨m, nn, cc, qq, hv, hm, g1, hd1, ho1⟩
  simp only [List.cons.injEq, Value.slice.injEq, Value.int.injEq, true_and, and_true] at hv
  obtain ⟨⟨rfl, rfl, rfl⟩, rfl⟩ := hv
  refine ifB_intro (fun hlt => ?_) fun hge => ?_
  · have hlt : m < n := by have := of_decide_eq_true hlt; omega
    have hml : m < l.length := by omega
    have l1 := g1.size
    have d1 := ext_drew w1
    have gd : Gs b w w1.drew := g1.trans (gs_of d1)
    refine ⟨⟨fun w' => Gs b w w', gd, ?_⟩⟩
    refine ix_prC (fun w' k => hl w' k) gd hn rfl hlt fun a r1 _ => ⟨_, r1, ?_⟩
    refine ix_prC (fun w' k => hl w' k) gd hn rfl hlt fun a r3 r4 => ⟨_, r4, ⟨?_⟩⟩
    have e2 := ext_alloc w1.drew (.cells #[.int .i64 0, .int .i64 0, .int .u64 0] 114)
    refine ⟨gd.trans (gs_of e2), ?_⟩
    refine do_st3 (blk_alloc w1.drew _ _) fun w2 h2 g2 => ?_
    have E2 : Ext w1 w2 := d1.trans (e2.st g2 (Nat.le_refl _))
    have lx := h2.lt
    have ebx : w1.drew.heap.size = w1.heap.size := rfl
    rw [ebx] at h2 lx ⊢
    obtain ⟨bx, hbx⟩ : ∃ bx, bx = w1.heap.size := ⟨_, rfl⟩
    rw [← hbx] at h2 lx ⊢
    have hd2 := hd1.ext E2
    have ho2 : OwnI w2 w.heap.size q' n' c' (tagL c ds (l.take m)) := E2.row ho1
    have G2 := g1.trans (gs_of E2)
    intro K26
    have hnn := ownI_len ho1
    rw [tagL_len, List.length_take] at hnn
    have hK : ∀ (g : Int) w3, Blk w3 bx #[.int .i64 (l[m]).1, .int .i64 (l[m]).2, .int .u64 g] 114 → Gs b w w3 → IsRd b M N (restL c ds (l.take (m + 1))) w3 → OwnI w3 w.heap.size q' n' c' (tagL c ds (l.take m)) →
        tagL c ds (l.take (m + 1)) = tagL c ds (l.take m) ++ [((l[m]).1, (l[m]).2, g)] → K26 w3 := by
      intro g w3 h3 G3 hd3 ho3 htg
      refine ⟨_, h3.cell (i := 0) (add_blk _ _) rfl, _, h3.cell (i := 1) (add_blk _ _) rfl, _, h3.cell (i := 2) (add_blk _ _) rfl, ?_⟩
      have l3 := G3.size
      refine do_app1I (x := ((l[m]).1, (l[m]).2, g)) ho3 (by omega) l3 fun q4 c4 w4 ho4 hx4 g4 hor => ⟨_, _, _, rfl, ?_⟩
      have own : ∀ k ∈ (Value.slice q' n' c').ownBlock.toList, w.heap.size ≤ k := fun k hk => (World.ownsRow.lt ho3 k (by simpa using hk)).1
      refine ⟨⟨m + 1, n' + 1, c4, q4, by rw [wrap_succ hlt (by omega)], by omega, ?_, hd3.two (gd_row g4) fun k hk => Nat.le_trans hN (own k hk), ?_⟩, ?_⟩
      · refine ⟨g4.os.trans G3.os, g4.tape.trans G3.tape, g4.output.trans G3.output, Nat.le_trans G3.size (World.grownBy.size g4), fun k hk hne => ?_⟩
        refine (g4.block k (Nat.lt_of_lt_of_le hk G3.size) fun e => ?_).trans (G3.block k hk hne)
        have := own k (by rw [← e]; simp)
        omega
      · rw [htg]; exact ho4
      · rw [wrap_succ hlt (by omega)]; simp [intOf]; omega
    refine ifB_intro (fun h4 => ?_) fun h4 => ?_
    · have h4 : c = 4 := by simpa using h4
      refine ix_pr (hl w2 G2) hn rfl hlt fun a k1 k2 _ => ⟨_, k1, ?_⟩
      refine do_call Tryz.call103 (c_r8next hd2 fun w3 g3 hd3 => retS_ret ⟨_, rfl, ?_⟩)
      have nbx : bx ≠ b := by omega
      refine do_st (h2.gs g3 nbx) (i := 2) (by rw [Sh.add_add, add_blk]) (by simp) fun w4 h4' g4 => ?_
      have l3 := g3.size
      refine hK (headD (restL c ds (l.take m)) (l[m]).1) w4 h4' ((G2.trans g3).st g4 (by omega)) ?_ ?_ ?_
      · rw [restL_take hml, if_pos h4]
        exact hd3.two (gd_one g4) fun k hk => by simp at hk; omega
      · have k1 : OwnI w3 w.heap.size q' n' c' (tagL c ds (l.take m)) := row_gd (S := [b]) ho2 (gd_gs g3 (by simp)) (by simp; omega)
        refine World.ownsRow.kept k1 g4 ?_
        cases hq : (Value.slice q' n' c').ownBlock with
        | none => exact .inl rfl
        | some k =>
          refine .inr fun e => ?_
          have := (World.ownsRow.lt ho1 k hq).2
          injection e with e
          omega
      · rw [tagL_take hml, if_pos h4]
    · have h4 : c ≠ 4 := by simpa using h4
      refine hK 0 w2 h2 G2 ?_ ho2 ?_
      · rw [restL_take hml, if_neg h4]; exact hd2
      · rw [tagL_take hml, if_neg h4]
  · have hge : m = n := by have := of_decide_eq_false hge; omega
    subst hge
    rw [List.take_of_length_le (by omega)] at hd1 ho1
    exact h _ _ _ _ g1 hd1 ho1
theorem c_r27of {c o po : Int} {b M N : Nat} {ds : List Int} {l : List Pr} {q : Option Addr} {n cp : Nat} {w : World} {R : Ending → World → Prop} (ho : isO o = true) (hp : may po = true) (hd : IsRd b M N ds w) (hN : N ≤ w.heap.size) (hl : Cs w q (prs l)) (hn : l.length = n) (hB : n ≤ 1000000) (hI : InP l)
    (h : ∀ q' n' c' w', Gs b w w' → IsRd b M N (restL c ds (sortL o po l)) w' → OwnI w' w.heap.size q' n' c' (tagL c ds (sortL o po l)) → R (.returned (.slice q' n' c')) w') :
    Calls Tryz.prog 25 #[.int .u8 c, .int .u8 o, .int .u8 po, .pointer (some (blk b)), .slice q n cp] w R := by
  refine sh25_ok _ _ _ _ _ _ _ ?_
  unfold sh25
  refine do_call Tryz.call96 (c_r5sort hl hn (by omega) hI fun q1 n1 c1 w1 h1 e1 => retS_ret ⟨_, _, _, _, rfl, ?_⟩)
  rw [ho, hp] at h1
  have h1 : OwnP w1 w.heap.size q1 n1 c1 (sortL o po l) := h1
  have hm := sortL_may ho hp hI
  have hn1 := ownP_len h1
  have hbN := hd.lt.2
  refine do_call Tryz.call35 (c_r27items (hd.ext e1) (Nat.le_trans hN e1.size) (fun w' g => ownP_cs (row_gd (S := [b]) h1 (gd_gs g (by simp)) (by simp; omega))) hn1 (by omega) fun q2 n2 c2 w2 g2 hd2 h2 => retS_ret ⟨_, _, _, rfl, ?_⟩)
  exact h q2 n2 c2 w2 ((gs_of e1).trans g2) hd2 (row_mono h2 e1.size)
/-! ### what statements share -/
theorem c_drawn {none_ : Bool} {ds : List Int} {q : Option Addr} {n cp : Nat} {w : World} {R : Ending → World → Prop} (hl : Cs w q (u64s ds)) (hn : ds.length = n) (hm : n ≤ 17592186044416)
    (h : ∀ p D w', Ext w w' → IsD p D (cond none_ [] ds) w' → topD D ≤ w'.heap.size → (∀ k ∈ blksD D, w.heap.size ≤ k) → R (.returned (.pointer p)) w') : Calls Tryz.prog 21 #[.slice q n cp, .bool none_] w R := by
  refine sh21_ok _ _ _ _ ?_
  unfold sh21
  cases none_ with
  | true => exact ifB_t rfl (h none none w (ext_refl w) ⟨rfl, rfl⟩ (Nat.zero_le _) fun k hk => by cases hk)
  | false =>
    refine ifB_f rfl ?_
    refine do_app elU (World.ownsRow_nil w w.heap.size 75 1) (m := n) hl (by rw [u64s_length]; omega) u64s_one (by simp only [maxLen]; omega) (by omega) (Nat.le_refl _) fun p c' w1 h1 g1 => retS_ret ⟨_, _, _, rfl, ?_⟩
    simp only [Nat.zero_add, List.nil_append] at h1 ⊢
    have e1 : Ext w w1 := (ext_refl w).grown g1 (by intro k hk; cases hk)
    have l1 := e1.size
    refine do_call Tryz.call94 (c_dnew (Cs.of_row h1) hn hm fun bd bp br w2 e2 hd hb1 hb2 => retS_ret ⟨_, rfl, h (some (blk bd)) (some (bd, bp, br, w2.heap.size)) w2 (e1.trans e2) ⟨rfl, hd⟩ (Nat.le_refl _) fun k hk => ?_⟩)
    simp only [blksD, List.mem_cons, List.not_mem_nil, or_false] at hk
    rcases hk with rfl | rfl <;> omega
theorem c_left27 {none_ : Bool} {k : Nat} {q : Option Addr} {n cp : Nat} {w : World} {R : Ending → World → Prop} (hm : n ≤ 17592186044416) (hk : k ≤ 1000000000000) (h : R (.returned (.int .i64 (cond none_ 0 (n - k : Nat) : Nat))) w) :
    Calls Tryz.prog 34 #[.slice q n cp, .bool none_, .int .i64 (k : Nat)] w R := by
  refine sh34_ok _ _ _ _ _ ?_
  unfold sh34
  cases none_ with
  | true => exact ifB_t rfl h
  | false =>
    refine ifB_f rfl (do_maxk (retS_ret ⟨_, rfl, ?_⟩))
    have e : max (IntKind.wrap .i64 ((n : Int) - (k : Int))) 0 = ((n - k : Nat) : Int) := by rw [wrap_of (by omega) (by omega)]; omega
    rw [e]; exact h
theorem restL_len (c : Int) (ds : List Int) (l : List Pr) : (restL c ds l).length = if c = 4 then ds.length - l.length else ds.length := by
  unfold restL; split
  · rw [List.length_drop]
  · rfl
theorem isD_nil (w : World) : IsD none none [] w := ⟨rfl, rfl⟩
set_option maxRecDepth 20000 in
theorem c_nothing27 {o p : Int} {w : World} {R : Ending → World → Prop} (h : ∀ w', Ext w w' → R (.returned (.bool true)) w') : Calls Tryz.prog 19 #[.int .u8 o, .int .u8 p] w R := by
  refine sh19_ok _ _ ?_
  unfold sh19
  refine do_call Tryz.call15 (c_l22of (fun h0 => by cases h0) fun _ b w1 e1 hbw hs1 => retS_ret ⟨_, _, rfl, ?_⟩)
  have hb : w.heap.size ≤ b := by omega
  have i1 : In 1 := ⟨by decide, by decide⟩
  have i0 : In 0 := ⟨by decide, by decide⟩
  have iP : InP [((1 : Int), (0 : Int))] := fun x hx => by simp at hx; subst hx; exact ⟨i1, i0⟩
  have iK : ∀ k ∈ [(1 : Int)], In k := fun k hk => by simp at hk; subst hk; exact i1
  refine do_call Tryz.call32 (c_brow_no (l := []) (cs_nil _ _) rfl (by omega) (fun x hx => by cases hx) (.inl rfl) fun w2 e2 => retS_ret ⟨_, _, rfl, ⟨?_⟩⟩)
  have e3 := ext_alloc w2 (.cells #[.int .i64 1, .int .i64 0] 46)
  have c3 : Cs (w2.alloc (.cells #[.int .i64 1, .int .i64 0] 46)) (some (blk w2.heap.size)) (prs [((1 : Int), (0 : Int))]) := cs_alloc w2 _ _
  generalize w2.alloc (.cells #[.int .i64 1, .int .i64 0] 46) = w3 at *
  have E3 := (e1.trans e2).trans e3
  have hs3 := hs1.ext (e2.trans e3)
  have hS : ∀ k ∈ (b :: blksD none), w.heap.size ≤ k := fun k hk => by simp [blksD] at hk; omega
  -- the tails
  cases ho : isO o with
  | true =>
    cases hp : may p with
    | true =>
      refine do_call Tryz.call23 (c_bof ho hp hs3 (isD_nil w3) (Nat.zero_le _) c3 rfl (by omega) iP fun qt w4 g4 hs4 _ _ => retS_ret ⟨_, _, rfl, ⟨?_⟩⟩)
      have E4 := Ext.gd E3 g4 hS
      have e5 := ext_alloc w4 (.cells #[.int .i64 1] 2)
      have c5 : Cs (w4.alloc (.cells #[.int .i64 1] 2)) (some (blk w4.heap.size)) (ints [1]) := cs_alloc w4 _ _
      refine do_call Tryz.call24 (c_bkeys ho (hs4.ext e5) (isD_nil _) (Nat.zero_le _) c5 rfl (by omega) iK fun qk w6 g6 hs6 _ _ => retS_ret ⟨_, _, rfl, ?_⟩)
      have E6 := Ext.gd (E4.trans e5) g6 hS
      refine do_call Tryz.call16 (c_ris (retS_ret ⟨_, rfl, ?_⟩))
      rw [ho]
      intro K28
      refine ifB_t rfl (ifB_t rfl (do_call Tryz.call93 (c_bitems_none fun w7 e7 => retS_ret ⟨_, rfl, ifB_t rfl (ifB_t rfl (do_call Tryz.call17 (c_rmay (retS_ret ⟨_, rfl, ?_⟩))))⟩)))
      rw [hp]
      exact ifB_t rfl (ifB_t rfl (h _ (E6.trans e7)))
    | false =>
      refine do_call Tryz.call23 (c_bof_no c3 rfl (by omega) iP (.inr (by rw [ho, hp]; rfl)) fun w4 e4 => retS_ret ⟨_, _, rfl, ⟨?_⟩⟩)
      have E4 := E3.trans e4
      have e5 := ext_alloc w4 (.cells #[.int .i64 1] 2)
      have c5 : Cs (w4.alloc (.cells #[.int .i64 1] 2)) (some (blk w4.heap.size)) (ints [1]) := cs_alloc w4 _ _
      refine do_call Tryz.call24 (c_bkeys ho (hs3.ext (e4.trans e5)) (isD_nil _) (Nat.zero_le _) c5 rfl (by omega) iK fun qk w6 g6 hs6 _ _ => retS_ret ⟨_, _, rfl, ?_⟩)
      have E6 := Ext.gd (E4.trans e5) g6 hS
      refine do_call Tryz.call16 (c_ris (retS_ret ⟨_, rfl, ?_⟩))
      rw [ho]
      intro K28
      refine ifB_t rfl (ifB_t rfl (do_call Tryz.call93 (c_bitems_none fun w7 e7 => retS_ret ⟨_, rfl, ifB_t rfl (ifB_t rfl (do_call Tryz.call17 (c_rmay (retS_ret ⟨_, rfl, ?_⟩))))⟩)))
      rw [hp]
      exact ifB_f rfl (ifB_t rfl (ifB_t rfl (ifB_t rfl (h _ (E6.trans e7)))))
  | false =>
    refine do_call Tryz.call23 (c_bof_no c3 rfl (by omega) iP (.inr (by rw [ho]; rfl)) fun w4 e4 => retS_ret ⟨_, _, rfl, ⟨?_⟩⟩)
    have E4 := E3.trans e4
    have e5 := ext_alloc w4 (.cells #[.int .i64 1] 2)
    have c5 : Cs (w4.alloc (.cells #[.int .i64 1] 2)) (some (blk w4.heap.size)) (ints [1]) := cs_alloc w4 _ _
    refine do_call Tryz.call24 (c_bkeys_no c5 rfl (by omega) iK (.inr ho) fun w6 e6 => retS_ret ⟨_, _, rfl, ?_⟩)
    have E6 := (E4.trans e5).trans e6
    refine do_call Tryz.call16 (c_ris (retS_ret ⟨_, rfl, ?_⟩))
    rw [ho]
    intro K28
    refine ifB_t rfl (ifB_t rfl (do_call Tryz.call93 (c_bitems_none fun w7 e7 => retS_ret ⟨_, rfl, ifB_t rfl (ifB_f rfl (ifB_t rfl (ifB_t rfl (ifB_f rfl (ifB_t rfl (h _ (E6.trans e7)))))))⟩)))
set_option maxRecDepth 20000 in
theorem c_alive27 {w : World} {R : Ending → World → Prop} (h : ∀ w', Ext w w' → R (.returned (.bool true)) w') : Calls Tryz.prog 20 #[] w R := by
  refine sh20_ok ?_
  unfold sh20
  refine do_call Tryz.call15 (c_l22of (fun h0 => by cases h0) fun hsc b w1 e1 hbw hs1 => retS_ret ⟨_, _, rfl, ifB_f rfl ⟨?_⟩⟩)
  have hb : w.heap.size ≤ b := by omega
  have hS : ∀ k ∈ (b :: blksD none), w.heap.size ≤ k := fun k hk => by simp [blksD] at hk; omega
  have iP : InP [((2 : Int), (20 : Int)), (1, 10), (2, 5)] := fun x hx => by
    simp at hx
    rcases hx with rfl | rfl | rfl <;> exact ⟨⟨by decide, by decide⟩, ⟨by decide, by decide⟩⟩
  have iQ : InP [((2 : Int), (0 : Int)), (1, 0)] := fun x hx => by
    simp at hx
    rcases hx with rfl | rfl <;> exact ⟨⟨by decide, by decide⟩, ⟨by decide, by decide⟩⟩
  have e2 := ext_alloc w1 (.cells #[.int .i64 2, .int .i64 20, .int .i64 1, .int .i64 10, .int .i64 2, .int .i64 5] 46)
  have c2 : Cs (w1.alloc (.cells #[.int .i64 2, .int .i64 20, .int .i64 1, .int .i64 10, .int .i64 2, .int .i64 5] 46)) (some (blk w1.heap.size)) (prs [((2 : Int), (20 : Int)), (1, 10), (2, 5)]) := cs_alloc w1 _ _
  refine do_call Tryz.call23 (c_bof (by decide) (by decide) (hs1.ext e2) (isD_nil _) (Nat.zero_le _) c2 rfl (by omega) iP fun qt w3 g3 hs3 _ h3 => retS_ret ⟨_, _, rfl, ⟨?_⟩⟩)
  have E3 := Ext.gd (e1.trans e2) g3 hS
  have hsort : sortL 1 3 [((2 : Int), (20 : Int)), (1, 10), (2, 5)] = [(1, 10), (2, 25)] := by decide +kernel
  rw [hsort] at h3
  have hit := bldC_its (c := 3) (ds := []) (l := [((1 : Int), (10 : Int)), (2, 25)]) (by decide)
  have hsz := bldC_size (c := 3) (by decide) (tagL 3 [] [((1 : Int), (10 : Int)), (2, 25)])
  have hok := (bldC_ok (c := 3) (by decide) (tagL 3 [] [((1 : Int), (10 : Int)), (2, 25)])).1
  rw [tagL_len] at hsz
  have htl : tagL 3 [] [((1 : Int), (10 : Int)), (2, 25)] = [(1, 10, 0), (2, 25, 0)] := rfl
  have e4 := ext_alloc w3 (.cells #[.int .i64 2, .int .i64 0, .int .i64 1, .int .i64 0] 46)
  have c4 : Cs (w3.alloc (.cells #[.int .i64 2, .int .i64 0, .int .i64 1, .int .i64 0] 46)) (some (blk w3.heap.size)) (prs [((2 : Int), (0 : Int)), (1, 0)]) := cs_alloc w3 _ _
  refine do_call Tryz.call32 (c_brow_no c4 rfl (by omega) iQ (.inr (by decide +kernel)) fun w5 e5 => retS_ret ⟨_, _, rfl, ?_⟩)
  intro K19
  refine ifB_t rfl (ifB_t rfl ⟨?_⟩)
  have c6 := cs_alloc w5 #[.int .i64 1, .int .i64 10, .int .u64 0, .int .i64 2, .int .i64 25, .int .u64 0] 114
  have e6 := ext_alloc w5 (.cells #[.int .i64 1, .int .i64 10, .int .u64 0, .int .i64 2, .int .i64 25, .int .u64 0] 114)
  have e36 := (e4.trans e5).trans e6
  refine do_call Tryz.call27 (c_has (L := [(1, 10, 0), (2, 25, 0)]) hok (by rw [hit, htl]; decide) (by rw [hit, htl]; decide) (h3.ext e36) (by rw [hsz]; decide) c6 rfl fun w7 e7 => retS_ret ⟨_, rfl, h _ ((E3.trans e36).trans e7)⟩)
end Go.Proofs.YtlddfgfmkapoiaaGreat

namespace Go.Proofs.YtlddfgfmkapoiaaGreat
open Go Go.Sh
set_option maxRecDepth 100000 in
/-- joinery/joinerylaw27.BuildSorts -/
def sh3 (code_1 : Int) (o_2 : Int) (p_3 : Int) (l_p4 : Option Addr) (l_n5 : Nat) (l_c6 : Nat) (d_p7 : Option Addr) (d_n8 : Nat) (d_c9 : Nat) (keys_p10 : Option Addr) (keys_n11 : Nat) (keys_c12 : Nat) (R : Ending → World → Prop) (w : World) : Prop :=
 doCall Tryz.prog (.func (.func 15) #[] #[]) #[.int .u8 code_1] w (retS (fun v15 w16 => ∃ (x13 : Option Addr), ∃ (x14 : Bool), v15 = (.tuple #[.pointer x13, .bool x14] : Value) ∧ (
 let K19 : Bool → World → Prop := fun (x17 : Bool) (w18 : World) => 
 ifB x17 (
 let K22 : Bool → World → Prop := fun (x20 : Bool) (w21 : World) => 
 R (.returned (.bool x20)) w21
 doCall Tryz.prog (.func (.func 18) #[] #[]) #[.int .u8 code_1] w18 (retS (fun v24 w25 => ∃ (x23 : Bool), v24 = (.bool x23 : Value) ∧ (
 ifB (x14 == x23) (
 doCall Tryz.prog (.func (.func 19) #[] #[]) #[.int .u8 o_2, .int .u8 p_3] w25 (retS (fun v27 w28 => ∃ (x26 : Bool), v27 = (.bool x26 : Value) ∧ (
 ifB x26 (
 doCall Tryz.prog (.func (.func 20) #[] #[]) #[] w28 (retS (fun v30 w31 => ∃ (x29 : Bool), v30 = (.bool x29 : Value) ∧ (
 K22 x29 w31)) (fun ch w => Kfn R ch [] w))) (
 R (.returned (.bool false)) w28))) (fun ch w => Kfn R ch [] w))) (
 R (.returned (.bool false)) w25))) (fun ch w => Kfn R ch [] w))) (
 doCall Tryz.prog (.func (.func 21) #[] #[]) #[.slice d_p7 d_n8 d_c9, .bool false] w18 (retS (fun v33 w34 => ∃ (x32 : Option Addr), v33 = (.pointer x32 : Value) ∧ (
 doCall Tryz.prog (.func (.func 22) #[] #[]) #[.slice d_p7 d_n8 d_c9] w34 (retS (fun v36 w37 => ∃ (x35 : Option Addr), v36 = (.pointer x35 : Value) ∧ (
 doGo Tryz.prog (.builtin .append #[22, 22] 22 #[true, false]) #[.slice none 0 0, .slice l_p4 l_n5 l_c6] w37 (retS (fun v41 w42 => ∃ (xp38 : Option Addr), ∃ (xn39 : Nat), ∃ (xc40 : Nat), v41 = (.slice xp38 xn39 xc40 : Value) ∧ (
 doCall Tryz.prog (.func (.func 23) #[] #[]) #[.pointer x13, .int .u8 o_2, .int .u8 p_3, .pointer x32, .slice xp38 xn39 xc40] w42 (retS (fun v45 w46 => ∃ (x43 : Option Addr), ∃ (x44 : Int), v45 = (.tuple #[.pointer x43, .int .i64 x44] : Value) ∧ (
 doGo Tryz.prog (.builtin .append #[24, 24] 24 #[true, false]) #[.slice none 0 0, .slice keys_p10 keys_n11 keys_c12] w46 (retS (fun v50 w51 => ∃ (xp47 : Option Addr), ∃ (xn48 : Nat), ∃ (xc49 : Nat), v50 = (.slice xp47 xn48 xc49 : Value) ∧ (
 doCall Tryz.prog (.func (.func 24) #[] #[]) #[.pointer x13, .int .u8 o_2, .pointer x32, .slice xp47 xn48 xc49] w51 (retS (fun v54 w55 => ∃ (x52 : Option Addr), ∃ (x53 : Int), v54 = (.tuple #[.pointer x52, .int .i64 x53] : Value) ∧ (
 doCall Tryz.prog (.func (.func 25) #[] #[]) #[.int .u8 code_1, .int .u8 o_2, .int .u8 p_3, .pointer x35, .slice l_p4 l_n5 l_c6] w55 (retS (fun v59 w60 => ∃ (xp56 : Option Addr), ∃ (xn57 : Nat), ∃ (xc58 : Nat), v59 = (.slice xp56 xn57 xc58 : Value) ∧ (
 doCall Tryz.prog (.func (.func 26) #[] #[]) #[.slice keys_p10 keys_n11 keys_c12] w60 (retS (fun v64 w65 => ∃ (xp61 : Option Addr), ∃ (xn62 : Nat), ∃ (xc63 : Nat), v64 = (.slice xp61 xn62 xc63 : Value) ∧ (
 doCall Tryz.prog (.func (.func 25) #[] #[]) #[.int .u8 code_1, .int .u8 o_2, .int .u8 1, .pointer x35, .slice xp61 xn62 xc63] w65 (retS (fun v69 w70 => ∃ (xp66 : Option Addr), ∃ (xn67 : Nat), ∃ (xc68 : Nat), v69 = (.slice xp66 xn67 xc68 : Value) ∧ (
 let K73 : Bool → World → Prop := fun (x71 : Bool) (w72 : World) => 
 R (.returned (.bool x71)) w72
 ifB ((x44 : Int) == 0) (
 ifB ((x53 : Int) == 0) (
 doCall Tryz.prog (.func (.func 27) #[] #[]) #[.int .u8 code_1, .pointer x43, .slice xp56 xn57 xc58] w70 (retS (fun v75 w76 => ∃ (x74 : Bool), v75 = (.bool x74 : Value) ∧ (
 ifB x74 (
 doCall Tryz.prog (.func (.func 27) #[] #[]) #[.int .u8 code_1, .pointer x52, .slice xp66 xn67 xc68] w76 (retS (fun v78 w79 => ∃ (x77 : Bool), v78 = (.bool x77 : Value) ∧ (
 ifB x77 (
 doCall Tryz.prog (.func (.func 19) #[] #[]) #[.int .u8 o_2, .int .u8 p_3] w79 (retS (fun v81 w82 => ∃ (x80 : Bool), v81 = (.bool x80 : Value) ∧ (
 ifB x80 (
 doCall Tryz.prog (.func (.func 20) #[] #[]) #[] w82 (retS (fun v84 w85 => ∃ (x83 : Bool), v84 = (.bool x83 : Value) ∧ (
 K73 x83 w85)) (fun ch w => Kfn R ch [] w))) (
 R (.returned (.bool false)) w82))) (fun ch w => Kfn R ch [] w))) (
 R (.returned (.bool false)) w79))) (fun ch w => Kfn R ch [] w))) (
 R (.returned (.bool false)) w76))) (fun ch w => Kfn R ch [] w))) (
 R (.returned (.bool false)) w70)) (
 R (.returned (.bool false)) w70))) (fun ch w => Kfn R ch [] w)))) (fun ch w => Kfn R ch [] w)))) (fun ch w => Kfn R ch [] w)))) (fun ch w => Kfn R ch [] w)))) (fun ch w => Kfn R ch [] w)))) (fun ch w => Kfn R ch [] w)))) (fun ch w => Kfn R ch [] w)))) (fun ch w => Kfn R ch [] w)))) (fun ch w => Kfn R ch [] w)))
 ifB (decide ((((l_n5 : Nat) : Int) : Int) > 150)) (
 K19 true w16) (
 ifB (decide ((((keys_n11 : Nat) : Int) : Int) > 150)) (
 K19 true w16) (
 ifB (!x14) (
 K19 true w16) (
 doCall Tryz.prog (.func (.func 16) #[] #[]) #[.int .u8 o_2] w16 (retS (fun v87 w88 => ∃ (x86 : Bool), v87 = (.bool x86 : Value) ∧ (
 ifB (!x86) (
 K19 true w88) (
 doCall Tryz.prog (.func (.func 17) #[] #[]) #[.int .u8 p_3] w88 (retS (fun v90 w91 => ∃ (x89 : Bool), v90 = (.bool x89 : Value) ∧ (
 K19 (!x89) w91)) (fun ch w => Kfn R ch [] w))))) (fun ch w => Kfn R ch [] w))))))) (fun ch w => Kfn R ch [] w))
set_option maxRecDepth 100000 in
theorem sh3_ok (code_1 : Int) (o_2 : Int) (p_3 : Int) (l_p4 : Option Addr) (l_n5 : Nat) (l_c6 : Nat) (d_p7 : Option Addr) (d_n8 : Nat) (d_c9 : Nat) (keys_p10 : Option Addr) (keys_n11 : Nat) (keys_c12 : Nat) {R : Ending → World → Prop} {w : World} : sh3 code_1 o_2 p_3 l_p4 l_n5 l_c6 d_p7 d_n8 d_c9 keys_p10 keys_n11 keys_c12 R w → Calls Tryz.prog 3 #[.int .u8 code_1, .int .u8 o_2, .int .u8 p_3, .slice l_p4 l_n5 l_c6, .slice d_p7 d_n8 d_c9, .slice keys_p10 keys_n11 keys_c12] w R :=
  calls_of_eq (ann := fun _ => []) (fn := Tryz.f3) (c := bodyOf Tryz.f3) (args := #[.int .u8 code_1, .int .u8 o_2, .int .u8 p_3, .slice l_p4 l_n5 l_c6, .slice d_p7 d_n8 d_c9, .slice keys_p10 keys_n11 keys_c12]) 400 follows_mixed Tryz.func3 (by kernel_rfl) (by kernel_rfl)
end Go.Proofs.YtlddfgfmkapoiaaGreat

namespace Go.Proofs.YtlddfgfmkapoiaaGreat
open Go Go.Sh
set_option maxRecDepth 100000 in
/-- joinery/joinerylaw27.BuildRows -/
def sh5 (code_1 : Int) (o_2 : Int) (l_p3 : Option Addr) (l_n4 : Nat) (l_c5 : Nat) (d_p6 : Option Addr) (d_n7 : Nat) (d_c8 : Nat) (none_9 : Bool) (R : Ending → World → Prop) (w : World) : Prop :=
 doCall Tryz.prog (.func (.func 15) #[] #[]) #[.int .u8 code_1] w (retS (fun v12 w13 => ∃ (x10 : Option Addr), ∃ (x11 : Bool), v12 = (.tuple #[.pointer x10, .bool x11] : Value) ∧ (
 let K16 : Bool → World → Prop := fun (x14 : Bool) (w15 : World) => 
 ifB x14 (
 let K19 : Bool → World → Prop := fun (x17 : Bool) (w18 : World) => 
 R (.returned (.bool x17)) w18
 doCall Tryz.prog (.func (.func 18) #[] #[]) #[.int .u8 code_1] w15 (retS (fun v21 w22 => ∃ (x20 : Bool), v21 = (.bool x20 : Value) ∧ (
 ifB (x11 == x20) (
 doCall Tryz.prog (.func (.func 19) #[] #[]) #[.int .u8 o_2, .int .u8 0] w22 (retS (fun v24 w25 => ∃ (x23 : Bool), v24 = (.bool x23 : Value) ∧ (
 ifB x23 (
 doCall Tryz.prog (.func (.func 20) #[] #[]) #[] w25 (retS (fun v27 w28 => ∃ (x26 : Bool), v27 = (.bool x26 : Value) ∧ (
 K19 x26 w28)) (fun ch w => Kfn R ch [] w))) (
 R (.returned (.bool false)) w25))) (fun ch w => Kfn R ch [] w))) (
 R (.returned (.bool false)) w22))) (fun ch w => Kfn R ch [] w))) (
 doCall Tryz.prog (.func (.func 21) #[] #[]) #[.slice d_p6 d_n7 d_c8, .bool none_9] w15 (retS (fun v30 w31 => ∃ (x29 : Option Addr), v30 = (.pointer x29 : Value) ∧ (
 doGo Tryz.prog (.builtin .append #[22, 22] 22 #[true, false]) #[.slice none 0 0, .slice l_p3 l_n4 l_c5] w31 (retS (fun v35 w36 => ∃ (xp32 : Option Addr), ∃ (xn33 : Nat), ∃ (xc34 : Nat), v35 = (.slice xp32 xn33 xc34 : Value) ∧ (
 doCall Tryz.prog (.func (.func 32) #[] #[]) #[.pointer x10, .int .u8 o_2, .pointer x29, .slice xp32 xn33 xc34] w36 (retS (fun v39 w40 => ∃ (x37 : Option Addr), ∃ (x38 : Int), v39 = (.tuple #[.pointer x37, .int .i64 x38] : Value) ∧ (
 doCall Tryz.prog (.func (.func 30) #[] #[]) #[.int .u8 o_2, .slice l_p3 l_n4 l_c5] w40 (retS (fun v42 w43 => ∃ (x41 : Bool), v42 = (.bool x41 : Value) ∧ (
 ifB (!x41) (
 let K46 : Bool → World → Prop := fun (x44 : Bool) (w45 : World) => 
 R (.returned (.bool x44)) w45
 ifB ((x37).isNone) (
 ifB ((x38 : Int) == 2) (
 doCall Tryz.prog (.func (.func 33) #[] #[]) #[.pointer x29] w43 (retS (fun v48 w49 => ∃ (x47 : Int), v48 = (.int .i64 x47 : Value) ∧ (
 doCall Tryz.prog (.func (.func 34) #[] #[]) #[.slice d_p6 d_n7 d_c8, .bool none_9, .int .i64 0] w49 (retS (fun v51 w52 => ∃ (x50 : Int), v51 = (.int .i64 x50 : Value) ∧ (
 ifB ((x47 : Int) == x50) (
 doCall Tryz.prog (.func (.func 20) #[] #[]) #[] w52 (retS (fun v54 w55 => ∃ (x53 : Bool), v54 = (.bool x53 : Value) ∧ (
 K46 x53 w55)) (fun ch w => Kfn R ch [] w))) (
 R (.returned (.bool false)) w52))) (fun ch w => Kfn R ch [] w)))) (fun ch w => Kfn R ch [] w))) (
 R (.returned (.bool false)) w43)) (
 R (.returned (.bool false)) w43)) (
 let K58 : Int → World → Prop := fun (n_56 : Int) (w57 : World) => 
 doCall Tryz.prog (.func (.func 22) #[] #[]) #[.slice d_p6 d_n7 d_c8] w57 (retS (fun v60 w61 => ∃ (x59 : Option Addr), v60 = (.pointer x59 : Value) ∧ (
 let K64 : (Option Addr) → World → Prop := fun (y_62 : Option Addr) (w63 : World) => 
 let K67 : Bool → World → Prop := fun (x65 : Bool) (w66 : World) => 
 R (.returned (.bool x65)) w66
 ifB ((x38 : Int) == 0) (
 doCall Tryz.prog (.func (.func 35) #[] #[]) #[.int .u8 code_1, .pointer y_62, .slice l_p3 l_n4 l_c5] w63 (retS (fun v71 w72 => ∃ (xp68 : Option Addr), ∃ (xn69 : Nat), ∃ (xc70 : Nat), v71 = (.slice xp68 xn69 xc70 : Value) ∧ (
 doCall Tryz.prog (.func (.func 27) #[] #[]) #[.int .u8 code_1, .pointer x37, .slice xp68 xn69 xc70] w72 (retS (fun v74 w75 => ∃ (x73 : Bool), v74 = (.bool x73 : Value) ∧ (
 ifB x73 (
 doCall Tryz.prog (.func (.func 33) #[] #[]) #[.pointer x29] w75 (retS (fun v77 w78 => ∃ (x76 : Int), v77 = (.int .i64 x76 : Value) ∧ (
 doCall Tryz.prog (.func (.func 34) #[] #[]) #[.slice d_p6 d_n7 d_c8, .bool none_9, .int .i64 n_56] w78 (retS (fun v80 w81 => ∃ (x79 : Int), v80 = (.int .i64 x79 : Value) ∧ (
 ifB ((x76 : Int) == x79) (
 doCall Tryz.prog (.func (.func 20) #[] #[]) #[] w81 (retS (fun v83 w84 => ∃ (x82 : Bool), v83 = (.bool x82 : Value) ∧ (
 K67 x82 w84)) (fun ch w => Kfn R ch [] w))) (
 R (.returned (.bool false)) w81))) (fun ch w => Kfn R ch [] w)))) (fun ch w => Kfn R ch [] w))) (
 R (.returned (.bool false)) w75))) (fun ch w => Kfn R ch [] w)))) (fun ch w => Kfn R ch [] w))) (
 R (.returned (.bool false)) w63)
 ifB none_9 (
 doCall Tryz.prog (.func (.func 22) #[] #[]) #[.slice none 0 0] w61 (retS (fun v86 w87 => ∃ (x85 : Option Addr), v86 = (.pointer x85 : Value) ∧ (
 K64 x85 w87)) (fun ch w => Kfn R ch [] w))) (
 K64 x59 w61))) (fun ch w => Kfn R ch [] w))
 ifB ((code_1 : Int) == 4) (
 K58 ((l_n4 : Nat) : Int) w43) (
 K58 0 w43)))) (fun ch w => Kfn R ch [] w)))) (fun ch w => Kfn R ch [] w)))) (fun ch w => Kfn R ch [] w)))) (fun ch w => Kfn R ch [] w)))
 ifB (decide ((((l_n4 : Nat) : Int) : Int) > 200)) (
 K16 true w13) (
 K16 (!x11) w13))) (fun ch w => Kfn R ch [] w))
set_option maxRecDepth 100000 in
theorem sh5_ok (code_1 : Int) (o_2 : Int) (l_p3 : Option Addr) (l_n4 : Nat) (l_c5 : Nat) (d_p6 : Option Addr) (d_n7 : Nat) (d_c8 : Nat) (none_9 : Bool) {R : Ending → World → Prop} {w : World} : sh5 code_1 o_2 l_p3 l_n4 l_c5 d_p6 d_n7 d_c8 none_9 R w → Calls Tryz.prog 5 #[.int .u8 code_1, .int .u8 o_2, .slice l_p3 l_n4 l_c5, .slice d_p6 d_n7 d_c8, .bool none_9] w R :=
  calls_of_eq (ann := fun _ => []) (fn := Tryz.f5) (c := bodyOf Tryz.f5) (args := #[.int .u8 code_1, .int .u8 o_2, .slice l_p3 l_n4 l_c5, .slice d_p6 d_n7 d_c8, .bool none_9]) 400 follows_mixed Tryz.func5 (by kernel_rfl) (by kernel_rfl)
end Go.Proofs.YtlddfgfmkapoiaaGreat

namespace Go.Proofs.YtlddfgfmkapoiaaGreat
open Go Go.Sh Go.RowKit

theorem do_copyP {l : List Pr} {q : Option Addr} {n c : Nat} {w : World} {bs : Array Bool} {Kf : Value → World → Prop} {F : List PanicEntry → World → Prop} (hl : Cs w q (prs l)) (hn : l.length = n) (hm : n ≤ 1000000000000)
    (h : ∀ p c' w', OwnP w' w.heap.size p n c' l → Ext w w' → Kf (.slice p n c') w') : doGo Tryz.prog (.builtin .append #[22, 22] 22 bs) #[.slice none 0 0, .slice q n c] w (retS Kf F) := by
  refine do_app elP (ownP_nil w w.heap.size) (m := n) hl (by rw [prs_length]; omega) prs_one (by simp only [maxLen]; omega) (by omega) (Nat.le_refl _) fun p c' w1 h1 g1 => retS_ret ?_
  simp only [Nat.zero_add] at h1 ⊢
  exact h p c' w1 (by simpa using h1) ((ext_refl w).grown g1 (by intro k hk; cases hk))
theorem do_copyInt {l : List Int} {q : Option Addr} {n c : Nat} {w : World} {bs : Array Bool} {Kf : Value → World → Prop} {F : List PanicEntry → World → Prop} (hl : Cs w q (ints l)) (hn : l.length = n) (hm : n ≤ 1000000000000)
    (h : ∀ p c' w', Cs w' p (ints l) → Ext w w' → Kf (.slice p n c') w') : doGo Tryz.prog (.builtin .append #[24, 24] 24 bs) #[.slice none 0 0, .slice q n c] w (retS Kf F) := by
  refine do_app elI (World.ownsRow_nil w w.heap.size 2 1) (m := n) hl (by simp [ints, hn]) (fun u hu => by obtain ⟨x, _, rfl⟩ := List.mem_map.1 hu; rfl) (by simp only [maxLen]; omega) (by omega) (Nat.le_refl _) fun p c' w1 h1 g1 => retS_ret ?_
  simp only [Nat.zero_add, List.nil_append] at h1 ⊢
  exact h p c' w1 (Cs.of_row h1) ((ext_refl w).grown g1 (by intro k hk; cases hk))
set_option maxRecDepth 20000 in
set_option maxHeartbeats 1600000 in
theorem c_buildRows {code o : Int} {l : List Pr} {ds : List Int} {q q' : Option Addr} {n c n' c' : Nat} {nn : Bool} {w : World} {R : Ending → World → Prop} (hl : Cs w q (prs l)) (hn : l.length = n) (hI : InP l) (hd : Cs w q' (u64s ds)) (hn' : ds.length = n') (hm' : n' ≤ 17592186044416) (hU : InU ds)
    (h : ∀ w', Ext w w' → R (.returned (.bool true)) w') : Calls Tryz.prog 5 #[.int .u8 code, .int .u8 o, .slice q n c, .slice q' n' c', .bool nn] w R := by
  refine sh5_ok _ _ _ _ _ _ _ _ _ ?_
  unfold sh5
  have hidle : ∀ w2, Ext w w2 → doCall Tryz.prog (.func (.func 18) #[] #[]) #[.int .u8 code] w2 (retS (fun v21 w22 => ∃ (x20 : Bool), v21 = (.bool x20 : Value) ∧ (
 ifB (isS code == x20) (
 doCall Tryz.prog (.func (.func 19) #[] #[]) #[.int .u8 o, .int .u8 0] w22 (retS (fun v24 w25 => ∃ (x23 : Bool), v24 = (.bool x23 : Value) ∧ (
 ifB x23 (
 doCall Tryz.prog (.func (.func 20) #[] #[]) #[] w25 (retS (fun v27 w28 => ∃ (x26 : Bool), v27 = (.bool x26 : Value) ∧ (
 R (.returned (.bool x26)) w28)) (fun ch w => Kfn R ch [] w))) (
 R (.returned (.bool false)) w25))) (fun ch w => Kfn R ch [] w))) (
 R (.returned (.bool false)) w22))) (fun ch w => Kfn R ch [] w)) := fun w2 e2 =>
    do_call Tryz.call18 (c_r22is (retS_ret ⟨_, rfl, ifB_t (by simp) (do_call Tryz.call19 (c_nothing27 fun w3 e3 => retS_ret ⟨_, rfl, ifB_t rfl (do_call Tryz.call20 (c_alive27 fun w4 e4 => retS_ret ⟨_, rfl, h w4 ((e2.trans e3).trans e4)⟩))⟩))⟩))
  refine do_call Tryz.call15 (c_l22of (fun h0 => retS_ret ⟨_, _, rfl, ?_⟩) fun hs b w1 e1 hbw hs1 => retS_ret ⟨_, _, rfl, ?_⟩)
  · intro K16
    rw [h0] at hidle
    refine ifB_intro (fun _ => ifB_t rfl (hidle w (ext_refl w))) fun _ => ifB_t rfl (hidle w (ext_refl w))
  · intro K16
    rw [hs] at hidle
    have hb : w.heap.size ≤ b := by omega
    refine ifB_intro (fun _ => ifB_t rfl (hidle w1 e1)) fun hle => ?_
    have hle : n ≤ 200 := by have := of_decide_eq_false hle; omega
    simp -zeta -zetaHave only [K16]
    refine ifB_f rfl ?_
    have hlt1 := hs1.lt
    refine do_call Tryz.call21 (c_drawn (hd.ext e1) hn' hm' fun p D w2 e2 hD hN hDf => retS_ret ⟨_, rfl, ?_⟩)
    have E2 := e1.trans e2
    have hs2 := hs1.ext e2
    refine do_copyP (hl.ext E2) hn (by omega) fun q3 c3 w3 o3 e3 => ⟨_, _, _, rfl, ?_⟩
    have E3 := E2.trans e3
    have hs3 := hs2.ext e3
    have hD3 := hD.ext e3
    have l3 := e3.size
    have hSw : ∀ k ∈ b :: blksD D, w.heap.size ≤ k := fun k hk => by
      rcases List.mem_cons.1 hk with rfl | hk
      · exact hb
      · exact Nat.le_trans e1.size (hDf k hk)
    have hSlt : ∀ k ∈ b :: blksD D, k < w2.heap.size := fun k hk => by
      rcases List.mem_cons.1 hk with rfl | hk
      · exact hs2.lt
      · exact (hD.lt k hk).1
    have hUd : InU (cond nn [] ds) := by cases nn
                                         · exact hU
                                         · intro x hx; cases hx
    cases hm : mayR o l with
    | false =>
      refine do_call Tryz.call32 (c_brow_no (ownP_cs o3) hn (by omega) hI (.inr hm) fun w4 e4 => retS_ret ⟨_, _, rfl, ?_⟩)
      have E4 := E3.trans e4
      refine do_call Tryz.call30 (c_r4may (hl.ext E4) hn (by omega) hI fun w5 e5 => retS_ret ⟨_, rfl, ?_⟩)
      rw [hm]
      refine ifB_t rfl ?_
      intro K46
      refine ifB_t rfl (ifB_t rfl ?_)
      have hD5 := hD3.ext (e4.trans e5)
      refine do_call Tryz.call33 (c_dleft hD5 (retS_ret ⟨_, rfl, ?_⟩))
      refine do_call Tryz.call34 (c_left27 (k := 0) hm' (by omega) (retS_ret ⟨_, rfl, ifB_t ?_ ?_⟩))
      · cases nn
        · simp [hn']
        · simp
      · exact do_call Tryz.call20 (c_alive27 fun w6 e6 => retS_ret ⟨_, rfl, h _ ((E4.trans e5).trans e6)⟩)
    | true =>
      refine do_call Tryz.call32 (c_brow hs3 hD3 (Nat.le_trans hN l3) (fun w' g => ownP_cs (row_gd o3 g hSlt)) hn (by omega) hI hm fun qt w4 g4 hs4 hD4 h4 => retS_ret ⟨_, _, rfl, ?_⟩)
      have E4 := Ext.gd E3 g4 hSw
      refine do_call Tryz.call30 (c_r4may (hl.ext E4) hn (by omega) hI fun w5 e5 => retS_ret ⟨_, rfl, ?_⟩)
      rw [hm]
      refine ifB_f rfl ?_
      have E5 := E4.trans e5
      have hD5 := hD4.ext e5
      have h5 := h4.ext e5
      intro K58
      have hok := bldC_ok hs (tagL code (cond nn [] ds) l)
      have hsz := bldC_size hs (tagL code (cond nn [] ds) l)
      have hit := bldC_its (ds := cond nn [] ds) (l := l) hs
      rw [tagL_len] at hsz
      -- behind the counting
      have hK : ∀ k : Nat, (k = if code = 4 then n else 0) → K58 (k : Nat) w5 := by
        intro k hk
        have hkn : k ≤ 200 := by split at hk <;> omega
        simp -zeta -zetaHave only [K58]
        refine do_call Tryz.call22 (c_r8new (hd.ext E5) hn' hm' fun by_ w6 e6 hR6 => retS_ret ⟨_, rfl, ?_⟩)
        intro K64
        have E6 := E5.trans e6
        have h6 := h5.ext e6
        have hD6 := hD5.ext e6
        have hK64 : ∀ (b7 M7 N7 : Nat) (w7 : World), Ext w6 w7 → IsRd b7 M7 N7 (cond nn [] ds) w7 → N7 ≤ w7.heap.size → w5.heap.size ≤ M7 → K64 (some (blk b7)) w7 := by
          intro b7 M7 N7 w7 e7 hR7 hN7 hM7
          simp -zeta -zetaHave only [K64]
          intro K67
          have l56 := e6.size
          have hb7 : w5.heap.size ≤ b7 := Nat.le_trans hM7 hR7.lt.1
          have E7 := E6.trans e7
          have e57 := e6.trans e7
          refine ifB_t rfl ?_
          have l57 := E5.size
          refine do_call Tryz.call35 (c_r27items hR7 hN7 (fun w' g => hl.ext (Ext.gd (S := [b7]) E7 (gd_gs g (by simp)) (by simp; omega))) hn (by omega) fun q8 n8 c8 w8 g8 hR8 o8 => retS_ret ⟨_, _, _, rfl, ?_⟩)
          have e58 : Ext w5 w8 := Ext.gd (S := [b7]) e57 (gd_gs g8 (by simp)) (by simp; omega)
          have E8 := E5.trans e58
          refine do_call Tryz.call27 (c_has (L := tagL code (cond nn [] ds) l) hok.1 (by rw [hit]; exact tagL_tag hUd) (by rw [hit]; exact tagL_fix) (h5.ext e58) (by omega) (ownI_cs o8) (ownI_len o8) fun w9 e9 => retS_ret ⟨_, rfl, ifB_t rfl ?_⟩)
          have e59 := e58.trans e9
          refine do_call Tryz.call33 (c_dleft (hD5.ext e59) (retS_ret ⟨_, rfl, ?_⟩))
          refine do_call Tryz.call34 (c_left27 (k := k) hm' (by omega) (retS_ret ⟨_, rfl, ifB_t ?_ ?_⟩))
          · rw [restL_len]
            cases nn
            · simp only [cond_false, hk, hn, hn']
              by_cases h4 : code = 4
              · rw [if_pos h4, if_pos h4]; simp
              · rw [if_neg h4, if_neg h4]; simp
            · simp
          · exact do_call Tryz.call20 (c_alive27 fun w6 e6 => retS_ret ⟨_, rfl, h _ ((E5.trans e59).trans e6)⟩)
        cases nn with
        | true =>
          refine ifB_t rfl (do_call Tryz.call22 (c_r8new (ds := []) (cs_nil _ _) rfl (by omega) fun b7 w7 e7 hR7 => retS_ret ⟨_, rfl, ?_⟩))
          exact hK64 b7 _ _ w7 e7 hR7 (Nat.le_refl _) e6.size
        | false =>
          refine ifB_f rfl ?_
          exact hK64 by_ _ _ w6 (ext_refl _) hR6 (Nat.le_refl _) (Nat.le_refl _)
      refine ifB_intro (fun h4 => hK n ?_) fun h4 => hK 0 ?_
      · rw [if_pos (by simpa using h4)]
      · rw [if_neg (by simpa using h4)]
set_option maxRecDepth 20000 in
set_option maxHeartbeats 1600000 in
theorem c_buildSorts {code o p : Int} {l : List Pr} {ds keys : List Int} {q q' q'' : Option Addr} {n c n' c' n'' c'' : Nat} {w : World} {R : Ending → World → Prop} (hl : Cs w q (prs l)) (hn : l.length = n) (hI : InP l) (hd : Cs w q' (u64s ds)) (hn' : ds.length = n') (hm' : n' ≤ 17592186044416) (hU : InU ds) (hk : Cs w q'' (ints keys)) (hn'' : keys.length = n'') (hkI : ∀ k ∈ keys, In k)
    (h : ∀ w', Ext w w' → R (.returned (.bool true)) w') : Calls Tryz.prog 3 #[.int .u8 code, .int .u8 o, .int .u8 p, .slice q n c, .slice q' n' c', .slice q'' n'' c''] w R := by
  refine sh3_ok _ _ _ _ _ _ _ _ _ _ _ _ ?_
  unfold sh3
  have hidle : ∀ w2, Ext w w2 → doCall Tryz.prog (.func (.func 18) #[] #[]) #[.int .u8 code] w2 (retS (fun v21 w22 => ∃ (x20 : Bool), v21 = (.bool x20 : Value) ∧ (
 ifB (isS code == x20) (
 doCall Tryz.prog (.func (.func 19) #[] #[]) #[.int .u8 o, .int .u8 p] w22 (retS (fun v24 w25 => ∃ (x23 : Bool), v24 = (.bool x23 : Value) ∧ (
 ifB x23 (
 doCall Tryz.prog (.func (.func 20) #[] #[]) #[] w25 (retS (fun v27 w28 => ∃ (x26 : Bool), v27 = (.bool x26 : Value) ∧ (
 R (.returned (.bool x26)) w28)) (fun ch w => Kfn R ch [] w))) (
 R (.returned (.bool false)) w25))) (fun ch w => Kfn R ch [] w))) (
 R (.returned (.bool false)) w22))) (fun ch w => Kfn R ch [] w)) := fun w2 e2 =>
    do_call Tryz.call18 (c_r22is (retS_ret ⟨_, rfl, ifB_t (by simp) (do_call Tryz.call19 (c_nothing27 fun w3 e3 => retS_ret ⟨_, rfl, ifB_t rfl (do_call Tryz.call20 (c_alive27 fun w4 e4 => retS_ret ⟨_, rfl, h w4 ((e2.trans e3).trans e4)⟩))⟩))⟩))
  refine do_call Tryz.call15 (c_l22of (fun h0 => retS_ret ⟨_, _, rfl, ?_⟩) fun hs b w1 e1 hbw hs1 => retS_ret ⟨_, _, rfl, ?_⟩)
  · intro K16
    rw [h0] at hidle
    refine ifB_intro (fun _ => ifB_t rfl (hidle w (ext_refl w))) fun _ => ifB_intro (fun _ => ifB_t rfl (hidle w (ext_refl w))) fun _ => ifB_t rfl (ifB_t rfl (hidle w (ext_refl w)))
  · intro K16
    rw [hs] at hidle
    have hb : w.heap.size ≤ b := by omega
    refine ifB_intro (fun _ => ifB_t rfl (hidle w1 e1)) fun hle => ?_
    have hle : n ≤ 150 := by have := of_decide_eq_false hle; omega
    refine ifB_intro (fun _ => ifB_t rfl (hidle w1 e1)) fun hle' => ?_
    have hle' : n'' ≤ 150 := by have := of_decide_eq_false hle'; omega
    refine ifB_f rfl (do_call Tryz.call16 (c_ris (retS_ret ⟨_, rfl, ?_⟩)))
    cases ho : isO o with
    | false => exact ifB_t rfl (ifB_t rfl (hidle w1 e1))
    | true =>
    refine ifB_f rfl (do_call Tryz.call17 (c_rmay (retS_ret ⟨_, rfl, ?_⟩)))
    cases hp : may p with
    | false => exact ifB_t rfl (hidle w1 e1)
    | true =>
    simp -zeta -zetaHave only [K16]
    refine ifB_f rfl ?_
    have hlt1 := hs1.lt
    refine do_call Tryz.call21 (c_drawn (hd.ext e1) hn' hm' fun px D w2 e2 hD hN hDf => retS_ret ⟨_, rfl, ?_⟩)
    have hD : IsD px D ds w2 := hD
    have E2 := e1.trans e2
    have hs2 := hs1.ext e2
    refine do_call Tryz.call22 (c_r8new (hd.ext E2) hn' hm' fun by_ w3 e3 hR3 => retS_ret ⟨_, rfl, ?_⟩)
    have E3 := E2.trans e3
    have l2 := e1.size
    have l3 := e3.size
    have hSw : ∀ k ∈ b :: blksD D, w.heap.size ≤ k := fun k hk => by
      rcases List.mem_cons.1 hk with rfl | hk
      · exact hb
      · exact Nat.le_trans l2 (hDf k hk)
    have hSlt : ∀ k ∈ b :: blksD D, k < w2.heap.size := fun k hk => by
      rcases List.mem_cons.1 hk with rfl | hk
      · exact hs2.lt
      · exact (hD.lt k hk).1
    refine do_copyP (hl.ext E3) hn (by omega) fun q4 c4 w4 o4 e4 => ⟨_, _, _, rfl, ?_⟩
    have E4 := E3.trans e4
    have e24 := e3.trans e4
    have l4 := e24.size
    refine do_call Tryz.call23 (c_bof ho hp (hs2.ext e24) (hD.ext e24) (by omega) (ownP_cs o4) hn (by omega) hI fun qt w5 g5 hs5 hD5 h5 => retS_ret ⟨_, _, rfl, ?_⟩)
    have E5 := Ext.gd E4 g5 hSw
    have l5 := g5.size
    refine do_copyInt (hk.ext E5) hn'' (by omega) fun q6 c6 w6 o6 e6 => ⟨_, _, _, rfl, ?_⟩
    have E6 := E5.trans e6
    have hs6 := hs5.ext e6
    have l6 := e6.size
    have hD6 := hD5.ext e6
    refine do_call Tryz.call24 (c_bkeys ho hs6 hD6 (by omega) o6 hn'' (by omega) hkI fun qk w7 g7 hs7 hD7 h7 => retS_ret ⟨_, _, rfl, ?_⟩)
    have E7 := Ext.gd E6 g7 hSw
    have l7 := g7.size
    have h57 := (h5.ext e6).gd (fun k hk => by
      rcases List.mem_cons.1 hk with rfl | hk
      · exact hs6.oth
      · exact hD6.oth k hk) g7
    -- the document's draws stay
    have hRS : ∀ k ∈ b :: blksD D, w3.heap.size ≤ k ∨ k < w2.heap.size := fun k hk => .inr (hSlt k hk)
    have hR7 : IsRd by_ w2.heap.size w3.heap.size ds w7 := ((((hR3.ext e4).gd g5 hRS).ext e6).gd g7 hRS)
    have l37 : w3.heap.size ≤ w7.heap.size := Nat.le_trans e4.size (Nat.le_trans l5 (Nat.le_trans l6 l7))
    have hyw : w.heap.size ≤ w2.heap.size := E2.size
    have hbl := hR7.lt
    have hmA := sortL_may ho hp hI
    have hmB := sortL_may (p := 1) ho (by decide) (zeroP_in hkI)
    rw [zeroP_len] at hmB
    refine do_call Tryz.call25 (c_r27of ho hp hR7 l37 (hl.ext E7) hn (by omega) hI fun q8 n8 c8 w8 g8 hR8 o8 => retS_ret ⟨_, _, _, rfl, ?_⟩)
    have hY : ∀ k ∈ [by_], w.heap.size ≤ k := fun k hk => by simp at hk; omega
    have hY2 : ∀ k ∈ [by_], w2.heap.size ≤ k := fun k hk => by simp at hk; omega
    have E8 := Ext.gd E7 (gd_gs (S := [by_]) g8 (by simp)) hY
    have l8 := g8.size
    refine do_call Tryz.call26 (c_r27zero (hk.ext E8) hn'' (by omega) fun q9 n9 c9 w9 o9 e9 => retS_ret ⟨_, _, _, rfl, ?_⟩)
    have l9 := e9.size
    have hn9 := ownP_len o9
    rw [zeroP_len] at hn9
    refine do_call Tryz.call25 (c_r27of (po := 1) ho (by decide) (hR8.ext e9) (by omega) (ownP_cs o9) (by rw [zeroP_len]; omega) (by omega) (zeroP_in hkI) fun q10 n10 c10 w10 g10 hR10 o10 => retS_ret ⟨_, _, _, rfl, ?_⟩)
    have E10 := Ext.gd (E8.trans e9) (gd_gs (S := [by_]) g10 (by simp)) hY
    have n8w : by_ < w7.heap.size := by omega
    have r8 : OwnI w10 w7.heap.size q8 n8 c8 (tagL code ds (sortL o p l)) := row_gd (S := [by_]) (e9.row o8) (gd_gs g10 (by simp)) (by simp; omega)
    -- the trees stay
    have hRo : ∀ {w' : World} {dd : List Int}, IsRd by_ w2.heap.size w3.heap.size dd w' → Oth [by_] w' := fun hr k hk => by
      simp at hk; subst hk
      obtain ⟨⟨qd, nd, cd, r1, r2, r3, r4, r5⟩, r6⟩ := hr
      exact oth_blk r5 (by decide)
    have hT : ∀ {qx : Option Addr} {t : Tr}, IsN w7 qx t → IsN w10 qx t := fun ht => ((ht.gd (hRo hR7) (gd_gs (S := [by_]) g8 (by simp))).ext e9).gd (hRo (hR8.ext e9)) (gd_gs (S := [by_]) g10 (by simp))
    have hA := hT h57
    have hB := hT h7
    intro K73
    refine ifB_t rfl (ifB_t rfl ?_)
    have okA := (bldC_ok hs (tagL code ds (sortL o p l))).1
    have szA := bldC_size hs (tagL code ds (sortL o p l))
    have itA := bldC_its (ds := ds) (l := sortL o p l) hs
    have hU2 : InU (restL code ds (sortL o p l)) := by unfold restL; split
                                                       · exact hU.drop _
                                                       · exact hU
    have okB := (bldC_ok hs (tagL code (restL code ds (sortL o p l)) (sortL o 1 (zeroP keys)))).1
    have szB := bldC_size hs (tagL code (restL code ds (sortL o p l)) (sortL o 1 (zeroP keys)))
    have itB := bldC_its (ds := restL code ds (sortL o p l)) (l := sortL o 1 (zeroP keys)) hs
    rw [tagL_len] at szA szB
    refine do_call Tryz.call27 (c_has (L := tagL code ds (sortL o p l)) okA (by rw [itA]; exact tagL_tag hU) (by rw [itA]; exact tagL_fix) hA (by omega) (ownI_cs r8) (ownI_len r8) fun w11 e11 => retS_ret ⟨_, rfl, ifB_t rfl ?_⟩)
    refine do_call Tryz.call27 (c_has (L := tagL code (restL code ds (sortL o p l)) (sortL o 1 (zeroP keys))) okB (by rw [itB]; exact tagL_tag hU2) (by rw [itB]; exact tagL_fix) (hB.ext e11) (by omega) (ownI_cs (rowI_to o10 e11 (Nat.le_refl _))) (ownI_len o10) fun w12 e12 => retS_ret ⟨_, rfl, ifB_t rfl ?_⟩)
    refine do_call Tryz.call19 (c_nothing27 fun w13 e13 => retS_ret ⟨_, rfl, ifB_t rfl (do_call Tryz.call20 (c_alive27 fun w14 e14 => retS_ret ⟨_, rfl, h w14 ((((E10.trans e11).trans e12).trans e13).trans e14)⟩))⟩)
end Go.Proofs.YtlddfgfmkapoiaaGreat

namespace Go.Sh
open Go Go.RowKit Go.ChangeShapes Go.WideShapes Go.Deep

theorem cs_flat {α : Type} {enc : α → List Value} {s : Nat} (hs : ∀ x, (enc x).length = s) {w : World} {a : Addr} {l : List α}
    (h : ∀ i (hi : i < l.length), ∀ j, j < s → w.cell? (a.add (i * s + j)) = (enc l[i])[j]?) : Cs w (some a) (l.flatMap enc) := by
  induction l generalizing a with
  | nil => intro i v hv; simp at hv
  | cons x xs ih =>
    intro i v hv
    refine ⟨a, rfl, ?_⟩
    rw [List.flatMap_cons] at hv
    rcases Nat.lt_or_ge i s with hi | hi
    · rw [List.getElem?_append_left (by rw [hs]; exact hi)] at hv
      have := h 0 (by simp) i hi
      simp only [Nat.zero_mul, Nat.zero_add, List.getElem_cons_zero] at this
      rw [this]; exact hv
    · rw [List.getElem?_append_right (by rw [hs]; exact hi), hs] at hv
      have := ih (a := a.add s) (fun i hi j hj => by
        have := h (i + 1) (by simpa using hi) j hj
        simp only [List.getElem_cons_succ] at this
        rw [Sh.add_add, show s + (i * s + j) = (i + 1) * s + j by rw [Nat.add_mul]; omega]
        exact this) (i - s) v hv
      obtain ⟨b, hb, hc⟩ := this
      cases hb
      rw [Sh.add_add, show s + (i - s) = i by omega] at hc
      exact hc
theorem list_of {α : Type} {p : Nat → α → Prop} (n : Nat) (h : ∀ i, i < n → ∃ x, p i x) : ∃ l : List α, l.length = n ∧ ∀ i (hi : i < l.length), p i l[i] := by
  induction n with
  | zero => exact ⟨[], rfl, fun i hi => by simp at hi⟩
  | succ n ih =>
    obtain ⟨l, hl, hp⟩ := ih fun i hi => h i (by omega)
    obtain ⟨x, hx⟩ := h n (by omega)
    refine ⟨l ++ [x], by simp [hl], fun i hi => ?_⟩
    rcases Nat.lt_or_ge i l.length with h1 | h1
    · rw [List.getElem_append_left h1]; exact hp i h1
    · have : i = l.length := by simp at hi; omega
      subst this
      simp [hl]; exact hx
variable {H : Type} {enc : TypeId × Value → H} {P : Program} {w : World} {base : Nat} {spare : Nat → Bool} {held : Bool}
/-- A slice of structs, each element read. -/
theorem arg_slice {α : Type} {ec : α → List Value} {Pr : α → Prop} {s : Nat} (hs : ∀ x, (ec x).length = s) {t e : TypeId} (ht : P.underlying t = some (.slice e)) (hc : P.cellsOf e = s)
    (hdec : ∀ n cs y, DataW.trod enc P w base spare held n e cs = some y → ∃ x : α, cs = ec x ∧ Pr x) {q : Option Addr} {len cap : Nat} {d : DataW H} {p : List MemPlace} (h : DataW.Trod enc P w base spare held t (.slice q len cap) d p) :
    ∃ l : List α, l.length = len ∧ Cs w q (l.flatMap ec) ∧ (∀ x ∈ l, Pr x) ∧ len ≤ cap ∧ cap ≤ maxLen ∧ (q = none → len = 0 ∧ cap = 0) := by
  obtain ⟨fuel, hf⟩ := h
  rcases open_slice ht hf with ⟨hcs, _⟩ | ⟨a, l', c', m, n, D, Pl, hcs, hb, hl, hm, hmm, hx, hi⟩
  · simp [Value.cells] at hcs
    obtain ⟨rfl, rfl, rfl⟩ := hcs
    exact ⟨[], rfl, Sh.cs_nil _ _, by simp, Nat.le_refl _, Nat.zero_le _, fun _ => ⟨rfl, rfl⟩⟩
  · simp [Value.cells] at hcs
    obtain ⟨rfl, rfl, rfl⟩ := hcs
    have hlm : len ≤ m := by rw [hmm]; split <;> omega
    obtain ⟨l, hll, hp⟩ := list_of (p := fun i (x : α) => (∀ j, j < s → w.cell? (a.add (i * s + j)) = (ec x)[j]?) ∧ Pr x) len (fun i hil => by
      obtain ⟨cs', hcc, htr⟩ := hi i (by omega)
      rw [hc] at hcc
      obtain ⟨_, hcl, hat⟩ := World.cells?_some hcc
      obtain ⟨x, rfl, hpx⟩ := hdec _ _ _ htr
      refine ⟨x, fun j hj => ?_, hpx⟩
      rw [← Sh.add_add]; exact hat j hj)
    refine ⟨l, hll, cs_flat hs fun i hi j hj => (hp i hi).1 j hj, fun x hx => ?_, hl, hm, by simp⟩
    obtain ⟨i, hi, rfl⟩ := List.getElem_of_mem hx
    exact (hp i hi).2
theorem in64_of {x : Int} (h : (Lit.int .i64 x).wf = true) : -9223372036854775808 ≤ x ∧ x < 9223372036854775808 := by
  simp [Lit.wf, IntKind.min, IntKind.max, IntKind.signed, IntKind.bits] at h
  omega
theorem u64_of {x : Int} (h : (Lit.int .u64 x).wf = true) : 0 ≤ x ∧ x < 18446744073709551616 := by
  simp [Lit.wf, IntKind.min, IntKind.max, IntKind.signed, IntKind.bits] at h
  omega
/-- two numbers -/
theorem dec_int2 {e i : TypeId} {f0 f1 : Field} (he : P.underlying e = some (.struct #[f0, f1])) (h0 : f0.offset = 0) (h1 : f1.offset = 1) (hi : P.underlying i = some (.int .i64)) (ht0 : f0.type = i) (ht1 : f1.type = i) (hce : P.cellsOf e = 2) (hci : P.cellsOf i = 1)
    (n : Nat) (cs : List Value) (y : DataW H × List MemPlace) (h : DataW.trod enc P w base spare held n e cs = some y) :
    ∃ x : Int × Int, cs = [.int .i64 x.1, .int .i64 x.2] ∧ ((-9223372036854775808 ≤ x.1 ∧ x.1 < 9223372036854775808) ∧ (-9223372036854775808 ≤ x.2 ∧ x.2 < 9223372036854775808)) := by
  obtain ⟨y0, y1, n', hx, hl, hf0, hf1⟩ := trod_struct2 he h
  rw [hce] at hl
  match cs, hl with
  | [c0, c1], _ =>
    rw [h0, ht0, hci] at hf0
    rw [h1, ht1, hci] at hf1
    obtain ⟨m0, hc0, _, hw0⟩ := DataW.trod_int hi hf0
    obtain ⟨m1, hc1, _, hw1⟩ := DataW.trod_int hi hf1
    simp at hc0 hc1
    subst hc0 hc1
    exact ⟨(m0, m1), rfl, in64_of hw0, in64_of hw1⟩
end Go.Sh

namespace Go.Proofs.YtlddfgfmkapoiaaGreat
open Go Go.Sh Go.RowKit Go.ChangeShapes Go.WideShapes

variable {H : Type} {enc : TypeId × Value → H} {w : World} {base : Nat} {spare : Nat → Bool} {held : Bool}
/-- a slice of pairs that came in -/
def Is_pairs (w : World) (q : Option Addr) (len cap : Nat) (l : List Pr) : Prop := l.length = len ∧ Cs w q (prs l) ∧ InP l ∧ len ≤ cap ∧ cap ≤ maxLen ∧ (q = none → len = 0 ∧ cap = 0)
set_option maxRecDepth 100000 in
theorem pairs_arg {q : Option Addr} {len cap : Nat} {d : DataW H} {p : List MemPlace} (h : DataW.Trod enc Tryz.prog w base spare held 22 (.slice q len cap) d p) : ∃ l : List Pr, Is_pairs w q len cap l :=
  arg_slice (ec := fun x : Pr => [.int .i64 x.1, .int .i64 x.2]) (Pr := fun x => In x.1 ∧ In x.2) (s := 2) (fun _ => rfl) Tryz.underlying22 (by kernel_rfl)
    (dec_int2 Tryz.underlying46 rfl rfl Tryz.underlying2 rfl rfl (by kernel_rfl) (by kernel_rfl)) h
/-- a slice of beads that came in -/
def Is_beads (w : World) (q : Option Addr) (len cap : Nat) (l : List Bd) : Prop :=
  l.length = len ∧ Cs w q (bds l) ∧ (∀ x ∈ l, In x.key ∧ In x.val ∧ (0 ≤ x.tag ∧ x.tag < 18446744073709551616)) ∧ len ≤ cap ∧ cap ≤ maxLen ∧ (q = none → len = 0 ∧ cap = 0)
set_option maxRecDepth 100000 in
theorem beads_arg {q : Option Addr} {len cap : Nat} {d : DataW H} {p : List MemPlace} (h : DataW.Trod enc Tryz.prog w base spare held 57 (.slice q len cap) d p) : ∃ l, Is_beads w q len cap l := by
  refine arg_slice (ec := ecB) (Pr := fun x => In x.key ∧ In x.val ∧ (0 ≤ x.tag ∧ x.tag < 18446744073709551616)) (s := 7) (fun _ => rfl) Tryz.underlying57 (by kernel_rfl) (fun n cs y hy => ?_) h
  obtain ⟨xs, n', _, hx, hl, hlen, hf⟩ := DataW.trod_struct Tryz.underlying150 hy
  have hce : Tryz.prog.cellsOf 150 = 7 := by kernel_rfl
  have hc1 : Tryz.prog.cellsOf 2 = 1 := by kernel_rfl
  have hc2 : Tryz.prog.cellsOf 3 = 1 := by kernel_rfl
  have hc3 : Tryz.prog.cellsOf 75 = 1 := by kernel_rfl
  have hc4 : Tryz.prog.cellsOf 4 = 1 := by kernel_rfl
  rw [hce] at hl
  match cs, hl, xs, hlen with
  | [c0, c1, c2, c3, c4, c5, c6], _, [y0, y1, y2, y3, y4, y5, y6], _ =>
    have h0 : DataW.trod enc Tryz.prog w base spare held n' 2 [c0] = some y0 := by simpa [hc1] using hf 0 _ rfl
    have h1 : DataW.trod enc Tryz.prog w base spare held n' 2 [c1] = some y1 := by simpa [hc1] using hf 1 _ rfl
    have h2 : DataW.trod enc Tryz.prog w base spare held n' 2 [c2] = some y2 := by simpa [hc1] using hf 2 _ rfl
    have h3 : DataW.trod enc Tryz.prog w base spare held n' 3 [c3] = some y3 := by simpa [hc2] using hf 3 _ rfl
    have h4 : DataW.trod enc Tryz.prog w base spare held n' 75 [c4] = some y4 := by simpa [hc3] using hf 4 _ rfl
    have h5 : DataW.trod enc Tryz.prog w base spare held n' 4 [c5] = some y5 := by simpa [hc4] using hf 5 _ rfl
    have h6 : DataW.trod enc Tryz.prog w base spare held n' 4 [c6] = some y6 := by simpa [hc4] using hf 6 _ rfl
    obtain ⟨m0, e0, _, w0⟩ := DataW.trod_int Tryz.underlying2 h0
    obtain ⟨m1, e1, _, w1⟩ := DataW.trod_int Tryz.underlying2 h1
    obtain ⟨m2, e2, _, w2⟩ := DataW.trod_int Tryz.underlying2 h2
    obtain ⟨m3, e3, _, w3⟩ := DataW.trod_int Tryz.underlying3 h3
    obtain ⟨m4, e4, _, w4⟩ := DataW.trod_int Tryz.underlying75 h4
    obtain ⟨b5, e5, _⟩ := DataW.trod_bool Tryz.underlying4 h5
    obtain ⟨b6, e6, _⟩ := DataW.trod_bool Tryz.underlying4 h6
    simp only [List.cons.injEq, and_true] at e0 e1 e2 e3 e4 e5 e6
    subst e0 e1 e2 e3 e4 e5 e6
    exact ⟨⟨m0, m1, m2, m3, m4, b5, b6⟩, rfl, in64_of w0, in64_of w1, u64_of w4⟩
/-- a slice of numbers that came in -/
def Is_ints (w : World) (q : Option Addr) (len cap : Nat) (l : List Int) : Prop := l.length = len ∧ Cs w q (ints l) ∧ (∀ x ∈ l, In x) ∧ len ≤ cap ∧ cap ≤ maxLen ∧ (q = none → len = 0 ∧ cap = 0)
theorem ints_of {t e : TypeId} (ht : Tryz.prog.underlying t = some (.slice e)) (he : Tryz.prog.underlying e = some (.int .i64)) (hc : Tryz.prog.cellsOf e = 1) {q : Option Addr} {len cap : Nat} {d : DataW H} {p : List MemPlace}
    (h : DataW.Trod enc Tryz.prog w base spare held t (.slice q len cap) d p) : ∃ l, Is_ints w q len cap l := by
  obtain ⟨l, h1, h2, h3⟩ := arg_slice (ec := fun x : Int => [.int .i64 x]) (Pr := fun x => In x) (s := 1) (fun _ => rfl) ht hc (fun n cs y hy => by
    obtain ⟨m, hm, _, hw⟩ := DataW.trod_int he hy
    exact ⟨m, hm, in64_of hw⟩) h
  refine ⟨l, h1, ?_, h3⟩
  unfold ints
  rw [List.map_eq_flatMap]
  exact h2
set_option maxRecDepth 100000 in
theorem ints_arg {q : Option Addr} {len cap : Nat} {d : DataW H} {p : List MemPlace} (h : DataW.Trod enc Tryz.prog w base spare held 24 (.slice q len cap) d p) : ∃ l, Is_ints w q len cap l :=
  ints_of Tryz.underlying24 Tryz.underlying2 (by kernel_rfl) h
/-- a slice of uint64 that came in -/
def Is_us (w : World) (q : Option Addr) (len cap : Nat) (l : List Int) : Prop := l.length = len ∧ Cs w q (l.flatMap fun x => [.int .u64 x]) ∧ (∀ x ∈ l, 0 ≤ x ∧ x < 18446744073709551616) ∧ len ≤ cap ∧ cap ≤ maxLen ∧ (q = none → len = 0 ∧ cap = 0)
set_option maxRecDepth 100000 in
theorem us_arg {q : Option Addr} {len cap : Nat} {d : DataW H} {p : List MemPlace} (h : DataW.Trod enc Tryz.prog w base spare held 23 (.slice q len cap) d p) : ∃ l, Is_us w q len cap l := by
  exact arg_slice (ec := fun x : Int => [.int .u64 x]) (Pr := fun x => 0 ≤ x ∧ x < 18446744073709551616) (s := 1) (fun _ => rfl) Tryz.underlying23 (by kernel_rfl) (fun n cs y hy => by
    obtain ⟨m, hm, _, hw⟩ := DataW.trod_int Tryz.underlying75 hy
    exact ⟨m, hm, u64_of hw⟩) h
/-- the same, with what a process's memory holds at most -/
def Is_usB (w : World) (q : Option Addr) (len cap : Nat) (l : List Int) : Prop := Is_us w q len cap l ∧ len ≤ 17592186044416
set_option maxRecDepth 100000 in
theorem usB_arg {q : Option Addr} {len cap : Nat} {d : DataW H} {p : List MemPlace} (h : DataW.Trod enc Tryz.prog w base spare held 23 (.slice q len cap) d p) {ts : List TypeId} {ds : List (DataW H)} (hz : (DataW.weightsEach Tryz.prog ts ds).all (· ≤ reachBytes) = true) {j : Nat} (ht : ts[j]? = some 23) (hd : ds[j]? = some d) : ∃ l, Is_usB w q len cap l := by
  obtain ⟨l, hl⟩ := us_arg h
  refine ⟨l, hl, ?_⟩
  obtain ⟨fuel, hf⟩ := h
  rcases DataW.trod_slice Tryz.underlying23 hf with ⟨hcs, _⟩ | ⟨a, len', cap', elems, rest, n, _, hcs, hx, _, _, _, hlen, _⟩
  · simp [Value.cells] at hcs
    omega
  · simp [Value.cells] at hcs
    obtain ⟨_, rfl, _⟩ := hcs
    have hx := congrArg Prod.fst hx
    simp only at hx
    subst hx
    have k := sized_slice hz ht hd Tryz.underlying23
    have e8 : Tryz.prog.bytesOf 75 = 8 := by kernel_rfl
    have er : reachBytes = 140737488351232 := rfl
    rw [e8, er] at k
    simp only [List.length_map] at k
    omega
end Go.Proofs.YtlddfgfmkapoiaaGreat

