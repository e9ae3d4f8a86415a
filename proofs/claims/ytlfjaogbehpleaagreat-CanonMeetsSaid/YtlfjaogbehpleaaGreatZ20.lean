/-
  split, cut: what is parted, and joined again.
-/
/-
  treap.Check of a treap: nothing is wrong.
-/
/-
  wb.Check of a tree in balance: nothing is wrong.
-/
/-
  split: Split, Ahead, Behind; cut: Last, Join2.
-/
/-
  cut: Last, Join2; split: Ahead, Behind.
-/
/-
  Trees as beads; rows of items. Plain.
-/
/-
  avl.Check of a tree in balance: nothing is wrong.
-/
/-
  rb.Check of a tree in balance: nothing is wrong.
-/
/-
  sound.Check of a tree whose keys rise: nothing is wrong.
-/
/-
  Ranks, Select, Many, and the document's Rank, Pairs, Select.
-/
/-
  Of, Node, Sort, Shape: rows and trees that the statements make.
-/
/-
  The document's checks of trees, of beads: layers 14, 16, 18, 20, 22.
-/
/-
  The document's checks of trees, of beads: layers 16, 18, 20, 22.
-/
/-
  Rows of items: Items, See, Same.
-/
/-
  Has, Is; the document's answers of layers 12, 24.
-/
/-
  The document's answers of layer 24; what a statement parts.
-/
/-
  Layer 24: what a statement parts; the chapter's examples.
-/
import Derived.Test.YtlfjaogbehpleaaGreatZ19
import Derived.Test.YtlfjaogbehpleaaGreatZ17

namespace Go.Proofs.YtlfjaogbehpleaaGreat
open Go Go.Sh Go.RowKit

theorem Gs.st {b k : Nat} {w0 w1 w2 : World} (h : Gs b w0 w1) (g : w1.grownBy w2 (some k)) (hk : w0.heap.size ≤ k) : Gs b w0 w2 :=
  ⟨g.os.trans h.os, g.tape.trans h.tape, g.output.trans h.output, Nat.le_trans (World.grownBy.size h) (World.grownBy.size g), fun i hi hne => by
    rw [g.block i (Nat.lt_of_lt_of_le hi (World.grownBy.size h)) (ne_some (by omega)), h.block i hi hne]⟩
theorem IsSch.st {c : Int} {b k : Nat} {w1 w2 : World} (h : IsSch c b w1) (g : w1.grownBy w2 (some k)) (hk : k ≠ b) : IsSch c b w2 := by
  rcases h with ⟨hss, ⟨j, hb⟩ | ⟨j, hb⟩⟩
  · exact ⟨hss, .inl ⟨j, hb.grown g (ne_some (Ne.symm hk))⟩⟩
  · exact ⟨hss, .inr ⟨j, hb.grown g (ne_some (Ne.symm hk))⟩⟩
theorem _root_.Go.Sh.IsT.st {k : Nat} {w1 w2 : World} {p : Option Addr} {t : Tr} {cs : Array Value} {ty : TypeId} (h : IsN w1 p t) (g : w1.grownBy w2 (some k)) (hb : Blk w1 k cs ty) (ht : ty ≠ 220) : IsN w2 p t := by
  induction t generalizing p with
  | nil => exact h
  | node l k' v gg r ihl ihr =>
    obtain ⟨b', pl, pr, hp, hb', hl, hr⟩ := h
    refine ⟨b', pl, pr, hp, hb'.grown g (ne_some ?_), ihl hl, ihr hr⟩
    rintro rfl
    exact ht (blk_fun hb hb')
theorem _root_.Go.Sh.Blk.gs {b k : Nat} {w w' : World} {cs : Array Value} {ty : TypeId} (h : Blk w k cs ty) (g : Gs b w w') (hk : k ≠ b) : Blk w' k cs ty := h.grown g (ne_some hk)
theorem splitC_p {c o key : Int} : ∀ {t : Tr}, OkP c t → OkM c (splitC c o key t).1 ∧ OkM c (splitC c o key t).2.2 ∧ (splitC c o key t).1.size + (splitC c o key t).2.2.size ≤ t.size
  | .nil, h => ⟨.nil h.s, .nil h.s, Nat.le_refl _⟩
  | .node l k v g r, h => by
    obtain ⟨hl, hr⟩ := h.sides
    have IL := splitC_p (o := o) (key := key) hl
    have IR := splitC_p (o := o) (key := key) hr
    have e : (Tr.node l k v g r).size = l.size + 1 + r.size := rfl
    unfold splitC
    split
    · have j := joinC_ok hl IR.1.1 (itC c (k, v, g))
      refine ⟨j.1, IR.2.1, ?_⟩
      simp only [joinC_size hl IR.1.1, e]; omega
    · split
      · have j := joinC_ok IL.2.1.1 hr (itC c (k, v, g))
        refine ⟨IL.1, j.1, ?_⟩
        simp only [joinC_size IL.2.1.1 hr, e]; omega
      · refine ⟨(wholeC_ok hl).1, (wholeC_ok hr).1, ?_⟩
        simp only [wholeC_size hl, wholeC_size hr, e]; omega
abbrev itO (x : Option It) : It := x.getD (0, 0, 0)
theorem do_at {o key k : Int} (ho : isO o = true) (hk : In k) {bo bk : Nat} {w : World} {R : Ending → World → Prop} (h1 : Blk w bo #[.int .u8 o] 5) (h2 : Blk w bk #[.int .u64 (codeI o key)] 79)
    (h : ∀ w', Ext w w' → R (.returned (.int .i64 (cmpI o k key))) w') : doCall Tryz.prog (.func (.func 280) #[] #[.pointer (some (blk bo)), .pointer (some (blk bk))]) #[.int .i64 k] w R := by
  refine do_callc Tryz.call280 (by rfl) (sh280_ok _ _ _ ?_)
  unfold sh280
  refine ⟨_, h1.cell (i := 0) rfl rfl, do_call Tryz.call124 (c_code hk fun w1 e1 => retS_ret ⟨_, _, rfl, _, (h2.ext e1).cell (i := 0) rfl rfl, ?_⟩)⟩
  rw [ho, cond_true]
  refine do_call Tryz.call125 (c_cmp64 (retS_ret ⟨_, rfl, ?_⟩))
  have e : (if codeI o k < codeI o key then (-1 : Int) else if codeI o key < codeI o k then 1 else 0) = cmpI o k key := by
    have : 1 ≤ o ∧ o ≤ 7 := by simpa [isO] using ho
    unfold cmpI; rw [if_pos this]
  rw [e]
  exact h _ e1
/-- an item, read and laid again -/
theorem do_re3 {c : Int} {b bx : Nat} {x : It} {w0 w : World} (hb : Blk w bx #[.int .i64 x.1, .int .i64 x.2.1, .int .u64 x.2.2] 133) (hx : w0.heap.size ≤ bx) (hne : bx ≠ b) (hg : Gs b w0 w) (hs : IsSch c b w) {K : World → Prop}
    (k : ∀ w', Blk w' bx #[.int .i64 x.1, .int .i64 x.2.1, .int .u64 x.2.2] 133 → w.grownBy w' (some bx) → Gs b w0 w' → IsSch c b w' → K w') :
    doSt ((blk bx).add 0) (.int .i64 x.1) w fun w1 => doSt ((blk bx).add 1) (.int .i64 x.2.1) w1 fun w2 => doSt ((blk bx).add 2) (.int .u64 x.2.2) w2 K :=
  do_st3 hb fun w' h' g' => k w' h' g' (hg.st g' hx) (hs.st g' hne)
def InK : Tr → Prop
  | .nil => True
  | .node l k _ _ r => InK l ∧ In k ∧ InK r
theorem inK_its {c : Int} {t : Tr} : InK t ↔ ∀ x ∈ itsC c t, In x.1 := by
  induction t with
  | nil => exact ⟨fun _ x hx => by simp [itsC, itT] at hx, fun _ => trivial⟩
  | node l k v g r ihl ihr =>
    rw [itsC_node]
    constructor
    · rintro ⟨h1, h2, h3⟩ x hx
      rcases List.mem_append.1 hx with hx | hx
      · exact ihl.1 h1 x hx
      · rcases List.mem_cons.1 hx with rfl | hx
        · rw [itC_key]; exact h2
        · exact ihr.1 h3 x hx
    · intro h
      exact ⟨ihl.2 fun x hx => h x (List.mem_append_left _ hx), by have := h (itC c (k, v, g)) (by simp); rwa [itC_key] at this, ihr.2 fun x hx => h x (List.mem_append_right _ (List.mem_cons_of_mem _ hx))⟩
set_option maxRecDepth 20000 in
theorem c_sparts {c o key : Int} {b bo bk : Nat} (ho : isO o = true) (nbo : bo ≠ b) (nbk : bk ≠ b) : ∀ (t : Tr) {p : Option Addr} {w : World} {R : Ending → World → Prop} (_hs : IsSch c b w) (_h1 : Blk w bo #[.int .u8 o] 5) (_h2 : Blk w bk #[.int .u64 (codeI o key)] 79)
    (_ht : IsN w p t) (_ok : OkP c t) (_hk : InK t) (_hB : t.size + 6 ≤ BIG) (_h : ∀ ql qr w', Gs b w w' → IsSch c b w' → IsN w' ql (splitC c o key t).1 → IsN w' qr (splitC c o key t).2.2 →
      R (.returned (.tuple #[.pointer ql, agI (itO (splitC c o key t).2.1), .bool (splitC c o key t).2.1.isSome, .pointer qr])) w'),
    Calls Tryz.prog 222 #[.pointer (some (blk b)), .func (.func 280) #[] #[.pointer (some (blk bo)), .pointer (some (blk bk))], .pointer p] w R
  | .nil, p, w, R, hs, h1, h2, ht, ok, hk, hB, h => by
    obtain rfl : p = none := ht
    refine sh222_ok _ _ _ _ _ ?_
    unfold sh222
    refine ⟨ifB_t rfl ?_⟩
    have e0 := ext_alloc w (.cells #[.int .i64 0, .int .i64 0, .int .u64 0] 133)
    have hx := blk_alloc w #[.int .i64 0, .int .i64 0, .int .u64 0] 133
    have hlt := hs.lt
    generalize hbx : w.heap.size = bx at *
    generalize w.alloc (.cells #[.int .i64 0, .int .i64 0, .int .u64 0] 133) = w1 at *
    have d := ext_drew w1
    refine ⟨⟨fun w' => Ext w1 w', d, _, fun w' e => (hx.ext e).cell (i := 0) (add_blk _ _) rfl, _, fun w' e => (hx.ext e).cell (i := 1) (add_blk _ _) rfl, _, fun w' e => (hx.ext e).cell (i := 2) (add_blk _ _) rfl, ?_⟩⟩
    refine do_re3 (x := (0, 0, 0)) (hx.ext d) (by omega) (by omega) (gs_of (e0.trans d)) (hs.ext (e0.trans d)) fun w2 hx2 g2 gs2 hs2 => ?_
    exact ⟨_, hx2.cell (i := 0) (add_blk _ _) rfl, _, hx2.cell (i := 1) (add_blk _ _) rfl, _, hx2.cell (i := 2) (add_blk _ _) rfl, h _ _ _ gs2 hs2 rfl rfl⟩
  | .node l k v g r, p, w, R, hs, h1, h2, ht, ok, hk, hB, h => by
    refine sh222_ok _ _ _ _ _ ?_
    unfold sh222
    refine ⟨ifB_f (by rw [ht.isNone]; rfl) ?_⟩
    obtain ⟨okl, okr⟩ := ok.sides
    obtain ⟨hkl, hkk, hkr⟩ := hk
    have hsz : (Tr.node l k v g r).size = l.size + 1 + r.size := rfl
    have e0 := ext_alloc w (.cells #[.int .i64 0, .int .i64 0, .int .u64 0] 133)
    have hx := blk_alloc w #[.int .i64 0, .int .i64 0, .int .u64 0] 133
    have hlt := hs.lt
    generalize hbx : w.heap.size = bx at *
    generalize w.alloc (.cells #[.int .i64 0, .int .i64 0, .int .u64 0] 133) = w1 at *
    have nbx : bx ≠ b := by omega
    have hroot : rootC c (.node l k v g r) = itC c (k, v, g) := rfl
    refine do_call Tryz.call131 (c_key (ht.ext e0) fun w2 e2 => retS_ret ⟨_, rfl, ?_⟩)
    have E2 := e0.trans e2
    refine do_at ho hkk (h1.ext E2) (h2.ext E2) fun w3 e3 => retS_ret ⟨_, rfl, ?_⟩
    have E3 := E2.trans e3
    have hx3 := hx.ext (e2.trans e3)
    have hs3 := hs.ext E3
    have ht3 := ht.ext E3
    have h13 := h1.ext E3
    have h23 := h2.ext E3
    have g3 : Gs b w w3 := gs_of E3
    unfold splitC at h
    refine ifB_intro (fun hc => ?_) fun hc => ?_
    · have hc : cmpI o k key < 0 := of_decide_eq_true hc
      simp only [hc, if_true] at h
      have sp := splitC_p (o := o) (key := key) okr
      refine do_call Tryz.call130 (c_right ht3 fun q4 h4 => retS_ret ⟨_, rfl, ?_⟩)
      refine do_call Tryz.call222 (c_sparts ho nbo nbk r hs3 h13 h23 h4 okr hkr (by omega) fun ql qr w5 g5 hs5 hl5 hr5 => retS_ret ⟨_, _, _, _, _, _, rfl, ?_⟩)
      have hx5 := hx3.gs g5 nbx
      have gt5 := g3.trans g5
      refine do_st3 hx5 fun w6 hx6 g6 => ?_
      have gt6 := gt5.st g6 (by omega)
      have hs6 := hs5.st g6 nbx
      have hl6 := hl5.st g6 hx5 (by decide)
      have hr6 := hr5.st g6 hx5 (by decide)
      have d := ext_drew w6
      refine ⟨⟨fun w' => Blk w' bx _ _, hx6, _, fun w' e => e.cell (i := 0) (add_blk _ _) rfl, _, fun w' e => e.cell (i := 1) (add_blk _ _) rfl, _, fun w' e => e.cell (i := 2) (add_blk _ _) rfl, ?_⟩⟩
      have gt6d := gt6.trans (gs_of d)
      refine do_call Tryz.call128 (c_left (ht.gs hs gt6d) fun q7 h7 => retS_ret ⟨_, rfl, hx6.ext d, ?_⟩)
      refine do_call Tryz.call144 (c_sitem (hs6.ext d) (ht.gs hs gt6d) fun w8 g8 hs8 => retS_ret ⟨_, _, _, rfl, (hx6.ext d).gs g8 nbx, ?_⟩)
      have gt8 := gt6d.trans g8
      refine do_call Tryz.call145 (c_sjoin hs8 (h7.gs (hs6.ext d) g8) ((hl6.ext d).gs (hs6.ext d) g8) okl sp.1.1 (by simp only [Tr.left]; omega) fun q9 w9 g9 hs9 h9 => retS_ret ⟨_, rfl, ((hx6.ext d).gs g8 nbx).gs g9 nbx, ?_⟩)
      have hx9 := ((hx6.ext d).gs g8 nbx).gs g9 nbx
      refine do_re3 (x := itO (splitC c o key r).2.1) hx9 (w0 := w) (by omega) nbx (gt8.trans g9) hs9 fun w10 hx10 g10 gs10 hs10 => ?_
      exact ⟨_, hx10.cell (i := 0) (add_blk _ _) rfl, _, hx10.cell (i := 1) (add_blk _ _) rfl, _, hx10.cell (i := 2) (add_blk _ _) rfl, h _ _ _ gs10 hs10 (h9.st g10 hx9 (by decide)) ((((hr6.ext d).gs (hs6.ext d) g8).gs hs8 g9).st g10 hx9 (by decide))⟩
    · have hc : ¬ cmpI o k key < 0 := of_decide_eq_false hc
      simp only [hc, if_false] at h
      refine ifB_intro (fun hc2 => ?_) fun hc2 => ?_
      · have hc2 : 0 < cmpI o k key := of_decide_eq_true hc2
        simp only [hc2, if_true] at h
        have sp := splitC_p (o := o) (key := key) okl
        refine do_call Tryz.call128 (c_left ht3 fun q4 h4 => retS_ret ⟨_, rfl, ?_⟩)
        refine do_call Tryz.call222 (c_sparts ho nbo nbk l hs3 h13 h23 h4 okl hkl (by omega) fun ql qr w5 g5 hs5 hl5 hr5 => retS_ret ⟨_, _, _, _, _, _, rfl, ?_⟩)
        have hx5 := hx3.gs g5 nbx
        have gt5 := g3.trans g5
        refine do_st3 hx5 fun w6 hx6 g6 => ?_
        have gt6 := gt5.st g6 (by omega)
        have hs6 := hs5.st g6 nbx
        have hl6 := hl5.st g6 hx5 (by decide)
        have hr6 := hr5.st g6 hx5 (by decide)
        have d := ext_drew w6
        refine ⟨⟨fun w' => Blk w' bx _ _, hx6, _, fun w' e => e.cell (i := 0) (add_blk _ _) rfl, _, fun w' e => e.cell (i := 1) (add_blk _ _) rfl, _, fun w' e => e.cell (i := 2) (add_blk _ _) rfl, ?_⟩⟩
        have gt6d := gt6.trans (gs_of d)
        refine do_call Tryz.call144 (c_sitem (hs6.ext d) (ht.gs hs gt6d) fun w8 g8 hs8 => retS_ret ⟨_, _, _, rfl, (hx6.ext d).gs g8 nbx, ?_⟩)
        have gt8 := gt6d.trans g8
        refine do_call Tryz.call130 (c_right (ht.gs hs gt8) fun q7 h7 => retS_ret ⟨_, rfl, (hx6.ext d).gs g8 nbx, ?_⟩)
        refine do_call Tryz.call145 (c_sjoin hs8 ((hr6.ext d).gs (hs6.ext d) g8) h7 sp.2.1.1 okr (by simp only [Tr.right]; omega) fun q9 w9 g9 hs9 h9 => retS_ret ⟨_, rfl, ((hx6.ext d).gs g8 nbx).gs g9 nbx, ?_⟩)
        have hx9 := ((hx6.ext d).gs g8 nbx).gs g9 nbx
        refine do_re3 (x := itO (splitC c o key l).2.1) hx9 (w0 := w) (by omega) nbx (gt8.trans g9) hs9 fun w10 hx10 g10 gs10 hs10 => ?_
        exact ⟨_, hx10.cell (i := 0) (add_blk _ _) rfl, _, hx10.cell (i := 1) (add_blk _ _) rfl, _, hx10.cell (i := 2) (add_blk _ _) rfl, h _ _ _ gs10 hs10 ((((hl6.ext d).gs (hs6.ext d) g8).gs hs8 g9).st g10 hx9 (by decide)) (h9.st g10 hx9 (by decide))⟩
      · have hc2 : ¬ 0 < cmpI o k key := of_decide_eq_false hc2
        simp only [hc2, if_false] at h
        refine do_call Tryz.call128 (c_left ht3 fun q4 h4 => retS_ret ⟨_, rfl, ?_⟩)
        refine do_call Tryz.call72 (c_swhole hs3 h4 okl (by simp only [Tr.left]; omega) fun q5 w5 g5 hs5 h5 => retS_ret ⟨_, rfl, ?_⟩)
        have gt5 := g3.trans g5
        refine do_call Tryz.call144 (c_sitem hs5 (ht.gs hs gt5) fun w6 g6 hs6 => retS_ret ⟨_, _, _, rfl, ?_⟩)
        have gt6 := gt5.trans g6
        refine do_call Tryz.call130 (c_right (ht.gs hs gt6) fun q7 h7 => retS_ret ⟨_, rfl, ?_⟩)
        refine do_call Tryz.call72 (c_swhole hs6 h7 okr (by simp only [Tr.right]; omega) fun q8 w8 g8 hs8 h8 => retS_ret ⟨_, rfl, ?_⟩)
        have hx8 := ((hx3.gs g5 nbx).gs g6 nbx).gs g8 nbx
        refine do_st3 hx8 fun w9 hx9 g9 => ?_
        have gt9 := (gt6.trans g8).st g9 (by omega)
        exact ⟨_, hx9.cell (i := 0) (add_blk _ _) rfl, _, hx9.cell (i := 1) (add_blk _ _) rfl, _, hx9.cell (i := 2) (add_blk _ _) rfl, h _ _ _ gt9 (hs8.st g9 nbx) (((h5.gs hs5 g6).gs hs6 g8).st g9 hx8 (by decide)) (h8.st g9 hx8 (by decide))⟩
end Go.Proofs.YtlfjaogbehpleaaGreat

namespace Go.Proofs.YtlfjaogbehpleaaGreat
open Go Go.Sh Go.RowKit

abbrev onT (b2 b4 : Nat) : Value := .func (.func 273) #[] #[.pointer (some (blk b2)), .pointer (some (blk b4))]
set_option maxRecDepth 20000 in
theorem do_tpon {b2 b4 : Nat} {T4 : TypeId} (hne : b4 ≠ b2) : ∀ (t : Tr) {p : Option Addr} {n : Nat} {w : World} {R : Ending → World → Prop} (_h2 : Blk w b2 #[.int .i64 (n : Nat)] 3) (_h4 : Blk w b4 #[onT b2 b4] T4) (_ht : IsN w p t) (_tp : Tp t) (_hn : n + t.size ≤ BIG)
    (_h : ∀ w', Gs b2 w w' → Blk w' b2 #[.int .i64 ((n + t.size : Nat) : Int)] 3 → R (.returned (.bool true)) w'), doCall Tryz.prog (onT b2 b4) #[.pointer p] w R
  | .nil, p, n, w, R, h2, h4, ht, tp, hn, h => by
    refine do_callc Tryz.call273 (by rfl) (sh273_ok _ _ _ ?_)
    unfold sh273
    have : p = none := ht
    subst this
    exact ifB_t rfl (h _ (gs_refl _ _) h2)
  | .node l k v g r, p, n, w, R, h2, h4, ht, tp, hn, h => by
    refine do_callc Tryz.call273 (by rfl) (sh273_ok _ _ _ ?_)
    unfold sh273
    obtain ⟨tl, tr, al, ar⟩ := tp
    have e : (Tr.node l k v g r).size = l.size + 1 + r.size := rfl
    rw [ht.isNone]
    refine ifB_f rfl ?_
    intro K6
    refine do_call Tryz.call128 (c_left ht fun pl hpl => retS_ret ⟨_, rfl, ?_⟩)
    refine do_call Tryz.call274 (c_abT hpl ht fun w1 e1 => retS_ret ⟨_, rfl, ?_⟩)
    rw [show abT (Tr.node l k v g r).left (Tr.node l k v g r) = false from al]
    refine ifB_f rfl (do_call Tryz.call130 (c_right (ht.ext e1) fun pr hpr => retS_ret ⟨_, rfl, ?_⟩))
    refine do_call Tryz.call274 (c_abT hpr (ht.ext e1) fun w2 e2 => retS_ret ⟨_, rfl, ?_⟩)
    rw [show abT (Tr.node l k v g r).right (Tr.node l k v g r) = false from ar]
    simp -zeta -zetaHave only [K6]
    have e02 := e1.trans e2
    have h22 := h2.ext e02
    refine ifB_f rfl ⟨_, h22.cell (i := 0) rfl rfl, ?_⟩
    refine do_st h22 (i := 0) (add_blk _ _) (by simp) fun w3 h3 g3 => ?_
    have G3 : Gs b2 w w3 := (gs_of e02).trans g3
    have h3 : Blk w3 b2 #[.int .i64 ((n + 1 : Nat) : Int)] 3 := by
      have : IntKind.wrap .i64 ((n : Int) + 1) = ((n + 1 : Nat) : Int) := by simp only [BIG] at hn; rw [wrap_of (by omega) (by omega)]; omega
      rw [this] at h3; exact h3
    intro K11
    have d := ext_drew w3
    have G3' : Gs b2 w w3.drew := G3.trans (gs_of d)
    have h43 := h4.gs G3' hne
    have ht3 : IsN w3.drew p (.node l k v g r) := ht.st G3' h2 (by decide)
    refine ⟨⟨fun w' => Blk w' b4 #[onT b2 b4] T4, h43, _, _, _, fun w' q => q.cell (i := 0) rfl rfl, ?_⟩⟩
    refine do_call Tryz.call128 (c_left ht3 fun pl3 hpl3 => retS_ret ⟨_, rfl, h43, ?_⟩)
    refine do_tpon hne l (h3.ext d) h43 hpl3 tl (by omega) fun w4 g4 h24 => retS_ret ⟨_, rfl, h43.gs g4 hne, ?_⟩
    refine ifB_t rfl ⟨_, _, _, fun w' q => q.cell (i := 0) rfl rfl, ?_⟩
    have ht4 := ht3.st g4 (h3.ext d) (by decide)
    refine do_call Tryz.call130 (c_right ht4 fun pr4 hpr4 => retS_ret ⟨_, rfl, h43.gs g4 hne, ?_⟩)
    refine do_tpon hne r h24 (h43.gs g4 hne) hpr4 tr (by omega) fun w5 g5 h25 => retS_ret ⟨_, rfl, (h43.gs g4 hne).gs g5 hne, ?_⟩
    rw [show n + 1 + l.size + r.size = n + (Tr.node l k v g r).size by omega] at h25
    exact h _ ((G3'.trans g4).trans g5) h25
theorem c_tpcheck {t : Tr} {p : Option Addr} {w : World} {R : Ending → World → Prop} (ht : IsN w p t) (tp : Tp t) (hn : t.size ≤ BIG) (h : ∀ k w', Ext w w' → R (.returned (.tuple #[.int .i64 k, .int .i64 0])) w') :
    Calls Tryz.prog 213 #[.pointer p] w R := by
  refine sh213_ok _ ?_
  unfold sh213
  refine ⟨⟨?_⟩⟩
  have e0 := ext_alloc w (.cells #[.int .i64 0] 3)
  have h2 := blk_alloc w #[.int .i64 0] 3
  have k2 : w.heap.size ≤ w.heap.size := Nat.le_refl _
  generalize hb : w.heap.size = b2 at h2 k2 ⊢
  generalize w.alloc (.cells #[.int .i64 0] 3) = w1 at *
  have hlt := h2.lt
  refine do_st (blk_alloc w1 _ _) (i := 0) (add_blk _ _) (by simp) fun w2 h4 g4 => ?_
  have e2 : Ext w1 w2 := (ext_alloc w1 _).st g4 (Nat.le_refl _)
  refine ⟨_, _, _, h4.cell (i := 0) rfl rfl, ?_⟩
  refine do_tpon (n := 0) (by omega) t (h2.ext e2) h4 (ht.ext (e0.trans e2)) tp (by omega) fun w3 g3 h23 => retS_ret ⟨_, rfl, ?_⟩
  have E3 : Ext w w3 := (e0.trans e2).st g3 (by omega)
  refine ifB_f rfl ⟨_, h23.cell (i := 0) rfl rfl, ?_⟩
  refine do_st h23 (i := 0) (add_blk _ _) (by simp) fun w4 h44 g44 => ?_
  exact ⟨_, h44.cell (i := 0) rfl rfl, h _ _ (E3.st g44 (by omega))⟩
end Go.Proofs.YtlfjaogbehpleaaGreat

namespace Go.Proofs.YtlfjaogbehpleaaGreat
open Go Go.Sh Go.RowKit

end Go.Proofs.YtlfjaogbehpleaaGreat

namespace Go.Proofs.YtlfjaogbehpleaaGreat
open Go Go.Sh Go.RowKit

theorem c_where {o key : Int} (hk : In key) {w : World} {R : Ending → World → Prop} (h0 : isO o = false → ∀ w', Ext w w' → R (.returned (.tuple #[.nilFunc, .int .i64 2])) w')
    (h1 : isO o = true → ∀ bo bk w', Ext w w' → Blk w' bo #[.int .u8 o] 5 → Blk w' bk #[.int .u64 (codeI o key)] 79 → w.heap.size ≤ bo → w.heap.size ≤ bk →
      R (.returned (.tuple #[.func (.func 280) #[] #[.pointer (some (blk bo)), .pointer (some (blk bk))], .int .i64 0])) w') : Calls Tryz.prog 221 #[.int .u8 o, .int .i64 key] w R := by
  refine sh221_ok _ _ ?_
  unfold sh221
  have e0 := ext_alloc w (.cells #[.int .u8 o] 5)
  have hb0 := blk_alloc w #[.int .u8 o] 5
  refine ⟨_, hb0.cell (i := 0) rfl rfl, do_call Tryz.call124 (c_code hk fun w1 e1 => retS_ret ⟨_, _, rfl, ⟨?_⟩⟩)⟩
  have E1 := e0.trans e1
  have hk0 := blk_alloc w1 #[.int .u64 0] 79
  refine do_st (i := 0) hk0 (add_blk _ _) (by simp) fun w2 hk2 g2 => ?_
  have e2 : Ext w1 w2 := (ext_alloc w1 _).st g2 (Nat.le_refl _)
  have E2 := E1.trans e2
  have hb2 := hb0.ext (e1.trans e2)
  cases ho : isO o with
  | false => exact ifB_t rfl (h0 ho _ E2)
  | true =>
    rw [ho, cond_true] at hk2
    exact ifB_f rfl (h1 ho _ _ _ E2 hb2 hk2 (Nat.le_refl _) E1.size)
set_option maxRecDepth 20000 in
theorem c_split {c o key : Int} {b : Nat} (ho : isO o = true) (hk : In key) {t : Tr} {p : Option Addr} {w : World} {R : Ending → World → Prop} (hs : IsSch c b w) (ht : IsN w p t) (ok : OkP c t) (hkt : InK t) (hB : t.size + 6 ≤ BIG)
    (h : ∀ ql qr w', Gs b w w' → IsSch c b w' → IsN w' ql (splitC c o key t).1 → IsN w' qr (splitC c o key t).2.2 →
      R (.returned (.tuple #[.pointer ql, agI (itO (splitC c o key t).2.1), .bool (splitC c o key t).2.1.isSome, .pointer qr, .int .i64 0])) w') : Calls Tryz.prog 141 #[.pointer (some (blk b)), .int .u8 o, .pointer p, .int .i64 key] w R := by
  refine sh141_ok _ _ _ _ ?_
  unfold sh141
  refine ⟨?_⟩
  have e0 := ext_alloc w (.cells #[.int .i64 0, .int .i64 0, .int .u64 0] 133)
  have hx := blk_alloc w #[.int .i64 0, .int .i64 0, .int .u64 0] 133
  have hlt := hs.lt
  generalize hbx : w.heap.size = bx at *
  generalize w.alloc (.cells #[.int .i64 0, .int .i64 0, .int .u64 0] 133) = w1 at *
  have nbx : bx ≠ b := by omega
  have hxl := hx.lt
  intro K10
  refine do_call Tryz.call221 (c_where hk (fun h0 _ _ => by rw [ho] at h0; cases h0) fun _ bo bk w2 e2 hbo hbk lo lk => retS_ret (.inl ⟨_, _, _, _, rfl, ?_⟩))
  simp -zeta -zetaHave only [K10]
  intro K13
  refine ifB_f rfl ?_
  have E2 := e0.trans e2
  refine ifB_f rfl (do_call Tryz.call222 (c_sparts ho (by omega) (by omega) t (hs.ext E2) hbo hbk (ht.ext E2) ok hkt hB fun ql qr w3 g3 hs3 hl3 hr3 => retS_ret ⟨_, _, _, _, _, _, rfl, ?_⟩))
  have gt3 : Gs b w w3 := (gs_of E2).trans g3
  have hx3 := (hx.ext e2).gs g3 nbx
  refine do_st3 hx3 fun w4 hx4 g4 => ?_
  have gt4 := gt3.st g4 (by omega)
  have hs4 := hs3.st g4 nbx
  have hl4 := hl3.st g4 hx3 (by decide)
  have hr4 := hr3.st g4 hx3 (by decide)
  have d := ext_drew w4
  refine ⟨⟨fun w' => Blk w' bx _ _, hx4, _, fun w' e => e.cell (i := 0) (add_blk _ _) rfl, _, fun w' e => e.cell (i := 1) (add_blk _ _) rfl, _, fun w' e => e.cell (i := 2) (add_blk _ _) rfl, ?_⟩⟩
  refine do_re3 (x := itO (splitC c o key t).2.1) (hx4.ext d) (w0 := w) (by omega) nbx (gt4.trans (gs_of d)) (hs4.ext d) fun w5 hx5 g5 gs5 hs5 => ?_
  exact ⟨_, hx5.cell (i := 0) (add_blk _ _) rfl, _, hx5.cell (i := 1) (add_blk _ _) rfl, _, hx5.cell (i := 2) (add_blk _ _) rfl, h _ _ _ gs5 hs5 ((hl4.ext d).st g5 (hx4.ext d) (by decide)) ((hr4.ext d).st g5 (hx4.ext d) (by decide))⟩
/-! ### cut -/
abbrev toA (bs : Nat) : Array Value := #[.func (.func 130) #[] #[], .func (.func 128) #[] #[], .func (.func 335) #[] #[.pointer (some (blk bs))]]
theorem c_to {bs0 : Option Addr} {w : World} {R : Ending → World → Prop} (h : ∀ bs w', Ext w w' → Blk w' bs #[.pointer bs0] 65 → w.heap.size ≤ bs → R (.returned (.agg (toA bs))) w') : Calls Tryz.prog 285 #[.pointer bs0, .bool true] w R := by
  refine sh285_ok _ _ ?_
  unfold sh285
  refine ⟨⟨ifB_t rfl ?_⟩⟩
  have e0 := ext_alloc w (.cells #[.pointer bs0] 65)
  have hb := blk_alloc w #[.pointer bs0] 65
  generalize w.alloc (.cells #[.pointer bs0] 65) = w1 at *
  refine do_st3 (blk_alloc w1 _ _) fun w2 h2 g2 => ?_
  have e2 : Ext w1 w2 := (ext_alloc w1 _).st g2 (Nat.le_refl _)
  exact ⟨_, _, _, h2.cell (i := 0) (add_blk _ _) rfl, _, _, _, h2.cell (i := 1) (add_blk _ _) rfl, _, _, _, h2.cell (i := 2) (add_blk _ _) rfl, h _ _ (e0.trans e2) (hb.ext e2) (Nat.le_refl _)⟩
/-- the join of a way towards the last item -/
theorem do_tojoin {c : Int} {b bs : Nat} {l r : Tr} {k v g : Int} {pl pr : Option Addr} {w : World} {R : Ending → World → Prop} (hb : Blk w bs #[.pointer (some (blk b))] 65) (hs : IsSch c b w) (hl : IsN w pl l) (hr : IsN w pr r) (okl : OkP c l) (okr : OkP c r) (hB : l.size + r.size + 5 ≤ BIG)
    (h : ∀ q w', Gs b w w' → IsSch c b w' → IsN w' q (joinC c l (k, v, g) r) → R (.returned (.pointer q)) w') : doCall Tryz.prog (.func (.func 335) #[] #[.pointer (some (blk bs))]) #[.pointer pr, .agg #[.int .i64 k, .int .i64 v, .int .u64 g], .pointer pl] w R := by
  refine do_callc Tryz.call335 (by rfl) (sh335_ok _ _ _ _ _ _ ?_)
  unfold sh335
  have e0 := ext_alloc w (.cells #[.int .i64 k, .int .i64 v, .int .u64 g] 133)
  have hx := blk_alloc w #[.int .i64 k, .int .i64 v, .int .u64 g] 133
  refine ⟨_, (hb.ext e0).cell (i := 0) rfl rfl, _, hx.cell (i := 0) (add_blk _ _) rfl, _, hx.cell (i := 1) (add_blk _ _) rfl, _, hx.cell (i := 2) (add_blk _ _) rfl, ?_⟩
  exact do_call Tryz.call145 (c_sjoin (hs.ext e0) (hl.ext e0) (hr.ext e0) okl okr hB fun q w1 g1 hs1 h1 => retS_ret ⟨_, rfl, h _ _ ((gs_of e0).trans g1) hs1 h1⟩)
theorem lastC_p {c : Int} : ∀ {t : Tr}, t.nn = true → OkP c t → OkM c (lastC c t).1 ∧ (lastC c t).1.size + 1 = t.size := fun {t} hn ok => by
  have := lastC_ok hn ok
  refine ⟨this.1, ?_⟩
  have e := congrArg List.length this.2
  simp only [itsC_len, List.length_append, List.length_cons, List.length_nil] at e
  omega
theorem lastC_eq {c : Int} {t : Tr} (hn : t.nn = true) (hr : t.right.nn = true) : lastC c t = (joinC c t.left (rootC c t) (lastC c t.right).1, (lastC c t.right).2) := by
  cases t with
  | nil => cases hn
  | node l k v g r =>
    cases r with
    | nil => cases hr
    | node a b d e f => rfl
theorem lastC_eq0 {c : Int} {t : Tr} (hn : t.nn = true) (hr : t.right.nn = false) : lastC c t = (wholeC c t.left, rootC c t) := by
  cases t with
  | nil => cases hn
  | node l k v g r =>
    cases r with
    | nil => rfl
    | node a b d e f => cases hr
theorem OkP.lr {c : Int} {t : Tr} (h : OkP c t) : OkP c t.left ∧ OkP c t.right := by
  cases t with
  | nil => exact ⟨h, h⟩
  | node l k v g r => exact h.sides
set_option maxRecDepth 20000 in
theorem c_end {c : Int} {b bs : Nat} (nbs : bs ≠ b) : ∀ (n : Nat) (t : Tr) {p : Option Addr} {w : World} {R : Ending → World → Prop} (_hn : t.size ≤ n) (_hnn : t.nn = true) (_hs : IsSch c b w) (_hb : Blk w bs #[.pointer (some (blk b))] 65) (_ht : IsN w p t) (_ok : OkP c t) (_hB : t.size + 6 ≤ BIG)
    (_h : ∀ q w', Gs b w w' → IsSch c b w' → IsN w' q (lastC c t).1 → R (.returned (.tuple #[.pointer q, agI (lastC c t).2])) w'), Calls Tryz.prog 284 #[.pointer (some (blk b)), .agg (toA bs), .pointer p] w R := fun n => by
  induction n with
  | zero => intro t p w R hn hnn; rw [Tr.nn_size] at hnn; have := of_decide_eq_true hnn; omega
  | succ n ih =>
    intro t p w R hn hnn hs hb ht ok hB h
    refine sh284_ok _ _ _ _ _ _ _ _ _ _ _ ?_
    unfold sh284
    refine ⟨⟨?_⟩⟩
    have hlt := hs.lt
    have hsz := size_nn hnn
    have okk := ok.lr
    have e0 := ext_alloc w (.cells (toA bs) 332)
    have hw := blk_alloc w (toA bs) 332
    generalize hbw : w.heap.size = bw at *
    generalize w.alloc (.cells (toA bs) 332) = w1 at *
    have e1 := ext_alloc w1 (.cells #[.int .i64 0, .int .i64 0, .int .u64 0] 133)
    have hx := blk_alloc w1 #[.int .i64 0, .int .i64 0, .int .u64 0] 133
    have hwl := hw.lt
    generalize hbx : w1.heap.size = bx at *
    generalize w1.alloc (.cells #[.int .i64 0, .int .i64 0, .int .u64 0] 133) = w2 at *
    have hw := hw.ext e1
    have E := e0.trans e1
    have nbw : bw ≠ b := by omega
    have nbx : bx ≠ b := by omega
    have nwx : bw ≠ bx := by omega
    have hxl := hx.lt
    have hs2 := hs.ext E
    have ht2 := ht.ext E
    refine ⟨_, _, _, hw.cell (i := 0) (add_blk _ _) rfl, do_call Tryz.call130 (c_right ht2 fun q3 h3 => retS_ret ⟨_, rfl, ifB_intro (fun hno => ?_) fun hno => ?_⟩)⟩
    · have hrn : t.right.nn = false := by rw [h3.isNone] at hno; simpa using hno
      rw [lastC_eq0 hnn hrn] at h
      refine ⟨_, _, _, hw.cell (i := 1) (add_blk _ _) rfl, do_call Tryz.call128 (c_left ht2 fun q4 h4 => retS_ret ⟨_, rfl, ?_⟩)⟩
      refine do_call Tryz.call72 (c_swhole hs2 h4 okk.1 (by omega) fun q5 w5 g5 hs5 h5 => retS_ret ⟨_, rfl, ?_⟩)
      have gt5 := (gs_of E).trans g5
      refine do_call Tryz.call144 (c_sitem hs5 (ht.gs hs gt5) fun w6 g6 hs6 => retS_ret ⟨_, _, _, rfl, ?_⟩)
      have hx6 := (hx.gs g5 nbx).gs g6 nbx
      refine do_st3 hx6 fun w7 hx7 g7 => ?_
      exact ⟨_, hx7.cell (i := 0) (add_blk _ _) rfl, _, hx7.cell (i := 1) (add_blk _ _) rfl, _, hx7.cell (i := 2) (add_blk _ _) rfl, h _ _ ((gt5.trans g6).st g7 (by omega)) (hs6.st g7 nbx) ((h5.gs hs5 g6).st g7 hx6 (by decide))⟩
    · have hrn : t.right.nn = true := by rw [h3.isNone] at hno; simpa using hno
      rw [lastC_eq hnn hrn] at h
      have lp := lastC_p hrn okk.2
      have lok := lastC_ok hrn okk.2
      intro K45
      have hK45 : ∀ (qr : Option Addr) (by' : Nat) w3, Gs b w w3 → IsSch c b w3 → Blk w3 bw (toA bs) 332 → Blk w3 bx #[.int .i64 0, .int .i64 0, .int .u64 0] 133 → Blk w3 by' #[.int .i64 (lastC c t.right).2.1, .int .i64 (lastC c t.right).2.2.1, .int .u64 (lastC c t.right).2.2.2] 133 → by' ≠ b → by' ≠ bx →
          Blk w3 bs #[.pointer (some (blk b))] 65 → IsN w3 qr (lastC c t.right).1 → K45 qr (blk by') w3 := by
        intro qr by' w3 g3 hs3 hw3 hx3 hy3 nby nyx hb3 hq3
        have d := ext_drew w3
        have gt := g3.trans (gs_of d)
        have hsd := hs3.ext d
        refine ⟨⟨fun w' => Blk w' bw (toA bs) 332 ∧ Blk w' by' #[.int .i64 (lastC c t.right).2.1, .int .i64 (lastC c t.right).2.2.1, .int .u64 (lastC c t.right).2.2.2] 133, ⟨hw3, hy3⟩, _, _, _, fun w' e => e.1.cell (i := 2) (add_blk _ _) rfl, _, _, _, fun w' e => e.1.cell (i := 1) (add_blk _ _) rfl, _, fun w' e => e.2.cell (i := 0) (add_blk _ _) rfl, _, fun w' e => e.2.cell (i := 1) (add_blk _ _) rfl, _, fun w' e => e.2.cell (i := 2) (add_blk _ _) rfl, ?_⟩⟩
        refine do_call Tryz.call144 (c_sitem hsd (ht.gs hs gt) fun w4 g4 hs4 => retS_ret ⟨_, _, _, rfl, ⟨(hw3.ext d).gs g4 nbw, (hy3.ext d).gs g4 nby⟩, ?_⟩)
        have gt4 := gt.trans g4
        refine do_call Tryz.call128 (c_left (ht.gs hs gt4) fun q5 h5 => retS_ret ⟨_, rfl, ⟨(hw3.ext d).gs g4 nbw, (hy3.ext d).gs g4 nby⟩, ?_⟩)
        refine do_tojoin ((hb3.ext d).gs g4 nbs) hs4 h5 ((hq3.ext d).gs hsd g4) okk.1 lp.1.1 (by omega) fun q6 w6 g6 hs6 h6 => retS_ret ⟨_, rfl, ⟨((hw3.ext d).gs g4 nbw).gs g6 nbw, ((hy3.ext d).gs g4 nby).gs g6 nby⟩, ?_⟩
        have hx6 := ((hx3.ext d).gs g4 nbx).gs g6 nbx
        refine do_st3 hx6 fun w7 hx7 g7 => ?_
        exact ⟨_, hx7.cell (i := 0) (add_blk _ _) rfl, _, hx7.cell (i := 1) (add_blk _ _) rfl, _, hx7.cell (i := 2) (add_blk _ _) rfl, h _ _ ((gt4.trans g6).st g7 (by omega)) (hs6.st g7 nbx) (h6.st g7 hx6 (by decide))⟩
      have hb2 := hb.ext E
      have d := ext_drew w2
      refine ⟨⟨fun w' => Blk w' bw (toA bs) 332, hw, _, _, _, fun w' e => e.cell (i := 0) (add_blk _ _) rfl, _, _, _, fun w' e => e.cell (i := 1) (add_blk _ _) rfl, _, _, _, fun w' e => e.cell (i := 2) (add_blk _ _) rfl, _, _, _, fun w' e => e.cell (i := 0) (add_blk _ _) rfl, ?_, ?_⟩⟩
      · refine do_call Tryz.call130 (c_right (ht2.ext d) fun q4 h4 => retS_ret ⟨_, rfl, hw, ?_, ?_⟩)
        · refine do_call Tryz.call284 (ih t.right (by omega) hrn (hs2.ext d) (hb2.ext d) h4 okk.2 (by omega) fun q5 w5 g5 hs5 h5 => retS_ret ⟨_, _, _, _, rfl, (hw.ext d).gs g5 nbw, ⟨?_⟩⟩)
          have e6 := ext_alloc w5 (.cells #[.int .i64 0, .int .i64 0, .int .u64 0] 133)
          have hw6 := ((hw.ext d).gs g5 nbw).ext e6
          have hx6 := ((hx.ext d).gs g5 nbx).ext e6
          have hb6 := ((hb2.ext d).gs g5 nbs).ext e6
          refine ⟨hw6, do_st3 (blk_alloc w5 _ _) fun w7 hy7 g7 => ?_⟩
          have l5 := World.grownBy.size g5
          have l5 : w2.heap.size ≤ w5.heap.size := l5
          have hbsl := hb2.lt
          have hblt := hs2.lt
          exact hK45 _ _ _ ((((gs_of (E.trans d)).trans g5).trans (gs_of e6)).st g7 (by omega)) ((hs5.ext e6).st g7 (by omega)) (hw6.grown g7 (ne_some (by omega))) (hx6.grown g7 (ne_some (by omega))) hy7 (by omega) (by omega) (hb6.grown g7 (ne_some (by omega))) ((h5.ext e6).st g7 (blk_alloc w5 _ _) (by decide))
        · have e6 := ext_alloc w2.drew (.cells #[.int .i64 0, .int .i64 0, .int .u64 0] 133)
          have hy6 := blk_alloc w2.drew #[.int .i64 0, .int .i64 0, .int .u64 0] 133
          refine ⟨(hw.ext d).ext e6, ?_⟩
          have hbsl := hb2.lt
          have hblt := hs2.lt
          have hys : w2.drew.heap.size = w2.heap.size := rfl
          refine do_call Tryz.call284 (ih t.right (by omega) hrn ((hs2.ext d).ext e6) ((hb2.ext d).ext e6) (h4.ext e6) okk.2 (by omega) fun q5 w5 g5 hs5 h5 => retS_ret ⟨_, _, _, _, rfl, ((hw.ext d).ext e6).gs g5 nbw, ?_⟩)
          have hy5 := hy6.gs g5 (by omega)
          refine do_st3 hy5 fun w7 hy7 g7 => ?_
          exact hK45 _ _ _ (((gs_of ((E.trans d).trans e6)).trans g5).st g7 (by omega)) (hs5.st g7 (by omega)) ((((hw.ext d).ext e6).gs g5 nbw).grown g7 (ne_some (by omega))) ((((hx.ext d).ext e6).gs g5 nbx).grown g7 (ne_some (by omega))) hy7 (by omega) (by omega) ((((hb2.ext d).ext e6).gs g5 nbs).grown g7 (ne_some (by omega))) (h5.st g7 hy5 (by decide))
      · have e6 := ext_alloc w2.drew (.cells #[.int .i64 0, .int .i64 0, .int .u64 0] 133)
        have hy6 := blk_alloc w2.drew #[.int .i64 0, .int .i64 0, .int .u64 0] 133
        refine ⟨(hw.ext d).ext e6, ?_⟩
        have hbsl := hb2.lt
        have hblt := hs2.lt
        have hys : w2.drew.heap.size = w2.heap.size := rfl
        refine do_call Tryz.call130 (c_right ((ht2.ext d).ext e6) fun q4 h4 => retS_ret ⟨_, rfl, (hw.ext d).ext e6, ?_⟩)
        refine do_call Tryz.call284 (ih t.right (by omega) hrn ((hs2.ext d).ext e6) ((hb2.ext d).ext e6) h4 okk.2 (by omega) fun q5 w5 g5 hs5 h5 => retS_ret ⟨_, _, _, _, rfl, ((hw.ext d).ext e6).gs g5 nbw, ?_⟩)
        have hy5 := hy6.gs g5 (by omega)
        refine do_st3 hy5 fun w7 hy7 g7 => ?_
        exact hK45 _ _ _ (((gs_of ((E.trans d).trans e6)).trans g5).st g7 (by omega)) (hs5.st g7 (by omega)) ((((hw.ext d).ext e6).gs g5 nbw).grown g7 (ne_some (by omega))) ((((hx.ext d).ext e6).gs g5 nbx).grown g7 (ne_some (by omega))) hy7 (by omega) (by omega) ((((hb2.ext d).ext e6).gs g5 nbs).grown g7 (ne_some (by omega))) (h5.st g7 hy5 (by decide))
end Go.Proofs.YtlfjaogbehpleaaGreat

namespace Go.Proofs.YtlfjaogbehpleaaGreat
open Go Go.Sh Go.RowKit

set_option maxRecDepth 20000 in
theorem c_last {c : Int} {b : Nat} {t : Tr} {p : Option Addr} {w : World} {R : Ending → World → Prop} (hs : IsSch c b w) (ht : IsN w p t) (ok : OkP c t) (hB : t.size + 6 ≤ BIG)
    (h : ∀ q w', Gs b w w' → IsSch c b w' → IsN w' q (lastC c t).1 → R (.returned (.tuple #[.pointer q, agI (lastC c t).2, .bool t.nn])) w') : Calls Tryz.prog 226 #[.pointer (some (blk b)), .pointer p] w R := by
  refine sh226_ok _ _ ?_
  unfold sh226
  refine ⟨?_⟩
  have e0 := ext_alloc w (.cells #[.int .i64 0, .int .i64 0, .int .u64 0] 133)
  have hx := blk_alloc w #[.int .i64 0, .int .i64 0, .int .u64 0] 133
  have hlt := hs.lt
  generalize hbx : w.heap.size = bx at *
  generalize w.alloc (.cells #[.int .i64 0, .int .i64 0, .int .u64 0] 133) = w1 at *
  have nbx : bx ≠ b := by omega
  have hxl := hx.lt
  have hs1 := hs.ext e0
  intro K7
  refine ifB_f rfl ?_
  rw [ht.isNone]
  cases hn : t.nn with
  | false =>
    rw [hn] at h
    obtain rfl := Tr.size0 hn
    refine ifB_t rfl (do_st3 hx fun w2 hx2 g2 => ?_)
    exact ⟨_, hx2.cell (i := 0) (add_blk _ _) rfl, _, hx2.cell (i := 1) (add_blk _ _) rfl, _, hx2.cell (i := 2) (add_blk _ _) rfl, h _ _ ((gs_of e0).st g2 (by omega)) (hs1.st g2 nbx) rfl⟩
  | true =>
    rw [hn] at h
    refine ifB_f rfl (do_call Tryz.call285 (c_to fun bs w2 e2 hb2 lbs => retS_ret ⟨_, _, _, _, _, _, _, _, _, rfl, ?_⟩))
    have E2 := e0.trans e2
    have nbs : bs ≠ b := by omega
    refine do_call Tryz.call284 (c_end nbs t.size t (Nat.le_refl _) hn (hs.ext E2) hb2 (ht.ext E2) ok hB fun q w3 g3 hs3 h3 => retS_ret ⟨_, _, _, _, rfl, ?_⟩)
    have hx3 := (hx.ext e2).gs g3 nbx
    have gt3 := (gs_of E2).trans g3
    refine do_st3 hx3 fun w4 hx4 g4 => ?_
    have gt4 := gt3.st g4 (by omega)
    have hs4 := hs3.st g4 nbx
    have h4 := h3.st g4 hx3 (by decide)
    have d := ext_drew w4
    refine ⟨⟨fun w' => Blk w' bx _ _, hx4, _, fun w' e => e.cell (i := 0) (add_blk _ _) rfl, _, fun w' e => e.cell (i := 1) (add_blk _ _) rfl, _, fun w' e => e.cell (i := 2) (add_blk _ _) rfl, ?_⟩⟩
    refine do_re3 (x := (lastC c t).2) (hx4.ext d) (w0 := w) (by omega) nbx (gt4.trans (gs_of d)) (hs4.ext d) fun w5 hx5 g5 gs5 hs5 => ?_
    exact ⟨_, hx5.cell (i := 0) (add_blk _ _) rfl, _, hx5.cell (i := 1) (add_blk _ _) rfl, _, hx5.cell (i := 2) (add_blk _ _) rfl, h _ _ gs5 hs5 ((h4.ext d).st g5 (hx4.ext d) (by decide))⟩
set_option maxRecDepth 20000 in
theorem c_join2 {c : Int} {b : Nat} {l r : Tr} {pl pr : Option Addr} {w : World} {R : Ending → World → Prop} (hs : IsSch c b w) (hl : IsN w pl l) (hr : IsN w pr r) (okl : OkP c l) (okr : OkP c r) (hB : l.size + r.size + 6 ≤ BIG)
    (h : ∀ q w', Gs b w w' → IsSch c b w' → IsN w' q (join2C c l r) → R (.returned (.pointer q)) w') : Calls Tryz.prog 146 #[.pointer (some (blk b)), .pointer pl, .pointer pr] w R := by
  refine sh146_ok _ _ _ ?_
  unfold sh146
  refine do_call Tryz.call226 (c_last hs hl okl (by omega) fun q w1 g1 hs1 h1 => retS_ret ⟨_, _, _, _, _, rfl, ⟨?_⟩⟩)
  have e2 := ext_alloc w1 (.cells #[.int .i64 0, .int .i64 0, .int .u64 0] 133)
  have hlt := hs1.lt
  have nbx : w1.heap.size ≠ b := by omega
  have l1 := World.grownBy.size g1
  refine do_st3 (blk_alloc w1 _ _) fun w3 hx3 g3 => ?_
  have e3 : Ext w1 w3 := e2.st g3 (Nat.le_refl _)
  have gt3 : Gs b w w3 := g1.trans (gs_of e3)
  have hs3 := hs1.ext e3
  have h3 := h1.ext e3
  have hr3 := hr.gs hs gt3
  unfold join2C at h
  cases hn : l.nn with
  | false =>
    rw [hn, if_neg (by simp)] at h
    exact ifB_t rfl (do_call Tryz.call72 (c_swhole hs3 hr3 okr (by omega) fun q4 w4 g4 hs4 h4 => retS_ret ⟨_, rfl, h _ _ (gt3.trans g4) hs4 h4⟩))
  | true =>
    rw [hn, if_pos rfl] at h
    have lp := lastC_p hn okl
    refine ifB_f rfl ⟨_, hx3.cell (i := 0) (add_blk _ _) rfl, _, hx3.cell (i := 1) (add_blk _ _) rfl, _, hx3.cell (i := 2) (add_blk _ _) rfl, ?_⟩
    exact do_call Tryz.call145 (c_sjoin hs3 h3 hr3 lp.1.1 okr (by omega) fun q4 w4 g4 hs4 h4 => retS_ret ⟨_, rfl, h _ _ (gt3.trans g4) hs4 h4⟩)
/-! ### what is ahead, and behind -/
/-! ### plain: what they have -/
end Go.Proofs.YtlfjaogbehpleaaGreat

namespace Go.Proofs.YtlfjaogbehpleaaGreat
open Go Go.Sh Go.RowKit

theorem wrap_add (a b : Int) : IntKind.wrap .i64 (IntKind.wrap .i64 a + b) = IntKind.wrap .i64 (a + b) := by
  simp only [IntKind.wrap, IntKind.signed, IntKind.bits]
  simp
  omega
/-! ### items -/
def ecI (x : It) : List Value := [.int .i64 x.1, .int .i64 x.2.1, .int .u64 x.2.2]
theorem ecI_len (x : It) : (ecI x).length = 3 := rfl
abbrev its (l : List It) : List Value := l.flatMap ecI
theorem its_length (l : List It) : (its l).length = l.length * 3 := flat_length ecI_len l
theorem its_append (l r : List It) : its (l ++ r) = its l ++ its r := List.flatMap_append
theorem its_one {l : List It} : ∀ u ∈ its l, u.oneCell' = true := fun u hu => by
  simp only [List.mem_flatMap] at hu
  obtain ⟨x, _, hx⟩ := hu
  simp [ecI] at hx
  rcases hx with rfl | rfl | rfl <;> rfl
/-- the keys of a tree of beads rise -/
theorem pairs_its {c : Int} (t : Tr) : t.pairs.map (·.1) = (itsC c t).map (·.1) := by
  rw [items_pairs, itsC, List.map_map, List.map_map]
  apply List.map_congr_left
  intro x _
  simp [itC_key]
end Go.Proofs.YtlfjaogbehpleaaGreat

namespace Go.Proofs.YtlfjaogbehpleaaGreat
open Go Go.Sh Go.RowKit

/-! ### the nodes, one by one -/
end Go.Proofs.YtlfjaogbehpleaaGreat

namespace Go.Proofs.YtlfjaogbehpleaaGreat
open Go Go.Sh Go.RowKit

/-! ### the nodes, one by one -/
end Go.Proofs.YtlfjaogbehpleaaGreat

namespace Go.Proofs.YtlfjaogbehpleaaGreat
open Go Go.Sh Go.RowKit

/-- what lies above is kept -/
def KP (d : Nat) (w w' : World) : Prop := ∀ b cs ty, d < b → Blk w b cs ty → Blk w' b cs ty
theorem KP.trans {d : Nat} {x y z : World} (h : KP d x y) (k : KP d y z) : KP d x z := fun b cs ty hb q => k b cs ty hb (h b cs ty hb q)
theorem KP.of {d : Nat} {w w' : World} (e : Ext w w') : KP d w w' := fun _ _ _ _ q => q.ext e
/-- a bound that lets keys through -/
def MayB (J : Nat → World → Prop) (d : Nat) (w : World) (P : Int → Prop) (f : Fn) (xs cs : Array Value) : Prop :=
  ∀ n w' key (K : Ending → World → Prop), KP d w w' → J n w' → In key → P key → (∀ w'', Ext w' w'' → K (.returned (.bool true)) w'') → doCall Tryz.prog (.func f xs cs) #[.int .i64 key] w' K
theorem MayB.kp {J : Nat → World → Prop} {d : Nat} {w w1 : World} {P : Int → Prop} {f : Fn} {xs cs : Array Value} (h : MayB J d w P f xs cs) (k : KP d w w1) : MayB J d w1 P f xs cs := fun n w' key K q j hk hp hK => h n w' key K (k.trans q) j hk hp hK
section
variable {J : Nat → World → Prop} {d bo : Nat} {o : Int} {w0 : World}
theorem mayB_left (hJe : ∀ n w, J n w → Ext w0 w) (hJx : ∀ n w w', J n w → Ext w w' → J n w') (hJo : ∀ n w, J n w → Blk w bo #[.int .u8 o] 5) {w : World} {P : Int → Prop} {f : Fn} {xs cs : Array Value} {b8 b10 : Nat} {p : Option Addr} {l r : Tr} {k v g : Int} (h8 : d < b8) (h10 : d < b10)
    (hM : MayB J d w P f xs cs) (hb8 : Blk w b8 #[.pointer p] 68) (hb10 : Blk w b10 #[.func f xs cs] 320) (ht : IsN w0 p (.node l k v g r)) (hk : In k) :
    MayB J d w (fun x => P x ∧ cmpI o x k < 0) (.func 270) #[] #[.pointer (some (blk b10)), .pointer (some (blk bo)), .pointer (some (blk b8))] := by
  intro n w' key K hkp hj hkey hp hK
  refine do_callc Tryz.call270 (by rfl) (sh270_ok _ _ _ _ ?_)
  unfold sh270
  intro K7
  have dr := ext_drew w'
  have hb8' := hkp _ _ _ h8 hb8
  have hb10' := hkp _ _ _ h10 hb10
  have hbo := hJo _ _ hj
  refine ⟨⟨fun w'' => Ext w' w'', dr, _, _, _, fun w'' e => (hb10'.ext e).cell (i := 0) rfl rfl, ?_⟩⟩
  refine hM n _ key _ (hkp.trans (.of dr)) (hJx _ _ _ hj dr) hkey hp.1 fun w1 e1 => retS_ret ⟨_, rfl, dr.trans e1, ?_⟩
  refine ifB_t rfl ⟨_, fun w'' e => (hbo.ext e).cell (i := 0) rfl rfl, _, fun w'' e => (hb8'.ext e).cell (i := 0) rfl rfl, ?_⟩
  have E1 := dr.trans e1
  refine do_call Tryz.call131 (c_key (ht.ext ((hJe _ _ hj).trans E1)) fun w2 e2 => retS_ret ⟨_, rfl, E1.trans e2, ?_⟩)
  refine do_call Tryz.call64 (c_compare hkey hk fun w3 e3 => retS_ret ⟨_, rfl, (E1.trans e2).trans e3, ?_⟩)
  have : decide (cmpI o key (Tr.node l k v g r).key < 0) = true := decide_eq_true hp.2
  simp -zeta -zetaHave only [K7]
  have hh := hK _ ((E1.trans e2).trans e3)
  rw [← this] at hh
  exact hh
theorem mayB_right (hJe : ∀ n w, J n w → Ext w0 w) (hJx : ∀ n w w', J n w → Ext w w' → J n w') (hJo : ∀ n w, J n w → Blk w bo #[.int .u8 o] 5) {w : World} {P : Int → Prop} {f : Fn} {xs cs : Array Value} {b8 b10 : Nat} {p : Option Addr} {l r : Tr} {k v g : Int} (h8 : d < b8) (h10 : d < b10)
    (hM : MayB J d w P f xs cs) (hb8 : Blk w b8 #[.pointer p] 68) (hb10 : Blk w b10 #[.func f xs cs] 320) (ht : IsN w0 p (.node l k v g r)) (hk : In k) :
    MayB J d w (fun x => P x ∧ 0 < cmpI o x k) (.func 271) #[] #[.pointer (some (blk b10)), .pointer (some (blk bo)), .pointer (some (blk b8))] := by
  intro n w' key K hkp hj hkey hp hK
  refine do_callc Tryz.call271 (by rfl) (sh271_ok _ _ _ _ ?_)
  unfold sh271
  intro K7
  have dr := ext_drew w'
  have hb8' := hkp _ _ _ h8 hb8
  have hb10' := hkp _ _ _ h10 hb10
  have hbo := hJo _ _ hj
  refine ⟨⟨fun w'' => Ext w' w'', dr, _, _, _, fun w'' e => (hb10'.ext e).cell (i := 0) rfl rfl, ?_⟩⟩
  refine hM n _ key _ (hkp.trans (.of dr)) (hJx _ _ _ hj dr) hkey hp.1 fun w1 e1 => retS_ret ⟨_, rfl, dr.trans e1, ?_⟩
  refine ifB_t rfl ⟨_, fun w'' e => (hbo.ext e).cell (i := 0) rfl rfl, _, fun w'' e => (hb8'.ext e).cell (i := 0) rfl rfl, ?_⟩
  have E1 := dr.trans e1
  refine do_call Tryz.call131 (c_key (ht.ext ((hJe _ _ hj).trans E1)) fun w2 e2 => retS_ret ⟨_, rfl, E1.trans e2, ?_⟩)
  refine do_call Tryz.call64 (c_compare hkey hk fun w3 e3 => retS_ret ⟨_, rfl, (E1.trans e2).trans e3, ?_⟩)
  have : decide (cmpI o key (Tr.node l k v g r).key > 0) = true := decide_eq_true hp.2
  simp -zeta -zetaHave only [K7]
  have hh := hK _ ((E1.trans e2).trans e3)
  rw [← this] at hh
  exact hh
abbrev onS (bo b5 b7 : Nat) : Value := .func (.func 269) #[] #[.pointer (some (blk bo)), .pointer (some (blk b5)), .pointer (some (blk b7))]
set_option maxRecDepth 20000 in
set_option maxHeartbeats 1600000 in
theorem do_onS {c : Int} {Y1 : Fn} {Y2 Y3 : Array Value} {b5 b7 : Nat} {T5 T7 : TypeId} (hd5 : d < b5) (hd7 : d < b7) (hJd : ∀ n w, J n w → d < w.heap.size) (hJe : ∀ n w, J n w → Ext w0 w) (hJx : ∀ n w w', J n w → Ext w w' → J n w') (hJo : ∀ n w, J n w → Blk w bo #[.int .u8 o] 5)
    (hY : ∀ n q w (K : Ending → World → Prop), J n w → (∀ w', J (n + 1) w' → KP d w w' → K (.returned (.bool true)) w') → doCall Tryz.prog (.func Y1 Y2 Y3) #[.pointer q, .bool false] w K) :
    ∀ (t : Tr) {p : Option Addr} {n : Nat} {w : World} {P : Int → Prop} {f : Fn} {xs cs : Array Value} {K : Ending → World → Prop} (_ht : IsN w0 p t) (_ha : asc o (itsC c t)) (_hk : InK t) (_hP : ∀ x ∈ itsC c t, P x.1) (_hM : MayB J d w P f xs cs) (_hj : J n w)
      (_h5 : Blk w b5 #[.func Y1 Y2 Y3] T5) (_h7 : Blk w b7 #[onS bo b5 b7] T7) (_h : ∀ w', J (n + t.size) w' → KP d w w' → K (.returned (.bool true)) w'), doCall Tryz.prog (onS bo b5 b7) #[.pointer p, .func f xs cs] w K
  | t, p, n, w, P, f, xs, cs, K, ht, ha, hk, hP, hM, hj, h5, h7, h => by
    refine do_callc Tryz.call269 (by rfl) (sh269_ok _ _ _ _ _ _ _ ?_)
    unfold sh269
    refine ⟨⟨?_⟩⟩
    have e1 := ext_alloc w (.cells #[.pointer p] 68)
    have h8 := blk_alloc w #[.pointer p] 68
    have d8 := hJd _ _ hj
    generalize w.heap.size = b8 at *
    generalize w.alloc (.cells #[.pointer p] 68) = w1 at *
    have e2 := ext_alloc w1 (.cells #[.func f xs cs] 320)
    have h10 := blk_alloc w1 #[.func f xs cs] 320
    have d10 : d < w1.heap.size := by have := h8.lt; omega
    generalize w1.heap.size = b10 at *
    generalize w1.alloc (.cells #[.func f xs cs] 320) = w2 at *
    have E2 := e1.trans e2
    have h82 := h8.ext e2
    have h52 := h5.ext E2
    have h72 := h7.ext E2
    have hj2 := hJx _ _ _ hj E2
    have hM2 := hM.kp (.of E2)
    refine ⟨_, h82.cell (i := 0) rfl rfl, ?_⟩
    rw [ht.isNone]
    match t, ht, ha, hk, hP, h with
    | .nil, ht, ha, hk, hP, h => exact ifB_t rfl (h _ hj2 (.of E2))
    | .node l k v g r, ht, ha, hk, hP, h =>
      refine ifB_f rfl ?_
      intro K15
      have e : (Tr.node l k v g r).size = l.size + 1 + r.size := rfl
      obtain ⟨al, ar, bl, br⟩ := asc_node ha
      obtain ⟨kl, kk, kr⟩ := hk
      have hPk : P k := by
        have := hP (itC c (k, v, g)) (by rw [itsC_node]; simp)
        rw [itC_key] at this
        exact this
      have dr := ext_drew w2
      have hC : ∀ w', KP d w2 w' → Blk w' b5 #[.func Y1 Y2 Y3] T5 ∧ Blk w' b8 #[.pointer p] 68 ∧ Blk w' b10 #[.func f xs cs] 320 ∧ Blk w' b7 #[onS bo b5 b7] T7 := fun w' q => ⟨q _ _ _ hd5 h52, q _ _ _ d8 h82, q _ _ _ d10 h10, q _ _ _ hd7 h72⟩
      have hj3 := hJx _ _ _ hj2 dr
      refine ⟨⟨fun w' => KP d w2 w', .of dr, _, _, _, fun w' q => (hC w' q).1.cell (i := 0) rfl rfl, _, fun w' q => (hC w' q).2.1.cell (i := 0) rfl rfl, _, _, _, fun w' q => (hC w' q).2.2.1.cell (i := 0) rfl rfl, _, fun w' q => (hC w' q).2.1.cell (i := 0) rfl rfl, ?_⟩⟩
      refine do_call Tryz.call131 (c_key (ht.ext (hJe _ _ hj3)) fun w4 e4 => retS_ret ⟨_, rfl, .of (dr.trans e4), ?_⟩)
      have hj4 := hJx _ _ _ hj3 e4
      refine hM2 n _ k _ (.of (dr.trans e4)) hj4 kk hPk fun w5 e5 => retS_ret ⟨_, rfl, .of ((dr.trans e4).trans e5), ?_⟩
      have hj5 := hJx _ _ _ hj4 e5
      refine hY n p _ _ hj5 fun w6 hj6 k6 => retS_ret ⟨_, rfl, ?_⟩
      have q6 : KP d w2 w6 := (KP.of ((dr.trans e4).trans e5)).trans k6
      refine ⟨q6, ifB_t rfl ⟨_, _, _, fun w' q => (hC w' q).2.2.2.cell (i := 0) rfl rfl, _, fun w' q => (hC w' q).2.1.cell (i := 0) rfl rfl, ?_⟩⟩
      refine do_call Tryz.call128 (c_left0 ht (hJe _ _ hj6) fun pl hpl => retS_ret ⟨_, rfl, q6, ?_⟩)
      have ML := mayB_left hJe hJx hJo d8 d10 (hM2.kp q6) (hC w6 q6).2.1 (hC w6 q6).2.2.1 ht kk
      refine do_onS hd5 hd7 hJd hJe hJx hJo hY l hpl al kl (fun x hx => ⟨hP x (by rw [itsC_node]; simp [hx]), bl x hx⟩) ML hj6 (hC w6 q6).1 (hC w6 q6).2.2.2 fun w7 hj7 k7 => retS_ret ⟨_, rfl, q6.trans k7, ?_⟩
      have q7 := q6.trans k7
      refine ifB_t rfl ⟨_, _, _, fun w' q => (hC w' q).2.2.2.cell (i := 0) rfl rfl, _, fun w' q => (hC w' q).2.1.cell (i := 0) rfl rfl, ?_⟩
      refine do_call Tryz.call130 (c_right0 ht (hJe _ _ hj7) fun pr hpr => retS_ret ⟨_, rfl, q7, ?_⟩)
      have MR := mayB_right hJe hJx hJo d8 d10 (hM2.kp q7) (hC w7 q7).2.1 (hC w7 q7).2.2.1 ht kk
      refine do_onS hd5 hd7 hJd hJe hJx hJo hY r hpr ar kr (fun x hx => ⟨hP x (by rw [itsC_node]; simp [hx]), cmpI_neg (br x hx)⟩) MR hj7 (hC w7 q7).1 (hC w7 q7).2.2.2 fun w8 hj8 k8 => retS_ret ⟨_, rfl, q7.trans k8, ?_⟩
      rw [show n + 1 + l.size + r.size = n + (Tr.node l k v g r).size by omega] at hj8
      exact h _ hj8 ((KP.of E2).trans (q7.trans k8))
  termination_by t => t.size
  decreasing_by all_goals simp_wf; simp only [Tr.size]; omega
end
end Go.Proofs.YtlfjaogbehpleaaGreat

namespace Go.Proofs.YtlfjaogbehpleaaGreat
open Go Go.Sh Go.RowKit

/-! ### The document's answers -/
end Go.Proofs.YtlfjaogbehpleaaGreat

namespace Go.Proofs.YtlfjaogbehpleaaGreat
open Go Go.Sh Go.RowKit

/-! ### Sort: the row of pairs -/
def sortL (o p : Int) (l : List Pr) : List Pr := l.foldl (fun r x => putR o p r x) []
theorem sortL_snoc (o p : Int) (l : List Pr) (x : Pr) : sortL o p (l ++ [x]) = putR o p (sortL o p l) x := by simp [sortL]
theorem sortL_take {o p : Int} {l : List Pr} {k : Nat} (h : k < l.length) : sortL o p (l.take (k + 1)) = putR o p (sortL o p (l.take k)) l[k] := by
  rw [← List.take_append_getElem h, sortL_snoc]
theorem snoc_ind {α : Type} {P : List α → Prop} (h0 : P []) (h1 : ∀ l x, P l → P (l ++ [x])) (l : List α) : P l := by
  have : ∀ k, k ≤ l.length → P (l.take k) := fun k => by
    induction k with
    | zero => intro _; exact h0
    | succ k ih => intro hk; rw [← List.take_append_getElem (show k < l.length by omega)]; exact h1 _ _ (ih (by omega))
  have := this l.length (Nat.le_refl _)
  rwa [List.take_length] at this
theorem sortL_may {o p : Int} {l : List Pr} (ho : isO o = true) (hp : may p = true) (hI : InP l) : mayR o (sortL o p l) = true ∧ InP (sortL o p l) ∧ (sortL o p l).length ≤ l.length := by
  revert hI
  induction l using snoc_ind with
  | h0 => intro _; exact ⟨by simp [sortL, mayR, ho, chain], (by intro x hx; cases hx), Nat.le_refl _⟩
  | h1 l x ih =>
    intro hI
    obtain ⟨h1, h2, h3⟩ := ih fun y hy => hI y (List.mem_append_left _ hy)
    have hx := hI x (by simp)
    rw [sortL_snoc]
    refine ⟨put_may h1 hp h2 hx.1, put_in h1 hp h2 hx, ?_⟩
    rw [put_len h1 hp]
    simp only [List.length_append, List.length_cons, List.length_nil]
    split <;> omega
/-! ### Shape -/
end Go.Proofs.YtlfjaogbehpleaaGreat

namespace Go.Proofs.YtlfjaogbehpleaaGreat
open Go Go.Sh Go.RowKit

/-- tags that fit -/
def TagB (t : BT) : Prop := ∀ x ∈ t.beads, 0 ≤ x.tag ∧ x.tag < 18446744073709551616
theorem TagB.node {x : Bd} {L R : BT} (h : TagB (.node x L R)) : (0 ≤ x.tag ∧ x.tag < 18446744073709551616) ∧ TagB L ∧ TagB R :=
  ⟨h _ (by simp [BT.beads]), fun y hy => h _ (by simp [BT.beads, hy]), fun y hy => h _ (by simp [BT.beads, hy])⟩
theorem TagB.tag {t : BT} (h : TagB t) : 0 ≤ t.tr.tag ∧ t.tr.tag < 18446744073709551616 := by
  cases t with
  | nil => exact ⟨Int.le_refl _, by decide⟩
  | node x l r => exact h.node.1
/-! ### colours -/
end Go.Proofs.YtlfjaogbehpleaaGreat

namespace Go.Proofs.YtlfjaogbehpleaaGreat
open Go Go.Sh Go.RowKit

/-! ### weights -/
/-! ### tags -/
/-! ### all of them -/
end Go.Proofs.YtlfjaogbehpleaaGreat

namespace Go.Proofs.YtlfjaogbehpleaaGreat
open Go Go.Sh Go.RowKit

set_option maxRecDepth 100000 in
theorem elIt : ElT Tryz.prog 254 133 (.agg #[.int .i64 0, .int .i64 0, .int .u64 0]) 3 24 := ⟨Tryz.underlying254, ⟨_, Tryz.type133, by kernel_rfl, by kernel_rfl, by kernel_rfl⟩, rfl, by omega⟩
abbrev OwnI (w : World) (base : Nat) (p : Option Addr) (n c : Nat) (l : List It) : Prop := w.ownsRow base 133 3 (.slice p n c) n (its l)
theorem ownI_len {w : World} {base n c : Nat} {p : Option Addr} {l : List It} (h : OwnI w base p n c l) : l.length = n := by have := h.1; rw [its_length] at this; omega
theorem ownI_cs {w : World} {base n c : Nat} {p : Option Addr} {l : List It} (h : OwnI w base p n c l) : Cs w p (its l) := Cs.of_row h
theorem ownI_nil (w : World) (base : Nat) : OwnI w base none 0 0 [] := World.ownsRow_nil _ _ _ _
theorem extI_own {a w w' : World} {base n c : Nat} {p : Option Addr} {l : List It} (h : OwnI w base p n c l) (e : Ext a w) (g : w.grownBy w' (Value.slice p n c).ownBlock) (hb : a.heap.size ≤ base) : Ext a w' :=
  e.grown g fun k hk => Nat.le_trans hb (World.ownsRow.lt h k hk).1
theorem cs_it {w : World} {b : Nat} {x : It} {t : TypeId} (h : Blk w b #[.int .i64 x.1, .int .i64 x.2.1, .int .u64 x.2.2] t) : Cs w (some (blk b)) (its [x]) := fun i v hv => by
  refine ⟨_, rfl, ?_⟩
  rw [add_blk]
  match i, hv with
  | 0, hv => cases hv; exact h.cell rfl rfl
  | 1, hv => cases hv; exact h.cell rfl rfl
  | 2, hv => cases hv; exact h.cell rfl rfl
  | i + 3, hv => simp [ecI] at hv
/-! ### See, Same, Is -/
end Go.Proofs.YtlfjaogbehpleaaGreat

namespace Go.Proofs.YtlfjaogbehpleaaGreat
open Go Go.Sh Go.RowKit

/-! ### tags that fit -/
abbrev TagI (l : List It) : Prop := ∀ x ∈ l, 0 ≤ x.2.2 ∧ x.2.2 < 18446744073709551616
/-! ### layer 12 -/
end Go.Proofs.YtlfjaogbehpleaaGreat

namespace Go.Proofs.YtlfjaogbehpleaaGreat
open Go Go.Sh Go.RowKit

/-- append, and where the row then lies -/
theorem do_appI {base : Nat} {v : Value} {n : Nat} {xs : List Value} {w : World}
    (hown : w.ownsRow base 133 3 v n xs) {ad : Addr} {m c : Nat} {news : List Value} (hnews : Cs w (some ad) news) (hl : news.length = m * 3) (h1 : ∀ u ∈ news, u.oneCell' = true) (hm0 : 0 < m)
    (h63 : n + m ≤ maxLen) (hbytes : (n + m) * 24 ≤ 140737488355328) (hbase : base ≤ w.heap.size) {bs : Array Bool} {R : Ending → World → Prop}
    (h : ∀ p c w', w'.ownsRow base 133 3 (.slice p (n + m) c) (n + m) (xs ++ news) → w.grownBy w' v.ownBlock → ((Value.slice p (n + m) c).ownBlock = v.ownBlock ∨ (Value.slice p (n + m) c).ownBlock = some w.heap.size) → R (.returned (.slice p (n + m) c)) w') :
    doGo Tryz.prog (.builtin .append #[254, 254] 254 bs) #[v, .slice (some ad) m c] w R := by
  obtain ⟨i, hi, hz, hsz, hby⟩ := elIt.hi
  have hnews' : ∀ j u, news[j]? = some u → w.cell? (ad.add j) = some u := fun j u hu => by obtain ⟨a, ha, hc⟩ := hnews j u hu; cases ha; exact hc
  obtain ⟨v', w', hr, h2, h3, _⟩ := run_append_own (P := Tryz.prog) w base _ _ _ i _ 3 24 elIt.ht hi hz hsz hby elIt.hz elIt.hs v n xs hown ad m c news hl hnews' h1 h63 hbytes hbase
  obtain ⟨p, c', rfl⟩ := row_slice h2
  refine goV_append hr (h p c' w' h2 h3 ?_)
  have hmax : n + m ≤ 9223372036854775807 := by simp only [maxLen] at h63; omega
  rcases hown.2 with ⟨rfl, rfl⟩ | ⟨g, cap, cur, rfl, hbg, hg, hnc, hcm, hcs, htake⟩
  · have := run_append_nil (P := Tryz.prog) w 254 254 133 i _ elIt.ht hi hz ad m c news (by rw [hsz]; exact hl) hnews' hm0 (by omega) (by rw [hby]; omega)
    rw [this] at hr
    injection hr with hr1 _
    right; rw [← hr1]; rfl
  · by_cases hroom : n + m ≤ cap
    · have := run_append_room (P := Tryz.prog) w 254 254 133 i elIt.ht hi g n cap cur hg ad m c news (by rw [hsz]; exact hl) hnews' h1 hroom (by rw [hl, hcs, hsz, ← Nat.add_mul]; exact Nat.mul_le_mul_right _ hroom)
      rw [this] at hr
      injection hr with hr1 _
      left; rw [← hr1]; rfl
    · have := run_append_grow (P := Tryz.prog) w 254 254 133 i _ elIt.ht hi hz ⟨g, 0, none⟩ n cap xs (by rw [hsz]; exact hown.1) (hown.cells (g := g) rfl) ad m c news (by rw [hsz]; exact hl) hnews' (by omega) (by omega) (growslice_fits (by omega) (by rw [hby]; exact hbytes))
      rw [this] at hr
      injection hr with hr1 _
      right; rw [← hr1]; rfl
/-- one item more to a row of one's own -/
theorem do_app1I {q : Option Addr} {n c base : Nat} {r : List It} {w : World} (hrow : OwnI w base q n c r) (hn : n ≤ 1000000000000) (hb : base ≤ w.heap.size) {x : It} {Kf : Value → World → Prop} {F : List PanicEntry → World → Prop}
    (k : ∀ q' c' w', OwnI w' base q' (n + 1) c' (r ++ [x]) → (∀ w0, Ext w0 w → w0.heap.size ≤ base → Ext w0 w') → w.grownBy w' (Value.slice q n c).ownBlock →
      ((Value.slice q' (n + 1) c').ownBlock = (Value.slice q n c).ownBlock ∨ ∀ k, (Value.slice q' (n + 1) c').ownBlock = some k → w.heap.size ≤ k) → Kf (.slice q' (n + 1) c') w') :
    doAl (.cells #[.int .i64 x.1, .int .i64 x.2.1, .int .u64 x.2.2] 133) w (fun b w2 => doGo Tryz.prog (.builtin .append #[254, 254] 254 #[false, false]) #[.slice q n c, .slice (some (blk b)) 1 1] w2 (retS Kf F)) := by
  refine ⟨?_⟩
  have e1 := ext_alloc w (.cells #[.int .i64 x.1, .int .i64 x.2.1, .int .u64 x.2.2] 133)
  have hrow1 := e1.row hrow
  have hcs : Cs (w.alloc (.cells #[.int .i64 x.1, .int .i64 x.2.1, .int .u64 x.2.2] 133)) (some (blk w.heap.size)) (its [x]) := cs_it (blk_alloc w _ _)
  refine do_appI hrow1 (m := 1) hcs (by rw [its_length]; rfl) its_one (by omega) (by simp only [maxLen]; omega) (by omega) (Nat.le_trans hb e1.size) fun p' c' w' h2 g2 hor => retS_ret (k p' c' w' ?_ ?_ ?_ ?_)
  · show w'.ownsRow _ _ _ _ _ (its _); rw [its_append]; exact h2
  · intro w0 e0 hb0
    exact extI_own hrow1 (e0.trans e1) g2 hb0
  · have ga : w.grownBy (w.alloc (.cells #[.int .i64 x.1, .int .i64 x.2.1, .int .u64 x.2.2] 133)) (Value.slice q n c).ownBlock := World.grownBy_alloc _ _ _
    exact grown_trans ga g2
  · rcases hor with h | h
    · exact .inl h
    · right; intro k hk; rw [h] at hk; cases hk; exact e1.size
/-- two rows of one's own, apart -/
def TwoI (w : World) (base : Nat) (p : Option Addr) (n c : Nat) (l : List It) (p' : Option Addr) (n' c' : Nat) (l' : List It) : Prop :=
  OwnI w base p n c l ∧ OwnI w base p' n' c' l' ∧ ((Value.slice p' n' c').ownBlock = none ∨ (Value.slice p' n' c').ownBlock ≠ (Value.slice p n c).ownBlock)
theorem TwoI.ext {w w' : World} {base : Nat} {p : Option Addr} {n c : Nat} {l : List It} {p' : Option Addr} {n' c' : Nat} {l' : List It} (h : TwoI w base p n c l p' n' c' l') (e : Ext w w') : TwoI w' base p n c l p' n' c' l' :=
  ⟨e.row h.1, e.row h.2.1, h.2.2⟩
abbrev InI (l : List It) : Prop := ∀ x ∈ l, In x.1
/-- the last item of a key -/
def lastE (o key : Int) (l : List It) : It := ((eqF o key l).getLast?).getD (0, 0, 0)
def anyE (o key : Int) (l : List It) : Bool := !(eqF o key l).isEmpty
end Go.Proofs.YtlfjaogbehpleaaGreat

namespace Go.Proofs.YtlfjaogbehpleaaGreat
open Go Go.Sh Go.RowKit

theorem Ext.gs {b : Nat} {w w1 w2 : World} (e : Ext w w1) (g : Gs b w1 w2) (hb : w.heap.size ≤ b) : Ext w w2 := Go.Sh.Ext.st e g hb
/-! ### plain -/
theorem inK_all {t : Tr} (h : ∀ x ∈ t.pairs, In x.1) : InK t := by
  induction t with
  | nil => trivial
  | node l k v g r ihl ihr => exact ⟨ihl fun x hx => h x (by simp [Tr.pairs, hx]), h (k, v) (by simp [Tr.pairs]), ihr fun x hx => h x (by simp [Tr.pairs, hx])⟩
/-- numbers of beads that fit -/
structure FitB (t : BT) : Prop where
  key : ∀ x ∈ t.beads, In x.key
  val : ∀ x ∈ t.beads, In x.val
  tag : TagB t
theorem FitB.inK {t : BT} (h : FitB t) : InK t.tr := inK_all fun x hx => by
  obtain ⟨b, hb, rfl⟩ := BT.tr_mem hx
  exact h.key b hb
theorem FitB.inP {t : BT} (h : FitB t) : InP t.tr.pairs := fun x hx => by
  obtain ⟨b, hb, rfl⟩ := BT.tr_mem hx
  exact ⟨h.key b hb, h.val b hb⟩
theorem FitB.inI {t : BT} (h : FitB t) (c : Int) : InI (itsC c t.tr) := fun x hx => inK_its.1 h.inK x hx
/-! ### the chapter's examples -/
end Go.Proofs.YtlfjaogbehpleaaGreat

