/-
  split, cut: what is parted, and joined again.
-/
/-
  treap.Check of a treap: nothing is wrong.
-/
/-
  wb.Check of a tree in balance: nothing is wrong.
-/
/-
  split: Split, Ahead, Behind; cut: Last, Join2.
-/
/-
  cut: Last, Join2; split: Ahead, Behind.
-/
/-
  Trees as beads; rows of items. Plain.
-/
/-
  avl.Check of a tree in balance: nothing is wrong.
-/
/-
  rb.Check of a tree in balance: nothing is wrong.
-/
/-
  sound.Check of a tree whose keys rise: nothing is wrong.
-/
/-
  Ranks, Select, Many, and the document's Rank, Pairs, Select.
-/
/-
  Of, Node, Sort, Shape: rows and trees that the statements make.
-/
/-
  The document's checks of trees, of beads: layers 14, 16, 18, 20, 22.
-/
import Derived.Test.YtlddfgfmkapoiaaGreatZ17
import Derived.Test.YtlddfgfmkapoiaaGreatZ15

namespace Go.Proofs.YtlddfgfmkapoiaaGreat
open Go Go.Sh Go.RowKit

theorem Gs.st {b k : Nat} {w0 w1 w2 : World} (h : Gs b w0 w1) (g : w1.grownBy w2 (some k)) (hk : w0.heap.size ≤ k) : Gs b w0 w2 :=
  ⟨g.os.trans h.os, g.tape.trans h.tape, g.output.trans h.output, Nat.le_trans (World.grownBy.size h) (World.grownBy.size g), fun i hi hne => by
    rw [g.block i (Nat.lt_of_lt_of_le hi (World.grownBy.size h)) (ne_some (by omega)), h.block i hi hne]⟩
theorem IsSch.st {c : Int} {b k : Nat} {w1 w2 : World} (h : IsSch c b w1) (g : w1.grownBy w2 (some k)) (hk : k ≠ b) : IsSch c b w2 := by
  rcases h with ⟨hss, ⟨j, hb⟩ | ⟨j, hb⟩⟩
  · exact ⟨hss, .inl ⟨j, hb.grown g (ne_some (Ne.symm hk))⟩⟩
  · exact ⟨hss, .inr ⟨j, hb.grown g (ne_some (Ne.symm hk))⟩⟩
theorem _root_.Go.Sh.IsT.st {k : Nat} {w1 w2 : World} {p : Option Addr} {t : Tr} {cs : Array Value} {ty : TypeId} (h : IsN w1 p t) (g : w1.grownBy w2 (some k)) (hb : Blk w1 k cs ty) (ht : ty ≠ 249) : IsN w2 p t := by
  induction t generalizing p with
  | nil => exact h
  | node l k' v gg r ihl ihr =>
    obtain ⟨b', pl, pr, hp, hb', hl, hr⟩ := h
    refine ⟨b', pl, pr, hp, hb'.grown g (ne_some ?_), ihl hl, ihr hr⟩
    rintro rfl
    exact ht (blk_fun hb hb')
theorem _root_.Go.Sh.Blk.gs {b k : Nat} {w w' : World} {cs : Array Value} {ty : TypeId} (h : Blk w k cs ty) (g : Gs b w w') (hk : k ≠ b) : Blk w' k cs ty := h.grown g (ne_some hk)
theorem splitC_p {c o key : Int} : ∀ {t : Tr}, OkP c t → OkM c (splitC c o key t).1 ∧ OkM c (splitC c o key t).2.2 ∧ (splitC c o key t).1.size + (splitC c o key t).2.2.size ≤ t.size
  | .nil, h => ⟨.nil h.s, .nil h.s, Nat.le_refl _⟩
  | .node l k v g r, h => by
    obtain ⟨hl, hr⟩ := h.sides
    have IL := splitC_p (o := o) (key := key) hl
    have IR := splitC_p (o := o) (key := key) hr
    have e : (Tr.node l k v g r).size = l.size + 1 + r.size := rfl
    unfold splitC
    split
    · have j := joinC_ok hl IR.1.1 (itC c (k, v, g))
      refine ⟨j.1, IR.2.1, ?_⟩
      simp only [joinC_size hl IR.1.1, e]; omega
    · split
      · have j := joinC_ok IL.2.1.1 hr (itC c (k, v, g))
        refine ⟨IL.1, j.1, ?_⟩
        simp only [joinC_size IL.2.1.1 hr, e]; omega
      · refine ⟨(wholeC_ok hl).1, (wholeC_ok hr).1, ?_⟩
        simp only [wholeC_size hl, wholeC_size hr, e]; omega
abbrev itO (x : Option It) : It := x.getD (0, 0, 0)
theorem do_at {o key k : Int} (ho : isO o = true) (hk : In k) {bo bk : Nat} {w : World} {R : Ending → World → Prop} (h1 : Blk w bo #[.int .u8 o] 5) (h2 : Blk w bk #[.int .u64 (codeI o key)] 75)
    (h : ∀ w', Ext w w' → R (.returned (.int .i64 (cmpI o k key))) w') : doCall Tryz.prog (.func (.func 216) #[] #[.pointer (some (blk bo)), .pointer (some (blk bk))]) #[.int .i64 k] w R := by
  refine do_callc Tryz.call216 (by rfl) (sh216_ok _ _ _ ?_)
  unfold sh216
  refine ⟨_, h1.cell (i := 0) rfl rfl, do_call Tryz.call215 (c_code hk fun w1 e1 => retS_ret ⟨_, _, rfl, _, (h2.ext e1).cell (i := 0) rfl rfl, ?_⟩)⟩
  rw [ho, cond_true]
  refine do_call Tryz.call217 (c_cmp64 (retS_ret ⟨_, rfl, ?_⟩))
  have e : (if codeI o k < codeI o key then (-1 : Int) else if codeI o key < codeI o k then 1 else 0) = cmpI o k key := by
    have : 1 ≤ o ∧ o ≤ 7 := by simpa [isO] using ho
    unfold cmpI; rw [if_pos this]
  rw [e]
  exact h _ e1
/-- an item, read and laid again -/
theorem do_re3 {c : Int} {b bx : Nat} {x : It} {w0 w : World} (hb : Blk w bx #[.int .i64 x.1, .int .i64 x.2.1, .int .u64 x.2.2] 114) (hx : w0.heap.size ≤ bx) (hne : bx ≠ b) (hg : Gs b w0 w) (hs : IsSch c b w) {K : World → Prop}
    (k : ∀ w', Blk w' bx #[.int .i64 x.1, .int .i64 x.2.1, .int .u64 x.2.2] 114 → w.grownBy w' (some bx) → Gs b w0 w' → IsSch c b w' → K w') :
    doSt ((blk bx).add 0) (.int .i64 x.1) w fun w1 => doSt ((blk bx).add 1) (.int .i64 x.2.1) w1 fun w2 => doSt ((blk bx).add 2) (.int .u64 x.2.2) w2 K :=
  do_st3 hb fun w' h' g' => k w' h' g' (hg.st g' hx) (hs.st g' hne)
def InK : Tr → Prop
  | .nil => True
  | .node l k _ _ r => InK l ∧ In k ∧ InK r
theorem inK_its {c : Int} {t : Tr} : InK t ↔ ∀ x ∈ itsC c t, In x.1 := by
  induction t with
  | nil => exact ⟨fun _ x hx => by simp [itsC, itT] at hx, fun _ => trivial⟩
  | node l k v g r ihl ihr =>
    rw [itsC_node]
    constructor
    · rintro ⟨h1, h2, h3⟩ x hx
      rcases List.mem_append.1 hx with hx | hx
      · exact ihl.1 h1 x hx
      · rcases List.mem_cons.1 hx with rfl | hx
        · rw [itC_key]; exact h2
        · exact ihr.1 h3 x hx
    · intro h
      exact ⟨ihl.2 fun x hx => h x (List.mem_append_left _ hx), by have := h (itC c (k, v, g)) (by simp); rwa [itC_key] at this, ihr.2 fun x hx => h x (List.mem_append_right _ (List.mem_cons_of_mem _ hx))⟩
set_option maxRecDepth 20000 in
theorem c_sparts {c o key : Int} {b bo bk : Nat} (ho : isO o = true) (nbo : bo ≠ b) (nbk : bk ≠ b) : ∀ (t : Tr) {p : Option Addr} {w : World} {R : Ending → World → Prop} (_hs : IsSch c b w) (_h1 : Blk w bo #[.int .u8 o] 5) (_h2 : Blk w bk #[.int .u64 (codeI o key)] 75)
    (_ht : IsN w p t) (_ok : OkP c t) (_hk : InK t) (_hB : t.size + 6 ≤ BIG) (_h : ∀ ql qr w', Gs b w w' → IsSch c b w' → IsN w' ql (splitC c o key t).1 → IsN w' qr (splitC c o key t).2.2 →
      R (.returned (.tuple #[.pointer ql, agI (itO (splitC c o key t).2.1), .bool (splitC c o key t).2.1.isSome, .pointer qr])) w'),
    Calls Tryz.prog 165 #[.pointer (some (blk b)), .func (.func 216) #[] #[.pointer (some (blk bo)), .pointer (some (blk bk))], .pointer p] w R
  | .nil, p, w, R, hs, h1, h2, ht, ok, hk, hB, h => by
    obtain rfl : p = none := ht
    refine sh165_ok _ _ _ _ _ ?_
    unfold sh165
    refine ⟨ifB_t rfl ?_⟩
    have e0 := ext_alloc w (.cells #[.int .i64 0, .int .i64 0, .int .u64 0] 114)
    have hx := blk_alloc w #[.int .i64 0, .int .i64 0, .int .u64 0] 114
    have hlt := hs.lt
    generalize hbx : w.heap.size = bx at *
    generalize w.alloc (.cells #[.int .i64 0, .int .i64 0, .int .u64 0] 114) = w1 at *
    have d := ext_drew w1
    refine ⟨⟨fun w' => Ext w1 w', d, _, fun w' e => (hx.ext e).cell (i := 0) (add_blk _ _) rfl, _, fun w' e => (hx.ext e).cell (i := 1) (add_blk _ _) rfl, _, fun w' e => (hx.ext e).cell (i := 2) (add_blk _ _) rfl, ?_⟩⟩
    refine do_re3 (x := (0, 0, 0)) (hx.ext d) (by omega) (by omega) (gs_of (e0.trans d)) (hs.ext (e0.trans d)) fun w2 hx2 g2 gs2 hs2 => ?_
    exact ⟨_, hx2.cell (i := 0) (add_blk _ _) rfl, _, hx2.cell (i := 1) (add_blk _ _) rfl, _, hx2.cell (i := 2) (add_blk _ _) rfl, h _ _ _ gs2 hs2 rfl rfl⟩
  | .node l k v g r, p, w, R, hs, h1, h2, ht, ok, hk, hB, h => by
    refine sh165_ok _ _ _ _ _ ?_
    unfold sh165
    refine ⟨ifB_f (by rw [ht.isNone]; rfl) ?_⟩
    obtain ⟨okl, okr⟩ := ok.sides
    obtain ⟨hkl, hkk, hkr⟩ := hk
    have hsz : (Tr.node l k v g r).size = l.size + 1 + r.size := rfl
    have e0 := ext_alloc w (.cells #[.int .i64 0, .int .i64 0, .int .u64 0] 114)
    have hx := blk_alloc w #[.int .i64 0, .int .i64 0, .int .u64 0] 114
    have hlt := hs.lt
    generalize hbx : w.heap.size = bx at *
    generalize w.alloc (.cells #[.int .i64 0, .int .i64 0, .int .u64 0] 114) = w1 at *
    have nbx : bx ≠ b := by omega
    have hroot : rootC c (.node l k v g r) = itC c (k, v, g) := rfl
    refine do_call Tryz.call108 (c_key (ht.ext e0) fun w2 e2 => retS_ret ⟨_, rfl, ?_⟩)
    have E2 := e0.trans e2
    refine do_at ho hkk (h1.ext E2) (h2.ext E2) fun w3 e3 => retS_ret ⟨_, rfl, ?_⟩
    have E3 := E2.trans e3
    have hx3 := hx.ext (e2.trans e3)
    have hs3 := hs.ext E3
    have ht3 := ht.ext E3
    have h13 := h1.ext E3
    have h23 := h2.ext E3
    have g3 : Gs b w w3 := gs_of E3
    unfold splitC at h
    refine ifB_intro (fun hc => ?_) fun hc => ?_
    · have hc : cmpI o k key < 0 := of_decide_eq_true hc
      simp only [hc, if_true] at h
      have sp := splitC_p (o := o) (key := key) okr
      refine do_call Tryz.call125 (c_right ht3 fun q4 h4 => retS_ret ⟨_, rfl, ?_⟩)
      refine do_call Tryz.call165 (c_sparts ho nbo nbk r hs3 h13 h23 h4 okr hkr (by omega) fun ql qr w5 g5 hs5 hl5 hr5 => retS_ret ⟨_, _, _, _, _, _, rfl, ?_⟩)
      have hx5 := hx3.gs g5 nbx
      have gt5 := g3.trans g5
      refine do_st3 hx5 fun w6 hx6 g6 => ?_
      have gt6 := gt5.st g6 (by omega)
      have hs6 := hs5.st g6 nbx
      have hl6 := hl5.st g6 hx5 (by decide)
      have hr6 := hr5.st g6 hx5 (by decide)
      have d := ext_drew w6
      refine ⟨⟨fun w' => Blk w' bx _ _, hx6, _, fun w' e => e.cell (i := 0) (add_blk _ _) rfl, _, fun w' e => e.cell (i := 1) (add_blk _ _) rfl, _, fun w' e => e.cell (i := 2) (add_blk _ _) rfl, ?_⟩⟩
      have gt6d := gt6.trans (gs_of d)
      refine do_call Tryz.call123 (c_left (ht.gs hs gt6d) fun q7 h7 => retS_ret ⟨_, rfl, hx6.ext d, ?_⟩)
      refine do_call Tryz.call213 (c_sitem (hs6.ext d) (ht.gs hs gt6d) fun w8 g8 hs8 => retS_ret ⟨_, _, _, rfl, (hx6.ext d).gs g8 nbx, ?_⟩)
      have gt8 := gt6d.trans g8
      refine do_call Tryz.call106 (c_sjoin hs8 (h7.gs (hs6.ext d) g8) ((hl6.ext d).gs (hs6.ext d) g8) okl sp.1.1 (by simp only [Tr.left]; omega) fun q9 w9 g9 hs9 h9 => retS_ret ⟨_, rfl, ((hx6.ext d).gs g8 nbx).gs g9 nbx, ?_⟩)
      have hx9 := ((hx6.ext d).gs g8 nbx).gs g9 nbx
      refine do_re3 (x := itO (splitC c o key r).2.1) hx9 (w0 := w) (by omega) nbx (gt8.trans g9) hs9 fun w10 hx10 g10 gs10 hs10 => ?_
      exact ⟨_, hx10.cell (i := 0) (add_blk _ _) rfl, _, hx10.cell (i := 1) (add_blk _ _) rfl, _, hx10.cell (i := 2) (add_blk _ _) rfl, h _ _ _ gs10 hs10 (h9.st g10 hx9 (by decide)) ((((hr6.ext d).gs (hs6.ext d) g8).gs hs8 g9).st g10 hx9 (by decide))⟩
    · have hc : ¬ cmpI o k key < 0 := of_decide_eq_false hc
      simp only [hc, if_false] at h
      refine ifB_intro (fun hc2 => ?_) fun hc2 => ?_
      · have hc2 : 0 < cmpI o k key := of_decide_eq_true hc2
        simp only [hc2, if_true] at h
        have sp := splitC_p (o := o) (key := key) okl
        refine do_call Tryz.call123 (c_left ht3 fun q4 h4 => retS_ret ⟨_, rfl, ?_⟩)
        refine do_call Tryz.call165 (c_sparts ho nbo nbk l hs3 h13 h23 h4 okl hkl (by omega) fun ql qr w5 g5 hs5 hl5 hr5 => retS_ret ⟨_, _, _, _, _, _, rfl, ?_⟩)
        have hx5 := hx3.gs g5 nbx
        have gt5 := g3.trans g5
        refine do_st3 hx5 fun w6 hx6 g6 => ?_
        have gt6 := gt5.st g6 (by omega)
        have hs6 := hs5.st g6 nbx
        have hl6 := hl5.st g6 hx5 (by decide)
        have hr6 := hr5.st g6 hx5 (by decide)
        have d := ext_drew w6
        refine ⟨⟨fun w' => Blk w' bx _ _, hx6, _, fun w' e => e.cell (i := 0) (add_blk _ _) rfl, _, fun w' e => e.cell (i := 1) (add_blk _ _) rfl, _, fun w' e => e.cell (i := 2) (add_blk _ _) rfl, ?_⟩⟩
        have gt6d := gt6.trans (gs_of d)
        refine do_call Tryz.call213 (c_sitem (hs6.ext d) (ht.gs hs gt6d) fun w8 g8 hs8 => retS_ret ⟨_, _, _, rfl, (hx6.ext d).gs g8 nbx, ?_⟩)
        have gt8 := gt6d.trans g8
        refine do_call Tryz.call125 (c_right (ht.gs hs gt8) fun q7 h7 => retS_ret ⟨_, rfl, (hx6.ext d).gs g8 nbx, ?_⟩)
        refine do_call Tryz.call106 (c_sjoin hs8 ((hr6.ext d).gs (hs6.ext d) g8) h7 sp.2.1.1 okr (by simp only [Tr.right]; omega) fun q9 w9 g9 hs9 h9 => retS_ret ⟨_, rfl, ((hx6.ext d).gs g8 nbx).gs g9 nbx, ?_⟩)
        have hx9 := ((hx6.ext d).gs g8 nbx).gs g9 nbx
        refine do_re3 (x := itO (splitC c o key l).2.1) hx9 (w0 := w) (by omega) nbx (gt8.trans g9) hs9 fun w10 hx10 g10 gs10 hs10 => ?_
        exact ⟨_, hx10.cell (i := 0) (add_blk _ _) rfl, _, hx10.cell (i := 1) (add_blk _ _) rfl, _, hx10.cell (i := 2) (add_blk _ _) rfl, h _ _ _ gs10 hs10 ((((hl6.ext d).gs (hs6.ext d) g8).gs hs8 g9).st g10 hx9 (by decide)) (h9.st g10 hx9 (by decide))⟩
      · have hc2 : ¬ 0 < cmpI o k key := of_decide_eq_false hc2
        simp only [hc2, if_false] at h
        refine do_call Tryz.call123 (c_left ht3 fun q4 h4 => retS_ret ⟨_, rfl, ?_⟩)
        refine do_call Tryz.call162 (c_swhole hs3 h4 okl (by simp only [Tr.left]; omega) fun q5 w5 g5 hs5 h5 => retS_ret ⟨_, rfl, ?_⟩)
        have gt5 := g3.trans g5
        refine do_call Tryz.call213 (c_sitem hs5 (ht.gs hs gt5) fun w6 g6 hs6 => retS_ret ⟨_, _, _, rfl, ?_⟩)
        have gt6 := gt5.trans g6
        refine do_call Tryz.call125 (c_right (ht.gs hs gt6) fun q7 h7 => retS_ret ⟨_, rfl, ?_⟩)
        refine do_call Tryz.call162 (c_swhole hs6 h7 okr (by simp only [Tr.right]; omega) fun q8 w8 g8 hs8 h8 => retS_ret ⟨_, rfl, ?_⟩)
        have hx8 := ((hx3.gs g5 nbx).gs g6 nbx).gs g8 nbx
        refine do_st3 hx8 fun w9 hx9 g9 => ?_
        have gt9 := (gt6.trans g8).st g9 (by omega)
        exact ⟨_, hx9.cell (i := 0) (add_blk _ _) rfl, _, hx9.cell (i := 1) (add_blk _ _) rfl, _, hx9.cell (i := 2) (add_blk _ _) rfl, h _ _ _ gt9 (hs8.st g9 nbx) (((h5.gs hs5 g6).gs hs6 g8).st g9 hx8 (by decide)) (h8.st g9 hx8 (by decide))⟩
end Go.Proofs.YtlddfgfmkapoiaaGreat

namespace Go.Proofs.YtlddfgfmkapoiaaGreat
open Go Go.Sh Go.RowKit

abbrev onT (b2 b4 : Nat) : Value := .func (.func 252) #[] #[.pointer (some (blk b2)), .pointer (some (blk b4))]
set_option maxRecDepth 20000 in
theorem do_tpon {b2 b4 : Nat} {T4 : TypeId} (hne : b4 ≠ b2) : ∀ (t : Tr) {p : Option Addr} {n : Nat} {w : World} {R : Ending → World → Prop} (_h2 : Blk w b2 #[.int .i64 (n : Nat)] 3) (_h4 : Blk w b4 #[onT b2 b4] T4) (_ht : IsN w p t) (_tp : Tp t) (_hn : n + t.size ≤ BIG)
    (_h : ∀ w', Gs b2 w w' → Blk w' b2 #[.int .i64 ((n + t.size : Nat) : Int)] 3 → R (.returned (.bool true)) w'), doCall Tryz.prog (onT b2 b4) #[.pointer p] w R
  | .nil, p, n, w, R, h2, h4, ht, tp, hn, h => by
    refine do_callc Tryz.call252 (by rfl) (sh252_ok _ _ _ ?_)
    unfold sh252
    have : p = none := ht
    subst this
    exact ifB_t rfl (h _ (gs_refl _ _) h2)
  | .node l k v g r, p, n, w, R, h2, h4, ht, tp, hn, h => by
    refine do_callc Tryz.call252 (by rfl) (sh252_ok _ _ _ ?_)
    unfold sh252
    obtain ⟨tl, tr, al, ar⟩ := tp
    have e : (Tr.node l k v g r).size = l.size + 1 + r.size := rfl
    rw [ht.isNone]
    refine ifB_f rfl ?_
    intro K6
    refine do_call Tryz.call123 (c_left ht fun pl hpl => retS_ret ⟨_, rfl, ?_⟩)
    refine do_call Tryz.call253 (c_abT hpl ht fun w1 e1 => retS_ret ⟨_, rfl, ?_⟩)
    rw [show abT (Tr.node l k v g r).left (Tr.node l k v g r) = false from al]
    refine ifB_f rfl (do_call Tryz.call125 (c_right (ht.ext e1) fun pr hpr => retS_ret ⟨_, rfl, ?_⟩))
    refine do_call Tryz.call253 (c_abT hpr (ht.ext e1) fun w2 e2 => retS_ret ⟨_, rfl, ?_⟩)
    rw [show abT (Tr.node l k v g r).right (Tr.node l k v g r) = false from ar]
    simp -zeta -zetaHave only [K6]
    have e02 := e1.trans e2
    have h22 := h2.ext e02
    refine ifB_f rfl ⟨_, h22.cell (i := 0) rfl rfl, ?_⟩
    refine do_st h22 (i := 0) (add_blk _ _) (by simp) fun w3 h3 g3 => ?_
    have G3 : Gs b2 w w3 := (gs_of e02).trans g3
    have h3 : Blk w3 b2 #[.int .i64 ((n + 1 : Nat) : Int)] 3 := by
      have : IntKind.wrap .i64 ((n : Int) + 1) = ((n + 1 : Nat) : Int) := by simp only [BIG] at hn; rw [wrap_of (by omega) (by omega)]; omega
      rw [this] at h3; exact h3
    intro K11
    have d := ext_drew w3
    have G3' : Gs b2 w w3.drew := G3.trans (gs_of d)
    have h43 := h4.gs G3' hne
    have ht3 : IsN w3.drew p (.node l k v g r) := ht.st G3' h2 (by decide)
    refine ⟨⟨fun w' => Blk w' b4 #[onT b2 b4] T4, h43, _, _, _, fun w' q => q.cell (i := 0) rfl rfl, ?_⟩⟩
    refine do_call Tryz.call123 (c_left ht3 fun pl3 hpl3 => retS_ret ⟨_, rfl, h43, ?_⟩)
    refine do_tpon hne l (h3.ext d) h43 hpl3 tl (by omega) fun w4 g4 h24 => retS_ret ⟨_, rfl, h43.gs g4 hne, ?_⟩
    refine ifB_t rfl ⟨_, _, _, fun w' q => q.cell (i := 0) rfl rfl, ?_⟩
    have ht4 := ht3.st g4 (h3.ext d) (by decide)
    refine do_call Tryz.call125 (c_right ht4 fun pr4 hpr4 => retS_ret ⟨_, rfl, h43.gs g4 hne, ?_⟩)
    refine do_tpon hne r h24 (h43.gs g4 hne) hpr4 tr (by omega) fun w5 g5 h25 => retS_ret ⟨_, rfl, (h43.gs g4 hne).gs g5 hne, ?_⟩
    rw [show n + 1 + l.size + r.size = n + (Tr.node l k v g r).size by omega] at h25
    exact h _ ((G3'.trans g4).trans g5) h25
theorem c_tpcheck {t : Tr} {p : Option Addr} {w : World} {R : Ending → World → Prop} (ht : IsN w p t) (tp : Tp t) (hn : t.size ≤ BIG) (h : ∀ k w', Ext w w' → R (.returned (.tuple #[.int .i64 k, .int .i64 0])) w') :
    Calls Tryz.prog 195 #[.pointer p] w R := by
  refine sh195_ok _ ?_
  unfold sh195
  refine ⟨⟨?_⟩⟩
  have e0 := ext_alloc w (.cells #[.int .i64 0] 3)
  have h2 := blk_alloc w #[.int .i64 0] 3
  have k2 : w.heap.size ≤ w.heap.size := Nat.le_refl _
  generalize hb : w.heap.size = b2 at h2 k2 ⊢
  generalize w.alloc (.cells #[.int .i64 0] 3) = w1 at *
  have hlt := h2.lt
  refine do_st (blk_alloc w1 _ _) (i := 0) (add_blk _ _) (by simp) fun w2 h4 g4 => ?_
  have e2 : Ext w1 w2 := (ext_alloc w1 _).st g4 (Nat.le_refl _)
  refine ⟨_, _, _, h4.cell (i := 0) rfl rfl, ?_⟩
  refine do_tpon (n := 0) (by omega) t (h2.ext e2) h4 (ht.ext (e0.trans e2)) tp (by omega) fun w3 g3 h23 => retS_ret ⟨_, rfl, ?_⟩
  have E3 : Ext w w3 := (e0.trans e2).st g3 (by omega)
  refine ifB_f rfl ⟨_, h23.cell (i := 0) rfl rfl, ?_⟩
  refine do_st h23 (i := 0) (add_blk _ _) (by simp) fun w4 h44 g44 => ?_
  exact ⟨_, h44.cell (i := 0) rfl rfl, h _ _ (E3.st g44 (by omega))⟩
end Go.Proofs.YtlddfgfmkapoiaaGreat

namespace Go.Proofs.YtlddfgfmkapoiaaGreat
open Go Go.Sh Go.RowKit

end Go.Proofs.YtlddfgfmkapoiaaGreat

namespace Go.Proofs.YtlddfgfmkapoiaaGreat
open Go Go.Sh Go.RowKit

theorem c_where {o key : Int} (hk : In key) {w : World} {R : Ending → World → Prop} (h0 : isO o = false → ∀ w', Ext w w' → R (.returned (.tuple #[.nilFunc, .int .i64 2])) w')
    (h1 : isO o = true → ∀ bo bk w', Ext w w' → Blk w' bo #[.int .u8 o] 5 → Blk w' bk #[.int .u64 (codeI o key)] 75 → w.heap.size ≤ bo → w.heap.size ≤ bk →
      R (.returned (.tuple #[.func (.func 216) #[] #[.pointer (some (blk bo)), .pointer (some (blk bk))], .int .i64 0])) w') : Calls Tryz.prog 164 #[.int .u8 o, .int .i64 key] w R := by
  refine sh164_ok _ _ ?_
  unfold sh164
  have e0 := ext_alloc w (.cells #[.int .u8 o] 5)
  have hb0 := blk_alloc w #[.int .u8 o] 5
  refine ⟨_, hb0.cell (i := 0) rfl rfl, do_call Tryz.call215 (c_code hk fun w1 e1 => retS_ret ⟨_, _, rfl, ⟨?_⟩⟩)⟩
  have E1 := e0.trans e1
  have hk0 := blk_alloc w1 #[.int .u64 0] 75
  refine do_st (i := 0) hk0 (add_blk _ _) (by simp) fun w2 hk2 g2 => ?_
  have e2 : Ext w1 w2 := (ext_alloc w1 _).st g2 (Nat.le_refl _)
  have E2 := E1.trans e2
  have hb2 := hb0.ext (e1.trans e2)
  cases ho : isO o with
  | false => exact ifB_t rfl (h0 ho _ E2)
  | true =>
    rw [ho, cond_true] at hk2
    exact ifB_f rfl (h1 ho _ _ _ E2 hb2 hk2 (Nat.le_refl _) E1.size)
set_option maxRecDepth 20000 in
theorem c_split {c o key : Int} {b : Nat} (ho : isO o = true) (hk : In key) {t : Tr} {p : Option Addr} {w : World} {R : Ending → World → Prop} (hs : IsSch c b w) (ht : IsN w p t) (ok : OkP c t) (hkt : InK t) (hB : t.size + 6 ≤ BIG)
    (h : ∀ ql qr w', Gs b w w' → IsSch c b w' → IsN w' ql (splitC c o key t).1 → IsN w' qr (splitC c o key t).2.2 →
      R (.returned (.tuple #[.pointer ql, agI (itO (splitC c o key t).2.1), .bool (splitC c o key t).2.1.isSome, .pointer qr, .int .i64 0])) w') : Calls Tryz.prog 89 #[.pointer (some (blk b)), .int .u8 o, .pointer p, .int .i64 key] w R := by
  refine sh89_ok _ _ _ _ ?_
  unfold sh89
  refine ⟨?_⟩
  have e0 := ext_alloc w (.cells #[.int .i64 0, .int .i64 0, .int .u64 0] 114)
  have hx := blk_alloc w #[.int .i64 0, .int .i64 0, .int .u64 0] 114
  have hlt := hs.lt
  generalize hbx : w.heap.size = bx at *
  generalize w.alloc (.cells #[.int .i64 0, .int .i64 0, .int .u64 0] 114) = w1 at *
  have nbx : bx ≠ b := by omega
  have hxl := hx.lt
  intro K10
  refine do_call Tryz.call164 (c_where hk (fun h0 _ _ => by rw [ho] at h0; cases h0) fun _ bo bk w2 e2 hbo hbk lo lk => retS_ret (.inl ⟨_, _, _, _, rfl, ?_⟩))
  simp -zeta -zetaHave only [K10]
  intro K13
  refine ifB_f rfl ?_
  have E2 := e0.trans e2
  refine ifB_f rfl (do_call Tryz.call165 (c_sparts ho (by omega) (by omega) t (hs.ext E2) hbo hbk (ht.ext E2) ok hkt hB fun ql qr w3 g3 hs3 hl3 hr3 => retS_ret ⟨_, _, _, _, _, _, rfl, ?_⟩))
  have gt3 : Gs b w w3 := (gs_of E2).trans g3
  have hx3 := (hx.ext e2).gs g3 nbx
  refine do_st3 hx3 fun w4 hx4 g4 => ?_
  have gt4 := gt3.st g4 (by omega)
  have hs4 := hs3.st g4 nbx
  have hl4 := hl3.st g4 hx3 (by decide)
  have hr4 := hr3.st g4 hx3 (by decide)
  have d := ext_drew w4
  refine ⟨⟨fun w' => Blk w' bx _ _, hx4, _, fun w' e => e.cell (i := 0) (add_blk _ _) rfl, _, fun w' e => e.cell (i := 1) (add_blk _ _) rfl, _, fun w' e => e.cell (i := 2) (add_blk _ _) rfl, ?_⟩⟩
  refine do_re3 (x := itO (splitC c o key t).2.1) (hx4.ext d) (w0 := w) (by omega) nbx (gt4.trans (gs_of d)) (hs4.ext d) fun w5 hx5 g5 gs5 hs5 => ?_
  exact ⟨_, hx5.cell (i := 0) (add_blk _ _) rfl, _, hx5.cell (i := 1) (add_blk _ _) rfl, _, hx5.cell (i := 2) (add_blk _ _) rfl, h _ _ _ gs5 hs5 ((hl4.ext d).st g5 (hx4.ext d) (by decide)) ((hr4.ext d).st g5 (hx4.ext d) (by decide))⟩
/-! ### cut -/
end Go.Proofs.YtlddfgfmkapoiaaGreat

namespace Go.Proofs.YtlddfgfmkapoiaaGreat
open Go Go.Sh Go.RowKit

/-! ### what is ahead, and behind -/
/-! ### plain: what they have -/
end Go.Proofs.YtlddfgfmkapoiaaGreat

namespace Go.Proofs.YtlddfgfmkapoiaaGreat
open Go Go.Sh Go.RowKit

theorem wrap_add (a b : Int) : IntKind.wrap .i64 (IntKind.wrap .i64 a + b) = IntKind.wrap .i64 (a + b) := by
  simp only [IntKind.wrap, IntKind.signed, IntKind.bits]
  simp
  omega
theorem wrap_add' (a b : Int) : IntKind.wrap .i64 (a + IntKind.wrap .i64 b) = IntKind.wrap .i64 (a + b) := by
  rw [Int.add_comm, wrap_add, Int.add_comm]
def totT : Tr → Int
  | .nil => 0
  | .node l _ v _ r => totT l + v + totT r
theorem sum_tot (t : Tr) : t.sum = IntKind.wrap .i64 (totT t) := by
  induction t with
  | nil => rfl
  | node l k v g r ihl ihr =>
    show IntKind.wrap .i64 (IntKind.wrap .i64 (l.sum + v) + r.sum) = _
    rw [ihl, ihr, wrap_add, wrap_add']
    show IntKind.wrap .i64 (IntKind.wrap .i64 (totT l) + v + totT r) = _
    rw [show IntKind.wrap .i64 (totT l) + v + totT r = IntKind.wrap .i64 (totT l) + (v + totT r) by omega, wrap_add]
    rw [show totT l + (v + totT r) = totT l + v + totT r by omega]; rfl
def totB (l : List Bd) : Int := (l.map (·.val)).sum
theorem sumV_tot (l : List Bd) : sumV l = IntKind.wrap .i64 (totB l) := by
  have key : ∀ (l : List Bd) (s : Int), l.foldl (fun s b => IntKind.wrap .i64 (s + b.val)) (IntKind.wrap .i64 s) = IntKind.wrap .i64 (s + totB l) := by
    intro l
    induction l with
    | nil => intro s; simp [totB]
    | cons x xs ih =>
      intro s
      rw [List.foldl_cons, wrap_add, ih]
      congr 1
      simp [totB]; omega
  have := key l 0
  rw [Int.zero_add] at this
  exact this
def btT : Tr → BT
  | .nil => .nil
  | .node l k v g r => .node ⟨k, v, (Tr.node l k v g r).sum, ((Tr.node l k v g r).size : Nat), g, l.nn, r.nn⟩ (btT l) (btT r)
theorem totB_bt (T : BT) : totB T.beads = totT T.tr := by
  induction T with
  | nil => rfl
  | node x l r ihl ihr =>
    simp only [BT.beads, BT.tr, totT, ← ihl, ← ihr, totB, List.map_cons, List.map_append, List.sum_cons, List.sum_append]
    omega
theorem sumV_bt (T : BT) : sumV T.beads = T.tr.sum := by rw [sumV_tot, sum_tot, totB_bt]
theorem btT_of_wf : ∀ {T : BT}, T.wf = true → btT T.tr = T.of
  | .nil, _ => rfl
  | .node x l r, h => by
    obtain ⟨h1, h2, h3, h4⟩ := BT.wf_node h
    have e1 := btT_of_wf h3
    have e2 := btT_of_wf h4
    have hs := sumV_bt (.node x l r)
    have hz := BT.tr_size (.node x l r)
    simp only [BT.tr] at hs hz
    simp only [BT.tr, btT, BT.of, e1, e2, hs, hz, BT.tr_nn, ← h1, ← h2]
/-! ### items -/
def ecI (x : It) : List Value := [.int .i64 x.1, .int .i64 x.2.1, .int .u64 x.2.2]
theorem ecI_len (x : It) : (ecI x).length = 3 := rfl
abbrev its (l : List It) : List Value := l.flatMap ecI
theorem its_length (l : List It) : (its l).length = l.length * 3 := flat_length ecI_len l
theorem its_append (l r : List It) : its (l ++ r) = its l ++ its r := List.flatMap_append
theorem its_one {l : List It} : ∀ u ∈ its l, u.oneCell' = true := fun u hu => by
  simp only [List.mem_flatMap] at hu
  obtain ⟨x, _, hx⟩ := hu
  simp [ecI] at hx
  rcases hx with rfl | rfl | rfl <;> rfl
/-- the keys of a tree of beads rise -/
theorem pairs_its {c : Int} (t : Tr) : t.pairs.map (·.1) = (itsC c t).map (·.1) := by
  rw [items_pairs, itsC, List.map_map, List.map_map]
  apply List.map_congr_left
  intro x _
  simp [itC_key]
end Go.Proofs.YtlddfgfmkapoiaaGreat

namespace Go.Proofs.YtlddfgfmkapoiaaGreat
open Go Go.Sh Go.RowKit

/-! ### the nodes, one by one -/
end Go.Proofs.YtlddfgfmkapoiaaGreat

namespace Go.Proofs.YtlddfgfmkapoiaaGreat
open Go Go.Sh Go.RowKit

/-! ### the nodes, one by one -/
end Go.Proofs.YtlddfgfmkapoiaaGreat

namespace Go.Proofs.YtlddfgfmkapoiaaGreat
open Go Go.Sh Go.RowKit

/-- what lies above is kept -/
def KP (d : Nat) (w w' : World) : Prop := ∀ b cs ty, d < b → Blk w b cs ty → Blk w' b cs ty
theorem KP.trans {d : Nat} {x y z : World} (h : KP d x y) (k : KP d y z) : KP d x z := fun b cs ty hb q => k b cs ty hb (h b cs ty hb q)
theorem KP.of {d : Nat} {w w' : World} (e : Ext w w') : KP d w w' := fun _ _ _ _ q => q.ext e
/-- a bound that lets keys through -/
def MayB (J : Nat → World → Prop) (d : Nat) (w : World) (P : Int → Prop) (f : Fn) (xs cs : Array Value) : Prop :=
  ∀ n w' key (K : Ending → World → Prop), KP d w w' → J n w' → In key → P key → (∀ w'', Ext w' w'' → K (.returned (.bool true)) w'') → doCall Tryz.prog (.func f xs cs) #[.int .i64 key] w' K
theorem MayB.kp {J : Nat → World → Prop} {d : Nat} {w w1 : World} {P : Int → Prop} {f : Fn} {xs cs : Array Value} (h : MayB J d w P f xs cs) (k : KP d w w1) : MayB J d w1 P f xs cs := fun n w' key K q j hk hp hK => h n w' key K (k.trans q) j hk hp hK
section
variable {J : Nat → World → Prop} {d bo : Nat} {o : Int} {w0 : World}
theorem mayB_left (hJe : ∀ n w, J n w → Ext w0 w) (hJx : ∀ n w w', J n w → Ext w w' → J n w') (hJo : ∀ n w, J n w → Blk w bo #[.int .u8 o] 5) {w : World} {P : Int → Prop} {f : Fn} {xs cs : Array Value} {b8 b10 : Nat} {p : Option Addr} {l r : Tr} {k v g : Int} (h8 : d < b8) (h10 : d < b10)
    (hM : MayB J d w P f xs cs) (hb8 : Blk w b8 #[.pointer p] 35) (hb10 : Blk w b10 #[.func f xs cs] 319) (ht : IsN w0 p (.node l k v g r)) (hk : In k) :
    MayB J d w (fun x => P x ∧ cmpI o x k < 0) (.func 249) #[] #[.pointer (some (blk b10)), .pointer (some (blk bo)), .pointer (some (blk b8))] := by
  intro n w' key K hkp hj hkey hp hK
  refine do_callc Tryz.call249 (by rfl) (sh249_ok _ _ _ _ ?_)
  unfold sh249
  intro K7
  have dr := ext_drew w'
  have hb8' := hkp _ _ _ h8 hb8
  have hb10' := hkp _ _ _ h10 hb10
  have hbo := hJo _ _ hj
  refine ⟨⟨fun w'' => Ext w' w'', dr, _, _, _, fun w'' e => (hb10'.ext e).cell (i := 0) rfl rfl, ?_⟩⟩
  refine hM n _ key _ (hkp.trans (.of dr)) (hJx _ _ _ hj dr) hkey hp.1 fun w1 e1 => retS_ret ⟨_, rfl, dr.trans e1, ?_⟩
  refine ifB_t rfl ⟨_, fun w'' e => (hbo.ext e).cell (i := 0) rfl rfl, _, fun w'' e => (hb8'.ext e).cell (i := 0) rfl rfl, ?_⟩
  have E1 := dr.trans e1
  refine do_call Tryz.call108 (c_key (ht.ext ((hJe _ _ hj).trans E1)) fun w2 e2 => retS_ret ⟨_, rfl, E1.trans e2, ?_⟩)
  refine do_call Tryz.call176 (c_compare hkey hk fun w3 e3 => retS_ret ⟨_, rfl, (E1.trans e2).trans e3, ?_⟩)
  have : decide (cmpI o key (Tr.node l k v g r).key < 0) = true := decide_eq_true hp.2
  simp -zeta -zetaHave only [K7]
  have hh := hK _ ((E1.trans e2).trans e3)
  rw [← this] at hh
  exact hh
theorem mayB_right (hJe : ∀ n w, J n w → Ext w0 w) (hJx : ∀ n w w', J n w → Ext w w' → J n w') (hJo : ∀ n w, J n w → Blk w bo #[.int .u8 o] 5) {w : World} {P : Int → Prop} {f : Fn} {xs cs : Array Value} {b8 b10 : Nat} {p : Option Addr} {l r : Tr} {k v g : Int} (h8 : d < b8) (h10 : d < b10)
    (hM : MayB J d w P f xs cs) (hb8 : Blk w b8 #[.pointer p] 35) (hb10 : Blk w b10 #[.func f xs cs] 319) (ht : IsN w0 p (.node l k v g r)) (hk : In k) :
    MayB J d w (fun x => P x ∧ 0 < cmpI o x k) (.func 250) #[] #[.pointer (some (blk b10)), .pointer (some (blk bo)), .pointer (some (blk b8))] := by
  intro n w' key K hkp hj hkey hp hK
  refine do_callc Tryz.call250 (by rfl) (sh250_ok _ _ _ _ ?_)
  unfold sh250
  intro K7
  have dr := ext_drew w'
  have hb8' := hkp _ _ _ h8 hb8
  have hb10' := hkp _ _ _ h10 hb10
  have hbo := hJo _ _ hj
  refine ⟨⟨fun w'' => Ext w' w'', dr, _, _, _, fun w'' e => (hb10'.ext e).cell (i := 0) rfl rfl, ?_⟩⟩
  refine hM n _ key _ (hkp.trans (.of dr)) (hJx _ _ _ hj dr) hkey hp.1 fun w1 e1 => retS_ret ⟨_, rfl, dr.trans e1, ?_⟩
  refine ifB_t rfl ⟨_, fun w'' e => (hbo.ext e).cell (i := 0) rfl rfl, _, fun w'' e => (hb8'.ext e).cell (i := 0) rfl rfl, ?_⟩
  have E1 := dr.trans e1
  refine do_call Tryz.call108 (c_key (ht.ext ((hJe _ _ hj).trans E1)) fun w2 e2 => retS_ret ⟨_, rfl, E1.trans e2, ?_⟩)
  refine do_call Tryz.call176 (c_compare hkey hk fun w3 e3 => retS_ret ⟨_, rfl, (E1.trans e2).trans e3, ?_⟩)
  have : decide (cmpI o key (Tr.node l k v g r).key > 0) = true := decide_eq_true hp.2
  simp -zeta -zetaHave only [K7]
  have hh := hK _ ((E1.trans e2).trans e3)
  rw [← this] at hh
  exact hh
abbrev onS (bo b5 b7 : Nat) : Value := .func (.func 248) #[] #[.pointer (some (blk bo)), .pointer (some (blk b5)), .pointer (some (blk b7))]
set_option maxRecDepth 20000 in
set_option maxHeartbeats 1600000 in
theorem do_onS {c : Int} {Y1 : Fn} {Y2 Y3 : Array Value} {b5 b7 : Nat} {T5 T7 : TypeId} (hd5 : d < b5) (hd7 : d < b7) (hJd : ∀ n w, J n w → d < w.heap.size) (hJe : ∀ n w, J n w → Ext w0 w) (hJx : ∀ n w w', J n w → Ext w w' → J n w') (hJo : ∀ n w, J n w → Blk w bo #[.int .u8 o] 5)
    (hY : ∀ n q w (K : Ending → World → Prop), J n w → (∀ w', J (n + 1) w' → KP d w w' → K (.returned (.bool true)) w') → doCall Tryz.prog (.func Y1 Y2 Y3) #[.pointer q, .bool false] w K) :
    ∀ (t : Tr) {p : Option Addr} {n : Nat} {w : World} {P : Int → Prop} {f : Fn} {xs cs : Array Value} {K : Ending → World → Prop} (_ht : IsN w0 p t) (_ha : asc o (itsC c t)) (_hk : InK t) (_hP : ∀ x ∈ itsC c t, P x.1) (_hM : MayB J d w P f xs cs) (_hj : J n w)
      (_h5 : Blk w b5 #[.func Y1 Y2 Y3] T5) (_h7 : Blk w b7 #[onS bo b5 b7] T7) (_h : ∀ w', J (n + t.size) w' → KP d w w' → K (.returned (.bool true)) w'), doCall Tryz.prog (onS bo b5 b7) #[.pointer p, .func f xs cs] w K
  | t, p, n, w, P, f, xs, cs, K, ht, ha, hk, hP, hM, hj, h5, h7, h => by
    refine do_callc Tryz.call248 (by rfl) (sh248_ok _ _ _ _ _ _ _ ?_)
    unfold sh248
    refine ⟨⟨?_⟩⟩
    have e1 := ext_alloc w (.cells #[.pointer p] 35)
    have h8 := blk_alloc w #[.pointer p] 35
    have d8 := hJd _ _ hj
    generalize w.heap.size = b8 at *
    generalize w.alloc (.cells #[.pointer p] 35) = w1 at *
    have e2 := ext_alloc w1 (.cells #[.func f xs cs] 319)
    have h10 := blk_alloc w1 #[.func f xs cs] 319
    have d10 : d < w1.heap.size := by have := h8.lt; omega
    generalize w1.heap.size = b10 at *
    generalize w1.alloc (.cells #[.func f xs cs] 319) = w2 at *
    have E2 := e1.trans e2
    have h82 := h8.ext e2
    have h52 := h5.ext E2
    have h72 := h7.ext E2
    have hj2 := hJx _ _ _ hj E2
    have hM2 := hM.kp (.of E2)
    refine ⟨_, h82.cell (i := 0) rfl rfl, ?_⟩
    rw [ht.isNone]
    match t, ht, ha, hk, hP, h with
    | .nil, ht, ha, hk, hP, h => exact ifB_t rfl (h _ hj2 (.of E2))
    | .node l k v g r, ht, ha, hk, hP, h =>
      refine ifB_f rfl ?_
      intro K15
      have e : (Tr.node l k v g r).size = l.size + 1 + r.size := rfl
      obtain ⟨al, ar, bl, br⟩ := asc_node ha
      obtain ⟨kl, kk, kr⟩ := hk
      have hPk : P k := by
        have := hP (itC c (k, v, g)) (by rw [itsC_node]; simp)
        rw [itC_key] at this
        exact this
      have dr := ext_drew w2
      have hC : ∀ w', KP d w2 w' → Blk w' b5 #[.func Y1 Y2 Y3] T5 ∧ Blk w' b8 #[.pointer p] 35 ∧ Blk w' b10 #[.func f xs cs] 319 ∧ Blk w' b7 #[onS bo b5 b7] T7 := fun w' q => ⟨q _ _ _ hd5 h52, q _ _ _ d8 h82, q _ _ _ d10 h10, q _ _ _ hd7 h72⟩
      have hj3 := hJx _ _ _ hj2 dr
      refine ⟨⟨fun w' => KP d w2 w', .of dr, _, _, _, fun w' q => (hC w' q).1.cell (i := 0) rfl rfl, _, fun w' q => (hC w' q).2.1.cell (i := 0) rfl rfl, _, _, _, fun w' q => (hC w' q).2.2.1.cell (i := 0) rfl rfl, _, fun w' q => (hC w' q).2.1.cell (i := 0) rfl rfl, ?_⟩⟩
      refine do_call Tryz.call108 (c_key (ht.ext (hJe _ _ hj3)) fun w4 e4 => retS_ret ⟨_, rfl, .of (dr.trans e4), ?_⟩)
      have hj4 := hJx _ _ _ hj3 e4
      refine hM2 n _ k _ (.of (dr.trans e4)) hj4 kk hPk fun w5 e5 => retS_ret ⟨_, rfl, .of ((dr.trans e4).trans e5), ?_⟩
      have hj5 := hJx _ _ _ hj4 e5
      refine hY n p _ _ hj5 fun w6 hj6 k6 => retS_ret ⟨_, rfl, ?_⟩
      have q6 : KP d w2 w6 := (KP.of ((dr.trans e4).trans e5)).trans k6
      refine ⟨q6, ifB_t rfl ⟨_, _, _, fun w' q => (hC w' q).2.2.2.cell (i := 0) rfl rfl, _, fun w' q => (hC w' q).2.1.cell (i := 0) rfl rfl, ?_⟩⟩
      refine do_call Tryz.call123 (c_left0 ht (hJe _ _ hj6) fun pl hpl => retS_ret ⟨_, rfl, q6, ?_⟩)
      have ML := mayB_left hJe hJx hJo d8 d10 (hM2.kp q6) (hC w6 q6).2.1 (hC w6 q6).2.2.1 ht kk
      refine do_onS hd5 hd7 hJd hJe hJx hJo hY l hpl al kl (fun x hx => ⟨hP x (by rw [itsC_node]; simp [hx]), bl x hx⟩) ML hj6 (hC w6 q6).1 (hC w6 q6).2.2.2 fun w7 hj7 k7 => retS_ret ⟨_, rfl, q6.trans k7, ?_⟩
      have q7 := q6.trans k7
      refine ifB_t rfl ⟨_, _, _, fun w' q => (hC w' q).2.2.2.cell (i := 0) rfl rfl, _, fun w' q => (hC w' q).2.1.cell (i := 0) rfl rfl, ?_⟩
      refine do_call Tryz.call125 (c_right0 ht (hJe _ _ hj7) fun pr hpr => retS_ret ⟨_, rfl, q7, ?_⟩)
      have MR := mayB_right hJe hJx hJo d8 d10 (hM2.kp q7) (hC w7 q7).2.1 (hC w7 q7).2.2.1 ht kk
      refine do_onS hd5 hd7 hJd hJe hJx hJo hY r hpr ar kr (fun x hx => ⟨hP x (by rw [itsC_node]; simp [hx]), cmpI_neg (br x hx)⟩) MR hj7 (hC w7 q7).1 (hC w7 q7).2.2.2 fun w8 hj8 k8 => retS_ret ⟨_, rfl, q7.trans k8, ?_⟩
      rw [show n + 1 + l.size + r.size = n + (Tr.node l k v g r).size by omega] at hj8
      exact h _ hj8 ((KP.of E2).trans (q7.trans k8))
  termination_by t => t.size
  decreasing_by all_goals simp_wf; simp only [Tr.size]; omega
end
end Go.Proofs.YtlddfgfmkapoiaaGreat

namespace Go.Proofs.YtlddfgfmkapoiaaGreat
open Go Go.Sh Go.RowKit

/-! ### The document's answers -/
set_option maxRecDepth 20000 in
theorem c_pairs : ∀ (t : BT) {q : Option Addr} {n c : Nat} {w : World} {R : Ending → World → Prop} (_hl : Cs w q (bds t.beads)) (_hn : t.size = n) (_hnc : n ≤ c) (_hw : t.wf = true) (_hm : n ≤ 5000)
    (_h : ∀ p n' c' w', OwnP w' w.heap.size p n' c' t.tr.pairs → Ext w w' → R (.returned (.slice p n' c')) w'), Calls Tryz.prog 60 #[.slice q n c] w R
  | .nil, q, n, c, w, R, hl, hn, hnc, hw, hm, h => by
    refine sh60_ok _ _ _ ?_
    unfold sh60
    have : n = 0 := by rw [← hn]; rfl
    subst this
    exact ifB_t rfl (h _ _ _ _ (ownP_nil _ _) (ext_refl w))
  | .node x L Rt, q, n, c, w, R, hl, hn, hnc, hw, hm, h => by
    refine sh60_ok _ _ _ ?_
    unfold sh60
    have hsz := BT.size_node x L Rt
    obtain ⟨_, _, w2f, w3f⟩ := BT.wf_node hw
    refine ifB_f (by simp; omega) ?_
    refine do_call Tryz.call109 (c_parts hl hn hnc hw hm fun p1 c1 p2 c2 w1 e1 hp h1 h2 => retS_ret ⟨_, _, _, _, _, _, _, _, _, _, _, _, _, rfl, ⟨?_⟩⟩)
    refine do_st7 (blk_alloc w1 _ _) fun w2 hb2 g2 => ?_
    have e2 : Ext w1 w2 := (ext_alloc w1 _).st g2 (Nat.le_refl _)
    have E2 := e1.trans e2
    have hcs := fun (w'' : World) (e : Ext w2 w'') => hp w'' (hl.ext (E2.trans e))
    have hLp : L.tr.pairs.length = L.size := by rw [Tr.pairs_length, BT.tr_size]
    have hRp : Rt.tr.pairs.length = Rt.size := by rw [Tr.pairs_length, BT.tr_size]
    -- what is right of it, behind what there is
    have hK : ∀ {out : Option Addr} {on oc : Nat} {w' : World}, Ext w w' → OwnP w' w.heap.size out on oc (L.tr.pairs ++ [(x.key, x.val)]) → (∀ w'', Ext w' w'' → Cs w'' p2 (bds Rt.beads)) →
        doCall Tryz.prog (.func (.func 60) #[] #[]) #[.slice p2 Rt.size c2] w' (retS (fun v36 w37 => ∃ (xp33 : Option Addr), ∃ (xn34 : Nat), ∃ (xc35 : Nat), v36 = (.slice xp33 xn34 xc35 : Value) ∧ (
          doGo Tryz.prog (.builtin .append #[22, 22] 22 #[false, false]) #[.slice out on oc, .slice xp33 xn34 xc35] w37 (retS (fun v41 w42 => ∃ (xp38 : Option Addr), ∃ (xn39 : Nat), ∃ (xc40 : Nat), v41 = (.slice xp38 xn39 xc40 : Value) ∧ (
          R (.returned (.slice xp38 xn39 xc40)) w42)) (fun ch w => Kfn R ch [] w)))) (fun ch w => Kfn R ch [] w)) := by
      intro out on oc w' E' ho' hR'
      refine do_call Tryz.call60 (c_pairs Rt (hR' _ (ext_refl _)) rfl h2 w3f (by omega) fun p5 n5 c5 w5 h5 e5 => retS_ret ⟨_, _, _, rfl, ?_⟩)
      have hon := ownP_len ho'
      have hn5 := ownP_len h5
      simp only [List.length_append, List.length_cons, List.length_nil] at hon
      have ho5 := row_to ho' e5 (Nat.le_refl _)
      refine do_app elP ho5 (ownP_cs h5) (by simp [hn5]) prs_one (by simp only [maxLen]; omega) (by omega) (Nat.le_trans E'.size e5.size) fun p6 c6 w6 h6 g6 => retS_ret ⟨_, _, _, rfl, ?_⟩
      refine h _ _ _ _ ?_ (ext_own ho5 (E'.trans e5) g6 (Nat.le_refl _))
      show w6.ownsRow _ _ _ _ _ (prs (L.tr.pairs ++ (x.key, x.val) :: Rt.tr.pairs))
      rw [show L.tr.pairs ++ (x.key, x.val) :: Rt.tr.pairs = (L.tr.pairs ++ [(x.key, x.val)]) ++ Rt.tr.pairs by simp, prs_append]
      exact h6
    refine ⟨⟨fun w' => Ext w2 w', ext_drew _, _, fun w' e => (hb2.ext e).cell (i := 0) (add_blk _ _) rfl, _, fun w' e => (hb2.ext e).cell (i := 1) (add_blk _ _) rfl, ?_, ?_⟩⟩
    · refine do_call Tryz.call60 (c_pairs L (hcs _ (ext_drew _)).1 rfl h1 w2f (by omega) fun p3 n3 c3 w3 h3 e3 => retS_ret ⟨_, _, _, rfl, (ext_drew w2).trans e3, ⟨?_⟩⟩)
      have e4 := ext_alloc w3 (.cells #[.int .i64 x.key, .int .i64 x.val] 46)
      have E3 := (ext_drew w2).trans e3
      refine ⟨E3.trans e4, ?_⟩
      have hn3 := ownP_len h3
      have ho4 := row_to h3 e4 (Nat.le_refl _)
      refine do_app elP ho4 (m := 1) (cs_alloc w3 _ _) (by simp) (by simp [Value.oneCell']) (by simp only [maxLen]; omega) (by omega) (Nat.le_trans e3.size e4.size) fun p5 c5 w5 h5 g5 => retS_ret ⟨_, _, _, rfl, ?_⟩
      have E5 : Ext w2 w5 := ext_own ho4 (E3.trans e4) g5 (Nat.le_refl _)
      refine ⟨E5, hK (E2.trans E5) ?_ fun w'' e => (hcs _ (E5.trans e)).2⟩
      show w5.ownsRow _ _ _ _ _ _
      rw [prs_append]
      exact row_mono h5 E2.size
    · refine ⟨?_⟩
      have e3 : Ext w2 (w2.drew.alloc (.cells #[.int .i64 x.key, .int .i64 x.val] 46)) := (ext_drew w2).alloc _
      have hx3 := blk_alloc w2.drew #[.int .i64 x.key, .int .i64 x.val] 46
      generalize w2.drew.alloc (.cells #[.int .i64 x.key, .int .i64 x.val] 46) = w3 at *
      refine ⟨e3, ?_⟩
      refine do_call Tryz.call60 (c_pairs L (hcs _ e3).1 rfl h1 w2f (by omega) fun p4 n4 c4 w4 h4 e4 => retS_ret ⟨_, _, _, rfl, e3.trans e4, ?_⟩)
      have E4 := e3.trans e4
      have hn4 := ownP_len h4
      have hx4 := hx3.ext e4
      refine do_app elP h4 (m := 1) (news := prs [(x.key, x.val)]) (q := some (blk w2.drew.heap.size)) (fun j v hj => ?_) (by simp) prs_one (by simp only [maxLen]; omega) (by omega) e4.size fun p5 c5 w5 h5 g5 => retS_ret ⟨_, _, _, rfl, ?_⟩
      · match j, hj with
        | 0, hj => cases hj; exact ⟨_, rfl, hx4.cell (add_blk _ _) rfl⟩
        | 1, hj => cases hj; exact ⟨_, rfl, hx4.cell (add_blk _ _) rfl⟩
        | j + 2, hj => simp at hj
      have E5 : Ext w2 w5 := ext_own h4 E4 g5 e3.size
      refine ⟨E5, hK (E2.trans E5) ?_ fun w'' e => (hcs _ (E5.trans e)).2⟩
      show w5.ownsRow _ _ _ _ _ _
      rw [prs_append]
      exact row_mono h5 (Nat.le_trans E2.size e3.size)
end Go.Proofs.YtlddfgfmkapoiaaGreat

namespace Go.Proofs.YtlddfgfmkapoiaaGreat
open Go Go.Sh Go.RowKit

abbrev OwnB (w : World) (base : Nat) (p : Option Addr) (n c : Nat) (l : List Bd) : Prop := w.ownsRow base 150 7 (.slice p n c) n (bds l)
theorem ownB_len {w : World} {base n c : Nat} {p : Option Addr} {l : List Bd} (h : OwnB w base p n c l) : l.length = n := by have := h.1; rw [bds_length] at this; omega
theorem ownB_cs {w : World} {base n c : Nat} {p : Option Addr} {l : List Bd} (h : OwnB w base p n c l) : Cs w p (bds l) := Cs.of_row h
theorem ownB_nil (w : World) (base : Nat) : OwnB w base none 0 0 [] := World.ownsRow_nil _ _ _ _
theorem rowB_to {w w' : World} {base base' n c : Nat} {p : Option Addr} {l : List Bd} (h : OwnB w base p n c l) (e : Ext w w') (hb : base' ≤ base) : OwnB w' base' p n c l := row_mono (e.row h) hb
theorem extB_own {a w w' : World} {base n c : Nat} {p : Option Addr} {l : List Bd} (h : OwnB w base p n c l) (e : Ext a w) (g : w.grownBy w' (Value.slice p n c).ownBlock) (hb : a.heap.size ≤ base) : Ext a w' :=
  e.grown g fun k hk => Nat.le_trans hb (World.ownsRow.lt h k hk).1
theorem c_r9sum {l : List Bd} {q : Option Addr} {n c : Nat} {w : World} {R : Ending → World → Prop} (hl : Cs w q (bds l)) (hn : l.length = n) (hm : n ≤ 1000000000000)
    (h : R (.returned (.int .i64 (sumV l))) w) : Calls Tryz.prog 115 #[.slice q n c] w R := by
  refine sh115_ok _ _ _ ?_
  unfold sh115
  refine ⟨fun vs w' => ∃ k : Nat, vs = [.int .i64 (sumV (l.take k)), .int .i64 k] ∧ k ≤ n ∧ w' = w, fun vs _ => n - (intOf (vs.getD 1 undef)).toNat, ⟨0, rfl, by omega, rfl⟩, ?_⟩
  rintro v i _ w2 ⟨k, hv, hkn, rfl⟩
  simp only [List.cons.injEq, Value.int.injEq, true_and, and_true] at hv
  obtain ⟨rfl, rfl⟩ := hv
  refine ifB_intro (fun hlt => ?_) fun hge => ?_
  · have hlt : k < n := by have := of_decide_eq_true hlt; omega
    refine ix_flat ecB_len (by omega) hl hn rfl hlt fun a r _ => ⟨_, r 1 _ rfl, ⟨k + 1, ?_, by omega, rfl⟩, ?_⟩
    · rw [wrap_succ hlt (by omega), show l.take (k + 1) = l.take k ++ [l[k]'(by omega)] from (List.take_append_getElem (by omega)).symm]
      simp only [sumV, List.foldl_append, List.foldl_cons, List.foldl_nil]
    · rw [wrap_succ hlt (by omega)]; simp [intOf]; omega
  · have hge : k = n := by have := of_decide_eq_false hge; omega
    subst hge
    rw [List.take_of_length_le (by omega)] at *
    exact h
/-- a bead alone is a row of one's own -/
theorem ownB_one {w : World} (x : Bd) : OwnB (w.alloc (.cells #[.int .i64 x.key, .int .i64 x.val, .int .i64 x.sum, .int .i64 x.size, .int .u64 x.tag, .bool x.left, .bool x.right] 150)) w.heap.size (some (blk w.heap.size)) 1 1 [x] :=
  World.ownsRow_lit (base := w.heap.size) (size := 7) (e := 150) w _ 1 (Nat.le_refl _) (by simp [maxLen]) (by simp)
set_option maxRecDepth 20000 in
theorem c_r9of : ∀ (t : BT) {q : Option Addr} {n c : Nat} {w : World} {R : Ending → World → Prop} (_hl : Cs w q (bds t.beads)) (_hn : t.size = n) (_hnc : n ≤ c) (_hw : t.wf = true) (_hm : n ≤ 5000)
    (_h : ∀ p n' c' w', OwnB w' w.heap.size p n' c' t.of.beads → Ext w w' → R (.returned (.slice p n' c')) w'), Calls Tryz.prog 47 #[.slice q n c] w R
  | .nil, q, n, c, w, R, hl, hn, hnc, hw, hm, h => by
    refine sh47_ok _ _ _ ?_
    unfold sh47
    have : n = 0 := by rw [← hn]; rfl
    subst this
    exact ifB_t rfl (h _ _ _ _ (ownB_nil _ _) (ext_refl w))
  | .node x L Rt, q, n, c, w, R, hl, hn, hnc, hw, hm, h => by
    refine sh47_ok _ _ _ ?_
    unfold sh47
    have hsz := BT.size_node x L Rt
    obtain ⟨_, _, w2f, w3f⟩ := BT.wf_node hw
    refine ifB_f (by simp; omega) ?_
    refine do_call Tryz.call109 (c_parts hl hn hnc hw hm fun p1 c1 p2 c2 w1 e1 hp h1 h2 => retS_ret ⟨_, _, _, _, _, _, _, _, _, _, _, _, _, rfl, ⟨?_⟩⟩)
    refine do_st7 (blk_alloc w1 _ _) fun w2 hb2 g2 => ?_
    have e2 : Ext w1 w2 := (ext_alloc w1 _).st g2 (Nat.le_refl _)
    have E2 := e1.trans e2
    have lb : w1.heap.size < w2.heap.size := hb2.lt
    refine do_st (i := 3) hb2 (by rw [add_zero', add_blk]) (by simp) fun w3 hb3 g3 => ?_
    have e3 : Ext w1 w3 := e2.st g3 (Nat.le_refl _)
    have E3 := e1.trans e3
    refine do_call Tryz.call115 (c_r9sum (hl.ext E3) (by exact hn) (by omega) (retS_ret ⟨_, rfl, ?_⟩))
    refine do_st (i := 2) hb3 (by rw [add_zero', add_blk]) (by simp) fun w4 hb4 g4 => ?_
    have e4 : Ext w1 w4 := e3.st g4 (Nat.le_refl _)
    have E4 := e1.trans e4
    obtain ⟨y, hy⟩ : ∃ y : Bd, y = { x with size := ((BT.node x L Rt).size : Nat), sum := sumV (BT.node x L Rt).beads } := ⟨_, rfl⟩
    have hb4 : Blk w4 w1.heap.size #[.int .i64 y.key, .int .i64 y.val, .int .i64 y.sum, .int .i64 y.size, .int .u64 y.tag, .bool y.left, .bool y.right] 150 := by rw [hy, hn]; exact hb4
    have hof : (BT.node x L Rt).of.beads = y :: (L.of.beads ++ Rt.of.beads) := by rw [hy]; rfl
    have hcs := fun (w'' : World) (e : Ext w4 w'') => hp w'' (hl.ext (E4.trans e))
    have hLs : L.of.beads.length = L.size := BT.of_size L
    have hRs : Rt.of.beads.length = Rt.size := BT.of_size Rt
    -- what is right of it, behind what there is
    have hK : ∀ {out : Option Addr} {on oc : Nat} {w' : World}, Ext w w' → OwnB w' w.heap.size out on oc (y :: L.of.beads) → (∀ w'', Ext w' w'' → Cs w'' p2 (bds Rt.beads)) →
        doCall Tryz.prog (.func (.func 47) #[] #[]) #[.slice p2 Rt.size c2] w' (retS (fun v36 w37 => ∃ (xp33 : Option Addr), ∃ (xn34 : Nat), ∃ (xc35 : Nat), v36 = (.slice xp33 xn34 xc35 : Value) ∧ (
          doGo Tryz.prog (.builtin .append #[57, 57] 57 #[false, false]) #[.slice out on oc, .slice xp33 xn34 xc35] w37 (retS (fun v41 w42 => ∃ (xp38 : Option Addr), ∃ (xn39 : Nat), ∃ (xc40 : Nat), v41 = (.slice xp38 xn39 xc40 : Value) ∧ (
          R (.returned (.slice xp38 xn39 xc40)) w42)) (fun ch w => Kfn R ch [] w)))) (fun ch w => Kfn R ch [] w)) := by
      intro out on oc w' E' ho' hR'
      refine do_call Tryz.call47 (c_r9of Rt (hR' _ (ext_refl _)) rfl h2 w3f (by omega) fun p5 n5 c5 w5 h5 e5 => retS_ret ⟨_, _, _, rfl, ?_⟩)
      have hon := ownB_len ho'
      have hn5 := ownB_len h5
      simp only [List.length_cons] at hon
      have ho5 := rowB_to ho' e5 (Nat.le_refl _)
      refine do_app elB ho5 (ownB_cs h5) (by rw [bds_length, hn5]) bds_one (by simp only [maxLen]; omega) (by omega) (Nat.le_trans E'.size e5.size) fun p6 c6 w6 h6 g6 => retS_ret ⟨_, _, _, rfl, ?_⟩
      refine h _ _ _ _ ?_ (extB_own ho5 (E'.trans e5) g6 (Nat.le_refl _))
      rw [hof]
      show w6.ownsRow _ _ _ _ _ (bds (y :: L.of.beads ++ Rt.of.beads))
      rw [bds_append]
      exact h6
    refine ⟨⟨fun w' => Ext w4 w', ext_drew _, _, fun w' e => (hb4.ext e).cell (i := 0) (add_blk _ _) rfl, _, fun w' e => (hb4.ext e).cell (i := 1) (add_blk _ _) rfl, _, fun w' e => (hb4.ext e).cell (i := 2) (add_blk _ _) rfl, _, fun w' e => (hb4.ext e).cell (i := 3) (add_blk _ _) rfl, _, fun w' e => (hb4.ext e).cell (i := 4) (add_blk _ _) rfl, _, fun w' e => (hb4.ext e).cell (i := 5) (add_blk _ _) rfl, _, fun w' e => (hb4.ext e).cell (i := 6) (add_blk _ _) rfl, ?_, ?_⟩⟩
    · refine ⟨?_⟩
      have ho5 := ownB_one (w := w4.drew) y
      have e5 : Ext w4 (w4.drew.alloc (.cells #[.int .i64 y.key, .int .i64 y.val, .int .i64 y.sum, .int .i64 y.size, .int .u64 y.tag, .bool y.left, .bool y.right] 150)) := (ext_drew w4).alloc _
      generalize w4.drew.alloc (.cells #[.int .i64 y.key, .int .i64 y.val, .int .i64 y.sum, .int .i64 y.size, .int .u64 y.tag, .bool y.left, .bool y.right] 150) = w5 at *
      refine do_call Tryz.call47 (c_r9of L (hcs _ e5).1 rfl h1 w2f (by omega) fun p6 n6 c6 w6 h6 e6 => retS_ret ⟨_, _, _, rfl, e5.trans e6, ?_⟩)
      have hn6 := ownB_len h6
      have ho6 := rowB_to ho5 e6 (Nat.le_refl _)
      refine do_app elB ho6 (ownB_cs h6) (by rw [bds_length, hn6]) bds_one (by simp only [maxLen]; omega) (by omega) (Nat.le_trans (Nat.le_of_eq rfl) (e5.trans e6).size) fun p7 c7 w7 h7 g7 => retS_ret ⟨_, _, _, rfl, ?_⟩
      have E7 : Ext w4 w7 := extB_own ho6 (e5.trans e6) g7 (Nat.le_refl _)
      refine ⟨E7, hK (E4.trans E7) ?_ fun w'' e => (hcs _ (E7.trans e)).2⟩
      show w7.ownsRow _ _ _ _ _ (bds ([y] ++ L.of.beads))
      rw [bds_append]
      exact row_mono h7 E4.size
    · refine do_call Tryz.call47 (c_r9of L (hcs _ (ext_drew _)).1 rfl h1 w2f (by omega) fun p6 n6 c6 w6 h6 e6 => retS_ret ⟨_, _, _, rfl, (ext_drew w4).trans e6, ⟨?_⟩⟩)
      have hn6 := ownB_len h6
      have e46 := (ext_drew w4).trans e6
      have ho7 := ownB_one (w := w6) y
      have e7 := ext_alloc w6 (.cells #[.int .i64 y.key, .int .i64 y.val, .int .i64 y.sum, .int .i64 y.size, .int .u64 y.tag, .bool y.left, .bool y.right] 150)
      refine do_app elB ho7 ((ownB_cs h6).ext e7) (by rw [bds_length, hn6]) bds_one (by simp only [maxLen]; omega) (by omega) e7.size fun p8 c8 w8 h8 g8 => retS_ret ⟨_, _, _, rfl, ?_⟩
      have E8 : Ext w4 w8 := extB_own ho7 (e46.trans e7) g8 e46.size
      refine ⟨E8, hK (E4.trans E8) ?_ fun w'' e => (hcs _ (E8.trans e)).2⟩
      show w8.ownsRow _ _ _ _ _ (bds ([y] ++ L.of.beads))
      rw [bds_append]
      exact row_mono h8 (Nat.le_trans E4.size e46.size)
/-! ### Sort: the row of pairs -/
def sortL (o p : Int) (l : List Pr) : List Pr := l.foldl (fun r x => putR o p r x) []
theorem sortL_snoc (o p : Int) (l : List Pr) (x : Pr) : sortL o p (l ++ [x]) = putR o p (sortL o p l) x := by simp [sortL]
theorem sortL_take {o p : Int} {l : List Pr} {k : Nat} (h : k < l.length) : sortL o p (l.take (k + 1)) = putR o p (sortL o p (l.take k)) l[k] := by
  rw [← List.take_append_getElem h, sortL_snoc]
theorem snoc_ind {α : Type} {P : List α → Prop} (h0 : P []) (h1 : ∀ l x, P l → P (l ++ [x])) (l : List α) : P l := by
  have : ∀ k, k ≤ l.length → P (l.take k) := fun k => by
    induction k with
    | zero => intro _; exact h0
    | succ k ih => intro hk; rw [← List.take_append_getElem (show k < l.length by omega)]; exact h1 _ _ (ih (by omega))
  have := this l.length (Nat.le_refl _)
  rwa [List.take_length] at this
theorem sortL_may {o p : Int} {l : List Pr} (ho : isO o = true) (hp : may p = true) (hI : InP l) : mayR o (sortL o p l) = true ∧ InP (sortL o p l) ∧ (sortL o p l).length ≤ l.length := by
  revert hI
  induction l using snoc_ind with
  | h0 => intro _; exact ⟨by simp [sortL, mayR, ho, chain], (by intro x hx; cases hx), Nat.le_refl _⟩
  | h1 l x ih =>
    intro hI
    obtain ⟨h1, h2, h3⟩ := ih fun y hy => hI y (List.mem_append_left _ hy)
    have hx := hI x (by simp)
    rw [sortL_snoc]
    refine ⟨put_may h1 hp h2 hx.1, put_in h1 hp h2 hx, ?_⟩
    rw [put_len h1 hp]
    simp only [List.length_append, List.length_cons, List.length_nil]
    split <;> omega
set_option maxRecDepth 20000 in
theorem c_r5sort {o p : Int} {l : List Pr} {q : Option Addr} {n c : Nat} {w : World} {R : Ending → World → Prop} (hl : Cs w q (prs l)) (hn : l.length = n) (hm : n ≤ 1000000000000 - 1) (hI : InP l)
    (h : ∀ p' n' c' w', OwnP w' w.heap.size p' n' c' (cond (isO o && may p) (sortL o p l) []) → Ext w w' → R (.returned (.tuple #[.slice p' n' c', .int .i64 (cond (isO o && may p) 0 2)])) w') : Calls Tryz.prog 96 #[.int .u8 o, .int .u8 p, .slice q n c] w R := by
  refine sh96_ok _ _ _ _ _ ?_
  unfold sh96
  refine do_call Tryz.call16 (c_ris (retS_ret ⟨_, rfl, ?_⟩))
  cases ho : isO o
  · have hr := h none 0 0 w
    rw [ho] at hr
    exact ifB_t rfl (hr (ownP_nil _ _) (ext_refl w))
  refine ifB_f rfl (do_call Tryz.call17 (c_rmay (retS_ret ⟨_, rfl, ?_⟩)))
  cases hp : may p
  · have hr := h none 0 0 w
    rw [ho, hp] at hr
    exact ifB_t rfl (hr (ownP_nil _ _) (ext_refl w))
  refine ifB_f rfl ?_
  rw [ho, hp] at h
  refine ⟨fun vs w' => ∃ (k n' c' : Nat) (p' : Option Addr), vs = [.slice p' n' c', .int .i64 k] ∧ k ≤ n ∧ Ext w w' ∧ OwnP w' w.heap.size p' n' c' (sortL o p (l.take k)), fun vs _ => n - (intOf (vs.getD 1 undef)).toNat, ⟨0, 0, 0, none, rfl, by omega, ext_refl w, ownP_nil _ _⟩, ?_⟩
  rintro p1 n1 c1 i1 _ w1 ⟨k, n', c', p', hv, hkn, E, ho1⟩
  simp only [List.cons.injEq, Value.slice.injEq, Value.int.injEq, true_and, and_true] at hv
  obtain ⟨⟨rfl, rfl, rfl⟩, rfl⟩ := hv
  refine ifB_intro (fun hlt => ?_) fun hge => ?_
  · have hlt : k < n := by have := of_decide_eq_true hlt; omega
    obtain ⟨m1, m2, m3⟩ := sortL_may (p := p) ho hp (fun x (hx : x ∈ l.take k) => hI x (List.mem_of_mem_take hx))
    have hl1 := ownP_len ho1
    rw [List.length_take] at m3
    refine ix_pr (hl.ext E) hn rfl hlt fun a r1 r2 _ => ⟨_, r1, _, r2, ?_⟩
    refine do_call Tryz.call177 (c_r4put (x := l[k]'(by omega)) (ownP_cs ho1) hl1 (row_cap ho1) (by omega) m2 (hI _ (List.getElem_mem _)).1 fun p2 n2 c2 w2 h2 e2 => retS_ret ⟨_, _, _, _, rfl, ?_⟩)
    refine ⟨⟨k + 1, n2, c2, p2, by rw [wrap_succ hlt (by omega)], by omega, E.trans e2, ?_⟩, ?_⟩
    · rw [sortL_take (by omega)]; exact row_mono h2 E.size
    · rw [wrap_succ hlt (by omega)]; simp [intOf]; omega
  · have hge : k = n := by have := of_decide_eq_false hge; omega
    subst hge
    rw [List.take_of_length_le (by omega)] at ho1
    exact h _ _ _ _ ho1 E
/-! ### Shape -/
end Go.Proofs.YtlddfgfmkapoiaaGreat

namespace Go.Proofs.YtlddfgfmkapoiaaGreat
open Go Go.Sh Go.RowKit

/-- tags that fit -/
def TagB (t : BT) : Prop := ∀ x ∈ t.beads, 0 ≤ x.tag ∧ x.tag < 18446744073709551616
theorem TagB.node {x : Bd} {L R : BT} (h : TagB (.node x L R)) : (0 ≤ x.tag ∧ x.tag < 18446744073709551616) ∧ TagB L ∧ TagB R :=
  ⟨h _ (by simp [BT.beads]), fun y hy => h _ (by simp [BT.beads, hy]), fun y hy => h _ (by simp [BT.beads, hy])⟩
theorem TagB.tag {t : BT} (h : TagB t) : 0 ≤ t.tr.tag ∧ t.tr.tag < 18446744073709551616 := by
  cases t with
  | nil => exact ⟨Int.le_refl _, by decide⟩
  | node x l r => exact h.node.1
/-! ### colours -/
end Go.Proofs.YtlddfgfmkapoiaaGreat

