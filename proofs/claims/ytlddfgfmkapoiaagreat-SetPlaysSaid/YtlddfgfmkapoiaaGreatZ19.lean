/-
  split, cut: what is parted, and joined again.
-/
/-
  split: Split, Ahead, Behind; cut: Last, Join2.
-/
/-
  cut: Last, Join2; split: Ahead, Behind.
-/
/-
  Trees as beads; rows of items. Plain.
-/
/-
  Ranks, Select, Many, and the document's Rank, Pairs, Select.
-/
/-
  Of, Node, Sort, Shape: rows and trees that the statements make.
-/
import Derived.Test.YtlddfgfmkapoiaaGreatZ18
import Derived.Test.YtlddfgfmkapoiaaGreatZ16
import Derived.Test.YtlddfgfmkapoiaaGreatZ15

namespace Go.Proofs.YtlddfgfmkapoiaaGreat
open Go Go.Sh Go.RowKit

theorem Gs.st {b k : Nat} {w0 w1 w2 : World} (h : Gs b w0 w1) (g : w1.grownBy w2 (some k)) (hk : w0.heap.size ≤ k) : Gs b w0 w2 :=
  ⟨g.os.trans h.os, g.tape.trans h.tape, g.output.trans h.output, Nat.le_trans (World.grownBy.size h) (World.grownBy.size g), fun i hi hne => by
    rw [g.block i (Nat.lt_of_lt_of_le hi (World.grownBy.size h)) (ne_some (by omega)), h.block i hi hne]⟩
theorem IsSch.st {c : Int} {b k : Nat} {w1 w2 : World} (h : IsSch c b w1) (g : w1.grownBy w2 (some k)) (hk : k ≠ b) : IsSch c b w2 := by
  rcases h with ⟨hss, ⟨j, hb⟩ | ⟨j, hb⟩⟩
  · exact ⟨hss, .inl ⟨j, hb.grown g (ne_some (Ne.symm hk))⟩⟩
  · exact ⟨hss, .inr ⟨j, hb.grown g (ne_some (Ne.symm hk))⟩⟩
theorem _root_.Go.Sh.IsT.st {k : Nat} {w1 w2 : World} {p : Option Addr} {t : Tr} {cs : Array Value} {ty : TypeId} (h : IsN w1 p t) (g : w1.grownBy w2 (some k)) (hb : Blk w1 k cs ty) (ht : ty ≠ 249) : IsN w2 p t := by
  induction t generalizing p with
  | nil => exact h
  | node l k' v gg r ihl ihr =>
    obtain ⟨b', pl, pr, hp, hb', hl, hr⟩ := h
    refine ⟨b', pl, pr, hp, hb'.grown g (ne_some ?_), ihl hl, ihr hr⟩
    rintro rfl
    exact ht (blk_fun hb hb')
theorem _root_.Go.Sh.Blk.gs {b k : Nat} {w w' : World} {cs : Array Value} {ty : TypeId} (h : Blk w k cs ty) (g : Gs b w w') (hk : k ≠ b) : Blk w' k cs ty := h.grown g (ne_some hk)
theorem splitC_p {c o key : Int} : ∀ {t : Tr}, OkP c t → OkM c (splitC c o key t).1 ∧ OkM c (splitC c o key t).2.2 ∧ (splitC c o key t).1.size + (splitC c o key t).2.2.size ≤ t.size
  | .nil, h => ⟨.nil h.s, .nil h.s, Nat.le_refl _⟩
  | .node l k v g r, h => by
    obtain ⟨hl, hr⟩ := h.sides
    have IL := splitC_p (o := o) (key := key) hl
    have IR := splitC_p (o := o) (key := key) hr
    have e : (Tr.node l k v g r).size = l.size + 1 + r.size := rfl
    unfold splitC
    split
    · have j := joinC_ok hl IR.1.1 (itC c (k, v, g))
      refine ⟨j.1, IR.2.1, ?_⟩
      simp only [joinC_size hl IR.1.1, e]; omega
    · split
      · have j := joinC_ok IL.2.1.1 hr (itC c (k, v, g))
        refine ⟨IL.1, j.1, ?_⟩
        simp only [joinC_size IL.2.1.1 hr, e]; omega
      · refine ⟨(wholeC_ok hl).1, (wholeC_ok hr).1, ?_⟩
        simp only [wholeC_size hl, wholeC_size hr, e]; omega
abbrev itO (x : Option It) : It := x.getD (0, 0, 0)
theorem do_at {o key k : Int} (ho : isO o = true) (hk : In k) {bo bk : Nat} {w : World} {R : Ending → World → Prop} (h1 : Blk w bo #[.int .u8 o] 5) (h2 : Blk w bk #[.int .u64 (codeI o key)] 75)
    (h : ∀ w', Ext w w' → R (.returned (.int .i64 (cmpI o k key))) w') : doCall Tryz.prog (.func (.func 216) #[] #[.pointer (some (blk bo)), .pointer (some (blk bk))]) #[.int .i64 k] w R := by
  refine do_callc Tryz.call216 (by rfl) (sh216_ok _ _ _ ?_)
  unfold sh216
  refine ⟨_, h1.cell (i := 0) rfl rfl, do_call Tryz.call215 (c_code hk fun w1 e1 => retS_ret ⟨_, _, rfl, _, (h2.ext e1).cell (i := 0) rfl rfl, ?_⟩)⟩
  rw [ho, cond_true]
  refine do_call Tryz.call217 (c_cmp64 (retS_ret ⟨_, rfl, ?_⟩))
  have e : (if codeI o k < codeI o key then (-1 : Int) else if codeI o key < codeI o k then 1 else 0) = cmpI o k key := by
    have : 1 ≤ o ∧ o ≤ 7 := by simpa [isO] using ho
    unfold cmpI; rw [if_pos this]
  rw [e]
  exact h _ e1
/-- an item, read and laid again -/
theorem do_re3 {c : Int} {b bx : Nat} {x : It} {w0 w : World} (hb : Blk w bx #[.int .i64 x.1, .int .i64 x.2.1, .int .u64 x.2.2] 114) (hx : w0.heap.size ≤ bx) (hne : bx ≠ b) (hg : Gs b w0 w) (hs : IsSch c b w) {K : World → Prop}
    (k : ∀ w', Blk w' bx #[.int .i64 x.1, .int .i64 x.2.1, .int .u64 x.2.2] 114 → w.grownBy w' (some bx) → Gs b w0 w' → IsSch c b w' → K w') :
    doSt ((blk bx).add 0) (.int .i64 x.1) w fun w1 => doSt ((blk bx).add 1) (.int .i64 x.2.1) w1 fun w2 => doSt ((blk bx).add 2) (.int .u64 x.2.2) w2 K :=
  do_st3 hb fun w' h' g' => k w' h' g' (hg.st g' hx) (hs.st g' hne)
def InK : Tr → Prop
  | .nil => True
  | .node l k _ _ r => InK l ∧ In k ∧ InK r
theorem inK_its {c : Int} {t : Tr} : InK t ↔ ∀ x ∈ itsC c t, In x.1 := by
  induction t with
  | nil => exact ⟨fun _ x hx => by simp [itsC, itT] at hx, fun _ => trivial⟩
  | node l k v g r ihl ihr =>
    rw [itsC_node]
    constructor
    · rintro ⟨h1, h2, h3⟩ x hx
      rcases List.mem_append.1 hx with hx | hx
      · exact ihl.1 h1 x hx
      · rcases List.mem_cons.1 hx with rfl | hx
        · rw [itC_key]; exact h2
        · exact ihr.1 h3 x hx
    · intro h
      exact ⟨ihl.2 fun x hx => h x (List.mem_append_left _ hx), by have := h (itC c (k, v, g)) (by simp); rwa [itC_key] at this, ihr.2 fun x hx => h x (List.mem_append_right _ (List.mem_cons_of_mem _ hx))⟩
set_option maxRecDepth 20000 in
theorem c_sparts {c o key : Int} {b bo bk : Nat} (ho : isO o = true) (nbo : bo ≠ b) (nbk : bk ≠ b) : ∀ (t : Tr) {p : Option Addr} {w : World} {R : Ending → World → Prop} (_hs : IsSch c b w) (_h1 : Blk w bo #[.int .u8 o] 5) (_h2 : Blk w bk #[.int .u64 (codeI o key)] 75)
    (_ht : IsN w p t) (_ok : OkP c t) (_hk : InK t) (_hB : t.size + 6 ≤ BIG) (_h : ∀ ql qr w', Gs b w w' → IsSch c b w' → IsN w' ql (splitC c o key t).1 → IsN w' qr (splitC c o key t).2.2 →
      R (.returned (.tuple #[.pointer ql, agI (itO (splitC c o key t).2.1), .bool (splitC c o key t).2.1.isSome, .pointer qr])) w'),
    Calls Tryz.prog 165 #[.pointer (some (blk b)), .func (.func 216) #[] #[.pointer (some (blk bo)), .pointer (some (blk bk))], .pointer p] w R
  | .nil, p, w, R, hs, h1, h2, ht, ok, hk, hB, h => by
    obtain rfl : p = none := ht
    refine sh165_ok _ _ _ _ _ ?_
    unfold sh165
    refine ⟨ifB_t rfl ?_⟩
    have e0 := ext_alloc w (.cells #[.int .i64 0, .int .i64 0, .int .u64 0] 114)
    have hx := blk_alloc w #[.int .i64 0, .int .i64 0, .int .u64 0] 114
    have hlt := hs.lt
    generalize hbx : w.heap.size = bx at *
    generalize w.alloc (.cells #[.int .i64 0, .int .i64 0, .int .u64 0] 114) = w1 at *
    have d := ext_drew w1
    refine ⟨⟨fun w' => Ext w1 w', d, _, fun w' e => (hx.ext e).cell (i := 0) (add_blk _ _) rfl, _, fun w' e => (hx.ext e).cell (i := 1) (add_blk _ _) rfl, _, fun w' e => (hx.ext e).cell (i := 2) (add_blk _ _) rfl, ?_⟩⟩
    refine do_re3 (x := (0, 0, 0)) (hx.ext d) (by omega) (by omega) (gs_of (e0.trans d)) (hs.ext (e0.trans d)) fun w2 hx2 g2 gs2 hs2 => ?_
    exact ⟨_, hx2.cell (i := 0) (add_blk _ _) rfl, _, hx2.cell (i := 1) (add_blk _ _) rfl, _, hx2.cell (i := 2) (add_blk _ _) rfl, h _ _ _ gs2 hs2 rfl rfl⟩
  | .node l k v g r, p, w, R, hs, h1, h2, ht, ok, hk, hB, h => by
    refine sh165_ok _ _ _ _ _ ?_
    unfold sh165
    refine ⟨ifB_f (by rw [ht.isNone]; rfl) ?_⟩
    obtain ⟨okl, okr⟩ := ok.sides
    obtain ⟨hkl, hkk, hkr⟩ := hk
    have hsz : (Tr.node l k v g r).size = l.size + 1 + r.size := rfl
    have e0 := ext_alloc w (.cells #[.int .i64 0, .int .i64 0, .int .u64 0] 114)
    have hx := blk_alloc w #[.int .i64 0, .int .i64 0, .int .u64 0] 114
    have hlt := hs.lt
    generalize hbx : w.heap.size = bx at *
    generalize w.alloc (.cells #[.int .i64 0, .int .i64 0, .int .u64 0] 114) = w1 at *
    have nbx : bx ≠ b := by omega
    have hroot : rootC c (.node l k v g r) = itC c (k, v, g) := rfl
    refine do_call Tryz.call108 (c_key (ht.ext e0) fun w2 e2 => retS_ret ⟨_, rfl, ?_⟩)
    have E2 := e0.trans e2
    refine do_at ho hkk (h1.ext E2) (h2.ext E2) fun w3 e3 => retS_ret ⟨_, rfl, ?_⟩
    have E3 := E2.trans e3
    have hx3 := hx.ext (e2.trans e3)
    have hs3 := hs.ext E3
    have ht3 := ht.ext E3
    have h13 := h1.ext E3
    have h23 := h2.ext E3
    have g3 : Gs b w w3 := gs_of E3
    unfold splitC at h
    refine ifB_intro (fun hc => ?_) fun hc => ?_
    · have hc : cmpI o k key < 0 := of_decide_eq_true hc
      simp only [hc, if_true] at h
      have sp := splitC_p (o := o) (key := key) okr
      refine do_call Tryz.call125 (c_right ht3 fun q4 h4 => retS_ret ⟨_, rfl, ?_⟩)
      refine do_call Tryz.call165 (c_sparts ho nbo nbk r hs3 h13 h23 h4 okr hkr (by omega) fun ql qr w5 g5 hs5 hl5 hr5 => retS_ret ⟨_, _, _, _, _, _, rfl, ?_⟩)
      have hx5 := hx3.gs g5 nbx
      have gt5 := g3.trans g5
      refine do_st3 hx5 fun w6 hx6 g6 => ?_
      have gt6 := gt5.st g6 (by omega)
      have hs6 := hs5.st g6 nbx
      have hl6 := hl5.st g6 hx5 (by decide)
      have hr6 := hr5.st g6 hx5 (by decide)
      have d := ext_drew w6
      refine ⟨⟨fun w' => Blk w' bx _ _, hx6, _, fun w' e => e.cell (i := 0) (add_blk _ _) rfl, _, fun w' e => e.cell (i := 1) (add_blk _ _) rfl, _, fun w' e => e.cell (i := 2) (add_blk _ _) rfl, ?_⟩⟩
      have gt6d := gt6.trans (gs_of d)
      refine do_call Tryz.call123 (c_left (ht.gs hs gt6d) fun q7 h7 => retS_ret ⟨_, rfl, hx6.ext d, ?_⟩)
      refine do_call Tryz.call213 (c_sitem (hs6.ext d) (ht.gs hs gt6d) fun w8 g8 hs8 => retS_ret ⟨_, _, _, rfl, (hx6.ext d).gs g8 nbx, ?_⟩)
      have gt8 := gt6d.trans g8
      refine do_call Tryz.call106 (c_sjoin hs8 (h7.gs (hs6.ext d) g8) ((hl6.ext d).gs (hs6.ext d) g8) okl sp.1.1 (by simp only [Tr.left]; omega) fun q9 w9 g9 hs9 h9 => retS_ret ⟨_, rfl, ((hx6.ext d).gs g8 nbx).gs g9 nbx, ?_⟩)
      have hx9 := ((hx6.ext d).gs g8 nbx).gs g9 nbx
      refine do_re3 (x := itO (splitC c o key r).2.1) hx9 (w0 := w) (by omega) nbx (gt8.trans g9) hs9 fun w10 hx10 g10 gs10 hs10 => ?_
      exact ⟨_, hx10.cell (i := 0) (add_blk _ _) rfl, _, hx10.cell (i := 1) (add_blk _ _) rfl, _, hx10.cell (i := 2) (add_blk _ _) rfl, h _ _ _ gs10 hs10 (h9.st g10 hx9 (by decide)) ((((hr6.ext d).gs (hs6.ext d) g8).gs hs8 g9).st g10 hx9 (by decide))⟩
    · have hc : ¬ cmpI o k key < 0 := of_decide_eq_false hc
      simp only [hc, if_false] at h
      refine ifB_intro (fun hc2 => ?_) fun hc2 => ?_
      · have hc2 : 0 < cmpI o k key := of_decide_eq_true hc2
        simp only [hc2, if_true] at h
        have sp := splitC_p (o := o) (key := key) okl
        refine do_call Tryz.call123 (c_left ht3 fun q4 h4 => retS_ret ⟨_, rfl, ?_⟩)
        refine do_call Tryz.call165 (c_sparts ho nbo nbk l hs3 h13 h23 h4 okl hkl (by omega) fun ql qr w5 g5 hs5 hl5 hr5 => retS_ret ⟨_, _, _, _, _, _, rfl, ?_⟩)
        have hx5 := hx3.gs g5 nbx
        have gt5 := g3.trans g5
        refine do_st3 hx5 fun w6 hx6 g6 => ?_
        have gt6 := gt5.st g6 (by omega)
        have hs6 := hs5.st g6 nbx
        have hl6 := hl5.st g6 hx5 (by decide)
        have hr6 := hr5.st g6 hx5 (by decide)
        have d := ext_drew w6
        refine ⟨⟨fun w' => Blk w' bx _ _, hx6, _, fun w' e => e.cell (i := 0) (add_blk _ _) rfl, _, fun w' e => e.cell (i := 1) (add_blk _ _) rfl, _, fun w' e => e.cell (i := 2) (add_blk _ _) rfl, ?_⟩⟩
        have gt6d := gt6.trans (gs_of d)
        refine do_call Tryz.call213 (c_sitem (hs6.ext d) (ht.gs hs gt6d) fun w8 g8 hs8 => retS_ret ⟨_, _, _, rfl, (hx6.ext d).gs g8 nbx, ?_⟩)
        have gt8 := gt6d.trans g8
        refine do_call Tryz.call125 (c_right (ht.gs hs gt8) fun q7 h7 => retS_ret ⟨_, rfl, (hx6.ext d).gs g8 nbx, ?_⟩)
        refine do_call Tryz.call106 (c_sjoin hs8 ((hr6.ext d).gs (hs6.ext d) g8) h7 sp.2.1.1 okr (by simp only [Tr.right]; omega) fun q9 w9 g9 hs9 h9 => retS_ret ⟨_, rfl, ((hx6.ext d).gs g8 nbx).gs g9 nbx, ?_⟩)
        have hx9 := ((hx6.ext d).gs g8 nbx).gs g9 nbx
        refine do_re3 (x := itO (splitC c o key l).2.1) hx9 (w0 := w) (by omega) nbx (gt8.trans g9) hs9 fun w10 hx10 g10 gs10 hs10 => ?_
        exact ⟨_, hx10.cell (i := 0) (add_blk _ _) rfl, _, hx10.cell (i := 1) (add_blk _ _) rfl, _, hx10.cell (i := 2) (add_blk _ _) rfl, h _ _ _ gs10 hs10 ((((hl6.ext d).gs (hs6.ext d) g8).gs hs8 g9).st g10 hx9 (by decide)) (h9.st g10 hx9 (by decide))⟩
      · have hc2 : ¬ 0 < cmpI o k key := of_decide_eq_false hc2
        simp only [hc2, if_false] at h
        refine do_call Tryz.call123 (c_left ht3 fun q4 h4 => retS_ret ⟨_, rfl, ?_⟩)
        refine do_call Tryz.call162 (c_swhole hs3 h4 okl (by simp only [Tr.left]; omega) fun q5 w5 g5 hs5 h5 => retS_ret ⟨_, rfl, ?_⟩)
        have gt5 := g3.trans g5
        refine do_call Tryz.call213 (c_sitem hs5 (ht.gs hs gt5) fun w6 g6 hs6 => retS_ret ⟨_, _, _, rfl, ?_⟩)
        have gt6 := gt5.trans g6
        refine do_call Tryz.call125 (c_right (ht.gs hs gt6) fun q7 h7 => retS_ret ⟨_, rfl, ?_⟩)
        refine do_call Tryz.call162 (c_swhole hs6 h7 okr (by simp only [Tr.right]; omega) fun q8 w8 g8 hs8 h8 => retS_ret ⟨_, rfl, ?_⟩)
        have hx8 := ((hx3.gs g5 nbx).gs g6 nbx).gs g8 nbx
        refine do_st3 hx8 fun w9 hx9 g9 => ?_
        have gt9 := (gt6.trans g8).st g9 (by omega)
        exact ⟨_, hx9.cell (i := 0) (add_blk _ _) rfl, _, hx9.cell (i := 1) (add_blk _ _) rfl, _, hx9.cell (i := 2) (add_blk _ _) rfl, h _ _ _ gt9 (hs8.st g9 nbx) (((h5.gs hs5 g6).gs hs6 g8).st g9 hx8 (by decide)) (h8.st g9 hx8 (by decide))⟩
end Go.Proofs.YtlddfgfmkapoiaaGreat

namespace Go.Proofs.YtlddfgfmkapoiaaGreat
open Go Go.Sh Go.RowKit

theorem c_where {o key : Int} (hk : In key) {w : World} {R : Ending → World → Prop} (h0 : isO o = false → ∀ w', Ext w w' → R (.returned (.tuple #[.nilFunc, .int .i64 2])) w')
    (h1 : isO o = true → ∀ bo bk w', Ext w w' → Blk w' bo #[.int .u8 o] 5 → Blk w' bk #[.int .u64 (codeI o key)] 75 → w.heap.size ≤ bo → w.heap.size ≤ bk →
      R (.returned (.tuple #[.func (.func 216) #[] #[.pointer (some (blk bo)), .pointer (some (blk bk))], .int .i64 0])) w') : Calls Tryz.prog 164 #[.int .u8 o, .int .i64 key] w R := by
  refine sh164_ok _ _ ?_
  unfold sh164
  have e0 := ext_alloc w (.cells #[.int .u8 o] 5)
  have hb0 := blk_alloc w #[.int .u8 o] 5
  refine ⟨_, hb0.cell (i := 0) rfl rfl, do_call Tryz.call215 (c_code hk fun w1 e1 => retS_ret ⟨_, _, rfl, ⟨?_⟩⟩)⟩
  have E1 := e0.trans e1
  have hk0 := blk_alloc w1 #[.int .u64 0] 75
  refine do_st (i := 0) hk0 (add_blk _ _) (by simp) fun w2 hk2 g2 => ?_
  have e2 : Ext w1 w2 := (ext_alloc w1 _).st g2 (Nat.le_refl _)
  have E2 := E1.trans e2
  have hb2 := hb0.ext (e1.trans e2)
  cases ho : isO o with
  | false => exact ifB_t rfl (h0 ho _ E2)
  | true =>
    rw [ho, cond_true] at hk2
    exact ifB_f rfl (h1 ho _ _ _ E2 hb2 hk2 (Nat.le_refl _) E1.size)
set_option maxRecDepth 20000 in
theorem c_split {c o key : Int} {b : Nat} (ho : isO o = true) (hk : In key) {t : Tr} {p : Option Addr} {w : World} {R : Ending → World → Prop} (hs : IsSch c b w) (ht : IsN w p t) (ok : OkP c t) (hkt : InK t) (hB : t.size + 6 ≤ BIG)
    (h : ∀ ql qr w', Gs b w w' → IsSch c b w' → IsN w' ql (splitC c o key t).1 → IsN w' qr (splitC c o key t).2.2 →
      R (.returned (.tuple #[.pointer ql, agI (itO (splitC c o key t).2.1), .bool (splitC c o key t).2.1.isSome, .pointer qr, .int .i64 0])) w') : Calls Tryz.prog 89 #[.pointer (some (blk b)), .int .u8 o, .pointer p, .int .i64 key] w R := by
  refine sh89_ok _ _ _ _ ?_
  unfold sh89
  refine ⟨?_⟩
  have e0 := ext_alloc w (.cells #[.int .i64 0, .int .i64 0, .int .u64 0] 114)
  have hx := blk_alloc w #[.int .i64 0, .int .i64 0, .int .u64 0] 114
  have hlt := hs.lt
  generalize hbx : w.heap.size = bx at *
  generalize w.alloc (.cells #[.int .i64 0, .int .i64 0, .int .u64 0] 114) = w1 at *
  have nbx : bx ≠ b := by omega
  have hxl := hx.lt
  intro K10
  refine do_call Tryz.call164 (c_where hk (fun h0 _ _ => by rw [ho] at h0; cases h0) fun _ bo bk w2 e2 hbo hbk lo lk => retS_ret (.inl ⟨_, _, _, _, rfl, ?_⟩))
  simp -zeta -zetaHave only [K10]
  intro K13
  refine ifB_f rfl ?_
  have E2 := e0.trans e2
  refine ifB_f rfl (do_call Tryz.call165 (c_sparts ho (by omega) (by omega) t (hs.ext E2) hbo hbk (ht.ext E2) ok hkt hB fun ql qr w3 g3 hs3 hl3 hr3 => retS_ret ⟨_, _, _, _, _, _, rfl, ?_⟩))
  have gt3 : Gs b w w3 := (gs_of E2).trans g3
  have hx3 := (hx.ext e2).gs g3 nbx
  refine do_st3 hx3 fun w4 hx4 g4 => ?_
  have gt4 := gt3.st g4 (by omega)
  have hs4 := hs3.st g4 nbx
  have hl4 := hl3.st g4 hx3 (by decide)
  have hr4 := hr3.st g4 hx3 (by decide)
  have d := ext_drew w4
  refine ⟨⟨fun w' => Blk w' bx _ _, hx4, _, fun w' e => e.cell (i := 0) (add_blk _ _) rfl, _, fun w' e => e.cell (i := 1) (add_blk _ _) rfl, _, fun w' e => e.cell (i := 2) (add_blk _ _) rfl, ?_⟩⟩
  refine do_re3 (x := itO (splitC c o key t).2.1) (hx4.ext d) (w0 := w) (by omega) nbx (gt4.trans (gs_of d)) (hs4.ext d) fun w5 hx5 g5 gs5 hs5 => ?_
  exact ⟨_, hx5.cell (i := 0) (add_blk _ _) rfl, _, hx5.cell (i := 1) (add_blk _ _) rfl, _, hx5.cell (i := 2) (add_blk _ _) rfl, h _ _ _ gs5 hs5 ((hl4.ext d).st g5 (hx4.ext d) (by decide)) ((hr4.ext d).st g5 (hx4.ext d) (by decide))⟩
/-! ### cut -/
abbrev toA (bs : Nat) : Array Value := #[.func (.func 125) #[] #[], .func (.func 123) #[] #[], .func (.func 339) #[] #[.pointer (some (blk bs))]]
theorem c_to {bs0 : Option Addr} {w : World} {R : Ending → World → Prop} (h : ∀ bs w', Ext w w' → Blk w' bs #[.pointer bs0] 25 → w.heap.size ≤ bs → R (.returned (.agg (toA bs))) w') : Calls Tryz.prog 308 #[.pointer bs0, .bool true] w R := by
  refine sh308_ok _ _ ?_
  unfold sh308
  refine ⟨⟨ifB_t rfl ?_⟩⟩
  have e0 := ext_alloc w (.cells #[.pointer bs0] 25)
  have hb := blk_alloc w #[.pointer bs0] 25
  generalize w.alloc (.cells #[.pointer bs0] 25) = w1 at *
  refine do_st3 (blk_alloc w1 _ _) fun w2 h2 g2 => ?_
  have e2 : Ext w1 w2 := (ext_alloc w1 _).st g2 (Nat.le_refl _)
  exact ⟨_, _, _, h2.cell (i := 0) (add_blk _ _) rfl, _, _, _, h2.cell (i := 1) (add_blk _ _) rfl, _, _, _, h2.cell (i := 2) (add_blk _ _) rfl, h _ _ (e0.trans e2) (hb.ext e2) (Nat.le_refl _)⟩
/-- the join of a way towards the last item -/
theorem do_tojoin {c : Int} {b bs : Nat} {l r : Tr} {k v g : Int} {pl pr : Option Addr} {w : World} {R : Ending → World → Prop} (hb : Blk w bs #[.pointer (some (blk b))] 25) (hs : IsSch c b w) (hl : IsN w pl l) (hr : IsN w pr r) (okl : OkP c l) (okr : OkP c r) (hB : l.size + r.size + 5 ≤ BIG)
    (h : ∀ q w', Gs b w w' → IsSch c b w' → IsN w' q (joinC c l (k, v, g) r) → R (.returned (.pointer q)) w') : doCall Tryz.prog (.func (.func 339) #[] #[.pointer (some (blk bs))]) #[.pointer pr, .agg #[.int .i64 k, .int .i64 v, .int .u64 g], .pointer pl] w R := by
  refine do_callc Tryz.call339 (by rfl) (sh339_ok _ _ _ _ _ _ ?_)
  unfold sh339
  have e0 := ext_alloc w (.cells #[.int .i64 k, .int .i64 v, .int .u64 g] 114)
  have hx := blk_alloc w #[.int .i64 k, .int .i64 v, .int .u64 g] 114
  refine ⟨_, (hb.ext e0).cell (i := 0) rfl rfl, _, hx.cell (i := 0) (add_blk _ _) rfl, _, hx.cell (i := 1) (add_blk _ _) rfl, _, hx.cell (i := 2) (add_blk _ _) rfl, ?_⟩
  exact do_call Tryz.call106 (c_sjoin (hs.ext e0) (hl.ext e0) (hr.ext e0) okl okr hB fun q w1 g1 hs1 h1 => retS_ret ⟨_, rfl, h _ _ ((gs_of e0).trans g1) hs1 h1⟩)
theorem lastC_p {c : Int} : ∀ {t : Tr}, t.nn = true → OkP c t → OkM c (lastC c t).1 ∧ (lastC c t).1.size + 1 = t.size := fun {t} hn ok => by
  have := lastC_ok hn ok
  refine ⟨this.1, ?_⟩
  have e := congrArg List.length this.2
  simp only [itsC_len, List.length_append, List.length_cons, List.length_nil] at e
  omega
theorem lastC_eq {c : Int} {t : Tr} (hn : t.nn = true) (hr : t.right.nn = true) : lastC c t = (joinC c t.left (rootC c t) (lastC c t.right).1, (lastC c t.right).2) := by
  cases t with
  | nil => cases hn
  | node l k v g r =>
    cases r with
    | nil => cases hr
    | node a b d e f => rfl
theorem lastC_eq0 {c : Int} {t : Tr} (hn : t.nn = true) (hr : t.right.nn = false) : lastC c t = (wholeC c t.left, rootC c t) := by
  cases t with
  | nil => cases hn
  | node l k v g r =>
    cases r with
    | nil => rfl
    | node a b d e f => cases hr
theorem OkP.lr {c : Int} {t : Tr} (h : OkP c t) : OkP c t.left ∧ OkP c t.right := by
  cases t with
  | nil => exact ⟨h, h⟩
  | node l k v g r => exact h.sides
set_option maxRecDepth 20000 in
theorem c_end {c : Int} {b bs : Nat} (nbs : bs ≠ b) : ∀ (n : Nat) (t : Tr) {p : Option Addr} {w : World} {R : Ending → World → Prop} (_hn : t.size ≤ n) (_hnn : t.nn = true) (_hs : IsSch c b w) (_hb : Blk w bs #[.pointer (some (blk b))] 25) (_ht : IsN w p t) (_ok : OkP c t) (_hB : t.size + 6 ≤ BIG)
    (_h : ∀ q w', Gs b w w' → IsSch c b w' → IsN w' q (lastC c t).1 → R (.returned (.tuple #[.pointer q, agI (lastC c t).2])) w'), Calls Tryz.prog 307 #[.pointer (some (blk b)), .agg (toA bs), .pointer p] w R := fun n => by
  induction n with
  | zero => intro t p w R hn hnn; rw [Tr.nn_size] at hnn; have := of_decide_eq_true hnn; omega
  | succ n ih =>
    intro t p w R hn hnn hs hb ht ok hB h
    refine sh307_ok _ _ _ _ _ _ _ _ _ _ _ ?_
    unfold sh307
    refine ⟨⟨?_⟩⟩
    have hlt := hs.lt
    have hsz := size_nn hnn
    have okk := ok.lr
    have e0 := ext_alloc w (.cells (toA bs) 352)
    have hw := blk_alloc w (toA bs) 352
    generalize hbw : w.heap.size = bw at *
    generalize w.alloc (.cells (toA bs) 352) = w1 at *
    have e1 := ext_alloc w1 (.cells #[.int .i64 0, .int .i64 0, .int .u64 0] 114)
    have hx := blk_alloc w1 #[.int .i64 0, .int .i64 0, .int .u64 0] 114
    have hwl := hw.lt
    generalize hbx : w1.heap.size = bx at *
    generalize w1.alloc (.cells #[.int .i64 0, .int .i64 0, .int .u64 0] 114) = w2 at *
    have hw := hw.ext e1
    have E := e0.trans e1
    have nbw : bw ≠ b := by omega
    have nbx : bx ≠ b := by omega
    have nwx : bw ≠ bx := by omega
    have hxl := hx.lt
    have hs2 := hs.ext E
    have ht2 := ht.ext E
    refine ⟨_, _, _, hw.cell (i := 0) (add_blk _ _) rfl, do_call Tryz.call125 (c_right ht2 fun q3 h3 => retS_ret ⟨_, rfl, ifB_intro (fun hno => ?_) fun hno => ?_⟩)⟩
    · have hrn : t.right.nn = false := by rw [h3.isNone] at hno; simpa using hno
      rw [lastC_eq0 hnn hrn] at h
      refine ⟨_, _, _, hw.cell (i := 1) (add_blk _ _) rfl, do_call Tryz.call123 (c_left ht2 fun q4 h4 => retS_ret ⟨_, rfl, ?_⟩)⟩
      refine do_call Tryz.call162 (c_swhole hs2 h4 okk.1 (by omega) fun q5 w5 g5 hs5 h5 => retS_ret ⟨_, rfl, ?_⟩)
      have gt5 := (gs_of E).trans g5
      refine do_call Tryz.call213 (c_sitem hs5 (ht.gs hs gt5) fun w6 g6 hs6 => retS_ret ⟨_, _, _, rfl, ?_⟩)
      have hx6 := (hx.gs g5 nbx).gs g6 nbx
      refine do_st3 hx6 fun w7 hx7 g7 => ?_
      exact ⟨_, hx7.cell (i := 0) (add_blk _ _) rfl, _, hx7.cell (i := 1) (add_blk _ _) rfl, _, hx7.cell (i := 2) (add_blk _ _) rfl, h _ _ ((gt5.trans g6).st g7 (by omega)) (hs6.st g7 nbx) ((h5.gs hs5 g6).st g7 hx6 (by decide))⟩
    · have hrn : t.right.nn = true := by rw [h3.isNone] at hno; simpa using hno
      rw [lastC_eq hnn hrn] at h
      have lp := lastC_p hrn okk.2
      have lok := lastC_ok hrn okk.2
      intro K45
      have hK45 : ∀ (qr : Option Addr) (by' : Nat) w3, Gs b w w3 → IsSch c b w3 → Blk w3 bw (toA bs) 352 → Blk w3 bx #[.int .i64 0, .int .i64 0, .int .u64 0] 114 → Blk w3 by' #[.int .i64 (lastC c t.right).2.1, .int .i64 (lastC c t.right).2.2.1, .int .u64 (lastC c t.right).2.2.2] 114 → by' ≠ b → by' ≠ bx →
          Blk w3 bs #[.pointer (some (blk b))] 25 → IsN w3 qr (lastC c t.right).1 → K45 qr (blk by') w3 := by
        intro qr by' w3 g3 hs3 hw3 hx3 hy3 nby nyx hb3 hq3
        have d := ext_drew w3
        have gt := g3.trans (gs_of d)
        have hsd := hs3.ext d
        refine ⟨⟨fun w' => Blk w' bw (toA bs) 352 ∧ Blk w' by' #[.int .i64 (lastC c t.right).2.1, .int .i64 (lastC c t.right).2.2.1, .int .u64 (lastC c t.right).2.2.2] 114, ⟨hw3, hy3⟩, _, _, _, fun w' e => e.1.cell (i := 2) (add_blk _ _) rfl, _, _, _, fun w' e => e.1.cell (i := 1) (add_blk _ _) rfl, _, fun w' e => e.2.cell (i := 0) (add_blk _ _) rfl, _, fun w' e => e.2.cell (i := 1) (add_blk _ _) rfl, _, fun w' e => e.2.cell (i := 2) (add_blk _ _) rfl, ?_⟩⟩
        refine do_call Tryz.call213 (c_sitem hsd (ht.gs hs gt) fun w4 g4 hs4 => retS_ret ⟨_, _, _, rfl, ⟨(hw3.ext d).gs g4 nbw, (hy3.ext d).gs g4 nby⟩, ?_⟩)
        have gt4 := gt.trans g4
        refine do_call Tryz.call123 (c_left (ht.gs hs gt4) fun q5 h5 => retS_ret ⟨_, rfl, ⟨(hw3.ext d).gs g4 nbw, (hy3.ext d).gs g4 nby⟩, ?_⟩)
        refine do_tojoin ((hb3.ext d).gs g4 nbs) hs4 h5 ((hq3.ext d).gs hsd g4) okk.1 lp.1.1 (by omega) fun q6 w6 g6 hs6 h6 => retS_ret ⟨_, rfl, ⟨((hw3.ext d).gs g4 nbw).gs g6 nbw, ((hy3.ext d).gs g4 nby).gs g6 nby⟩, ?_⟩
        have hx6 := ((hx3.ext d).gs g4 nbx).gs g6 nbx
        refine do_st3 hx6 fun w7 hx7 g7 => ?_
        exact ⟨_, hx7.cell (i := 0) (add_blk _ _) rfl, _, hx7.cell (i := 1) (add_blk _ _) rfl, _, hx7.cell (i := 2) (add_blk _ _) rfl, h _ _ ((gt4.trans g6).st g7 (by omega)) (hs6.st g7 nbx) (h6.st g7 hx6 (by decide))⟩
      have hb2 := hb.ext E
      have d := ext_drew w2
      refine ⟨⟨fun w' => Blk w' bw (toA bs) 352, hw, _, _, _, fun w' e => e.cell (i := 0) (add_blk _ _) rfl, _, _, _, fun w' e => e.cell (i := 1) (add_blk _ _) rfl, _, _, _, fun w' e => e.cell (i := 2) (add_blk _ _) rfl, _, _, _, fun w' e => e.cell (i := 0) (add_blk _ _) rfl, ?_, ?_⟩⟩
      · refine do_call Tryz.call125 (c_right (ht2.ext d) fun q4 h4 => retS_ret ⟨_, rfl, hw, ?_, ?_⟩)
        · refine do_call Tryz.call307 (ih t.right (by omega) hrn (hs2.ext d) (hb2.ext d) h4 okk.2 (by omega) fun q5 w5 g5 hs5 h5 => retS_ret ⟨_, _, _, _, rfl, (hw.ext d).gs g5 nbw, ⟨?_⟩⟩)
          have e6 := ext_alloc w5 (.cells #[.int .i64 0, .int .i64 0, .int .u64 0] 114)
          have hw6 := ((hw.ext d).gs g5 nbw).ext e6
          have hx6 := ((hx.ext d).gs g5 nbx).ext e6
          have hb6 := ((hb2.ext d).gs g5 nbs).ext e6
          refine ⟨hw6, do_st3 (blk_alloc w5 _ _) fun w7 hy7 g7 => ?_⟩
          have l5 := World.grownBy.size g5
          have l5 : w2.heap.size ≤ w5.heap.size := l5
          have hbsl := hb2.lt
          have hblt := hs2.lt
          exact hK45 _ _ _ ((((gs_of (E.trans d)).trans g5).trans (gs_of e6)).st g7 (by omega)) ((hs5.ext e6).st g7 (by omega)) (hw6.grown g7 (ne_some (by omega))) (hx6.grown g7 (ne_some (by omega))) hy7 (by omega) (by omega) (hb6.grown g7 (ne_some (by omega))) ((h5.ext e6).st g7 (blk_alloc w5 _ _) (by decide))
        · have e6 := ext_alloc w2.drew (.cells #[.int .i64 0, .int .i64 0, .int .u64 0] 114)
          have hy6 := blk_alloc w2.drew #[.int .i64 0, .int .i64 0, .int .u64 0] 114
          refine ⟨(hw.ext d).ext e6, ?_⟩
          have hbsl := hb2.lt
          have hblt := hs2.lt
          have hys : w2.drew.heap.size = w2.heap.size := rfl
          refine do_call Tryz.call307 (ih t.right (by omega) hrn ((hs2.ext d).ext e6) ((hb2.ext d).ext e6) (h4.ext e6) okk.2 (by omega) fun q5 w5 g5 hs5 h5 => retS_ret ⟨_, _, _, _, rfl, ((hw.ext d).ext e6).gs g5 nbw, ?_⟩)
          have hy5 := hy6.gs g5 (by omega)
          refine do_st3 hy5 fun w7 hy7 g7 => ?_
          exact hK45 _ _ _ (((gs_of ((E.trans d).trans e6)).trans g5).st g7 (by omega)) (hs5.st g7 (by omega)) ((((hw.ext d).ext e6).gs g5 nbw).grown g7 (ne_some (by omega))) ((((hx.ext d).ext e6).gs g5 nbx).grown g7 (ne_some (by omega))) hy7 (by omega) (by omega) ((((hb2.ext d).ext e6).gs g5 nbs).grown g7 (ne_some (by omega))) (h5.st g7 hy5 (by decide))
      · have e6 := ext_alloc w2.drew (.cells #[.int .i64 0, .int .i64 0, .int .u64 0] 114)
        have hy6 := blk_alloc w2.drew #[.int .i64 0, .int .i64 0, .int .u64 0] 114
        refine ⟨(hw.ext d).ext e6, ?_⟩
        have hbsl := hb2.lt
        have hblt := hs2.lt
        have hys : w2.drew.heap.size = w2.heap.size := rfl
        refine do_call Tryz.call125 (c_right ((ht2.ext d).ext e6) fun q4 h4 => retS_ret ⟨_, rfl, (hw.ext d).ext e6, ?_⟩)
        refine do_call Tryz.call307 (ih t.right (by omega) hrn ((hs2.ext d).ext e6) ((hb2.ext d).ext e6) h4 okk.2 (by omega) fun q5 w5 g5 hs5 h5 => retS_ret ⟨_, _, _, _, rfl, ((hw.ext d).ext e6).gs g5 nbw, ?_⟩)
        have hy5 := hy6.gs g5 (by omega)
        refine do_st3 hy5 fun w7 hy7 g7 => ?_
        exact hK45 _ _ _ (((gs_of ((E.trans d).trans e6)).trans g5).st g7 (by omega)) (hs5.st g7 (by omega)) ((((hw.ext d).ext e6).gs g5 nbw).grown g7 (ne_some (by omega))) ((((hx.ext d).ext e6).gs g5 nbx).grown g7 (ne_some (by omega))) hy7 (by omega) (by omega) ((((hb2.ext d).ext e6).gs g5 nbs).grown g7 (ne_some (by omega))) (h5.st g7 hy5 (by decide))
end Go.Proofs.YtlddfgfmkapoiaaGreat

namespace Go.Proofs.YtlddfgfmkapoiaaGreat
open Go Go.Sh Go.RowKit

set_option maxRecDepth 20000 in
theorem c_last {c : Int} {b : Nat} {t : Tr} {p : Option Addr} {w : World} {R : Ending → World → Prop} (hs : IsSch c b w) (ht : IsN w p t) (ok : OkP c t) (hB : t.size + 6 ≤ BIG)
    (h : ∀ q w', Gs b w w' → IsSch c b w' → IsN w' q (lastC c t).1 → R (.returned (.tuple #[.pointer q, agI (lastC c t).2, .bool t.nn])) w') : Calls Tryz.prog 263 #[.pointer (some (blk b)), .pointer p] w R := by
  refine sh263_ok _ _ ?_
  unfold sh263
  refine ⟨?_⟩
  have e0 := ext_alloc w (.cells #[.int .i64 0, .int .i64 0, .int .u64 0] 114)
  have hx := blk_alloc w #[.int .i64 0, .int .i64 0, .int .u64 0] 114
  have hlt := hs.lt
  generalize hbx : w.heap.size = bx at *
  generalize w.alloc (.cells #[.int .i64 0, .int .i64 0, .int .u64 0] 114) = w1 at *
  have nbx : bx ≠ b := by omega
  have hxl := hx.lt
  have hs1 := hs.ext e0
  intro K7
  refine ifB_f rfl ?_
  rw [ht.isNone]
  cases hn : t.nn with
  | false =>
    rw [hn] at h
    obtain rfl := Tr.size0 hn
    refine ifB_t rfl (do_st3 hx fun w2 hx2 g2 => ?_)
    exact ⟨_, hx2.cell (i := 0) (add_blk _ _) rfl, _, hx2.cell (i := 1) (add_blk _ _) rfl, _, hx2.cell (i := 2) (add_blk _ _) rfl, h _ _ ((gs_of e0).st g2 (by omega)) (hs1.st g2 nbx) rfl⟩
  | true =>
    rw [hn] at h
    refine ifB_f rfl (do_call Tryz.call308 (c_to fun bs w2 e2 hb2 lbs => retS_ret ⟨_, _, _, _, _, _, _, _, _, rfl, ?_⟩))
    have E2 := e0.trans e2
    have nbs : bs ≠ b := by omega
    refine do_call Tryz.call307 (c_end nbs t.size t (Nat.le_refl _) hn (hs.ext E2) hb2 (ht.ext E2) ok hB fun q w3 g3 hs3 h3 => retS_ret ⟨_, _, _, _, rfl, ?_⟩)
    have hx3 := (hx.ext e2).gs g3 nbx
    have gt3 := (gs_of E2).trans g3
    refine do_st3 hx3 fun w4 hx4 g4 => ?_
    have gt4 := gt3.st g4 (by omega)
    have hs4 := hs3.st g4 nbx
    have h4 := h3.st g4 hx3 (by decide)
    have d := ext_drew w4
    refine ⟨⟨fun w' => Blk w' bx _ _, hx4, _, fun w' e => e.cell (i := 0) (add_blk _ _) rfl, _, fun w' e => e.cell (i := 1) (add_blk _ _) rfl, _, fun w' e => e.cell (i := 2) (add_blk _ _) rfl, ?_⟩⟩
    refine do_re3 (x := (lastC c t).2) (hx4.ext d) (w0 := w) (by omega) nbx (gt4.trans (gs_of d)) (hs4.ext d) fun w5 hx5 g5 gs5 hs5 => ?_
    exact ⟨_, hx5.cell (i := 0) (add_blk _ _) rfl, _, hx5.cell (i := 1) (add_blk _ _) rfl, _, hx5.cell (i := 2) (add_blk _ _) rfl, h _ _ gs5 hs5 ((h4.ext d).st g5 (hx4.ext d) (by decide))⟩
set_option maxRecDepth 20000 in
theorem c_join2 {c : Int} {b : Nat} {l r : Tr} {pl pr : Option Addr} {w : World} {R : Ending → World → Prop} (hs : IsSch c b w) (hl : IsN w pl l) (hr : IsN w pr r) (okl : OkP c l) (okr : OkP c r) (hB : l.size + r.size + 6 ≤ BIG)
    (h : ∀ q w', Gs b w w' → IsSch c b w' → IsN w' q (join2C c l r) → R (.returned (.pointer q)) w') : Calls Tryz.prog 211 #[.pointer (some (blk b)), .pointer pl, .pointer pr] w R := by
  refine sh211_ok _ _ _ ?_
  unfold sh211
  refine do_call Tryz.call263 (c_last hs hl okl (by omega) fun q w1 g1 hs1 h1 => retS_ret ⟨_, _, _, _, _, rfl, ⟨?_⟩⟩)
  have e2 := ext_alloc w1 (.cells #[.int .i64 0, .int .i64 0, .int .u64 0] 114)
  have hlt := hs1.lt
  have nbx : w1.heap.size ≠ b := by omega
  have l1 := World.grownBy.size g1
  refine do_st3 (blk_alloc w1 _ _) fun w3 hx3 g3 => ?_
  have e3 : Ext w1 w3 := e2.st g3 (Nat.le_refl _)
  have gt3 : Gs b w w3 := g1.trans (gs_of e3)
  have hs3 := hs1.ext e3
  have h3 := h1.ext e3
  have hr3 := hr.gs hs gt3
  unfold join2C at h
  cases hn : l.nn with
  | false =>
    rw [hn, if_neg (by simp)] at h
    exact ifB_t rfl (do_call Tryz.call162 (c_swhole hs3 hr3 okr (by omega) fun q4 w4 g4 hs4 h4 => retS_ret ⟨_, rfl, h _ _ (gt3.trans g4) hs4 h4⟩))
  | true =>
    rw [hn, if_pos rfl] at h
    have lp := lastC_p hn okl
    refine ifB_f rfl ⟨_, hx3.cell (i := 0) (add_blk _ _) rfl, _, hx3.cell (i := 1) (add_blk _ _) rfl, _, hx3.cell (i := 2) (add_blk _ _) rfl, ?_⟩
    exact do_call Tryz.call106 (c_sjoin hs3 h3 hr3 lp.1.1 okr (by omega) fun q4 w4 g4 hs4 h4 => retS_ret ⟨_, rfl, h _ _ (gt3.trans g4) hs4 h4⟩)
/-! ### what is ahead, and behind -/
/-! ### plain: what they have -/
end Go.Proofs.YtlddfgfmkapoiaaGreat

namespace Go.Proofs.YtlddfgfmkapoiaaGreat
open Go Go.Sh Go.RowKit

def btT : Tr → BT
  | .nil => .nil
  | .node l k v g r => .node ⟨k, v, (Tr.node l k v g r).sum, ((Tr.node l k v g r).size : Nat), g, l.nn, r.nn⟩ (btT l) (btT r)
theorem btT_nn (t : Tr) : (btT t).nn = t.nn := by cases t <;> rfl
theorem btT_wf (t : Tr) : (btT t).wf = true := by
  induction t with
  | nil => rfl
  | node l k v g r ihl ihr => simp only [btT, BT.wf, btT_nn, ihl, ihr]; simp
theorem btT_tr (t : Tr) : (btT t).tr = t := by
  induction t with
  | nil => rfl
  | node l k v g r ihl ihr => simp only [btT, BT.tr, ihl, ihr]
theorem btT_size (t : Tr) : (btT t).size = t.size := by rw [← BT.tr_size, btT_tr]
/-! ### items -/
def ecI (x : It) : List Value := [.int .i64 x.1, .int .i64 x.2.1, .int .u64 x.2.2]
theorem ecI_len (x : It) : (ecI x).length = 3 := rfl
abbrev its (l : List It) : List Value := l.flatMap ecI
theorem its_length (l : List It) : (its l).length = l.length * 3 := flat_length ecI_len l
theorem its_append (l r : List It) : its (l ++ r) = its l ++ its r := List.flatMap_append
theorem its_one {l : List It} : ∀ u ∈ its l, u.oneCell' = true := fun u hu => by
  simp only [List.mem_flatMap] at hu
  obtain ⟨x, _, hx⟩ := hu
  simp [ecI] at hx
  rcases hx with rfl | rfl | rfl <;> rfl
/-- the keys of a tree of beads rise -/
theorem pairs_its {c : Int} (t : Tr) : t.pairs.map (·.1) = (itsC c t).map (·.1) := by
  rw [items_pairs, itsC, List.map_map, List.map_map]
  apply List.map_congr_left
  intro x _
  simp [itC_key]
/-- heights -/
def htT : Tr → Nat
  | .nil => 0
  | .node l _ _ _ r => 1 + max (htT l) (htT r)
theorem htT_le (t : Tr) : htT t ≤ t.size := by
  induction t with
  | nil => exact Nat.le_refl _
  | node l k v g r ihl ihr => simp only [htT, Tr.size]; omega
end Go.Proofs.YtlddfgfmkapoiaaGreat

namespace Go.Proofs.YtlddfgfmkapoiaaGreat
open Go Go.Sh Go.RowKit

/-- the pair at a place -/
def selR (t : Tr) (n : Int) : Pr := if 0 ≤ n ∧ n < (t.size : Int) then t.pairs.getD n.toNat (0, 0) else (0, 0)
def selE (t : Tr) (n : Int) : Int := if 0 ≤ n ∧ n < (t.size : Int) then 0 else 320
theorem pairs_left {l r : Tr} {k v g : Int} {m : Nat} (h : m < l.size) : (Tr.node l k v g r).pairs.getD m (0, 0) = l.pairs.getD m (0, 0) := by
  have : m < l.pairs.length := by rw [Tr.pairs_length]; exact h
  simp only [Tr.pairs, List.getD_eq_getElem?_getD]
  rw [List.getElem?_append_left this]
theorem pairs_mid {l r : Tr} {k v g : Int} : (Tr.node l k v g r).pairs.getD l.size (0, 0) = (k, v) := by
  simp only [Tr.pairs, List.getD_eq_getElem?_getD]
  rw [List.getElem?_append_right (by rw [Tr.pairs_length]; exact Nat.le_refl _), Tr.pairs_length, Nat.sub_self]; rfl
theorem pairs_right {l r : Tr} {k v g : Int} {m : Nat} (h : l.size < m) : (Tr.node l k v g r).pairs.getD m (0, 0) = r.pairs.getD (m - l.size - 1) (0, 0) := by
  simp only [Tr.pairs, List.getD_eq_getElem?_getD]
  rw [List.getElem?_append_right (by rw [Tr.pairs_length]; omega), Tr.pairs_length]
  obtain ⟨d, hd⟩ : ∃ d, m - l.size = d + 1 := ⟨m - l.size - 1, by omega⟩
  rw [hd, List.getElem?_cons_succ, Nat.add_sub_cancel]
set_option maxRecDepth 20000 in
theorem c_select {t : Tr} {pt : Option Addr} {n : Int} {w : World} {R : Ending → World → Prop} (ht : IsN w pt t) (hs : t.size ≤ 4611686018427387903)
    (h : ∀ w', Ext w w' → R (.returned (.tuple #[agP (selR t n), .int .i64 (selE t n)])) w') : Calls Tryz.prog 148 #[.pointer pt, .int .i64 n] w R := by
  refine sh148_ok _ _ ?_
  unfold sh148
  refine ⟨?_⟩
  have e1 := ext_alloc w (.cells #[.int .i64 0, .int .i64 0] 46)
  have hb := blk_alloc w #[.int .i64 0, .int .i64 0] 46
  generalize hb0 : w.heap.size = b at *
  generalize w.alloc (.cells #[.int .i64 0, .int .i64 0] 46) = w1 at *
  have hno : ∀ {w' : World}, Ext w w' → Blk w' b #[.int .i64 0, .int .i64 0] 46 → ¬ (0 ≤ n ∧ n < (t.size : Int)) →
      doSt ((blk b).add 0) (.int .i64 0) w' (fun w10 => doSt ((blk b).add 1) (.int .i64 0) w10 (fun w11 => ∃ (x12 : Int), World.cell? w11 ((blk b).add 0) = some (.int .i64 x12) ∧ (
        ∃ (x13 : Int), World.cell? w11 ((blk b).add 1) = some (.int .i64 x13) ∧ (R (.returned (.tuple #[.agg #[.int .i64 x12, .int .i64 x13], .int .i64 320])) w11)))) := by
    intro w' e' hb' hn
    refine do_st2 hb' fun w2 h2 g2 => ⟨_, h2.cell (i := 0) rfl rfl, _, h2.cell (i := 1) rfl rfl, ?_⟩
    have hr := h w2 (e'.st g2 (by omega))
    unfold selR selE at hr
    rw [if_neg hn, if_neg hn] at hr
    exact hr
  refine ifB_intro (fun h0 => hno e1 hb (by have := of_decide_eq_true h0; omega)) fun h0 => ?_
  have h0 : 0 ≤ n := by have := of_decide_eq_false h0; omega
  refine do_call Tryz.call91 (c_tsize (ht.ext e1) fun w2 e2 => retS_ret ⟨_, rfl, ?_⟩)
  refine ifB_intro (fun h1 => hno (e1.trans e2) (hb.ext e2) (by have := of_decide_eq_true h1; omega)) fun h1 => ?_
  have h1 : n < (t.size : Int) := by have := of_decide_eq_false h1; omega
  have hr : selR t n = t.pairs.getD n.toNat (0, 0) := if_pos ⟨h0, h1⟩
  have he : selE t n = 0 := if_pos ⟨h0, h1⟩
  rw [hr, he] at h
  refine ⟨fun vs w' => ∃ (s : Tr) (p : Option Addr) (m : Nat), vs = [.pointer p, .int .i64 (m : Int)] ∧ IsN w' p s ∧ Ext w w' ∧ Blk w' b #[.int .i64 0, .int .i64 0] 46 ∧ m < s.size ∧ s.size ≤ t.size ∧ s.pairs.getD m (0, 0) = t.pairs.getD n.toNat (0, 0), fun vs w' => szAt (vs.getD 0 undef) w',
    ⟨t, pt, n.toNat, by rw [Int.toNat_of_nonneg h0], ht.ext (e1.trans e2), e1.trans e2, hb.ext e2, by omega, Nat.le_refl _, rfl⟩, ?_⟩
  rintro p m' _ w3 ⟨s, p', m, hv, hN, E, hb3, hms, hst, hpr⟩
  simp only [List.cons.injEq, Value.pointer.injEq, Value.int.injEq, true_and, and_true] at hv
  obtain ⟨rfl, rfl⟩ := hv
  cases s with
  | nil => exact absurd hms (Nat.not_lt_zero _)
  | node l k v g r =>
    simp only [Tr.size] at hms hst
    refine do_call Tryz.call123 (c_left hN fun ql hql => retS_ret ⟨_, rfl, ?_⟩)
    refine do_call Tryz.call91 (c_tsize hql fun w4 e4 => retS_ret ⟨_, rfl, ?_⟩)
    have hN4 := hN.ext e4
    simp only [Tr.left] at *
    have hmu : ∀ {q' : Option Addr} {s' : Tr} {w' : World}, IsN w' q' s' → s'.size < (Tr.node l k v g r).size → szAt (.pointer q') w' < szAt (.pointer p) w3 := fun h1 h2 => by rw [szAt_of h1, szAt_of hN]; exact h2
    refine ifB_intro (fun h2 => ?_) fun h2 => ?_
    · have h2 : m < l.size := by have := of_decide_eq_true h2; omega
      refine do_call Tryz.call123 (c_left hN4 fun q2 hq2 => retS_ret ⟨_, rfl, ⟨l, q2, m, rfl, hq2, E.trans e4, hb3.ext e4, h2, by omega, ?_⟩, ?_⟩)
      · rw [← hpr, pairs_left h2]
      · exact hmu hq2 (by simp only [Tr.left, Tr.size]; omega)
    · have h2 : l.size ≤ m := by have := of_decide_eq_false h2; omega
      refine ifB_intro (fun h3 => ?_) fun h3 => ?_
      · have h3 : m = l.size := Int.ofNat_inj.1 (by simpa using h3)
        subst h3
        rw [pairs_mid] at hpr
        refine do_call Tryz.call108 (c_key hN4 fun w5 e5 => retS_ret ⟨_, rfl, ?_⟩)
        refine do_call Tryz.call126 (c_val (hN4.ext e5) fun w6 e6 => retS_ret ⟨_, rfl, ?_⟩)
        have e46 := (e4.trans e5).trans e6
        refine do_st2 (hb3.ext e46) fun w7 h7 g7 => ⟨_, h7.cell (i := 0) rfl rfl, _, h7.cell (i := 1) rfl rfl, ?_⟩
        have := h w7 ((E.trans e46).st g7 (by omega))
        rw [← hpr] at this
        exact this
      · have h3 : ¬ (m : Int) = l.size := by simpa using h3
        have e : IntKind.wrap .i64 (IntKind.wrap .i64 ((m : Int) - (l.size : Int)) - 1) = ((m - l.size - 1 : Nat) : Int) := by
          rw [wrap_of (x := (m : Int) - (l.size : Int)) (by omega) (by omega), wrap_of (by omega) (by omega)]; omega
        rw [e]
        refine do_call Tryz.call125 (c_right hN4 fun q2 hq2 => retS_ret ⟨_, rfl, ⟨r, q2, m - l.size - 1, rfl, hq2, E.trans e4, hb3.ext e4, by omega, by omega, ?_⟩, ?_⟩)
        · rw [← hpr, pairs_right (by omega)]
        · exact hmu hq2 (by simp only [Tr.right, Tr.size]; omega)
/-! ### The document's answers -/
set_option maxRecDepth 20000 in
theorem c_pairs : ∀ (t : BT) {q : Option Addr} {n c : Nat} {w : World} {R : Ending → World → Prop} (_hl : Cs w q (bds t.beads)) (_hn : t.size = n) (_hnc : n ≤ c) (_hw : t.wf = true) (_hm : n ≤ 5000)
    (_h : ∀ p n' c' w', OwnP w' w.heap.size p n' c' t.tr.pairs → Ext w w' → R (.returned (.slice p n' c')) w'), Calls Tryz.prog 60 #[.slice q n c] w R
  | .nil, q, n, c, w, R, hl, hn, hnc, hw, hm, h => by
    refine sh60_ok _ _ _ ?_
    unfold sh60
    have : n = 0 := by rw [← hn]; rfl
    subst this
    exact ifB_t rfl (h _ _ _ _ (ownP_nil _ _) (ext_refl w))
  | .node x L Rt, q, n, c, w, R, hl, hn, hnc, hw, hm, h => by
    refine sh60_ok _ _ _ ?_
    unfold sh60
    have hsz := BT.size_node x L Rt
    obtain ⟨_, _, w2f, w3f⟩ := BT.wf_node hw
    refine ifB_f (by simp; omega) ?_
    refine do_call Tryz.call109 (c_parts hl hn hnc hw hm fun p1 c1 p2 c2 w1 e1 hp h1 h2 => retS_ret ⟨_, _, _, _, _, _, _, _, _, _, _, _, _, rfl, ⟨?_⟩⟩)
    refine do_st7 (blk_alloc w1 _ _) fun w2 hb2 g2 => ?_
    have e2 : Ext w1 w2 := (ext_alloc w1 _).st g2 (Nat.le_refl _)
    have E2 := e1.trans e2
    have hcs := fun (w'' : World) (e : Ext w2 w'') => hp w'' (hl.ext (E2.trans e))
    have hLp : L.tr.pairs.length = L.size := by rw [Tr.pairs_length, BT.tr_size]
    have hRp : Rt.tr.pairs.length = Rt.size := by rw [Tr.pairs_length, BT.tr_size]
    -- what is right of it, behind what there is
    have hK : ∀ {out : Option Addr} {on oc : Nat} {w' : World}, Ext w w' → OwnP w' w.heap.size out on oc (L.tr.pairs ++ [(x.key, x.val)]) → (∀ w'', Ext w' w'' → Cs w'' p2 (bds Rt.beads)) →
        doCall Tryz.prog (.func (.func 60) #[] #[]) #[.slice p2 Rt.size c2] w' (retS (fun v36 w37 => ∃ (xp33 : Option Addr), ∃ (xn34 : Nat), ∃ (xc35 : Nat), v36 = (.slice xp33 xn34 xc35 : Value) ∧ (
          doGo Tryz.prog (.builtin .append #[22, 22] 22 #[false, false]) #[.slice out on oc, .slice xp33 xn34 xc35] w37 (retS (fun v41 w42 => ∃ (xp38 : Option Addr), ∃ (xn39 : Nat), ∃ (xc40 : Nat), v41 = (.slice xp38 xn39 xc40 : Value) ∧ (
          R (.returned (.slice xp38 xn39 xc40)) w42)) (fun ch w => Kfn R ch [] w)))) (fun ch w => Kfn R ch [] w)) := by
      intro out on oc w' E' ho' hR'
      refine do_call Tryz.call60 (c_pairs Rt (hR' _ (ext_refl _)) rfl h2 w3f (by omega) fun p5 n5 c5 w5 h5 e5 => retS_ret ⟨_, _, _, rfl, ?_⟩)
      have hon := ownP_len ho'
      have hn5 := ownP_len h5
      simp only [List.length_append, List.length_cons, List.length_nil] at hon
      have ho5 := row_to ho' e5 (Nat.le_refl _)
      refine do_app elP ho5 (ownP_cs h5) (by simp [hn5]) prs_one (by simp only [maxLen]; omega) (by omega) (Nat.le_trans E'.size e5.size) fun p6 c6 w6 h6 g6 => retS_ret ⟨_, _, _, rfl, ?_⟩
      refine h _ _ _ _ ?_ (ext_own ho5 (E'.trans e5) g6 (Nat.le_refl _))
      show w6.ownsRow _ _ _ _ _ (prs (L.tr.pairs ++ (x.key, x.val) :: Rt.tr.pairs))
      rw [show L.tr.pairs ++ (x.key, x.val) :: Rt.tr.pairs = (L.tr.pairs ++ [(x.key, x.val)]) ++ Rt.tr.pairs by simp, prs_append]
      exact h6
    refine ⟨⟨fun w' => Ext w2 w', ext_drew _, _, fun w' e => (hb2.ext e).cell (i := 0) (add_blk _ _) rfl, _, fun w' e => (hb2.ext e).cell (i := 1) (add_blk _ _) rfl, ?_, ?_⟩⟩
    · refine do_call Tryz.call60 (c_pairs L (hcs _ (ext_drew _)).1 rfl h1 w2f (by omega) fun p3 n3 c3 w3 h3 e3 => retS_ret ⟨_, _, _, rfl, (ext_drew w2).trans e3, ⟨?_⟩⟩)
      have e4 := ext_alloc w3 (.cells #[.int .i64 x.key, .int .i64 x.val] 46)
      have E3 := (ext_drew w2).trans e3
      refine ⟨E3.trans e4, ?_⟩
      have hn3 := ownP_len h3
      have ho4 := row_to h3 e4 (Nat.le_refl _)
      refine do_app elP ho4 (m := 1) (cs_alloc w3 _ _) (by simp) (by simp [Value.oneCell']) (by simp only [maxLen]; omega) (by omega) (Nat.le_trans e3.size e4.size) fun p5 c5 w5 h5 g5 => retS_ret ⟨_, _, _, rfl, ?_⟩
      have E5 : Ext w2 w5 := ext_own ho4 (E3.trans e4) g5 (Nat.le_refl _)
      refine ⟨E5, hK (E2.trans E5) ?_ fun w'' e => (hcs _ (E5.trans e)).2⟩
      show w5.ownsRow _ _ _ _ _ _
      rw [prs_append]
      exact row_mono h5 E2.size
    · refine ⟨?_⟩
      have e3 : Ext w2 (w2.drew.alloc (.cells #[.int .i64 x.key, .int .i64 x.val] 46)) := (ext_drew w2).alloc _
      have hx3 := blk_alloc w2.drew #[.int .i64 x.key, .int .i64 x.val] 46
      generalize w2.drew.alloc (.cells #[.int .i64 x.key, .int .i64 x.val] 46) = w3 at *
      refine ⟨e3, ?_⟩
      refine do_call Tryz.call60 (c_pairs L (hcs _ e3).1 rfl h1 w2f (by omega) fun p4 n4 c4 w4 h4 e4 => retS_ret ⟨_, _, _, rfl, e3.trans e4, ?_⟩)
      have E4 := e3.trans e4
      have hn4 := ownP_len h4
      have hx4 := hx3.ext e4
      refine do_app elP h4 (m := 1) (news := prs [(x.key, x.val)]) (q := some (blk w2.drew.heap.size)) (fun j v hj => ?_) (by simp) prs_one (by simp only [maxLen]; omega) (by omega) e4.size fun p5 c5 w5 h5 g5 => retS_ret ⟨_, _, _, rfl, ?_⟩
      · match j, hj with
        | 0, hj => cases hj; exact ⟨_, rfl, hx4.cell (add_blk _ _) rfl⟩
        | 1, hj => cases hj; exact ⟨_, rfl, hx4.cell (add_blk _ _) rfl⟩
        | j + 2, hj => simp at hj
      have E5 : Ext w2 w5 := ext_own h4 E4 g5 e3.size
      refine ⟨E5, hK (E2.trans E5) ?_ fun w'' e => (hcs _ (E5.trans e)).2⟩
      show w5.ownsRow _ _ _ _ _ _
      rw [prs_append]
      exact row_mono h5 (Nat.le_trans E2.size e3.size)
end Go.Proofs.YtlddfgfmkapoiaaGreat

namespace Go.Proofs.YtlddfgfmkapoiaaGreat
open Go Go.Sh Go.RowKit

abbrev OwnB (w : World) (base : Nat) (p : Option Addr) (n c : Nat) (l : List Bd) : Prop := w.ownsRow base 150 7 (.slice p n c) n (bds l)
theorem ownB_len {w : World} {base n c : Nat} {p : Option Addr} {l : List Bd} (h : OwnB w base p n c l) : l.length = n := by have := h.1; rw [bds_length] at this; omega
theorem ownB_cs {w : World} {base n c : Nat} {p : Option Addr} {l : List Bd} (h : OwnB w base p n c l) : Cs w p (bds l) := Cs.of_row h
theorem ownB_nil (w : World) (base : Nat) : OwnB w base none 0 0 [] := World.ownsRow_nil _ _ _ _
theorem rowB_to {w w' : World} {base base' n c : Nat} {p : Option Addr} {l : List Bd} (h : OwnB w base p n c l) (e : Ext w w') (hb : base' ≤ base) : OwnB w' base' p n c l := row_mono (e.row h) hb
theorem extB_own {a w w' : World} {base n c : Nat} {p : Option Addr} {l : List Bd} (h : OwnB w base p n c l) (e : Ext a w) (g : w.grownBy w' (Value.slice p n c).ownBlock) (hb : a.heap.size ≤ base) : Ext a w' :=
  e.grown g fun k hk => Nat.le_trans hb (World.ownsRow.lt h k hk).1
theorem c_r9sum {l : List Bd} {q : Option Addr} {n c : Nat} {w : World} {R : Ending → World → Prop} (hl : Cs w q (bds l)) (hn : l.length = n) (hm : n ≤ 1000000000000)
    (h : R (.returned (.int .i64 (sumV l))) w) : Calls Tryz.prog 115 #[.slice q n c] w R := by
  refine sh115_ok _ _ _ ?_
  unfold sh115
  refine ⟨fun vs w' => ∃ k : Nat, vs = [.int .i64 (sumV (l.take k)), .int .i64 k] ∧ k ≤ n ∧ w' = w, fun vs _ => n - (intOf (vs.getD 1 undef)).toNat, ⟨0, rfl, by omega, rfl⟩, ?_⟩
  rintro v i _ w2 ⟨k, hv, hkn, rfl⟩
  simp only [List.cons.injEq, Value.int.injEq, true_and, and_true] at hv
  obtain ⟨rfl, rfl⟩ := hv
  refine ifB_intro (fun hlt => ?_) fun hge => ?_
  · have hlt : k < n := by have := of_decide_eq_true hlt; omega
    refine ix_flat ecB_len (by omega) hl hn rfl hlt fun a r _ => ⟨_, r 1 _ rfl, ⟨k + 1, ?_, by omega, rfl⟩, ?_⟩
    · rw [wrap_succ hlt (by omega), show l.take (k + 1) = l.take k ++ [l[k]'(by omega)] from (List.take_append_getElem (by omega)).symm]
      simp only [sumV, List.foldl_append, List.foldl_cons, List.foldl_nil]
    · rw [wrap_succ hlt (by omega)]; simp [intOf]; omega
  · have hge : k = n := by have := of_decide_eq_false hge; omega
    subst hge
    rw [List.take_of_length_le (by omega)] at *
    exact h
theorem cs_bd {w : World} {b : Nat} {x : Bd} {t : TypeId} (h : Blk w b #[.int .i64 x.key, .int .i64 x.val, .int .i64 x.sum, .int .i64 x.size, .int .u64 x.tag, .bool x.left, .bool x.right] t) : Cs w (some (blk b)) (bds [x]) := fun i v hv => by
  refine ⟨_, rfl, ?_⟩
  rw [add_blk]
  match i, hv with
  | 0, hv => cases hv; exact h.cell rfl rfl
  | 1, hv => cases hv; exact h.cell rfl rfl
  | 2, hv => cases hv; exact h.cell rfl rfl
  | 3, hv => cases hv; exact h.cell rfl rfl
  | 4, hv => cases hv; exact h.cell rfl rfl
  | 5, hv => cases hv; exact h.cell rfl rfl
  | 6, hv => cases hv; exact h.cell rfl rfl
  | i + 7, hv => simp [ecB] at hv
/-! ### Sort: the row of pairs -/
def sortL (o p : Int) (l : List Pr) : List Pr := l.foldl (fun r x => putR o p r x) []
theorem sortL_snoc (o p : Int) (l : List Pr) (x : Pr) : sortL o p (l ++ [x]) = putR o p (sortL o p l) x := by simp [sortL]
theorem sortL_take {o p : Int} {l : List Pr} {k : Nat} (h : k < l.length) : sortL o p (l.take (k + 1)) = putR o p (sortL o p (l.take k)) l[k] := by
  rw [← List.take_append_getElem h, sortL_snoc]
theorem snoc_ind {α : Type} {P : List α → Prop} (h0 : P []) (h1 : ∀ l x, P l → P (l ++ [x])) (l : List α) : P l := by
  have : ∀ k, k ≤ l.length → P (l.take k) := fun k => by
    induction k with
    | zero => intro _; exact h0
    | succ k ih => intro hk; rw [← List.take_append_getElem (show k < l.length by omega)]; exact h1 _ _ (ih (by omega))
  have := this l.length (Nat.le_refl _)
  rwa [List.take_length] at this
theorem sortL_may {o p : Int} {l : List Pr} (ho : isO o = true) (hp : may p = true) (hI : InP l) : mayR o (sortL o p l) = true ∧ InP (sortL o p l) ∧ (sortL o p l).length ≤ l.length := by
  revert hI
  induction l using snoc_ind with
  | h0 => intro _; exact ⟨by simp [sortL, mayR, ho, chain], (by intro x hx; cases hx), Nat.le_refl _⟩
  | h1 l x ih =>
    intro hI
    obtain ⟨h1, h2, h3⟩ := ih fun y hy => hI y (List.mem_append_left _ hy)
    have hx := hI x (by simp)
    rw [sortL_snoc]
    refine ⟨put_may h1 hp h2 hx.1, put_in h1 hp h2 hx, ?_⟩
    rw [put_len h1 hp]
    simp only [List.length_append, List.length_cons, List.length_nil]
    split <;> omega
/-! ### Shape -/
end Go.Proofs.YtlddfgfmkapoiaaGreat

