/-
  split, cut: what is parted, and joined again.
-/
/-
  split: Split, Ahead, Behind; cut: Last, Join2.
-/
/-
  cut: Last, Join2; split: Ahead, Behind.
-/
/-
  Trees as beads; rows of items. Plain.
-/
import Derived.Test.YtbaoihmffobneaaGreatPq
import Derived.Test.YtbaoihmffobneaaGreatPm

namespace Go.Proofs.YtbaoihmffobneaaGreat
open Go Go.Sh Go.RowKit

theorem Gs.st {b k : Nat} {w0 w1 w2 : World} (h : Gs b w0 w1) (g : w1.grownBy w2 (some k)) (hk : w0.heap.size ≤ k) : Gs b w0 w2 :=
  ⟨g.os.trans h.os, g.tape.trans h.tape, g.output.trans h.output, Nat.le_trans (World.grownBy.size h) (World.grownBy.size g), fun i hi hne => by
    rw [g.block i (Nat.lt_of_lt_of_le hi (World.grownBy.size h)) (ne_some (by omega)), h.block i hi hne]⟩
theorem IsSch.st {c : Int} {b k : Nat} {w1 w2 : World} (h : IsSch c b w1) (g : w1.grownBy w2 (some k)) (hk : k ≠ b) : IsSch c b w2 := by
  rcases h with ⟨hss, ⟨j, hb⟩ | ⟨j, hb⟩⟩
  · exact ⟨hss, .inl ⟨j, hb.grown g (ne_some (Ne.symm hk))⟩⟩
  · exact ⟨hss, .inr ⟨j, hb.grown g (ne_some (Ne.symm hk))⟩⟩
theorem _root_.Go.Sh.IsT.st {k : Nat} {w1 w2 : World} {p : Option Addr} {t : Tr} {cs : Array Value} {ty : TypeId} (h : IsN w1 p t) (g : w1.grownBy w2 (some k)) (hb : Blk w1 k cs ty) (ht : ty ≠ 171) : IsN w2 p t := by
  induction t generalizing p with
  | nil => exact h
  | node l k' v gg r ihl ihr =>
    obtain ⟨b', pl, pr, hp, hb', hl, hr⟩ := h
    refine ⟨b', pl, pr, hp, hb'.grown g (ne_some ?_), ihl hl, ihr hr⟩
    rintro rfl
    exact ht (blk_fun hb hb')
theorem _root_.Go.Sh.Blk.gs {b k : Nat} {w w' : World} {cs : Array Value} {ty : TypeId} (h : Blk w k cs ty) (g : Gs b w w') (hk : k ≠ b) : Blk w' k cs ty := h.grown g (ne_some hk)
theorem splitC_p {c o key : Int} : ∀ {t : Tr}, OkP c t → OkM c (splitC c o key t).1 ∧ OkM c (splitC c o key t).2.2 ∧ (splitC c o key t).1.size + (splitC c o key t).2.2.size ≤ t.size
  | .nil, h => ⟨.nil h.s, .nil h.s, Nat.le_refl _⟩
  | .node l k v g r, h => by
    obtain ⟨hl, hr⟩ := h.sides
    have IL := splitC_p (o := o) (key := key) hl
    have IR := splitC_p (o := o) (key := key) hr
    have e : (Tr.node l k v g r).size = l.size + 1 + r.size := rfl
    unfold splitC
    split
    · have j := joinC_ok hl IR.1.1 (itC c (k, v, g))
      refine ⟨j.1, IR.2.1, ?_⟩
      simp only [joinC_size hl IR.1.1, e]; omega
    · split
      · have j := joinC_ok IL.2.1.1 hr (itC c (k, v, g))
        refine ⟨IL.1, j.1, ?_⟩
        simp only [joinC_size IL.2.1.1 hr, e]; omega
      · refine ⟨(wholeC_ok hl).1, (wholeC_ok hr).1, ?_⟩
        simp only [wholeC_size hl, wholeC_size hr, e]; omega
abbrev itO (x : Option It) : It := x.getD (0, 0, 0)
theorem do_at {o key k : Int} (ho : isO o = true) (hk : In k) {bo bk : Nat} {w : World} {R : Ending → World → Prop} (h1 : Blk w bo #[.int .u8 o] 5) (h2 : Blk w bk #[.int .u64 (codeI o key)] 90)
    (h : ∀ w', Ext w w' → R (.returned (.int .i64 (cmpI o k key))) w') : doCall Tryz.prog (.func (.func 199) #[] #[.pointer (some (blk bo)), .pointer (some (blk bk))]) #[.int .i64 k] w R := by
  refine do_callc Tryz.call199 (by rfl) (sh199_ok _ _ _ ?_)
  unfold sh199
  refine ⟨_, h1.cell (i := 0) rfl rfl, do_call Tryz.call168 (c_code hk fun w1 e1 => retS_ret ⟨_, _, rfl, _, (h2.ext e1).cell (i := 0) rfl rfl, ?_⟩)⟩
  rw [ho, cond_true]
  refine do_call Tryz.call175 (c_cmp64 (retS_ret ⟨_, rfl, ?_⟩))
  have e : (if codeI o k < codeI o key then (-1 : Int) else if codeI o key < codeI o k then 1 else 0) = cmpI o k key := by
    have : 1 ≤ o ∧ o ≤ 7 := by simpa [isO] using ho
    unfold cmpI; rw [if_pos this]
  rw [e]
  exact h _ e1
/-- an item, read and laid again -/
theorem do_re3 {c : Int} {b bx : Nat} {x : It} {w0 w : World} (hb : Blk w bx #[.int .i64 x.1, .int .i64 x.2.1, .int .u64 x.2.2] 93) (hx : w0.heap.size ≤ bx) (hne : bx ≠ b) (hg : Gs b w0 w) (hs : IsSch c b w) {K : World → Prop}
    (k : ∀ w', Blk w' bx #[.int .i64 x.1, .int .i64 x.2.1, .int .u64 x.2.2] 93 → w.grownBy w' (some bx) → Gs b w0 w' → IsSch c b w' → K w') :
    doSt ((blk bx).add 0) (.int .i64 x.1) w fun w1 => doSt ((blk bx).add 1) (.int .i64 x.2.1) w1 fun w2 => doSt ((blk bx).add 2) (.int .u64 x.2.2) w2 K :=
  do_st3 hb fun w' h' g' => k w' h' g' (hg.st g' hx) (hs.st g' hne)
def InK : Tr → Prop
  | .nil => True
  | .node l k _ _ r => InK l ∧ In k ∧ InK r
theorem inK_its {c : Int} {t : Tr} : InK t ↔ ∀ x ∈ itsC c t, In x.1 := by
  induction t with
  | nil => exact ⟨fun _ x hx => by simp [itsC, itT] at hx, fun _ => trivial⟩
  | node l k v g r ihl ihr =>
    rw [itsC_node]
    constructor
    · rintro ⟨h1, h2, h3⟩ x hx
      rcases List.mem_append.1 hx with hx | hx
      · exact ihl.1 h1 x hx
      · rcases List.mem_cons.1 hx with rfl | hx
        · rw [itC_key]; exact h2
        · exact ihr.1 h3 x hx
    · intro h
      exact ⟨ihl.2 fun x hx => h x (List.mem_append_left _ hx), by have := h (itC c (k, v, g)) (by simp); rwa [itC_key] at this, ihr.2 fun x hx => h x (List.mem_append_right _ (List.mem_cons_of_mem _ hx))⟩
set_option maxRecDepth 20000 in
theorem c_sparts {c o key : Int} {b bo bk : Nat} (ho : isO o = true) (nbo : bo ≠ b) (nbk : bk ≠ b) : ∀ (t : Tr) {p : Option Addr} {w : World} {R : Ending → World → Prop} (_hs : IsSch c b w) (_h1 : Blk w bo #[.int .u8 o] 5) (_h2 : Blk w bk #[.int .u64 (codeI o key)] 90)
    (_ht : IsN w p t) (_ok : OkP c t) (_hk : InK t) (_hB : t.size + 6 ≤ BIG) (_h : ∀ ql qr w', Gs b w w' → IsSch c b w' → IsN w' ql (splitC c o key t).1 → IsN w' qr (splitC c o key t).2.2 →
      R (.returned (.tuple #[.pointer ql, agI (itO (splitC c o key t).2.1), .bool (splitC c o key t).2.1.isSome, .pointer qr])) w'),
    Calls Tryz.prog 164 #[.pointer (some (blk b)), .func (.func 199) #[] #[.pointer (some (blk bo)), .pointer (some (blk bk))], .pointer p] w R
  | .nil, p, w, R, hs, h1, h2, ht, ok, hk, hB, h => by
    obtain rfl : p = none := ht
    refine sh164_ok _ _ _ _ _ ?_
    unfold sh164
    refine ⟨ifB_t rfl ?_⟩
    have e0 := ext_alloc w (.cells #[.int .i64 0, .int .i64 0, .int .u64 0] 93)
    have hx := blk_alloc w #[.int .i64 0, .int .i64 0, .int .u64 0] 93
    have hlt := hs.lt
    generalize hbx : w.heap.size = bx at *
    generalize w.alloc (.cells #[.int .i64 0, .int .i64 0, .int .u64 0] 93) = w1 at *
    have d := ext_drew w1
    refine ⟨⟨fun w' => Ext w1 w', d, _, fun w' e => (hx.ext e).cell (i := 0) (add_blk _ _) rfl, _, fun w' e => (hx.ext e).cell (i := 1) (add_blk _ _) rfl, _, fun w' e => (hx.ext e).cell (i := 2) (add_blk _ _) rfl, ?_⟩⟩
    refine do_re3 (x := (0, 0, 0)) (hx.ext d) (by omega) (by omega) (gs_of (e0.trans d)) (hs.ext (e0.trans d)) fun w2 hx2 g2 gs2 hs2 => ?_
    exact ⟨_, hx2.cell (i := 0) (add_blk _ _) rfl, _, hx2.cell (i := 1) (add_blk _ _) rfl, _, hx2.cell (i := 2) (add_blk _ _) rfl, h _ _ _ gs2 hs2 rfl rfl⟩
  | .node l k v g r, p, w, R, hs, h1, h2, ht, ok, hk, hB, h => by
    refine sh164_ok _ _ _ _ _ ?_
    unfold sh164
    refine ⟨ifB_f (by rw [ht.isNone]; rfl) ?_⟩
    obtain ⟨okl, okr⟩ := ok.sides
    obtain ⟨hkl, hkk, hkr⟩ := hk
    have hsz : (Tr.node l k v g r).size = l.size + 1 + r.size := rfl
    have e0 := ext_alloc w (.cells #[.int .i64 0, .int .i64 0, .int .u64 0] 93)
    have hx := blk_alloc w #[.int .i64 0, .int .i64 0, .int .u64 0] 93
    have hlt := hs.lt
    generalize hbx : w.heap.size = bx at *
    generalize w.alloc (.cells #[.int .i64 0, .int .i64 0, .int .u64 0] 93) = w1 at *
    have nbx : bx ≠ b := by omega
    have hroot : rootC c (.node l k v g r) = itC c (k, v, g) := rfl
    refine do_call Tryz.call107 (c_key (ht.ext e0) fun w2 e2 => retS_ret ⟨_, rfl, ?_⟩)
    have E2 := e0.trans e2
    refine do_at ho hkk (h1.ext E2) (h2.ext E2) fun w3 e3 => retS_ret ⟨_, rfl, ?_⟩
    have E3 := E2.trans e3
    have hx3 := hx.ext (e2.trans e3)
    have hs3 := hs.ext E3
    have ht3 := ht.ext E3
    have h13 := h1.ext E3
    have h23 := h2.ext E3
    have g3 : Gs b w w3 := gs_of E3
    unfold splitC at h
    refine ifB_intro (fun hc => ?_) fun hc => ?_
    · have hc : cmpI o k key < 0 := of_decide_eq_true hc
      simp only [hc, if_true] at h
      have sp := splitC_p (o := o) (key := key) okr
      refine do_call Tryz.call109 (c_right ht3 fun q4 h4 => retS_ret ⟨_, rfl, ?_⟩)
      refine do_call Tryz.call164 (c_sparts ho nbo nbk r hs3 h13 h23 h4 okr hkr (by omega) fun ql qr w5 g5 hs5 hl5 hr5 => retS_ret ⟨_, _, _, _, _, _, rfl, ?_⟩)
      have hx5 := hx3.gs g5 nbx
      have gt5 := g3.trans g5
      refine do_st3 hx5 fun w6 hx6 g6 => ?_
      have gt6 := gt5.st g6 (by omega)
      have hs6 := hs5.st g6 nbx
      have hl6 := hl5.st g6 hx5 (by decide)
      have hr6 := hr5.st g6 hx5 (by decide)
      have d := ext_drew w6
      refine ⟨⟨fun w' => Blk w' bx _ _, hx6, _, fun w' e => e.cell (i := 0) (add_blk _ _) rfl, _, fun w' e => e.cell (i := 1) (add_blk _ _) rfl, _, fun w' e => e.cell (i := 2) (add_blk _ _) rfl, ?_⟩⟩
      have gt6d := gt6.trans (gs_of d)
      refine do_call Tryz.call108 (c_left (ht.gs hs gt6d) fun q7 h7 => retS_ret ⟨_, rfl, hx6.ext d, ?_⟩)
      refine do_call Tryz.call110 (c_sitem (hs6.ext d) (ht.gs hs gt6d) fun w8 g8 hs8 => retS_ret ⟨_, _, _, rfl, (hx6.ext d).gs g8 nbx, ?_⟩)
      have gt8 := gt6d.trans g8
      refine do_call Tryz.call62 (c_sjoin hs8 (h7.gs (hs6.ext d) g8) ((hl6.ext d).gs (hs6.ext d) g8) okl sp.1.1 (by simp only [Tr.left]; omega) fun q9 w9 g9 hs9 h9 => retS_ret ⟨_, rfl, ((hx6.ext d).gs g8 nbx).gs g9 nbx, ?_⟩)
      have hx9 := ((hx6.ext d).gs g8 nbx).gs g9 nbx
      refine do_re3 (x := itO (splitC c o key r).2.1) hx9 (w0 := w) (by omega) nbx (gt8.trans g9) hs9 fun w10 hx10 g10 gs10 hs10 => ?_
      exact ⟨_, hx10.cell (i := 0) (add_blk _ _) rfl, _, hx10.cell (i := 1) (add_blk _ _) rfl, _, hx10.cell (i := 2) (add_blk _ _) rfl, h _ _ _ gs10 hs10 (h9.st g10 hx9 (by decide)) ((((hr6.ext d).gs (hs6.ext d) g8).gs hs8 g9).st g10 hx9 (by decide))⟩
    · have hc : ¬ cmpI o k key < 0 := of_decide_eq_false hc
      simp only [hc, if_false] at h
      refine ifB_intro (fun hc2 => ?_) fun hc2 => ?_
      · have hc2 : 0 < cmpI o k key := of_decide_eq_true hc2
        simp only [hc2, if_true] at h
        have sp := splitC_p (o := o) (key := key) okl
        refine do_call Tryz.call108 (c_left ht3 fun q4 h4 => retS_ret ⟨_, rfl, ?_⟩)
        refine do_call Tryz.call164 (c_sparts ho nbo nbk l hs3 h13 h23 h4 okl hkl (by omega) fun ql qr w5 g5 hs5 hl5 hr5 => retS_ret ⟨_, _, _, _, _, _, rfl, ?_⟩)
        have hx5 := hx3.gs g5 nbx
        have gt5 := g3.trans g5
        refine do_st3 hx5 fun w6 hx6 g6 => ?_
        have gt6 := gt5.st g6 (by omega)
        have hs6 := hs5.st g6 nbx
        have hl6 := hl5.st g6 hx5 (by decide)
        have hr6 := hr5.st g6 hx5 (by decide)
        have d := ext_drew w6
        refine ⟨⟨fun w' => Blk w' bx _ _, hx6, _, fun w' e => e.cell (i := 0) (add_blk _ _) rfl, _, fun w' e => e.cell (i := 1) (add_blk _ _) rfl, _, fun w' e => e.cell (i := 2) (add_blk _ _) rfl, ?_⟩⟩
        have gt6d := gt6.trans (gs_of d)
        refine do_call Tryz.call110 (c_sitem (hs6.ext d) (ht.gs hs gt6d) fun w8 g8 hs8 => retS_ret ⟨_, _, _, rfl, (hx6.ext d).gs g8 nbx, ?_⟩)
        have gt8 := gt6d.trans g8
        refine do_call Tryz.call109 (c_right (ht.gs hs gt8) fun q7 h7 => retS_ret ⟨_, rfl, (hx6.ext d).gs g8 nbx, ?_⟩)
        refine do_call Tryz.call62 (c_sjoin hs8 ((hr6.ext d).gs (hs6.ext d) g8) h7 sp.2.1.1 okr (by simp only [Tr.right]; omega) fun q9 w9 g9 hs9 h9 => retS_ret ⟨_, rfl, ((hx6.ext d).gs g8 nbx).gs g9 nbx, ?_⟩)
        have hx9 := ((hx6.ext d).gs g8 nbx).gs g9 nbx
        refine do_re3 (x := itO (splitC c o key l).2.1) hx9 (w0 := w) (by omega) nbx (gt8.trans g9) hs9 fun w10 hx10 g10 gs10 hs10 => ?_
        exact ⟨_, hx10.cell (i := 0) (add_blk _ _) rfl, _, hx10.cell (i := 1) (add_blk _ _) rfl, _, hx10.cell (i := 2) (add_blk _ _) rfl, h _ _ _ gs10 hs10 ((((hl6.ext d).gs (hs6.ext d) g8).gs hs8 g9).st g10 hx9 (by decide)) (h9.st g10 hx9 (by decide))⟩
      · have hc2 : ¬ 0 < cmpI o k key := of_decide_eq_false hc2
        simp only [hc2, if_false] at h
        refine do_call Tryz.call108 (c_left ht3 fun q4 h4 => retS_ret ⟨_, rfl, ?_⟩)
        refine do_call Tryz.call70 (c_swhole hs3 h4 okl (by simp only [Tr.left]; omega) fun q5 w5 g5 hs5 h5 => retS_ret ⟨_, rfl, ?_⟩)
        have gt5 := g3.trans g5
        refine do_call Tryz.call110 (c_sitem hs5 (ht.gs hs gt5) fun w6 g6 hs6 => retS_ret ⟨_, _, _, rfl, ?_⟩)
        have gt6 := gt5.trans g6
        refine do_call Tryz.call109 (c_right (ht.gs hs gt6) fun q7 h7 => retS_ret ⟨_, rfl, ?_⟩)
        refine do_call Tryz.call70 (c_swhole hs6 h7 okr (by simp only [Tr.right]; omega) fun q8 w8 g8 hs8 h8 => retS_ret ⟨_, rfl, ?_⟩)
        have hx8 := ((hx3.gs g5 nbx).gs g6 nbx).gs g8 nbx
        refine do_st3 hx8 fun w9 hx9 g9 => ?_
        have gt9 := (gt6.trans g8).st g9 (by omega)
        exact ⟨_, hx9.cell (i := 0) (add_blk _ _) rfl, _, hx9.cell (i := 1) (add_blk _ _) rfl, _, hx9.cell (i := 2) (add_blk _ _) rfl, h _ _ _ gt9 (hs8.st g9 nbx) (((h5.gs hs5 g6).gs hs6 g8).st g9 hx8 (by decide)) (h8.st g9 hx8 (by decide))⟩
end Go.Proofs.YtbaoihmffobneaaGreat

namespace Go.Proofs.YtbaoihmffobneaaGreat
open Go Go.Sh Go.RowKit

theorem c_where {o key : Int} (hk : In key) {w : World} {R : Ending → World → Prop} (h0 : isO o = false → ∀ w', Ext w w' → R (.returned (.tuple #[.nilFunc, .int .i64 2])) w')
    (h1 : isO o = true → ∀ bo bk w', Ext w w' → Blk w' bo #[.int .u8 o] 5 → Blk w' bk #[.int .u64 (codeI o key)] 90 → w.heap.size ≤ bo → w.heap.size ≤ bk →
      R (.returned (.tuple #[.func (.func 199) #[] #[.pointer (some (blk bo)), .pointer (some (blk bk))], .int .i64 0])) w') : Calls Tryz.prog 163 #[.int .u8 o, .int .i64 key] w R := by
  refine sh163_ok _ _ ?_
  unfold sh163
  have e0 := ext_alloc w (.cells #[.int .u8 o] 5)
  have hb0 := blk_alloc w #[.int .u8 o] 5
  refine ⟨_, hb0.cell (i := 0) rfl rfl, do_call Tryz.call168 (c_code hk fun w1 e1 => retS_ret ⟨_, _, rfl, ⟨?_⟩⟩)⟩
  have E1 := e0.trans e1
  have hk0 := blk_alloc w1 #[.int .u64 0] 90
  refine do_st (i := 0) hk0 (add_blk _ _) (by simp) fun w2 hk2 g2 => ?_
  have e2 : Ext w1 w2 := (ext_alloc w1 _).st g2 (Nat.le_refl _)
  have E2 := E1.trans e2
  have hb2 := hb0.ext (e1.trans e2)
  cases ho : isO o with
  | false => exact ifB_t rfl (h0 ho _ E2)
  | true =>
    rw [ho, cond_true] at hk2
    exact ifB_f rfl (h1 ho _ _ _ E2 hb2 hk2 (Nat.le_refl _) E1.size)
set_option maxRecDepth 20000 in
theorem c_split_no {o key : Int} (hk : In key) {sp p : Option Addr} {w : World} {R : Ending → World → Prop} (hno : sp = none ∨ isO o = false)
    (h : ∀ w', Ext w w' → R (.returned (.tuple #[.pointer none, agI (0, 0, 0), .bool false, .pointer none, .int .i64 2])) w') : Calls Tryz.prog 105 #[.pointer sp, .int .u8 o, .pointer p, .int .i64 key] w R := by
  refine sh105_ok _ _ _ _ ?_
  unfold sh105
  refine ⟨?_⟩
  intro K10
  have e0 := ext_alloc w (.cells #[.int .i64 0, .int .i64 0, .int .u64 0] 93)
  have hx := blk_alloc w #[.int .i64 0, .int .i64 0, .int .u64 0] 93
  have hK10 : ∀ (e : Int) d w1, Ext (w.alloc (.cells #[.int .i64 0, .int .i64 0, .int .u64 0] 93)) w1 → (sp = none ∨ e ≠ 0) → K10 e d w1 := by
    intro e d w1 e1 hno
    simp -zeta -zetaHave only [K10]
    intro K13
    have hK13 : K13 true w1 := by
      have d := ext_drew w1
      have hx1 := hx.ext e1
      refine ifB_t rfl ⟨⟨fun w' => Ext w1 w', d, _, fun w' e => (hx1.ext e).cell (i := 0) (add_blk _ _) rfl, _, fun w' e => (hx1.ext e).cell (i := 1) (add_blk _ _) rfl, _, fun w' e => (hx1.ext e).cell (i := 2) (add_blk _ _) rfl, ?_⟩⟩
      refine do_st3 (hx1.ext d) fun w2 h2 g2 => ?_
      exact ⟨_, h2.cell (i := 0) (add_blk _ _) rfl, _, h2.cell (i := 1) (add_blk _ _) rfl, _, h2.cell (i := 2) (add_blk _ _) rfl, h _ (((e0.trans e1).trans d).st g2 (Nat.le_refl _))⟩
    refine ifB_intro (fun _ => hK13) fun hs => ?_
    have he : e ≠ 0 := by
      rcases hno with rfl | he
      · simp at hs
      · exact he
    have : (e != 0) = true := by simpa using he
    rw [this]
    exact hK13
  refine do_call Tryz.call163 (c_where hk (fun _ w1 e1 => retS_ret (.inr ⟨_, rfl, hK10 _ _ _ e1 (.inr (by decide))⟩)) fun ho bo bk w1 e1 _ _ _ _ => retS_ret (.inl ⟨_, _, _, _, rfl, hK10 _ _ _ e1 ?_⟩))
  rcases hno with h | h
  · exact .inl h
  · rw [ho] at h; cases h
set_option maxRecDepth 20000 in
theorem c_split {c o key : Int} {b : Nat} (ho : isO o = true) (hk : In key) {t : Tr} {p : Option Addr} {w : World} {R : Ending → World → Prop} (hs : IsSch c b w) (ht : IsN w p t) (ok : OkP c t) (hkt : InK t) (hB : t.size + 6 ≤ BIG)
    (h : ∀ ql qr w', Gs b w w' → IsSch c b w' → IsN w' ql (splitC c o key t).1 → IsN w' qr (splitC c o key t).2.2 →
      R (.returned (.tuple #[.pointer ql, agI (itO (splitC c o key t).2.1), .bool (splitC c o key t).2.1.isSome, .pointer qr, .int .i64 0])) w') : Calls Tryz.prog 105 #[.pointer (some (blk b)), .int .u8 o, .pointer p, .int .i64 key] w R := by
  refine sh105_ok _ _ _ _ ?_
  unfold sh105
  refine ⟨?_⟩
  have e0 := ext_alloc w (.cells #[.int .i64 0, .int .i64 0, .int .u64 0] 93)
  have hx := blk_alloc w #[.int .i64 0, .int .i64 0, .int .u64 0] 93
  have hlt := hs.lt
  generalize hbx : w.heap.size = bx at *
  generalize w.alloc (.cells #[.int .i64 0, .int .i64 0, .int .u64 0] 93) = w1 at *
  have nbx : bx ≠ b := by omega
  have hxl := hx.lt
  intro K10
  refine do_call Tryz.call163 (c_where hk (fun h0 _ _ => by rw [ho] at h0; cases h0) fun _ bo bk w2 e2 hbo hbk lo lk => retS_ret (.inl ⟨_, _, _, _, rfl, ?_⟩))
  simp -zeta -zetaHave only [K10]
  intro K13
  refine ifB_f rfl ?_
  have E2 := e0.trans e2
  refine ifB_f rfl (do_call Tryz.call164 (c_sparts ho (by omega) (by omega) t (hs.ext E2) hbo hbk (ht.ext E2) ok hkt hB fun ql qr w3 g3 hs3 hl3 hr3 => retS_ret ⟨_, _, _, _, _, _, rfl, ?_⟩))
  have gt3 : Gs b w w3 := (gs_of E2).trans g3
  have hx3 := (hx.ext e2).gs g3 nbx
  refine do_st3 hx3 fun w4 hx4 g4 => ?_
  have gt4 := gt3.st g4 (by omega)
  have hs4 := hs3.st g4 nbx
  have hl4 := hl3.st g4 hx3 (by decide)
  have hr4 := hr3.st g4 hx3 (by decide)
  have d := ext_drew w4
  refine ⟨⟨fun w' => Blk w' bx _ _, hx4, _, fun w' e => e.cell (i := 0) (add_blk _ _) rfl, _, fun w' e => e.cell (i := 1) (add_blk _ _) rfl, _, fun w' e => e.cell (i := 2) (add_blk _ _) rfl, ?_⟩⟩
  refine do_re3 (x := itO (splitC c o key t).2.1) (hx4.ext d) (w0 := w) (by omega) nbx (gt4.trans (gs_of d)) (hs4.ext d) fun w5 hx5 g5 gs5 hs5 => ?_
  exact ⟨_, hx5.cell (i := 0) (add_blk _ _) rfl, _, hx5.cell (i := 1) (add_blk _ _) rfl, _, hx5.cell (i := 2) (add_blk _ _) rfl, h _ _ _ gs5 hs5 ((hl4.ext d).st g5 (hx4.ext d) (by decide)) ((hr4.ext d).st g5 (hx4.ext d) (by decide))⟩
/-! ### cut -/
abbrev toA (bs : Nat) : Array Value := #[.func (.func 109) #[] #[], .func (.func 108) #[] #[], .func (.func 198) #[] #[.pointer (some (blk bs))]]
theorem c_to {bs0 : Option Addr} {w : World} {R : Ending → World → Prop} (h : ∀ bs w', Ext w w' → Blk w' bs #[.pointer bs0] 23 → w.heap.size ≤ bs → R (.returned (.agg (toA bs))) w') : Calls Tryz.prog 159 #[.pointer bs0, .bool true] w R := by
  refine sh159_ok _ _ ?_
  unfold sh159
  refine ⟨⟨ifB_t rfl ?_⟩⟩
  have e0 := ext_alloc w (.cells #[.pointer bs0] 23)
  have hb := blk_alloc w #[.pointer bs0] 23
  generalize w.alloc (.cells #[.pointer bs0] 23) = w1 at *
  refine do_st3 (blk_alloc w1 _ _) fun w2 h2 g2 => ?_
  have e2 : Ext w1 w2 := (ext_alloc w1 _).st g2 (Nat.le_refl _)
  exact ⟨_, _, _, h2.cell (i := 0) (add_blk _ _) rfl, _, _, _, h2.cell (i := 1) (add_blk _ _) rfl, _, _, _, h2.cell (i := 2) (add_blk _ _) rfl, h _ _ (e0.trans e2) (hb.ext e2) (Nat.le_refl _)⟩
/-- the join of a way towards the last item -/
theorem do_tojoin {c : Int} {b bs : Nat} {l r : Tr} {k v g : Int} {pl pr : Option Addr} {w : World} {R : Ending → World → Prop} (hb : Blk w bs #[.pointer (some (blk b))] 23) (hs : IsSch c b w) (hl : IsN w pl l) (hr : IsN w pr r) (okl : OkP c l) (okr : OkP c r) (hB : l.size + r.size + 5 ≤ BIG)
    (h : ∀ q w', Gs b w w' → IsSch c b w' → IsN w' q (joinC c l (k, v, g) r) → R (.returned (.pointer q)) w') : doCall Tryz.prog (.func (.func 198) #[] #[.pointer (some (blk bs))]) #[.pointer pr, .agg #[.int .i64 k, .int .i64 v, .int .u64 g], .pointer pl] w R := by
  refine do_callc Tryz.call198 (by rfl) (sh198_ok _ _ _ _ _ _ ?_)
  unfold sh198
  have e0 := ext_alloc w (.cells #[.int .i64 k, .int .i64 v, .int .u64 g] 93)
  have hx := blk_alloc w #[.int .i64 k, .int .i64 v, .int .u64 g] 93
  refine ⟨_, (hb.ext e0).cell (i := 0) rfl rfl, _, hx.cell (i := 0) (add_blk _ _) rfl, _, hx.cell (i := 1) (add_blk _ _) rfl, _, hx.cell (i := 2) (add_blk _ _) rfl, ?_⟩
  exact do_call Tryz.call62 (c_sjoin (hs.ext e0) (hl.ext e0) (hr.ext e0) okl okr hB fun q w1 g1 hs1 h1 => retS_ret ⟨_, rfl, h _ _ ((gs_of e0).trans g1) hs1 h1⟩)
theorem lastC_p {c : Int} : ∀ {t : Tr}, t.nn = true → OkP c t → OkM c (lastC c t).1 ∧ (lastC c t).1.size + 1 = t.size := fun {t} hn ok => by
  have := lastC_ok hn ok
  refine ⟨this.1, ?_⟩
  have e := congrArg List.length this.2
  simp only [itsC_len, List.length_append, List.length_cons, List.length_nil] at e
  omega
theorem lastC_eq {c : Int} {t : Tr} (hn : t.nn = true) (hr : t.right.nn = true) : lastC c t = (joinC c t.left (rootC c t) (lastC c t.right).1, (lastC c t.right).2) := by
  cases t with
  | nil => cases hn
  | node l k v g r =>
    cases r with
    | nil => cases hr
    | node a b d e f => rfl
theorem lastC_eq0 {c : Int} {t : Tr} (hn : t.nn = true) (hr : t.right.nn = false) : lastC c t = (wholeC c t.left, rootC c t) := by
  cases t with
  | nil => cases hn
  | node l k v g r =>
    cases r with
    | nil => rfl
    | node a b d e f => cases hr
theorem OkP.lr {c : Int} {t : Tr} (h : OkP c t) : OkP c t.left ∧ OkP c t.right := by
  cases t with
  | nil => exact ⟨h, h⟩
  | node l k v g r => exact h.sides
set_option maxRecDepth 20000 in
theorem c_end {c : Int} {b bs : Nat} (nbs : bs ≠ b) : ∀ (n : Nat) (t : Tr) {p : Option Addr} {w : World} {R : Ending → World → Prop} (_hn : t.size ≤ n) (_hnn : t.nn = true) (_hs : IsSch c b w) (_hb : Blk w bs #[.pointer (some (blk b))] 23) (_ht : IsN w p t) (_ok : OkP c t) (_hB : t.size + 6 ≤ BIG)
    (_h : ∀ q w', Gs b w w' → IsSch c b w' → IsN w' q (lastC c t).1 → R (.returned (.tuple #[.pointer q, agI (lastC c t).2])) w'), Calls Tryz.prog 158 #[.pointer (some (blk b)), .agg (toA bs), .pointer p] w R := fun n => by
  induction n with
  | zero => intro t p w R hn hnn; rw [Tr.nn_size] at hnn; have := of_decide_eq_true hnn; omega
  | succ n ih =>
    intro t p w R hn hnn hs hb ht ok hB h
    refine sh158_ok _ _ _ _ _ _ _ _ _ _ _ ?_
    unfold sh158
    refine ⟨⟨?_⟩⟩
    have hlt := hs.lt
    have hsz := size_nn hnn
    have okk := ok.lr
    have e0 := ext_alloc w (.cells (toA bs) 224)
    have hw := blk_alloc w (toA bs) 224
    generalize hbw : w.heap.size = bw at *
    generalize w.alloc (.cells (toA bs) 224) = w1 at *
    have e1 := ext_alloc w1 (.cells #[.int .i64 0, .int .i64 0, .int .u64 0] 93)
    have hx := blk_alloc w1 #[.int .i64 0, .int .i64 0, .int .u64 0] 93
    have hwl := hw.lt
    generalize hbx : w1.heap.size = bx at *
    generalize w1.alloc (.cells #[.int .i64 0, .int .i64 0, .int .u64 0] 93) = w2 at *
    have hw := hw.ext e1
    have E := e0.trans e1
    have nbw : bw ≠ b := by omega
    have nbx : bx ≠ b := by omega
    have nwx : bw ≠ bx := by omega
    have hxl := hx.lt
    have hs2 := hs.ext E
    have ht2 := ht.ext E
    refine ⟨_, _, _, hw.cell (i := 0) (add_blk _ _) rfl, do_call Tryz.call109 (c_right ht2 fun q3 h3 => retS_ret ⟨_, rfl, ifB_intro (fun hno => ?_) fun hno => ?_⟩)⟩
    · have hrn : t.right.nn = false := by rw [h3.isNone] at hno; simpa using hno
      rw [lastC_eq0 hnn hrn] at h
      refine ⟨_, _, _, hw.cell (i := 1) (add_blk _ _) rfl, do_call Tryz.call108 (c_left ht2 fun q4 h4 => retS_ret ⟨_, rfl, ?_⟩)⟩
      refine do_call Tryz.call70 (c_swhole hs2 h4 okk.1 (by omega) fun q5 w5 g5 hs5 h5 => retS_ret ⟨_, rfl, ?_⟩)
      have gt5 := (gs_of E).trans g5
      refine do_call Tryz.call110 (c_sitem hs5 (ht.gs hs gt5) fun w6 g6 hs6 => retS_ret ⟨_, _, _, rfl, ?_⟩)
      have hx6 := (hx.gs g5 nbx).gs g6 nbx
      refine do_st3 hx6 fun w7 hx7 g7 => ?_
      exact ⟨_, hx7.cell (i := 0) (add_blk _ _) rfl, _, hx7.cell (i := 1) (add_blk _ _) rfl, _, hx7.cell (i := 2) (add_blk _ _) rfl, h _ _ ((gt5.trans g6).st g7 (by omega)) (hs6.st g7 nbx) ((h5.gs hs5 g6).st g7 hx6 (by decide))⟩
    · have hrn : t.right.nn = true := by rw [h3.isNone] at hno; simpa using hno
      rw [lastC_eq hnn hrn] at h
      have lp := lastC_p hrn okk.2
      have lok := lastC_ok hrn okk.2
      intro K45
      have hK45 : ∀ (qr : Option Addr) (by' : Nat) w3, Gs b w w3 → IsSch c b w3 → Blk w3 bw (toA bs) 224 → Blk w3 bx #[.int .i64 0, .int .i64 0, .int .u64 0] 93 → Blk w3 by' #[.int .i64 (lastC c t.right).2.1, .int .i64 (lastC c t.right).2.2.1, .int .u64 (lastC c t.right).2.2.2] 93 → by' ≠ b → by' ≠ bx →
          Blk w3 bs #[.pointer (some (blk b))] 23 → IsN w3 qr (lastC c t.right).1 → K45 qr (blk by') w3 := by
        intro qr by' w3 g3 hs3 hw3 hx3 hy3 nby nyx hb3 hq3
        have d := ext_drew w3
        have gt := g3.trans (gs_of d)
        have hsd := hs3.ext d
        refine ⟨⟨fun w' => Blk w' bw (toA bs) 224 ∧ Blk w' by' #[.int .i64 (lastC c t.right).2.1, .int .i64 (lastC c t.right).2.2.1, .int .u64 (lastC c t.right).2.2.2] 93, ⟨hw3, hy3⟩, _, _, _, fun w' e => e.1.cell (i := 2) (add_blk _ _) rfl, _, _, _, fun w' e => e.1.cell (i := 1) (add_blk _ _) rfl, _, fun w' e => e.2.cell (i := 0) (add_blk _ _) rfl, _, fun w' e => e.2.cell (i := 1) (add_blk _ _) rfl, _, fun w' e => e.2.cell (i := 2) (add_blk _ _) rfl, ?_⟩⟩
        refine do_call Tryz.call110 (c_sitem hsd (ht.gs hs gt) fun w4 g4 hs4 => retS_ret ⟨_, _, _, rfl, ⟨(hw3.ext d).gs g4 nbw, (hy3.ext d).gs g4 nby⟩, ?_⟩)
        have gt4 := gt.trans g4
        refine do_call Tryz.call108 (c_left (ht.gs hs gt4) fun q5 h5 => retS_ret ⟨_, rfl, ⟨(hw3.ext d).gs g4 nbw, (hy3.ext d).gs g4 nby⟩, ?_⟩)
        refine do_tojoin ((hb3.ext d).gs g4 nbs) hs4 h5 ((hq3.ext d).gs hsd g4) okk.1 lp.1.1 (by omega) fun q6 w6 g6 hs6 h6 => retS_ret ⟨_, rfl, ⟨((hw3.ext d).gs g4 nbw).gs g6 nbw, ((hy3.ext d).gs g4 nby).gs g6 nby⟩, ?_⟩
        have hx6 := ((hx3.ext d).gs g4 nbx).gs g6 nbx
        refine do_st3 hx6 fun w7 hx7 g7 => ?_
        exact ⟨_, hx7.cell (i := 0) (add_blk _ _) rfl, _, hx7.cell (i := 1) (add_blk _ _) rfl, _, hx7.cell (i := 2) (add_blk _ _) rfl, h _ _ ((gt4.trans g6).st g7 (by omega)) (hs6.st g7 nbx) (h6.st g7 hx6 (by decide))⟩
      have hb2 := hb.ext E
      have d := ext_drew w2
      refine ⟨⟨fun w' => Blk w' bw (toA bs) 224, hw, _, _, _, fun w' e => e.cell (i := 0) (add_blk _ _) rfl, _, _, _, fun w' e => e.cell (i := 1) (add_blk _ _) rfl, _, _, _, fun w' e => e.cell (i := 2) (add_blk _ _) rfl, _, _, _, fun w' e => e.cell (i := 0) (add_blk _ _) rfl, ?_, ?_⟩⟩
      · refine do_call Tryz.call109 (c_right (ht2.ext d) fun q4 h4 => retS_ret ⟨_, rfl, hw, ?_, ?_⟩)
        · refine do_call Tryz.call158 (ih t.right (by omega) hrn (hs2.ext d) (hb2.ext d) h4 okk.2 (by omega) fun q5 w5 g5 hs5 h5 => retS_ret ⟨_, _, _, _, rfl, (hw.ext d).gs g5 nbw, ⟨?_⟩⟩)
          have e6 := ext_alloc w5 (.cells #[.int .i64 0, .int .i64 0, .int .u64 0] 93)
          have hw6 := ((hw.ext d).gs g5 nbw).ext e6
          have hx6 := ((hx.ext d).gs g5 nbx).ext e6
          have hb6 := ((hb2.ext d).gs g5 nbs).ext e6
          refine ⟨hw6, do_st3 (blk_alloc w5 _ _) fun w7 hy7 g7 => ?_⟩
          have l5 := World.grownBy.size g5
          have l5 : w2.heap.size ≤ w5.heap.size := l5
          have hbsl := hb2.lt
          have hblt := hs2.lt
          exact hK45 _ _ _ ((((gs_of (E.trans d)).trans g5).trans (gs_of e6)).st g7 (by omega)) ((hs5.ext e6).st g7 (by omega)) (hw6.grown g7 (ne_some (by omega))) (hx6.grown g7 (ne_some (by omega))) hy7 (by omega) (by omega) (hb6.grown g7 (ne_some (by omega))) ((h5.ext e6).st g7 (blk_alloc w5 _ _) (by decide))
        · have e6 := ext_alloc w2.drew (.cells #[.int .i64 0, .int .i64 0, .int .u64 0] 93)
          have hy6 := blk_alloc w2.drew #[.int .i64 0, .int .i64 0, .int .u64 0] 93
          refine ⟨(hw.ext d).ext e6, ?_⟩
          have hbsl := hb2.lt
          have hblt := hs2.lt
          have hys : w2.drew.heap.size = w2.heap.size := rfl
          refine do_call Tryz.call158 (ih t.right (by omega) hrn ((hs2.ext d).ext e6) ((hb2.ext d).ext e6) (h4.ext e6) okk.2 (by omega) fun q5 w5 g5 hs5 h5 => retS_ret ⟨_, _, _, _, rfl, ((hw.ext d).ext e6).gs g5 nbw, ?_⟩)
          have hy5 := hy6.gs g5 (by omega)
          refine do_st3 hy5 fun w7 hy7 g7 => ?_
          exact hK45 _ _ _ (((gs_of ((E.trans d).trans e6)).trans g5).st g7 (by omega)) (hs5.st g7 (by omega)) ((((hw.ext d).ext e6).gs g5 nbw).grown g7 (ne_some (by omega))) ((((hx.ext d).ext e6).gs g5 nbx).grown g7 (ne_some (by omega))) hy7 (by omega) (by omega) ((((hb2.ext d).ext e6).gs g5 nbs).grown g7 (ne_some (by omega))) (h5.st g7 hy5 (by decide))
      · have e6 := ext_alloc w2.drew (.cells #[.int .i64 0, .int .i64 0, .int .u64 0] 93)
        have hy6 := blk_alloc w2.drew #[.int .i64 0, .int .i64 0, .int .u64 0] 93
        refine ⟨(hw.ext d).ext e6, ?_⟩
        have hbsl := hb2.lt
        have hblt := hs2.lt
        have hys : w2.drew.heap.size = w2.heap.size := rfl
        refine do_call Tryz.call109 (c_right ((ht2.ext d).ext e6) fun q4 h4 => retS_ret ⟨_, rfl, (hw.ext d).ext e6, ?_⟩)
        refine do_call Tryz.call158 (ih t.right (by omega) hrn ((hs2.ext d).ext e6) ((hb2.ext d).ext e6) h4 okk.2 (by omega) fun q5 w5 g5 hs5 h5 => retS_ret ⟨_, _, _, _, rfl, ((hw.ext d).ext e6).gs g5 nbw, ?_⟩)
        have hy5 := hy6.gs g5 (by omega)
        refine do_st3 hy5 fun w7 hy7 g7 => ?_
        exact hK45 _ _ _ (((gs_of ((E.trans d).trans e6)).trans g5).st g7 (by omega)) (hs5.st g7 (by omega)) ((((hw.ext d).ext e6).gs g5 nbw).grown g7 (ne_some (by omega))) ((((hx.ext d).ext e6).gs g5 nbx).grown g7 (ne_some (by omega))) hy7 (by omega) (by omega) ((((hb2.ext d).ext e6).gs g5 nbs).grown g7 (ne_some (by omega))) (h5.st g7 hy5 (by decide))
end Go.Proofs.YtbaoihmffobneaaGreat

namespace Go.Proofs.YtbaoihmffobneaaGreat
open Go Go.Sh Go.RowKit

set_option maxRecDepth 20000 in
theorem c_last {c : Int} {b : Nat} {t : Tr} {p : Option Addr} {w : World} {R : Ending → World → Prop} (hs : IsSch c b w) (ht : IsN w p t) (ok : OkP c t) (hB : t.size + 6 ≤ BIG)
    (h : ∀ q w', Gs b w w' → IsSch c b w' → IsN w' q (lastC c t).1 → R (.returned (.tuple #[.pointer q, agI (lastC c t).2, .bool t.nn])) w') : Calls Tryz.prog 102 #[.pointer (some (blk b)), .pointer p] w R := by
  refine sh102_ok _ _ ?_
  unfold sh102
  refine ⟨?_⟩
  have e0 := ext_alloc w (.cells #[.int .i64 0, .int .i64 0, .int .u64 0] 93)
  have hx := blk_alloc w #[.int .i64 0, .int .i64 0, .int .u64 0] 93
  have hlt := hs.lt
  generalize hbx : w.heap.size = bx at *
  generalize w.alloc (.cells #[.int .i64 0, .int .i64 0, .int .u64 0] 93) = w1 at *
  have nbx : bx ≠ b := by omega
  have hxl := hx.lt
  have hs1 := hs.ext e0
  intro K7
  refine ifB_f rfl ?_
  rw [ht.isNone]
  cases hn : t.nn with
  | false =>
    rw [hn] at h
    obtain rfl := Tr.size0 hn
    refine ifB_t rfl (do_st3 hx fun w2 hx2 g2 => ?_)
    exact ⟨_, hx2.cell (i := 0) (add_blk _ _) rfl, _, hx2.cell (i := 1) (add_blk _ _) rfl, _, hx2.cell (i := 2) (add_blk _ _) rfl, h _ _ ((gs_of e0).st g2 (by omega)) (hs1.st g2 nbx) rfl⟩
  | true =>
    rw [hn] at h
    refine ifB_f rfl (do_call Tryz.call159 (c_to fun bs w2 e2 hb2 lbs => retS_ret ⟨_, _, _, _, _, _, _, _, _, rfl, ?_⟩))
    have E2 := e0.trans e2
    have nbs : bs ≠ b := by omega
    refine do_call Tryz.call158 (c_end nbs t.size t (Nat.le_refl _) hn (hs.ext E2) hb2 (ht.ext E2) ok hB fun q w3 g3 hs3 h3 => retS_ret ⟨_, _, _, _, rfl, ?_⟩)
    have hx3 := (hx.ext e2).gs g3 nbx
    have gt3 := (gs_of E2).trans g3
    refine do_st3 hx3 fun w4 hx4 g4 => ?_
    have gt4 := gt3.st g4 (by omega)
    have hs4 := hs3.st g4 nbx
    have h4 := h3.st g4 hx3 (by decide)
    have d := ext_drew w4
    refine ⟨⟨fun w' => Blk w' bx _ _, hx4, _, fun w' e => e.cell (i := 0) (add_blk _ _) rfl, _, fun w' e => e.cell (i := 1) (add_blk _ _) rfl, _, fun w' e => e.cell (i := 2) (add_blk _ _) rfl, ?_⟩⟩
    refine do_re3 (x := (lastC c t).2) (hx4.ext d) (w0 := w) (by omega) nbx (gt4.trans (gs_of d)) (hs4.ext d) fun w5 hx5 g5 gs5 hs5 => ?_
    exact ⟨_, hx5.cell (i := 0) (add_blk _ _) rfl, _, hx5.cell (i := 1) (add_blk _ _) rfl, _, hx5.cell (i := 2) (add_blk _ _) rfl, h _ _ gs5 hs5 ((h4.ext d).st g5 (hx4.ext d) (by decide))⟩
set_option maxRecDepth 20000 in
theorem c_join2 {c : Int} {b : Nat} {l r : Tr} {pl pr : Option Addr} {w : World} {R : Ending → World → Prop} (hs : IsSch c b w) (hl : IsN w pl l) (hr : IsN w pr r) (okl : OkP c l) (okr : OkP c r) (hB : l.size + r.size + 6 ≤ BIG)
    (h : ∀ q w', Gs b w w' → IsSch c b w' → IsN w' q (join2C c l r) → R (.returned (.pointer q)) w') : Calls Tryz.prog 63 #[.pointer (some (blk b)), .pointer pl, .pointer pr] w R := by
  refine sh63_ok _ _ _ ?_
  unfold sh63
  refine do_call Tryz.call102 (c_last hs hl okl (by omega) fun q w1 g1 hs1 h1 => retS_ret ⟨_, _, _, _, _, rfl, ⟨?_⟩⟩)
  have e2 := ext_alloc w1 (.cells #[.int .i64 0, .int .i64 0, .int .u64 0] 93)
  have hlt := hs1.lt
  have nbx : w1.heap.size ≠ b := by omega
  have l1 := World.grownBy.size g1
  refine do_st3 (blk_alloc w1 _ _) fun w3 hx3 g3 => ?_
  have e3 : Ext w1 w3 := e2.st g3 (Nat.le_refl _)
  have gt3 : Gs b w w3 := g1.trans (gs_of e3)
  have hs3 := hs1.ext e3
  have h3 := h1.ext e3
  have hr3 := hr.gs hs gt3
  unfold join2C at h
  cases hn : l.nn with
  | false =>
    rw [hn, if_neg (by simp)] at h
    exact ifB_t rfl (do_call Tryz.call70 (c_swhole hs3 hr3 okr (by omega) fun q4 w4 g4 hs4 h4 => retS_ret ⟨_, rfl, h _ _ (gt3.trans g4) hs4 h4⟩))
  | true =>
    rw [hn, if_pos rfl] at h
    have lp := lastC_p hn okl
    refine ifB_f rfl ⟨_, hx3.cell (i := 0) (add_blk _ _) rfl, _, hx3.cell (i := 1) (add_blk _ _) rfl, _, hx3.cell (i := 2) (add_blk _ _) rfl, ?_⟩
    exact do_call Tryz.call62 (c_sjoin hs3 h3 hr3 lp.1.1 okr (by omega) fun q4 w4 g4 hs4 h4 => retS_ret ⟨_, rfl, h _ _ (gt3.trans g4) hs4 h4⟩)
/-! ### what is ahead, and behind -/
def aheadC (c o key : Int) (wth : Bool) (t : Tr) : Tr := if (splitC c o key t).2.1.isSome && wth then joinC c (splitC c o key t).1 (itO (splitC c o key t).2.1) .nil else (splitC c o key t).1
def behindC (c o key : Int) (wth : Bool) (t : Tr) : Tr := if (splitC c o key t).2.1.isSome && wth then join2C c (joinC c .nil (itO (splitC c o key t).2.1) .nil) (splitC c o key t).2.2 else (splitC c o key t).2.2
set_option maxRecDepth 20000 in
theorem c_ahead {c o key : Int} {b : Nat} (ho : isO o = true) (hk : In key) {t : Tr} {wth : Bool} {p : Option Addr} {w : World} {R : Ending → World → Prop} (hs : IsSch c b w) (ht : IsN w p t) (ok : OkP c t) (hkt : InK t) (hB : t.size + 6 ≤ BIG)
    (h : ∀ q w', Gs b w w' → IsSch c b w' → IsN w' q (aheadC c o key wth t) → R (.returned (.tuple #[.pointer q, .int .i64 0])) w') : Calls Tryz.prog 116 #[.pointer (some (blk b)), .int .u8 o, .pointer p, .int .i64 key, .bool wth] w R := by
  refine sh116_ok _ _ _ _ _ ?_
  unfold sh116
  have sp := splitC_p (o := o) (key := key) ok
  refine do_call Tryz.call105 (c_split ho hk hs ht ok hkt hB fun ql qr w1 g1 hs1 hl1 hr1 => retS_ret ⟨_, _, _, _, _, _, _, rfl, ⟨?_⟩⟩)
  have hlt := hs1.lt
  refine do_st3 (blk_alloc w1 _ _) fun w3 hx3 g3 => ?_
  have e3 : Ext w1 w3 := (ext_alloc w1 _).st g3 (Nat.le_refl _)
  have gt3 : Gs b w w3 := g1.trans (gs_of e3)
  have hs3 := hs1.ext e3
  unfold aheadC at h
  intro K21 K24
  cases hq : (splitC c o key t).2.1.isSome with
  | false =>
    rw [hq] at h
    exact ifB_f rfl (h _ _ gt3 hs3 (hl1.ext e3))
  | true =>
    rw [hq] at h
    refine ifB_t rfl ?_
    cases wth with
    | false => exact ifB_f rfl (h _ _ gt3 hs3 (hl1.ext e3))
    | true =>
      refine ifB_t rfl ⟨_, hx3.cell (i := 0) (add_blk _ _) rfl, _, hx3.cell (i := 1) (add_blk _ _) rfl, _, hx3.cell (i := 2) (add_blk _ _) rfl, ?_⟩
      exact do_call Tryz.call62 (c_sjoin hs3 (hl1.ext e3) (r := .nil) rfl sp.1.1 (.nil ok.s) (by simp only [Tr.size]; omega) fun q4 w4 g4 hs4 h4 => retS_ret ⟨_, rfl, h _ _ (gt3.trans g4) hs4 h4⟩)
set_option maxRecDepth 20000 in
theorem c_behind {c o key : Int} {b : Nat} (ho : isO o = true) (hk : In key) {t : Tr} {wth : Bool} {p : Option Addr} {w : World} {R : Ending → World → Prop} (hs : IsSch c b w) (ht : IsN w p t) (ok : OkP c t) (hkt : InK t) (hB : t.size + 8 ≤ BIG)
    (h : ∀ q w', Gs b w w' → IsSch c b w' → IsN w' q (behindC c o key wth t) → R (.returned (.tuple #[.pointer q, .int .i64 0])) w') : Calls Tryz.prog 117 #[.pointer (some (blk b)), .int .u8 o, .pointer p, .int .i64 key, .bool wth] w R := by
  refine sh117_ok _ _ _ _ _ ?_
  unfold sh117
  have sp := splitC_p (o := o) (key := key) ok
  refine do_call Tryz.call105 (c_split ho hk hs ht ok hkt (by omega) fun ql qr w1 g1 hs1 hl1 hr1 => retS_ret ⟨_, _, _, _, _, _, _, rfl, ⟨?_⟩⟩)
  have hlt := hs1.lt
  refine do_st3 (blk_alloc w1 _ _) fun w3 hx3 g3 => ?_
  have e3 : Ext w1 w3 := (ext_alloc w1 _).st g3 (Nat.le_refl _)
  have gt3 : Gs b w w3 := g1.trans (gs_of e3)
  have hs3 := hs1.ext e3
  unfold behindC at h
  intro K21 K24
  cases hq : (splitC c o key t).2.1.isSome with
  | false =>
    rw [hq] at h
    exact ifB_f rfl (h _ _ gt3 hs3 (hr1.ext e3))
  | true =>
    rw [hq] at h
    refine ifB_t rfl ?_
    cases wth with
    | false => exact ifB_f rfl (h _ _ gt3 hs3 (hr1.ext e3))
    | true =>
      have j1 := joinC_ok (.nil ok.s) (.nil ok.s) (itO (splitC c o key t).2.1)
      have j2 := joinC_size (.nil ok.s) (.nil ok.s) (itO (splitC c o key t).2.1)
      have e0 : Tr.nil.size = 0 := rfl
      refine ifB_t rfl ⟨_, hx3.cell (i := 0) (add_blk _ _) rfl, _, hx3.cell (i := 1) (add_blk _ _) rfl, _, hx3.cell (i := 2) (add_blk _ _) rfl, ?_⟩
      refine do_call Tryz.call62 (c_sjoin hs3 (l := .nil) rfl (r := .nil) rfl (.nil ok.s) (.nil ok.s) (by simp only [Tr.size]; omega) fun q4 w4 g4 hs4 h4 => retS_ret ⟨_, rfl, ?_⟩)
      have hj : (joinC c .nil ((itO (splitC c o key t).2.1).1, (itO (splitC c o key t).2.1).2.1, (itO (splitC c o key t).2.1).2.2) .nil).size = 1 := j2
      exact do_call Tryz.call63 (c_join2 hs4 h4 ((hr1.ext e3).gs hs3 g4) j1.1.1 sp.2.1.1 (by omega) fun q5 w5 g5 hs5 h5 => retS_ret ⟨_, rfl, h _ _ ((gt3.trans g4).trans g5) hs5 h5⟩)
/-! ### plain: what they have -/
theorem itO_it {c o key : Int} : ∀ {t : Tr}, itC c (itO (splitC c o key t).2.1) = itO (splitC c o key t).2.1
  | .nil => by unfold splitC itC; simp
  | .node l k v g r => by
    unfold splitC
    split
    · exact itO_it
    · split
      · exact itO_it
      · exact itC_itC _ _
theorem aheadC_ok {c o key : Int} {wth : Bool} {t : Tr} (ok : OkP c t) (ha : asc o (itsC c t)) : OkM c (aheadC c o key wth t) ∧ itsC c (aheadC c o key wth t) = ltF o key (itsC c t) ++ cond wth (eqF o key (itsC c t)) [] := by
  have S := splitC_ok (key := key) ok ha
  have e := S.eq
  unfold aheadC
  cases hq : (splitC c o key t).2.1 with
  | none =>
    rw [hq] at e
    simp only [Option.isSome_none, Bool.false_and, Bool.false_eq_true, if_false]
    refine ⟨S.okl, ?_⟩
    rw [S.lt, ← e]
    cases wth <;> simp
  | some x =>
    rw [hq] at e
    have hx : itC c x = x := by have := itO_it (c := c) (o := o) (key := key) (t := t); rwa [hq] at this
    cases wth with
    | false => simp only [Bool.and_false, Bool.false_eq_true, if_false]; exact ⟨S.okl, by rw [S.lt]; simp⟩
    | true =>
      simp only [Option.isSome_some, Bool.and_self, if_true, Option.getD_some]
      have j := joinC_ok S.okl.1 (.nil ok.s) x
      refine ⟨j.1, ?_⟩
      rw [j.2, S.lt, ← e, hx]; rfl
theorem behindC_ok {c o key : Int} {wth : Bool} {t : Tr} (ok : OkP c t) (ha : asc o (itsC c t)) : OkM c (behindC c o key wth t) ∧ itsC c (behindC c o key wth t) = cond wth (eqF o key (itsC c t)) [] ++ gtF o key (itsC c t) := by
  have S := splitC_ok (key := key) ok ha
  have e := S.eq
  unfold behindC
  cases hq : (splitC c o key t).2.1 with
  | none =>
    rw [hq] at e
    simp only [Option.isSome_none, Bool.false_and, Bool.false_eq_true, if_false]
    refine ⟨S.okr, ?_⟩
    rw [S.gt, ← e]
    cases wth <;> simp
  | some x =>
    rw [hq] at e
    have hx : itC c x = x := by have := itO_it (c := c) (o := o) (key := key) (t := t); rwa [hq] at this
    cases wth with
    | false => simp only [Bool.and_false, Bool.false_eq_true, if_false]; exact ⟨S.okr, by rw [S.gt]; simp⟩
    | true =>
      simp only [Option.isSome_some, Bool.and_self, if_true, Option.getD_some]
      have j := joinC_ok (.nil ok.s) (.nil ok.s) x
      have j2 := join2C_ok j.1.1 S.okr.1
      refine ⟨j2.1, ?_⟩
      rw [j2.2, j.2, S.gt, ← e, hx]; rfl
end Go.Proofs.YtbaoihmffobneaaGreat

namespace Go.Proofs.YtbaoihmffobneaaGreat
open Go Go.Sh Go.RowKit

theorem wrap_add (a b : Int) : IntKind.wrap .i64 (IntKind.wrap .i64 a + b) = IntKind.wrap .i64 (a + b) := by
  simp only [IntKind.wrap, IntKind.signed, IntKind.bits]
  simp
  omega
theorem wrap_add' (a b : Int) : IntKind.wrap .i64 (a + IntKind.wrap .i64 b) = IntKind.wrap .i64 (a + b) := by
  rw [Int.add_comm, wrap_add, Int.add_comm]
def totT : Tr → Int
  | .nil => 0
  | .node l _ v _ r => totT l + v + totT r
theorem sum_tot (t : Tr) : t.sum = IntKind.wrap .i64 (totT t) := by
  induction t with
  | nil => rfl
  | node l k v g r ihl ihr =>
    show IntKind.wrap .i64 (IntKind.wrap .i64 (l.sum + v) + r.sum) = _
    rw [ihl, ihr, wrap_add, wrap_add']
    show IntKind.wrap .i64 (IntKind.wrap .i64 (totT l) + v + totT r) = _
    rw [show IntKind.wrap .i64 (totT l) + v + totT r = IntKind.wrap .i64 (totT l) + (v + totT r) by omega, wrap_add]
    rw [show totT l + (v + totT r) = totT l + v + totT r by omega]; rfl
def totB (l : List Bd) : Int := (l.map (·.val)).sum
theorem sumV_tot (l : List Bd) : sumV l = IntKind.wrap .i64 (totB l) := by
  have key : ∀ (l : List Bd) (s : Int), l.foldl (fun s b => IntKind.wrap .i64 (s + b.val)) (IntKind.wrap .i64 s) = IntKind.wrap .i64 (s + totB l) := by
    intro l
    induction l with
    | nil => intro s; simp [totB]
    | cons x xs ih =>
      intro s
      rw [List.foldl_cons, wrap_add, ih]
      congr 1
      simp [totB]; omega
  have := key l 0
  rw [Int.zero_add] at this
  exact this
def btT : Tr → BT
  | .nil => .nil
  | .node l k v g r => .node ⟨k, v, (Tr.node l k v g r).sum, ((Tr.node l k v g r).size : Nat), g, l.nn, r.nn⟩ (btT l) (btT r)
theorem btT_nn (t : Tr) : (btT t).nn = t.nn := by cases t <;> rfl
theorem btT_wf (t : Tr) : (btT t).wf = true := by
  induction t with
  | nil => rfl
  | node l k v g r ihl ihr => simp only [btT, BT.wf, btT_nn, ihl, ihr]; simp
theorem btT_tr (t : Tr) : (btT t).tr = t := by
  induction t with
  | nil => rfl
  | node l k v g r ihl ihr => simp only [btT, BT.tr, ihl, ihr]
theorem btT_size (t : Tr) : (btT t).size = t.size := by rw [← BT.tr_size, btT_tr]
theorem totB_bt (T : BT) : totB T.beads = totT T.tr := by
  induction T with
  | nil => rfl
  | node x l r ihl ihr =>
    simp only [BT.beads, BT.tr, totT, ← ihl, ← ihr, totB, List.map_cons, List.map_append, List.sum_cons, List.sum_append]
    omega
theorem sumV_bt (T : BT) : sumV T.beads = T.tr.sum := by rw [sumV_tot, sum_tot, totB_bt]
theorem btT_of_wf : ∀ {T : BT}, T.wf = true → btT T.tr = T.of
  | .nil, _ => rfl
  | .node x l r, h => by
    obtain ⟨h1, h2, h3, h4⟩ := BT.wf_node h
    have e1 := btT_of_wf h3
    have e2 := btT_of_wf h4
    have hs := sumV_bt (.node x l r)
    have hz := BT.tr_size (.node x l r)
    simp only [BT.tr] at hs hz
    simp only [BT.tr, btT, BT.of, e1, e2, hs, hz, BT.tr_nn, ← h1, ← h2]
theorem btT_of (t : Tr) : (btT t).of = btT t := by
  have := btT_of_wf (btT_wf t)
  rw [btT_tr] at this
  exact this.symm
/-! ### items -/
def ecI (x : It) : List Value := [.int .i64 x.1, .int .i64 x.2.1, .int .u64 x.2.2]
theorem ecI_len (x : It) : (ecI x).length = 3 := rfl
abbrev its (l : List It) : List Value := l.flatMap ecI
theorem its_length (l : List It) : (its l).length = l.length * 3 := flat_length ecI_len l
theorem its_append (l r : List It) : its (l ++ r) = its l ++ its r := List.flatMap_append
theorem its_one {l : List It} : ∀ u ∈ its l, u.oneCell' = true := fun u hu => by
  simp only [List.mem_flatMap] at hu
  obtain ⟨x, _, hx⟩ := hu
  simp [ecI] at hx
  rcases hx with rfl | rfl | rfl <;> rfl
theorem itT_len (t : Tr) : (itT t).length = t.size := items_len t
theorem map_itC_itT (c : Int) (t : Tr) : (itT t).map (itC c) = itsC c t := rfl
/-- the keys of a tree of beads rise -/
theorem pairs_its {c : Int} (t : Tr) : t.pairs.map (·.1) = (itsC c t).map (·.1) := by
  rw [items_pairs, itsC, List.map_map, List.map_map]
  apply List.map_congr_left
  intro x _
  simp [itC_key]
/-- heights -/
def htT : Tr → Nat
  | .nil => 0
  | .node l _ _ _ r => 1 + max (htT l) (htT r)
theorem htT_le (t : Tr) : htT t ≤ t.size := by
  induction t with
  | nil => exact Nat.le_refl _
  | node l k v g r ihl ihr => simp only [htT, Tr.size]; omega
end Go.Proofs.YtbaoihmffobneaaGreat
