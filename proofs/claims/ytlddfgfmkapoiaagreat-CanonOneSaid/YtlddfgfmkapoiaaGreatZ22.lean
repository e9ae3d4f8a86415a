/-
  union: two trees made one; the document's answers of layer 28.
-/
/-
  union: Union, Many; the document's answers of layer 28; the chapter's examples.
-/
/-
  What two rows of items have both, and what one has alone. Plain.
-/
/-
  Less, Meet, Apart: what the trees have. Plain.
-/
/-
  Keys as trees of keys: what is kept of items. Plain.
-/
/-
  build.Of, build.Keys, and where nothing is built; the document's answers of layer 27.
-/
/-
  The document's answers of layer 27; what its statements share.
-/
/-
  meet: two trees gone down together.
-/
/-
  meet: Meet, Less, Apart, Within.
-/
/-
  The document's answers of layer 29.
-/
/-
  UnionTells; the chapter's examples.
-/
import Derived.Test.YtlddfgfmkapoiaaGreatZ21
import Derived.Test.YtlddfgfmkapoiaaGreatZ18
import Derived.Test.YtlddfgfmkapoiaaGreatZ19
import Derived.Laws.OwnMore
import Derived.Test.YtlddfgfmkapoiaaGreatZ13

namespace Go.Proofs.YtlddfgfmkapoiaaGreat
open Go Go.Sh Go.RowKit

theorem do_callf {P : Program} {k : Nat} {first cap args bs : Array Value} {w : World} {R : Ending → World → Prop} (he : ∀ xs w, (callFunc k xs).run P w = .ok (.enter k xs) w) (hb : first ++ args ++ cap = bs) (h : Calls P k bs w R) :
    doCall P (.func (.func k) first cap) args w R := ⟨callV_func he (by subst hb; exact h)⟩
/-- what is kept of two items of a key -/
theorem do_ofI {p : Int} (hp : may p = true) {x y : It} {is : Bool} {w : World} {R : Ending → World → Prop}
    (h : ∀ w', Ext w w' → R (.returned (agI (ofI p x y is))) w') : doCall Tryz.prog (.func (.func 158) #[.int .u8 p] #[]) #[agI x, agI y, .bool is] w R := by
  refine do_callf Tryz.call158 (by rfl) (sh158_ok _ _ _ _ _ _ _ _ ?_)
  unfold sh158
  refine ⟨⟨⟨?_⟩⟩⟩
  have e0 := ext_alloc w (.cells #[.int .i64 x.1, .int .i64 x.2.1, .int .u64 x.2.2] 114)
  have hx := blk_alloc w #[.int .i64 x.1, .int .i64 x.2.1, .int .u64 x.2.2] 114
  generalize hb9 : w.heap.size = b9 at *
  generalize w.alloc (.cells #[.int .i64 x.1, .int .i64 x.2.1, .int .u64 x.2.2] 114) = w1 at *
  have e1 := ext_alloc w1 (.cells #[.int .i64 y.1, .int .i64 y.2.1, .int .u64 y.2.2] 114)
  have hy := blk_alloc w1 #[.int .i64 y.1, .int .i64 y.2.1, .int .u64 y.2.2] 114
  generalize w1.heap.size = b11 at *
  generalize w1.alloc (.cells #[.int .i64 y.1, .int .i64 y.2.1, .int .u64 y.2.2] 114) = w2 at *
  have e2 := ext_alloc w2 (.cells #[.int .i64 0, .int .i64 0, .int .u64 0] 114)
  have hz := blk_alloc w2 #[.int .i64 0, .int .i64 0, .int .u64 0] 114
  have hx2 := hx.ext e1
  have h9 : b9 < w2.heap.size := hx2.lt
  generalize hb13 : w2.heap.size = b13 at *
  generalize w2.alloc (.cells #[.int .i64 0, .int .i64 0, .int .u64 0] 114) = w3 at *
  have hx3 := hx2.ext e2
  have E3 := (e0.trans e1).trans e2
  intro K16
  have hK : ∀ w4 (z : It), Ext w w4 → Blk w4 b9 #[.int .i64 z.1, .int .i64 z.2.1, .int .u64 z.2.2] 114 → Blk w4 b13 #[.int .i64 0, .int .i64 0, .int .u64 0] 114 → (∀ w', Ext w w' → R (.returned (agI z)) w') → K16 w4 := by
    intro w4 z E4 h4 hz4 hh
    refine ⟨_, h4.cell (i := 0) (add_blk _ _) rfl, _, h4.cell (i := 1) (add_blk _ _) rfl, _, h4.cell (i := 2) (add_blk _ _) rfl, ?_⟩
    refine do_st3 hz4 fun w5 h5 g5 => ?_
    exact ⟨_, h5.cell (i := 0) (add_blk _ _) rfl, _, h5.cell (i := 1) (add_blk _ _) rfl, _, h5.cell (i := 2) (add_blk _ _) rfl, hh _ (E4.st g5 (by omega))⟩
  cases is with
  | false => exact ifB_f rfl (hK w3 x E3 hx3 hz h)
  | true =>
    refine ifB_t rfl ⟨_, hx3.cell (i := 1) (add_blk _ _) rfl, _, (hy.ext e2).cell (i := 1) (add_blk _ _) rfl, ?_⟩
    refine do_call Tryz.call154 (c_comb fun w4 e4 => retS_ret ⟨_, _, rfl, ?_⟩)
    rw [hp]
    refine do_st (hx3.ext e4) (i := 1) (by rw [add_zero']; exact add_blk _ _) (by simp) fun w5 h5 g5 => ?_
    exact hK w5 (x.1, comb p x.2.1 y.2.1, x.2.2) ((E3.trans e4).st g5 (by omega)) h5 ((hz.ext e4).grown g5 (ne_some (by omega))) h
/-- what the closure holds -/
structure CapsU (w : World) (b8 b10 b14 b12 b : Nat) (o p : Int) (T12 T14 : TypeId) : Prop where
  s : Blk w b8 #[.pointer (some (blk b))] 25
  o : Blk w b10 #[.int .u8 o] 5
  on : Blk w b14 #[.func (.func 212) #[] #[.pointer (some (blk b8)), .pointer (some (blk b10)), .pointer (some (blk b14)), .pointer (some (blk b12))]] T14
  come : Blk w b12 #[.func (.func 158) #[.int .u8 p] #[]] T12
  ne : b8 ≠ b ∧ b10 ≠ b ∧ b14 ≠ b ∧ b12 ≠ b
theorem CapsU.gs {w w' : World} {b8 b10 b14 b12 b : Nat} {o p : Int} {T12 T14 : TypeId} (h : CapsU w b8 b10 b14 b12 b o p T12 T14) (g : Gs b w w') : CapsU w' b8 b10 b14 b12 b o p T12 T14 :=
  ⟨h.s.gs g h.ne.1, h.o.gs g h.ne.2.1, h.on.gs g h.ne.2.2.1, h.come.gs g h.ne.2.2.2, h.ne⟩
theorem inK_lt {c o key : Int} {t s : Tr} {q : It → Bool} (h : InK t) (e : itsC c s = (itsC c t).filter q) (_ : asc o (itsC c t)) (_ : key = key) : InK s := (inK_its (c := c)).2 fun x hx => by
  rw [e] at hx
  exact (inK_its (c := c)).1 h x (List.mem_filter.1 hx).1
abbrev onU (b8 b10 b14 b12 : Nat) : Value := .func (.func 212) #[] #[.pointer (some (blk b8)), .pointer (some (blk b10)), .pointer (some (blk b14)), .pointer (some (blk b12))]
set_option maxRecDepth 20000 in
set_option maxHeartbeats 1600000 in
theorem c_on {c o p : Int} {b b8 b10 b14 b12 : Nat} {T12 T14 : TypeId} (ho : isO o = true) (hp : may p = true) : ∀ (a : Tr) {u : Tr} {pa pb : Option Addr} {w : World} {R : Ending → World → Prop} (_hc : CapsU w b8 b10 b14 b12 b o p T12 T14) (_hs : IsSch c b w)
    (_ha : IsN w pa a) (_hu : IsN w pb u) (_oka : OkP c a) (_oku : OkM c u) (_hka : InK a) (_hku : InK u) (_hau : asc o (itsC c u)) (_hB : a.size + u.size + 10 ≤ BIG)
    (_h : ∀ q w', Gs b w w' → IsSch c b w' → IsN w' q (unionC c o p a u) → R (.returned (.pointer q)) w'),
    doCall Tryz.prog (onU b8 b10 b14 b12) #[.pointer pa, .pointer pb] w R
  | .nil, u, pa, pb, w, R, hc, hs, ha, hu, oka, oku, hka, hku, hau, hB, h => by
    refine do_callc Tryz.call212 (by rfl) (sh212_ok _ _ _ _ _ _ ?_)
    unfold sh212
    have : pa = none := ha
    subst this
    exact ifB_t rfl (h _ _ (gs_refl _ _) hs hu)
  | .node l k v g r, u, pa, pb, w, R, hc, hs, ha, hu, oka, oku, hka, hku, hau, hB, h => by
    refine do_callc Tryz.call212 (by rfl) (sh212_ok _ _ _ _ _ _ ?_)
    unfold sh212
    obtain ⟨hl, hr⟩ := oka.sides
    obtain ⟨kl, kk, kr⟩ := hka
    have e : (Tr.node l k v g r).size = l.size + 1 + r.size := rfl
    obtain ⟨ba, pal, par, rfl, hba⟩ := id ha
    refine ifB_f rfl ?_
    cases hn : u.nn with
    | false =>
      have hunil : u = .nil := by cases u with
        | nil => rfl
        | node _ _ _ _ _ => cases hn
      subst hunil
      have : pb = none := hu
      subst this
      refine ifB_t rfl ⟨_, hc.s.cell (i := 0) rfl rfl, ?_⟩
      exact do_call Tryz.call162 (c_swhole hs ha oka (by omega) fun q w1 g1 hs1 h1 => retS_ret ⟨_, rfl, h _ _ g1 hs1 h1⟩)
    | true =>
      have S := splitC_ok (o := o) (key := k) oku.1 hau
      have sp := splitC_p (o := o) (key := k) oku.1
      have q1 : asc o (itsC c (splitC c o k u).1) := by rw [S.lt]; exact asc_filter hau
      have q2 : asc o (itsC c (splitC c o k u).2.2) := by rw [S.gt]; exact asc_filter hau
      have k1 : InK (splitC c o k u).1 := inK_lt (key := k) hku S.lt hau rfl
      have k2 : InK (splitC c o k u).2.2 := inK_lt (key := k) hku S.gt hau rfl
      have pL := unionC_p (o := o) (p := p) hl S.okl
      have pR := unionC_p (o := o) (p := p) hr S.okr
      have hU : unionC c o p (.node l k v g r) u = joinC c (unionC c o p l (splitC c o k u).1) (ofI p (itC c (k, v, g)) (itO (splitC c o k u).2.1) (splitC c o k u).2.1.isSome) (unionC c o p r (splitC c o k u).2.2) := by
        rw [unionC, if_pos hn]
      rw [hU] at h
      have hpb : pb.isNone = false := by
        cases u with
        | nil => cases hn
        | node _ _ _ _ _ => obtain ⟨_, _, _, rfl, _⟩ := hu; rfl
      refine ifB_f hpb ?_
      intro K16
      have hK16 : ∀ w1 bz ql qr, Gs b w w1 → IsSch c b w1 → IsN w1 ql (splitC c o k u).1 → IsN w1 qr (splitC c o k u).2.2 → bz ≠ b →
          Blk w1 bz #[.int .i64 (itO (splitC c o k u).2.1).1, .int .i64 (itO (splitC c o k u).2.1).2.1, .int .u64 (itO (splitC c o k u).2.1).2.2] 114 → K16 ql (blk bz) (splitC c o k u).2.1.isSome qr w1 := by
        intro w1 bz ql qr g1 hs1 hl1 hr1 nz hz
        have d := gs_of (b := b) (ext_drew w1)
        have g2 := g1.trans d
        have hc2 := hc.gs g2
        have hs2 := hs1.ext (ext_drew w1)
        have ha2 := ha.gs hs g2
        have hz2 := hz.ext (ext_drew w1)
        refine ⟨⟨fun w' => CapsU w' b8 b10 b14 b12 b o p T12 T14 ∧ Blk w' bz #[.int .i64 (itO (splitC c o k u).2.1).1, .int .i64 (itO (splitC c o k u).2.1).2.1, .int .u64 (itO (splitC c o k u).2.1).2.2] 114, ⟨hc2, hz2⟩,
          _, fun w' q => q.1.s.cell (i := 0) rfl rfl, _, _, _, fun w' q => q.1.on.cell (i := 0) rfl rfl, _, _, _, fun w' q => q.1.come.cell (i := 0) rfl rfl, _, fun w' q => q.1.s.cell (i := 0) rfl rfl,
          _, fun w' q => q.2.cell (i := 0) (add_blk _ _) rfl, _, fun w' q => q.2.cell (i := 1) (add_blk _ _) rfl, _, fun w' q => q.2.cell (i := 2) (add_blk _ _) rfl, _, _, _, fun w' q => q.1.on.cell (i := 0) rfl rfl, ?_⟩⟩
        have hl2 := hl1.ext (ext_drew w1)
        have hr2 := hr1.ext (ext_drew w1)
        refine do_call Tryz.call123 (c_left ha2 fun pl hpl => retS_ret ⟨_, rfl, ⟨hc2, hz2⟩, ?_⟩)
        refine c_on ho hp l hc2 hs2 hpl hl2 hl S.okl kl k1 q1 (by omega) fun q3 w3 g3 hs3 h3 => retS_ret ⟨_, rfl, ⟨hc2.gs g3, hz2.gs g3 nz⟩, ?_⟩
        have ha3 := ha2.gs hs2 g3
        refine do_call Tryz.call213 (c_sitem hs3 ha3 fun w4 g4 hs4 => retS_ret ⟨_, _, _, rfl, ⟨(hc2.gs g3).gs g4, (hz2.gs g3 nz).gs g4 nz⟩, ?_⟩)
        have ha4 := ha3.gs hs3 g4
        refine do_ofI hp (x := rootC c (.node l k v g r)) (y := itO (splitC c o k u).2.1) fun w5 e5 => retS_ret ⟨_, _, _, rfl, ⟨((hc2.gs g3).gs g4).gs (gs_of e5), ((hz2.gs g3 nz).gs g4 nz).ext e5⟩, ?_⟩
        have hs5 := hs4.ext e5
        have g35 := g4.trans (gs_of e5)
        have hr5 := (hr2.gs hs2 g3).gs hs3 g35
        refine do_call Tryz.call125 (c_right (ha4.ext e5) fun pr hpr => retS_ret ⟨_, rfl, ⟨(hc2.gs g3).gs g35, (hz2.gs g3 nz).gs g35 nz⟩, ?_⟩)
        refine c_on ho hp r ((hc2.gs g3).gs g35) hs5 hpr hr5 hr S.okr kr k2 q2 (by omega) fun q6 w6 g6 hs6 h6 => retS_ret ⟨_, rfl, ⟨((hc2.gs g3).gs g35).gs g6, ((hz2.gs g3 nz).gs g35 nz).gs g6 nz⟩, ?_⟩
        have h36 := (h3.gs hs3 g35).gs hs5 g6
        refine do_call Tryz.call106 (c_sjoin hs6 h36 h6 pL.1.1 pR.1.1 (by have := pL.2; have := pR.2; omega) fun q7 w7 g7 hs7 h7 => retS_ret ⟨_, rfl, ⟨(((hc2.gs g3).gs g35).gs g6).gs g7, (((hz2.gs g3 nz).gs g35 nz).gs g6 nz).gs g7 nz⟩, ?_⟩)
        exact h _ _ ((((g2.trans g3).trans g35).trans g6).trans g7) hs7 h7
      have d := ext_drew w
      have hcd := hc.gs (gs_of d)
      have hsd := hs.ext d
      refine ⟨⟨fun w' => CapsU w' b8 b10 b14 b12 b o p T12 T14, hcd, _, fun w' q => q.s.cell (i := 0) rfl rfl, _, fun w' q => q.o.cell (i := 0) rfl rfl, ⟨?_, ?_⟩⟩⟩
      · refine do_call Tryz.call108 (c_key (ha.ext d) fun w1 e1 => retS_ret ⟨_, rfl, hcd.gs (gs_of e1), ?_⟩)
        have e01 := d.trans e1
        have hs1 := hs.ext e01
        have hu1 := hu.ext e01
        constructor
        · refine do_call Tryz.call89 (c_split ho kk hs1 hu1 oku.1 hku (by omega) fun ql qr w2 g2 hs2 hl2 hr2 => retS_ret ⟨_, _, _, _, _, _, _, rfl, ⟨?_⟩⟩)
          have G2 := (gs_of (b := b) e01).trans g2
          have ez := ext_alloc w2 (.cells #[.int .i64 0, .int .i64 0, .int .u64 0] 114)
          refine ⟨(hc.gs G2).gs (gs_of ez), ?_⟩
          refine do_st3 (blk_alloc w2 _ _) fun w3 hx3 g3 => ?_
          have e3 : Ext w2 w3 := ez.st g3 (Nat.le_refl _)
          have nz : w2.heap.size ≠ b := by have := hs2.lt; omega
          exact hK16 w3 _ ql qr (G2.trans (gs_of e3)) (hs2.ext e3) (hl2.ext e3) (hr2.ext e3) nz hx3
        · refine ⟨?_⟩
          have ez := ext_alloc w1 (.cells #[.int .i64 0, .int .i64 0, .int .u64 0] 114)
          have hz := blk_alloc w1 #[.int .i64 0, .int .i64 0, .int .u64 0] 114
          have nz : w1.heap.size ≠ b := by have := hs1.lt; omega
          have E1 := e01.trans ez
          refine ⟨hc.gs (gs_of E1), ?_⟩
          refine do_call Tryz.call89 (c_split ho kk (hs.ext E1) (hu.ext E1) oku.1 hku (by omega) fun ql qr w2 g2 hs2 hl2 hr2 => retS_ret ⟨_, _, _, _, _, _, _, rfl, ?_⟩)
          have G2 := (gs_of (b := b) E1).trans g2
          refine do_st3 (hz.gs g2 nz) fun w3 hx3 g3 => ?_
          exact hK16 w3 _ ql qr (G2.st g3 e01.size) (hs2.st g3 nz) (hl2.st g3 (hz.gs g2 nz) (by decide)) (hr2.st g3 (hz.gs g2 nz) (by decide)) nz hx3
      · refine ⟨?_⟩
        have ez := ext_alloc w.drew (.cells #[.int .i64 0, .int .i64 0, .int .u64 0] 114)
        have hz := blk_alloc w.drew #[.int .i64 0, .int .i64 0, .int .u64 0] 114
        have nz : w.drew.heap.size ≠ b := by have := hsd.lt; omega
        have E1 := d.trans ez
        refine ⟨hc.gs (gs_of E1), ?_⟩
        refine do_call Tryz.call108 (c_key (ha.ext E1) fun w1 e1 => retS_ret ⟨_, rfl, hc.gs (gs_of (E1.trans e1)), ?_⟩)
        have E2 := E1.trans e1
        refine do_call Tryz.call89 (c_split ho kk (hs.ext E2) (hu.ext E2) oku.1 hku (by omega) fun ql qr w2 g2 hs2 hl2 hr2 => retS_ret ⟨_, _, _, _, _, _, _, rfl, ?_⟩)
        have G2 := (gs_of (b := b) E2).trans g2
        have hz2 := (hz.ext e1).gs g2 nz
        refine do_st3 hz2 fun w3 hx3 g3 => ?_
        exact hK16 w3 _ ql qr (G2.st g3 d.size) (hs2.st g3 nz) (hl2.st g3 hz2 (by decide)) (hr2.st g3 hz2 (by decide)) nz hx3
end Go.Proofs.YtlddfgfmkapoiaaGreat

namespace Go.Proofs.YtlddfgfmkapoiaaGreat
open Go Go.Sh Go.RowKit

abbrev ofF (p : Int) : Value := .func (.func 158) #[.int .u8 p] #[]
set_option maxRecDepth 20000 in
theorem c_both {c o p : Int} {b : Nat} (ho : isO o = true) (hp : may p = true) {a u : Tr} {pa pb : Option Addr} {w : World} {R : Ending → World → Prop} (hs : IsSch c b w)
    (ha : IsN w pa a) (hu : IsN w pb u) (oka : OkP c a) (oku : OkM c u) (hka : InK a) (hku : InK u) (hau : asc o (itsC c u)) (hB : a.size + u.size + 10 ≤ BIG)
    (h : ∀ q w', Gs b w w' → IsSch c b w' → IsN w' q (unionC c o p a u) → R (.returned (.pointer q)) w') :
    Calls Tryz.prog 157 #[.pointer (some (blk b)), .int .u8 o, ofF p, .pointer pa, .pointer pb] w R := by
  refine sh157_ok _ _ _ _ _ _ _ ?_
  unfold sh157
  refine ⟨⟨⟨⟨?_⟩⟩⟩⟩
  have hlt := hs.lt
  have e0 := ext_alloc w (.cells #[.pointer (some (blk b))] 25)
  have h8 := blk_alloc w #[.pointer (some (blk b))] 25
  have n8 : w.heap.size ≠ b := by omega
  have k8 : w.heap.size ≤ w.heap.size := Nat.le_refl _
  generalize hb8 : w.heap.size = b8 at h8 n8 k8 ⊢
  generalize w.alloc (.cells #[.pointer (some (blk b))] 25) = w1 at *
  have e1 := ext_alloc w1 (.cells #[.int .u8 o] 5)
  have h10 := blk_alloc w1 #[.int .u8 o] 5
  have l1 := h8.lt
  have n10 : w1.heap.size ≠ b := by omega
  generalize w1.heap.size = b10 at *
  generalize w1.alloc (.cells #[.int .u8 o] 5) = w2 at *
  have e2 := ext_alloc w2 (.cells #[ofF p] 193)
  have h12 := blk_alloc w2 #[ofF p] 193
  have l2 := (h8.ext e1).lt
  have n12 : w2.heap.size ≠ b := by omega
  generalize w2.heap.size = b12 at *
  generalize w2.alloc (.cells #[ofF p] 193) = w3 at *
  have e3 := ext_alloc w3 (.cells #[.nilFunc] 286)
  have l3 := (h8.ext (e1.trans e2)).lt
  have n14 : w3.heap.size ≠ b := by omega
  refine do_st (blk_alloc w3 _ _) (i := 0) (add_blk _ _) (by simp) fun w4 h4 g4 => ?_
  have e4 : Ext w3 w4 := e3.st g4 (Nat.le_refl _)
  have E4 := (e0.trans e1).trans (e2.trans e4)
  refine ⟨_, _, _, h4.cell (i := 0) rfl rfl, ?_⟩
  have caps : CapsU w4 b8 b10 w3.heap.size b12 b o p 193 286 :=
    ⟨h8.ext (e1.trans (e2.trans e4)), h10.ext (e2.trans e4), h4, h12.ext e4, n8, n10, n14, n12⟩
  exact c_on ho hp a caps (hs.ext E4) (ha.ext E4) (hu.ext E4) oka oku hka hku hau hB fun q w5 g5 hs5 h5 => retS_ret ⟨_, rfl, h _ _ ((gs_of E4).trans g5) hs5 h5⟩
theorem c_umay {c o p : Int} {b : Nat} (ho : isO o = true) {w : World} {R : Ending → World → Prop} (hs : IsSch c b w)
    (h : ∀ w', Gs b w w' → IsSch c b w' → R (.returned (.bool (may p))) w') : Calls Tryz.prog 156 #[.pointer (some (blk b)), .int .u8 o, .int .u8 p] w R := by
  refine sh156_ok _ _ _ ?_
  unfold sh156
  refine do_call Tryz.call89 (c_split ho ⟨by decide, by decide⟩ hs (t := .nil) rfl (OkM.nil hs.1).1 trivial (by decide) fun ql qr w1 g1 hs1 _ _ => retS_ret ⟨_, _, _, _, _, _, _, rfl, ⟨?_⟩⟩)
  refine do_st3 (blk_alloc w1 _ _) fun w2 h2 g2 => ?_
  have e2 : Ext w1 w2 := (ext_alloc w1 _).st g2 (Nat.le_refl _)
  intro K20
  exact ifB_t rfl (do_call Tryz.call151 (c_fmay fun w3 e3 => retS_ret ⟨_, rfl, h _ (g1.trans (gs_of (e2.trans e3))) (hs1.ext (e2.trans e3))⟩))
set_option maxRecDepth 20000 in
theorem c_union {c o p : Int} {b : Nat} (ho : isO o = true) (hp : may p = true) {a u : Tr} {pa pb : Option Addr} {w : World} {R : Ending → World → Prop} (hs : IsSch c b w)
    (ha : IsN w pa a) (hu : IsN w pb u) (oka : OkP c a) (oku : OkM c u) (hka : InK a) (hku : InK u) (hau : asc o (itsC c u)) (hB : a.size + u.size + 10 ≤ BIG)
    (h : ∀ q w', Gs b w w' → IsSch c b w' → IsN w' q (unionC c o p a u) → R (.returned (.tuple #[.pointer q, .int .i64 0])) w') :
    Calls Tryz.prog 86 #[.pointer (some (blk b)), .int .u8 o, .int .u8 p, .pointer pa, .pointer pb] w R := by
  refine sh86_ok _ _ _ _ _ ?_
  unfold sh86
  refine do_call Tryz.call156 (c_umay ho hs fun w1 g1 hs1 => retS_ret ⟨_, rfl, ?_⟩)
  rw [hp]
  exact ifB_f rfl (do_call Tryz.call157 (c_both ho hp hs1 (ha.gs hs g1) (hu.gs hs g1) oka oku hka hku hau hB fun q w2 g2 hs2 h2 => retS_ret ⟨_, rfl, h _ _ (g1.trans g2) hs2 h2⟩))
/-! ### Many -/
structure OkU (c o : Int) (t : Tr) : Prop where
  ok : OkM c t
  asc : asc o (itsC c t)
  k : InK t
theorem OkU.union {c o p : Int} {a u : Tr} (h : OkU c o a) (g : OkU c o u) : OkU c o (unionC c o p a u) ∧ (unionC c o p a u).size ≤ a.size + u.size := by
  have q := unionC_p (o := o) (p := p) h.ok.1 g.ok
  have e := unionC_ok (p := p) h.ok.1 g.ok h.asc g.asc
  refine ⟨⟨q.1, by rw [e]; exact asc_foldI h.asc, (inK_its (c := c)).2 ?_⟩, q.2⟩
  rw [e]
  exact foldI_all (P := fun a _ => In a) ((inK_its (c := c)).1 h.k) ((inK_its (c := c)).1 g.k)
/-! ### the document's -/
end Go.Proofs.YtlddfgfmkapoiaaGreat

namespace Go.Proofs.YtlddfgfmkapoiaaGreat
open Go Go.Sh Go.RowKit

def findK (b : List It) (k : Int) : Option It := b.find? fun z => decide (z.1 = k)
def lessL (a b : List It) : List It := a.filter fun x => (findK b x.1).isNone
def meetG (p : Int) (b : List It) (x : It) : Option It := (findK b x.1).map fun y => (x.1, comb p x.2.1 y.2.1, x.2.2)
def meetL (p : Int) (a b : List It) : List It := a.filterMap (meetG p b)
theorem findK_filter {b : List It} {k : Int} {q : It → Bool} (h : ∀ z ∈ b, z.1 = k → q z = true) : findK (b.filter q) k = findK b k := by
  unfold findK
  rw [List.find?_filter]
  induction b with
  | nil => rfl
  | cons z b ih =>
    have ih := ih fun y hy => h y (.tail _ hy)
    simp only [List.find?_cons]
    by_cases hz : z.1 = k
    · simp [h z (.head _) hz, hz]
    · simp [hz]; simpa using ih
theorem findK_eq {o k : Int} {b : List It} (ho : isO o = true) (hk : In k) (hb : ∀ z ∈ b, In z.1) : findK b k = (eqF o k b).head? := by
  unfold findK eqF
  rw [List.head?_filter]
  induction b with
  | nil => rfl
  | cons z b ih =>
    have ih := ih fun y hy => hb y (.tail _ hy)
    simp only [List.find?_cons]
    have : decide (z.1 = k) = decide (cmpI o z.1 k = 0) := by
      by_cases hz : z.1 = k
      · rw [decide_eq_true hz, hz, cmpI_self]; rfl
      · rw [decide_eq_false hz, decide_eq_false fun g => hz (cmpI_eq ho (hb z (.head _)) hk g)]
    rw [this, ih]
theorem less_nil (a : List It) : lessL a [] = a := filt_all fun _ _ => rfl
theorem less_app (a d b : List It) : lessL (a ++ d) b = lessL a b ++ lessL d b := List.filter_append ..
theorem less_congr {a b d : List It} (h : ∀ x ∈ a, findK b x.1 = findK d x.1) : lessL a b = lessL a d := by
  unfold lessL
  exact List.filter_congr fun x hx => by rw [h x hx]
theorem meet_congr {p : Int} {a b d : List It} (h : ∀ x ∈ a, findK b x.1 = findK d x.1) : meetL p a b = meetL p a d := by
  unfold meetL
  induction a with
  | nil => rfl
  | cons x a ih =>
    rw [List.filterMap_cons, List.filterMap_cons, ih fun y hy => h y (.tail _ hy)]
    unfold meetG
    rw [h x (.head _)]
/-- what stands below a key is found below it -/
theorem find_lt {o k : Int} {a b : List It} (h : ∀ x ∈ a, cmpI o x.1 k < 0) : ∀ x ∈ a, findK b x.1 = findK (ltF o k b) x.1 := fun x hx =>
  (findK_filter fun z _ e => by rw [e]; exact decide_eq_true (h x hx)).symm
theorem find_gt {o k : Int} {a b : List It} (h : ∀ x ∈ a, 0 < cmpI o x.1 k) : ∀ x ∈ a, findK b x.1 = findK (gtF o k b) x.1 := fun x hx =>
  (findK_filter fun z _ e => by rw [e]; exact decide_eq_true (h x hx)).symm
/-! ### trees -/
/-- two trees, gone down together -/
def goC (c o : Int) (f1 f2 : Tr → Tr) (it : It → It → Bool → It × Bool) : Tr → Tr → Tr
  | .nil, u => f2 u
  | .node l k v g r, u =>
    if u.nn then
      if (it (itC c (k, v, g)) (itO (splitC c o k u).2.1) (splitC c o k u).2.1.isSome).2 then
        joinC c (goC c o f1 f2 it l (splitC c o k u).1) (it (itC c (k, v, g)) (itO (splitC c o k u).2.1) (splitC c o k u).2.1.isSome).1 (goC c o f1 f2 it r (splitC c o k u).2.2)
      else join2C c (goC c o f1 f2 it l (splitC c o k u).1) (goC c o f1 f2 it r (splitC c o k u).2.2)
    else f1 (.node l k v g r)
theorem join2C_size {c : Int} {l r : Tr} (hl : OkP c l) (hr : OkP c r) : (join2C c l r).size = l.size + r.size := by
  have := congrArg List.length (join2C_ok hl hr).2
  simp only [itsC_len, List.length_append] at this
  omega
structure Side (c : Int) (f : Tr → Tr) : Prop where
  ok : ∀ t, OkP c t → OkM c (f t)
  sz : ∀ t, OkP c t → (f t).size ≤ t.size
theorem goC_p {c o : Int} {f1 f2 : Tr → Tr} {it : It → It → Bool → It × Bool} (h1 : Side c f1) (h2 : Side c f2) : ∀ {a u : Tr}, OkP c a → OkM c u → OkM c (goC c o f1 f2 it a u) ∧ (goC c o f1 f2 it a u).size ≤ a.size + u.size
  | .nil, u, _, hu => ⟨h2.ok u hu.1, by have := h2.sz u hu.1; show (f2 u).size ≤ 0 + u.size; omega⟩
  | .node l k v g r, u, ha, hu => by
    obtain ⟨hl, hr⟩ := ha.sides
    have e : (Tr.node l k v g r).size = l.size + 1 + r.size := rfl
    unfold goC
    split
    · have sp := splitC_p (o := o) (key := k) hu.1
      have IL := goC_p (o := o) (it := it) h1 h2 hl sp.1
      have IR := goC_p (o := o) (it := it) h1 h2 hr sp.2.1
      split
      · have j := joinC_ok IL.1.1 IR.1.1 (it (itC c (k, v, g)) (itO (splitC c o k u).2.1) (splitC c o k u).2.1.isSome).1
        have js := joinC_size IL.1.1 IR.1.1 (it (itC c (k, v, g)) (itO (splitC c o k u).2.1) (splitC c o k u).2.1.isSome).1
        exact ⟨j.1, by rw [js]; omega⟩
      · have j := join2C_ok IL.1.1 IR.1.1
        have js := join2C_size IL.1.1 IR.1.1
        exact ⟨j.1, by rw [js]; omega⟩
    · exact ⟨h1.ok _ ha, by have := h1.sz _ ha; omega⟩
/-- whatever goes by parts: if it holds of what is empty, and goes by parts, it holds -/
theorem goC_its {c o : Int} {f1 f2 : Tr → Tr} {it : It → It → Bool → It × Bool} (h1 : Side c f1) (h2 : Side c f2) (W : List It → List It → List It)
    (w1 : ∀ t, OkP c t → asc o (itsC c t) → itsC c (f2 t) = W [] (itsC c t)) (w2 : ∀ t, OkP c t → itsC c (f1 t) = W (itsC c t) [])
    (hi : ∀ x y is, itC c x = x → itC c (it x y is).1 = (it x y is).1)
    (w3 : ∀ l r x b (z : Option It), asc o (l ++ x :: r) → asc o b → In x.1 → (∀ y ∈ l, In y.1) → (∀ y ∈ r, In y.1) → (∀ y ∈ b, In y.1) → (∀ y ∈ l, cmpI o y.1 x.1 < 0) → (∀ y ∈ r, cmpI o x.1 y.1 < 0) → z.toList = eqF o x.1 b →
      W (l ++ x :: r) b = W l (ltF o x.1 b) ++ (cond (it x (itO z) z.isSome).2 [(it x (itO z) z.isSome).1] []) ++ W r (gtF o x.1 b)) :
    ∀ {a u : Tr}, OkP c a → OkM c u → asc o (itsC c a) → asc o (itsC c u) → InK a → InK u → itsC c (goC c o f1 f2 it a u) = W (itsC c a) (itsC c u)
  | .nil, u, _, hu, _, hau, _, _ => w1 u hu.1 hau
  | .node l k v g r, u, ha, hu, haa, hau, hka, hku => by
    obtain ⟨hl, hr⟩ := ha.sides
    obtain ⟨al, ar, bl, br⟩ := asc_node haa
    obtain ⟨kl, kk, kr⟩ := hka
    unfold goC
    split
    · have S := splitC_ok (o := o) (key := k) hu.1 hau
      have q1 : asc o (itsC c (splitC c o k u).1) := by rw [S.lt]; exact asc_filter hau
      have q2 : asc o (itsC c (splitC c o k u).2.2) := by rw [S.gt]; exact asc_filter hau
      have kuI := (inK_its (c := c)).1 hku
      have k1 : InK (splitC c o k u).1 := (inK_its (c := c)).2 fun x hx => by rw [S.lt] at hx; exact kuI x (List.mem_filter.1 hx).1
      have k2 : InK (splitC c o k u).2.2 := (inK_its (c := c)).2 fun x hx => by rw [S.gt] at hx; exact kuI x (List.mem_filter.1 hx).1
      have IL := goC_its h1 h2 W w1 w2 hi w3 hl S.okl al q1 kl k1
      have IR := goC_its h1 h2 W w1 w2 hi w3 hr S.okr ar q2 kr k2
      have pL := goC_p (o := o) (it := it) h1 h2 hl S.okl
      have pR := goC_p (o := o) (it := it) h1 h2 hr S.okr
      have hxk : (itC c (k, v, g)).1 = k := itC_key _ _
      have w := w3 (itsC c l) (itsC c r) (itC c (k, v, g)) (itsC c u) (splitC c o k u).2.1 (by rw [← itsC_node]; exact haa) hau (by rw [hxk]; exact kk) ((inK_its (c := c)).1 kl) ((inK_its (c := c)).1 kr) kuI (by rw [hxk]; exact bl) (by rw [hxk]; exact br) (by rw [hxk]; exact S.eq)
      rw [hxk] at w
      rw [itsC_node, w]
      have hfix := hi (itC c (k, v, g)) (itO (splitC c o k u).2.1) (splitC c o k u).2.1.isSome (itC_itC c _)
      split
      · rename_i hy
        have j := joinC_ok pL.1.1 pR.1.1 (it (itC c (k, v, g)) (itO (splitC c o k u).2.1) (splitC c o k u).2.1.isSome).1
        rw [j.2, IL, IR, S.lt, S.gt, hfix, hy]
        simp
      · rename_i hy
        have j := join2C_ok pL.1.1 pR.1.1
        rw [j.2, IL, IR, S.lt, S.gt, (Bool.not_eq_true _).mp hy]
        simp
    · rename_i hn
      have : u = .nil := by cases u with
        | nil => rfl
        | node _ _ _ _ _ => exact absurd rfl hn
      subst this
      exact w2 _ ha
end Go.Proofs.YtlddfgfmkapoiaaGreat

namespace Go.Proofs.YtlddfgfmkapoiaaGreat
open Go Go.Sh Go.RowKit

def aloneI (x _ : It) (is : Bool) : It × Bool := (x, !is)
def meetI (p : Int) (x y : It) (is : Bool) : It × Bool := ((x.1, comb p x.2.1 y.2.1, x.2.2), is)
theorem side_whole (c : Int) : Side c (wholeC c) := ⟨fun _ h => (wholeC_ok h).1, fun _ h => Nat.le_of_eq (wholeC_size h)⟩
theorem side_none {c : Int} (hc : isS c = true) : Side c fun _ => .nil := ⟨fun _ _ => .nil hc, fun _ _ => Nat.zero_le _⟩
theorem head_one {l : List It} {z : Option It} (h : z.toList = l) : l.head? = z := by subst h; cases z <;> rfl
theorem itC_same {c v : Int} {x : It} (h : itC c x = x) : itC c (x.1, v, x.2.2) = (x.1, v, x.2.2) := by
  unfold itC at h ⊢
  split
  · rfl
  · rename_i hc
    rw [if_neg hc] at h
    have := congrArg (fun y : It => y.2.2) h
    simp at this
    simp [this]
theorem less_parts {o : Int} (ho : isO o = true) {l r b : List It} {x : It} {z : Option It} (hx : In x.1) (hb : ∀ y ∈ b, In y.1) (bl : ∀ y ∈ l, cmpI o y.1 x.1 < 0) (br : ∀ y ∈ r, cmpI o x.1 y.1 < 0) (hz : z.toList = eqF o x.1 b) :
    lessL (l ++ x :: r) b = lessL l (ltF o x.1 b) ++ (cond (!z.isSome) [x] []) ++ lessL r (gtF o x.1 b) := by
  rw [show l ++ x :: r = (l ++ [x]) ++ r by simp, less_app, less_app, less_congr (find_lt (b := b) bl), less_congr (a := r) (find_gt (b := b) fun y hy => cmpI_neg (br y hy))]
  congr 2
  unfold lessL
  rw [List.filter_cons, List.filter_nil, findK_eq ho hx hb, head_one hz]
  cases z <;> rfl
theorem meet_parts {o p : Int} (ho : isO o = true) {l r b : List It} {x : It} {z : Option It} (hx : In x.1) (hb : ∀ y ∈ b, In y.1) (bl : ∀ y ∈ l, cmpI o y.1 x.1 < 0) (br : ∀ y ∈ r, cmpI o x.1 y.1 < 0) (hz : z.toList = eqF o x.1 b) :
    meetL p (l ++ x :: r) b = meetL p l (ltF o x.1 b) ++ (cond (meetI p x (itO z) z.isSome).2 [(meetI p x (itO z) z.isSome).1] []) ++ meetL p r (gtF o x.1 b) := by
  rw [← meet_congr (find_lt (b := b) bl), ← meet_congr (a := r) (find_gt (b := b) fun y hy => cmpI_neg (br y hy))]
  unfold meetL
  rw [show l ++ x :: r = (l ++ [x]) ++ r by simp, List.filterMap_append, List.filterMap_append]
  congr 2
  rw [List.filterMap_cons, List.filterMap_nil]
  unfold meetG
  rw [findK_eq ho hx hb, head_one hz]
  cases z <;> rfl
def lessC (c o : Int) : Tr → Tr → Tr := goC c o (wholeC c) (fun _ => .nil) aloneI
def meetC (c o p : Int) : Tr → Tr → Tr := goC c o (fun _ => .nil) (fun _ => .nil) (meetI p)
theorem lessC_ok {c o : Int} (ho : isO o = true) {a u : Tr} (ha : OkU c o a) (hu : OkU c o u) : OkM c (lessC c o a u) ∧ itsC c (lessC c o a u) = lessL (itsC c a) (itsC c u) ∧ (lessC c o a u).size ≤ a.size + u.size := by
  have hc := ha.ok.1.s
  have P := goC_p (o := o) (it := aloneI) (side_whole c) (side_none hc) ha.ok.1 hu.ok
  refine ⟨P.1, goC_its (side_whole c) (side_none hc) lessL (fun _ _ _ => rfl) (fun t ht => by rw [(wholeC_ok ht).2, less_nil]) (fun _ _ _ h => h) (fun l r x b z _ _ hx _ _ hb bl br hz => less_parts ho hx hb bl br hz) ha.ok.1 hu.ok ha.asc hu.asc ha.k hu.k, P.2⟩
theorem meetC_ok {c o p : Int} (ho : isO o = true) {a u : Tr} (ha : OkU c o a) (hu : OkU c o u) : OkM c (meetC c o p a u) ∧ itsC c (meetC c o p a u) = meetL p (itsC c a) (itsC c u) ∧ (meetC c o p a u).size ≤ a.size + u.size := by
  have hc := ha.ok.1.s
  have P := goC_p (o := o) (it := meetI p) (side_none hc) (side_none hc) ha.ok.1 hu.ok
  refine ⟨P.1, goC_its (side_none hc) (side_none hc) (meetL p) (fun _ _ _ => rfl) (fun t _ => ?_) (fun x y is h => itC_same (v := comb p x.2.1 y.2.1) h) (fun l r x b z _ _ hx _ _ hb bl br hz => meet_parts ho hx hb bl br hz) ha.ok.1 hu.ok ha.asc hu.asc ha.k hu.k, P.2⟩
  symm
  show List.filterMap (meetG p []) (itsC c t) = []
  rw [List.filterMap_eq_nil_iff]
  intro x _
  rfl
end Go.Proofs.YtlddfgfmkapoiaaGreat

namespace Go.Proofs.YtlddfgfmkapoiaaGreat
open Go Go.Sh Go.RowKit

theorem tagL_key {c : Int} {ds : List Int} {l : List Pr} {k : Int} : (∃ x ∈ tagL c ds l, x.1 = k) ↔ ∃ y ∈ l, y.1 = k := by
  have e := tagL_prs c ds l
  constructor
  · rintro ⟨x, hx, rfl⟩
    refine ⟨(x.1, x.2.1), ?_, rfl⟩
    have := List.mem_map_of_mem (f := fun x : It => (x.1, x.2.1)) hx
    rw [e] at this
    exact this
  · rintro ⟨y, hy, rfl⟩
    rw [← e] at hy
    obtain ⟨x, hx, rfl⟩ := List.mem_map.1 hy
    exact ⟨x, hx, rfl⟩
theorem findK_isSome {b : List It} {k : Int} : (findK b k).isSome = true ↔ ∃ x ∈ b, x.1 = k := by
  unfold findK
  rw [List.find?_isSome]
  simp
end Go.Proofs.YtlddfgfmkapoiaaGreat

namespace Go.Proofs.YtlddfgfmkapoiaaGreat
open Go Go.Sh Go.RowKit

theorem c_brow_no {o : Int} {sp p : Option Addr} {l : List Pr} {q : Option Addr} {n cp : Nat} {w : World} {R : Ending → World → Prop} (hl : Cs w q (prs l)) (hn : l.length = n) (hB : n ≤ 1000000) (hI : InP l) (hno : sp = none ∨ mayR o l = false)
    (h : ∀ w', Ext w w' → R (.returned (.tuple #[.pointer none, .int .i64 2])) w') : Calls Tryz.prog 32 #[.pointer sp, .int .u8 o, .pointer p, .slice q n cp] w R := by
  refine sh32_ok _ _ _ _ _ _ ?_
  unfold sh32
  intro K13 _
  cases sp with
  | none => exact ifB_t rfl (h _ (ext_refl w))
  | some a =>
    have hm : mayR o l = false := by rcases hno with h | h
                                     · cases h
                                     · exact h
    refine ifB_f rfl (do_call Tryz.call101 (c_may hl hn (by omega) hI fun w1 e1 => retS_ret ⟨_, rfl, ?_⟩))
    rw [hm]
    exact ifB_t rfl (h _ e1)
theorem c_bof {c o po : Int} {b : Nat} {p : Option Addr} {D : Option (Nat × Nat × Nat × Nat)} {ds : List Int} {l : List Pr} {q : Option Addr} {n cp : Nat} {w : World} {R : Ending → World → Prop} (ho : isO o = true) (hp : may po = true) (hs : IsSch c b w) (hd : IsD p D ds w) (hN : topD D ≤ w.heap.size)
    (hl : Cs w q (prs l)) (hn : l.length = n) (hB : n ≤ 1000000) (hI : InP l)
    (h : ∀ qt w', Gd (b :: blksD D) w w' → IsSch c b w' → IsD p D (restL c ds (sortL o po l)) w' → IsN w' qt (bldC c (tagL c ds (sortL o po l))) → R (.returned (.tuple #[.pointer qt, .int .i64 0])) w') :
    Calls Tryz.prog 23 #[.pointer (some (blk b)), .int .u8 o, .int .u8 po, .pointer p, .slice q n cp] w R := by
  refine sh23_ok _ _ _ _ _ _ _ ?_
  unfold sh23
  refine do_call Tryz.call95 (c_rsort hl hn hB hI fun q1 n1 c1 w1 h1 e1 => retS_ret ⟨_, _, _, _, rfl, ?_⟩)
  rw [ho, hp] at h1 ⊢
  have h1 : OwnP w1 w.heap.size q1 n1 c1 (sortL o po l) := h1
  refine ifB_f rfl ?_
  have hm := sortL_may ho hp hI
  have hn1 := ownP_len h1
  have hslt := hs.lt
  have hDlt := hd.lt
  have l1 := e1.size
  refine do_call Tryz.call32 (c_brow (hs.ext e1) (hd.ext e1) (by omega) (fun w' g => ownP_cs (row_gd h1 g fun k hk => ?_)) hn1 (by omega) hm.2.1 hm.1 fun qt w2 g2 hs2 hd2 h2 => retS_ret ⟨_, _, rfl, h qt w2 ((gd_of e1).trans g2) hs2 hd2 h2⟩)
  rcases List.mem_cons.1 hk with rfl | hk
  · exact hslt
  · exact (hDlt k hk).1
theorem c_bof_no {o po : Int} {sp p : Option Addr} {l : List Pr} {q : Option Addr} {n cp : Nat} {w : World} {R : Ending → World → Prop} (hl : Cs w q (prs l)) (hn : l.length = n) (hB : n ≤ 1000000) (hI : InP l) (hno : sp = none ∨ (isO o && may po) = false)
    (h : ∀ w', Ext w w' → R (.returned (.tuple #[.pointer none, .int .i64 2])) w') : Calls Tryz.prog 23 #[.pointer sp, .int .u8 o, .int .u8 po, .pointer p, .slice q n cp] w R := by
  refine sh23_ok _ _ _ _ _ _ _ ?_
  unfold sh23
  refine do_call Tryz.call95 (c_rsort hl hn hB hI fun q1 n1 c1 w1 h1 e1 => retS_ret ⟨_, _, _, _, rfl, ?_⟩)
  cases hop : isO o && may po with
  | false => exact ifB_t rfl (h _ e1)
  | true =>
    rw [hop] at h1
    have h1 : OwnP w1 w.heap.size q1 n1 c1 (sortL o po l) := h1
    have hsp : sp = none := by rcases hno with h | h
                               · exact h
                               · rw [hop] at h; cases h
    have ho : isO o = true := by simp at hop; exact hop.1
    have hp : may po = true := by simp at hop; exact hop.2
    have hm := sortL_may ho hp hI
    have hn1 := ownP_len h1
    exact ifB_f rfl (do_call Tryz.call32 (c_brow_no (ownP_cs h1) hn1 (by omega) hm.2.1 (.inl hsp) fun w2 e2 => retS_ret ⟨_, _, rfl, h w2 (e1.trans e2)⟩))
/-! ### Keys -/
/-! ### the document's -/
end Go.Proofs.YtlddfgfmkapoiaaGreat

namespace Go.Proofs.YtlddfgfmkapoiaaGreat
open Go Go.Sh Go.RowKit

theorem IsRd.two {b M N : Nat} {ds : List Int} {S : List Nat} {w w' : World} (h : IsRd b M N ds w) (g : Gd S w w') (hS : ∀ k ∈ S, N ≤ k) : IsRd b M N ds w' := h.gd g fun k hk => .inl (hS k hk)
/-! ### what statements share -/
theorem isD_nil (w : World) : IsD none none [] w := ⟨rfl, rfl⟩
end Go.Proofs.YtlddfgfmkapoiaaGreat

namespace Go.Proofs.YtlddfgfmkapoiaaGreat
open Go Go.Sh Go.RowKit

/-- what the closure holds -/
structure CapsM (w : World) (b14 b16 b18 b36 b : Nat) (o : Int) (F1 : Value) (F2 : Value) (F3 : Value) (T36 : TypeId) : Prop where
  way : Blk w b14 #[F1, F2, F3] 198
  s : Blk w b16 #[.pointer (some (blk b))] 25
  o : Blk w b18 #[.int .u8 o] 5
  on : Blk w b36 #[.func (.func 214) #[] #[.pointer (some (blk b14)), .pointer (some (blk b16)), .pointer (some (blk b18)), .pointer (some (blk b36))]] T36
  ne : b14 ≠ b ∧ b16 ≠ b ∧ b18 ≠ b ∧ b36 ≠ b
theorem CapsM.gs {w w' : World} {b14 b16 b18 b36 b : Nat} {o : Int} {F1 F2 F3 : Value} {T36 : TypeId} (h : CapsM w b14 b16 b18 b36 b o F1 F2 F3 T36) (g : Gs b w w') : CapsM w' b14 b16 b18 b36 b o F1 F2 F3 T36 :=
  ⟨h.way.gs g h.ne.1, h.s.gs g h.ne.2.1, h.o.gs g h.ne.2.2.1, h.on.gs g h.ne.2.2.2, h.ne⟩
abbrev onM (b14 b16 b18 b36 : Nat) : Value := .func (.func 214) #[] #[.pointer (some (blk b14)), .pointer (some (blk b16)), .pointer (some (blk b18)), .pointer (some (blk b36))]
/-- a side of a way -/
def SideW (c : Int) (b : Nat) (F : Value) (f : Tr → Tr) : Prop := ∀ (t : Tr) (p : Option Addr) (w : World) (R : Ending → World → Prop), IsSch c b w → IsN w p t → OkP c t → t.size + 10 ≤ BIG → (∀ q w', Gs b w w' → IsSch c b w' → IsN w' q (f t) → R (.returned (.pointer q)) w') → doCall Tryz.prog F #[.pointer p] w R
def ItemW (b : Nat) (w0 : World) (F : Value) (it : It → It → Bool → It × Bool) : Prop := ∀ (x y : It) (is : Bool) (w : World) (R : Ending → World → Prop), Gs b w0 w → (∀ w', Ext w w' → R (.returned (.tuple #[agI (it x y is).1, .bool (it x y is).2])) w') → doCall Tryz.prog F #[agI x, agI y, .bool is] w R
set_option maxRecDepth 20000 in
set_option maxHeartbeats 1600000 in
theorem c_onM {c o : Int} {b b14 b16 b18 b36 : Nat} {T36 : TypeId} {w0 : World} {A1 A2 A3 : Fn} {X1 X2 X3 C1 C2 C3 : Array Value} {f1 f2 : Tr → Tr} {it : It → It → Bool → It × Bool} (ho : isO o = true) (s1 : Side c f1) (s2 : Side c f2)
    (H1 : SideW c b (.func A1 X1 C1) f1) (H2 : SideW c b (.func A2 X2 C2) f2) (H3 : ItemW b w0 (.func A3 X3 C3) it) :
    ∀ (a : Tr) {u : Tr} {pa pb : Option Addr} {w : World} {R : Ending → World → Prop} (_g0 : Gs b w0 w) (_hc : CapsM w b14 b16 b18 b36 b o (.func A1 X1 C1) (.func A2 X2 C2) (.func A3 X3 C3) T36) (_hs : IsSch c b w)
    (_ha : IsN w pa a) (_hu : IsN w pb u) (_oka : OkP c a) (_oku : OkM c u) (_hka : InK a) (_hku : InK u) (_hau : asc o (itsC c u)) (_hB : a.size + u.size + 10 ≤ BIG)
    (_h : ∀ q w', Gs b w w' → IsSch c b w' → IsN w' q (goC c o f1 f2 it a u) → R (.returned (.pointer q)) w'), doCall Tryz.prog (onM b14 b16 b18 b36) #[.pointer pa, .pointer pb] w R
  | .nil, u, pa, pb, w, R, g0, hc, hs, ha, hu, oka, oku, hka, hku, hau, hB, h => by
    refine do_callc Tryz.call214 (by rfl) (sh214_ok _ _ _ _ _ _ ?_)
    unfold sh214
    have : pa = none := ha
    subst this
    refine ifB_t rfl ⟨_, _, _, hc.way.cell (i := 1) (add_blk _ _) rfl, ?_⟩
    exact H2 u pb w _ hs hu oku.1 (by omega) fun q w1 g1 hs1 h1 => retS_ret ⟨_, rfl, h _ _ g1 hs1 h1⟩
  | .node l k v g r, u, pa, pb, w, R, g0, hc, hs, ha, hu, oka, oku, hka, hku, hau, hB, h => by
    refine do_callc Tryz.call214 (by rfl) (sh214_ok _ _ _ _ _ _ ?_)
    unfold sh214
    obtain ⟨hl, hr⟩ := oka.sides
    obtain ⟨kl, kk, kr⟩ := hka
    have e : (Tr.node l k v g r).size = l.size + 1 + r.size := rfl
    obtain ⟨ba, pal, par, rfl, hba⟩ := id ha
    refine ifB_f rfl ?_
    cases hn : u.nn with
    | false =>
      have hunil : u = .nil := by cases u with
        | nil => rfl
        | node _ _ _ _ _ => cases hn
      subst hunil
      have : pb = none := hu
      subst this
      refine ifB_t rfl ⟨_, _, _, hc.way.cell (i := 0) (add_blk _ _) rfl, ?_⟩
      exact H1 _ _ w _ hs ha oka (by omega) fun q w1 g1 hs1 h1 => retS_ret ⟨_, rfl, h _ _ g1 hs1 h1⟩
    | true =>
      have S := splitC_ok (o := o) (key := k) oku.1 hau
      have sp := splitC_p (o := o) (key := k) oku.1
      have q1 : asc o (itsC c (splitC c o k u).1) := by rw [S.lt]; exact asc_filter hau
      have q2 : asc o (itsC c (splitC c o k u).2.2) := by rw [S.gt]; exact asc_filter hau
      have k1 : InK (splitC c o k u).1 := inK_lt (key := k) hku S.lt hau rfl
      have k2 : InK (splitC c o k u).2.2 := inK_lt (key := k) hku S.gt hau rfl
      have pL := goC_p (o := o) (it := it) s1 s2 hl S.okl
      have pR := goC_p (o := o) (it := it) s1 s2 hr S.okr
      have hU : goC c o f1 f2 it (.node l k v g r) u = if (it (itC c (k, v, g)) (itO (splitC c o k u).2.1) (splitC c o k u).2.1.isSome).2 then
          joinC c (goC c o f1 f2 it l (splitC c o k u).1) (it (itC c (k, v, g)) (itO (splitC c o k u).2.1) (splitC c o k u).2.1.isSome).1 (goC c o f1 f2 it r (splitC c o k u).2.2)
        else join2C c (goC c o f1 f2 it l (splitC c o k u).1) (goC c o f1 f2 it r (splitC c o k u).2.2) := by rw [goC, if_pos hn]
      rw [hU] at h
      have hpb : pb.isNone = false := by
        cases u with
        | nil => cases hn
        | node _ _ _ _ _ => obtain ⟨_, _, _, rfl, _⟩ := hu; rfl
      refine ifB_f hpb ?_
      generalize hY : itO (splitC c o k u).2.1 = Y at *
      generalize hI : (splitC c o k u).2.1.isSome = isY at *
      intro K24
      have hK24 : ∀ w1 bz ql qr, Gs b w w1 → IsSch c b w1 → IsN w1 ql (splitC c o k u).1 → IsN w1 qr (splitC c o k u).2.2 → bz ≠ b →
          Blk w1 bz #[.int .i64 Y.1, .int .i64 Y.2.1, .int .u64 Y.2.2] 114 → K24 ql (blk bz) isY qr w1 := by
        intro w1 bz ql qr g1 hs1 hl1 hr1 nz hz
        have d := gs_of (b := b) (ext_drew w1)
        have g2 := g1.trans d
        have hc2 := hc.gs g2
        have hs2 := hs1.ext (ext_drew w1)
        have ha2 := ha.gs hs g2
        have hz2 := hz.ext (ext_drew w1)
        refine ⟨⟨fun w' => CapsM w' b14 b16 b18 b36 b o (.func A1 X1 C1) (.func A2 X2 C2) (.func A3 X3 C3) T36, hc2, _, _, _, fun w' q => q.on.cell (i := 0) rfl rfl, _, _, _, fun w' q => q.on.cell (i := 0) rfl rfl, ?_⟩⟩
        have hl2 := hl1.ext (ext_drew w1)
        have hr2 := hr1.ext (ext_drew w1)
        refine do_call Tryz.call123 (c_left ha2 fun pl hpl => retS_ret ⟨_, rfl, hc2, ?_⟩)
        refine c_onM ho s1 s2 H1 H2 H3 l (g0.trans g2) hc2 hs2 hpl hl2 hl S.okl kl k1 q1 (by omega) fun q3 w3 g3 hs3 h3 => retS_ret ⟨_, rfl, hc2.gs g3, ?_⟩
        have ha3 := ha2.gs hs2 g3
        have hr3 := hr2.gs hs2 g3
        refine do_call Tryz.call125 (c_right ha3 fun pr hpr => retS_ret ⟨_, rfl, hc2.gs g3, ?_⟩)
        refine c_onM ho s1 s2 H1 H2 H3 r ((g0.trans g2).trans g3) (hc2.gs g3) hs3 hpr hr3 hr S.okr kr k2 q2 (by omega) fun q6 w6 g6 hs6 h6 => retS_ret ⟨_, rfl, (hc2.gs g3).gs g6, ?_⟩
        have G6 := (g2.trans g3).trans g6
        have h36 := h3.gs hs3 g6
        have ha6 := ha3.gs hs3 g6
        have hz6 := (hz2.gs g3 nz).gs g6 nz
        have hc6 := (hc2.gs g3).gs g6
        intro K48
        have hK48 : ∀ w' bx, Gs b w6 w' → IsSch c b w' → IsN w' q3 (goC c o f1 f2 it l (splitC c o k u).1) → IsN w' q6 (goC c o f1 f2 it r (splitC c o k u).2.2) →
            Blk w' bx #[.int .i64 (it (itC c (k, v, g)) Y isY).1.1, .int .i64 (it (itC c (k, v, g)) Y isY).1.2.1, .int .u64 (it (itC c (k, v, g)) Y isY).1.2.2] 114 → K48 (blk bx) (it (itC c (k, v, g)) Y isY).2 w' := by
          intro w' bx gg hs' hl' hr' hx'
          have hc' := hc6.gs gg
          cases hst : (it (itC c (k, v, g)) Y isY).2 with
          | true =>
            rw [hst] at h
            refine ifB_t rfl ⟨_, hc'.s.cell (i := 0) rfl rfl, _, hx'.cell (i := 0) (add_blk _ _) rfl, _, hx'.cell (i := 1) (add_blk _ _) rfl, _, hx'.cell (i := 2) (add_blk _ _) rfl, ?_⟩
            exact do_call Tryz.call106 (c_sjoin hs' hl' hr' pL.1.1 pR.1.1 (by have := pL.2; have := pR.2; omega) fun q7 w7 g7 hs7 h7 => retS_ret ⟨_, rfl, h _ _ ((G6.trans gg).trans g7) hs7 h7⟩)
          | false =>
            rw [hst] at h
            refine ifB_f rfl ⟨_, hc'.s.cell (i := 0) rfl rfl, ?_⟩
            exact do_call Tryz.call211 (c_join2 hs' hl' hr' pL.1.1 pR.1.1 (by have := pL.2; have := pR.2; omega) fun q7 w7 g7 hs7 h7 => retS_ret ⟨_, rfl, h _ _ ((G6.trans gg).trans g7) hs7 h7⟩)
        have dr := ext_drew w6
        have cC : ∀ w', Gs b w6 w' → CapsM w' b14 b16 b18 b36 b o (.func A1 X1 C1) (.func A2 X2 C2) (.func A3 X3 C3) T36 ∧ Blk w' bz #[.int .i64 Y.1, .int .i64 Y.2.1, .int .u64 Y.2.2] 114 := fun w' gg => ⟨hc6.gs gg, hz6.gs gg nz⟩
        refine ⟨⟨fun w' => CapsM w' b14 b16 b18 b36 b o (.func A1 X1 C1) (.func A2 X2 C2) (.func A3 X3 C3) T36 ∧ Blk w' bz #[.int .i64 Y.1, .int .i64 Y.2.1, .int .u64 Y.2.2] 114, cC _ (gs_of dr),
          _, _, _, fun w' q => q.1.way.cell (i := 2) (add_blk _ _) rfl, _, fun w' q => q.1.s.cell (i := 0) rfl rfl, _, fun w' q => q.2.cell (i := 0) (add_blk _ _) rfl, _, fun w' q => q.2.cell (i := 1) (add_blk _ _) rfl, _, fun w' q => q.2.cell (i := 2) (add_blk _ _) rfl, ⟨?_, ?_⟩⟩⟩
        · refine do_call Tryz.call213 (c_sitem (hs6.ext dr) (ha6.ext dr) fun w7 g7 hs7 => retS_ret ⟨_, _, _, rfl, cC _ ((gs_of dr).trans g7), ?_⟩)
          have G7 := (gs_of (b := b) dr).trans g7
          have hl7 := h36.gs hs6 G7
          have hr7 := h6.gs hs6 G7
          constructor
          · refine H3 (rootC c (.node l k v g r)) Y isY w7 _ (((g0.trans G6)).trans G7) fun w8 e8 => retS_ret ⟨_, _, _, _, rfl, cC _ (G7.trans (gs_of e8)), ⟨?_⟩⟩
            have ez := ext_alloc w8 (.cells #[.int .i64 0, .int .i64 0, .int .u64 0] 114)
            refine ⟨cC _ ((G7.trans (gs_of e8)).trans (gs_of ez)), ?_⟩
            refine do_st3 (blk_alloc w8 _ _) fun w9 hx9 g9 => ?_
            have e9 : Ext w8 w9 := ez.st g9 (Nat.le_refl _)
            have e79 := e8.trans e9
            exact hK48 w9 _ (G7.trans (gs_of e79)) (hs7.ext e79) (hl7.ext e79) (hr7.ext e79) hx9
          · refine ⟨?_⟩
            have ez := ext_alloc w7 (.cells #[.int .i64 0, .int .i64 0, .int .u64 0] 114)
            have hzz := blk_alloc w7 #[.int .i64 0, .int .i64 0, .int .u64 0] 114
            have nzz : w7.heap.size ≠ b := by have := hs7.lt; omega
            have Gz := G7.trans (gs_of ez)
            refine ⟨cC _ Gz, ?_⟩
            refine H3 (rootC c (.node l k v g r)) Y isY _ _ ((g0.trans G6).trans Gz) fun w8 e8 => retS_ret ⟨_, _, _, _, rfl, cC _ (Gz.trans (gs_of e8)), ?_⟩
            have e78 := ez.trans e8
            have hzz8 := hzz.ext e8
            refine do_st3 hzz8 fun w9 hx9 g9 => ?_
            exact hK48 w9 _ ((G7.trans (gs_of e78)).st g9 (World.grownBy.size G7)) ((hs7.ext e78).st g9 nzz) ((hl7.ext e78).st g9 hzz8 (by decide)) ((hr7.ext e78).st g9 hzz8 (by decide)) hx9
        · refine ⟨?_⟩
          have ez := ext_alloc w6.drew (.cells #[.int .i64 0, .int .i64 0, .int .u64 0] 114)
          have hzz := blk_alloc w6.drew #[.int .i64 0, .int .i64 0, .int .u64 0] 114
          have nzz : w6.drew.heap.size ≠ b := by have := (hs6.ext dr).lt; omega
          have E1 := dr.trans ez
          refine ⟨cC _ (gs_of E1), ?_⟩
          refine do_call Tryz.call213 (c_sitem (hs6.ext E1) (ha6.ext E1) fun w7 g7 hs7 => retS_ret ⟨_, _, _, rfl, cC _ ((gs_of E1).trans g7), ?_⟩)
          have G7 := (gs_of (b := b) E1).trans g7
          have hl7 := h36.gs hs6 G7
          have hr7 := h6.gs hs6 G7
          have hzz7 := hzz.gs g7 nzz
          refine H3 (rootC c (.node l k v g r)) Y isY w7 _ ((g0.trans G6).trans G7) fun w8 e8 => retS_ret ⟨_, _, _, _, rfl, cC _ (G7.trans (gs_of e8)), ?_⟩
          have hzz8 := hzz7.ext e8
          refine do_st3 hzz8 fun w9 hx9 g9 => ?_
          exact hK48 w9 _ ((G7.trans (gs_of e8)).st g9 dr.size) ((hs7.ext e8).st g9 nzz) ((hl7.ext e8).st g9 hzz8 (by decide)) ((hr7.ext e8).st g9 hzz8 (by decide)) hx9
      have d := ext_drew w
      have hcd := hc.gs (gs_of d)
      have hsd := hs.ext d
      refine ⟨⟨fun w' => CapsM w' b14 b16 b18 b36 b o (.func A1 X1 C1) (.func A2 X2 C2) (.func A3 X3 C3) T36, hcd, _, fun w' q => q.s.cell (i := 0) rfl rfl, _, fun w' q => q.o.cell (i := 0) rfl rfl, ⟨?_, ?_⟩⟩⟩
      · refine do_call Tryz.call108 (c_key (ha.ext d) fun w1 e1 => retS_ret ⟨_, rfl, hcd.gs (gs_of e1), ?_⟩)
        have e01 := d.trans e1
        have hs1 := hs.ext e01
        have hu1 := hu.ext e01
        constructor
        · refine do_call Tryz.call89 (c_split ho kk hs1 hu1 oku.1 hku (by omega) fun ql qr w2 g2 hs2 hl2 hr2 => retS_ret ⟨_, _, _, _, _, _, _, rfl, ⟨?_⟩⟩)
          rw [hY, hI]
          have G2 := (gs_of (b := b) e01).trans g2
          have ez := ext_alloc w2 (.cells #[.int .i64 0, .int .i64 0, .int .u64 0] 114)
          refine ⟨(hc.gs G2).gs (gs_of ez), ?_⟩
          refine do_st3 (blk_alloc w2 _ _) fun w3 hx3 g3 => ?_
          have e3 : Ext w2 w3 := ez.st g3 (Nat.le_refl _)
          have nz : w2.heap.size ≠ b := by have := hs2.lt; omega
          exact hK24 w3 _ ql qr (G2.trans (gs_of e3)) (hs2.ext e3) (hl2.ext e3) (hr2.ext e3) nz hx3
        · refine ⟨?_⟩
          have ez := ext_alloc w1 (.cells #[.int .i64 0, .int .i64 0, .int .u64 0] 114)
          have hz := blk_alloc w1 #[.int .i64 0, .int .i64 0, .int .u64 0] 114
          have nz : w1.heap.size ≠ b := by have := hs1.lt; omega
          have E1 := e01.trans ez
          refine ⟨hc.gs (gs_of E1), ?_⟩
          refine do_call Tryz.call89 (c_split ho kk (hs.ext E1) (hu.ext E1) oku.1 hku (by omega) fun ql qr w2 g2 hs2 hl2 hr2 => retS_ret ⟨_, _, _, _, _, _, _, rfl, ?_⟩)
          rw [hY, hI]
          have G2 := (gs_of (b := b) E1).trans g2
          refine do_st3 (hz.gs g2 nz) fun w3 hx3 g3 => ?_
          exact hK24 w3 _ ql qr (G2.st g3 e01.size) (hs2.st g3 nz) (hl2.st g3 (hz.gs g2 nz) (by decide)) (hr2.st g3 (hz.gs g2 nz) (by decide)) nz hx3
      · refine ⟨?_⟩
        have ez := ext_alloc w.drew (.cells #[.int .i64 0, .int .i64 0, .int .u64 0] 114)
        have hz := blk_alloc w.drew #[.int .i64 0, .int .i64 0, .int .u64 0] 114
        have nz : w.drew.heap.size ≠ b := by have := hsd.lt; omega
        have E1 := d.trans ez
        refine ⟨hc.gs (gs_of E1), ?_⟩
        refine do_call Tryz.call108 (c_key (ha.ext E1) fun w1 e1 => retS_ret ⟨_, rfl, hc.gs (gs_of (E1.trans e1)), ?_⟩)
        have E2 := E1.trans e1
        refine do_call Tryz.call89 (c_split ho kk (hs.ext E2) (hu.ext E2) oku.1 hku (by omega) fun ql qr w2 g2 hs2 hl2 hr2 => retS_ret ⟨_, _, _, _, _, _, _, rfl, ?_⟩)
        rw [hY, hI]
        have G2 := (gs_of (b := b) E2).trans g2
        have hz2 := (hz.ext e1).gs g2 nz
        refine do_st3 hz2 fun w3 hx3 g3 => ?_
        exact hK24 w3 _ ql qr (G2.st g3 d.size) (hs2.st g3 nz) (hl2.st g3 hz2 (by decide)) (hr2.st g3 hz2 (by decide)) nz hx3
end Go.Proofs.YtlddfgfmkapoiaaGreat

namespace Go.Proofs.YtlddfgfmkapoiaaGreat
open Go Go.Sh Go.RowKit

abbrev noneF : Value := .func (.func 159) #[] #[]
abbrev wholeF (b : Nat) : Value := .func (.func 162) #[.pointer (some (blk b))] #[]
abbrev aloneF : Value := .func (.func 163) #[] #[]
abbrev meetF (b6 : Nat) : Value := .func (.func 160) #[] #[.pointer (some (blk b6))]
theorem sideW_none (c : Int) (b : Nat) : SideW c b noneF fun _ => .nil := fun t p w R hs _ _ _ h => by
  refine do_call Tryz.call159 (sh159_ok _ ?_)
  unfold sh159
  exact h _ _ (gs_refl _ _) hs rfl
theorem sideW_whole (c : Int) (b : Nat) : SideW c b (wholeF b) (wholeC c) := fun t p w R hs ht ok hB h =>
  do_callf Tryz.call162 (by rfl) (c_swhole hs ht ok (by omega) h)
theorem itemW_alone (b : Nat) (w0 : World) : ItemW b w0 aloneF aloneI := fun x y is w R _ h => by
  refine do_call Tryz.call163 (sh163_ok _ _ _ _ _ _ _ ?_)
  unfold sh163
  refine ⟨⟨⟨?_⟩⟩⟩
  have e0 := ext_alloc w (.cells #[.int .i64 x.1, .int .i64 x.2.1, .int .u64 x.2.2] 114)
  have hx := blk_alloc w #[.int .i64 x.1, .int .i64 x.2.1, .int .u64 x.2.2] 114
  generalize w.heap.size = b8 at *
  generalize w.alloc (.cells #[.int .i64 x.1, .int .i64 x.2.1, .int .u64 x.2.2] 114) = w1 at *
  have e1 := ext_alloc w1 (.cells #[.int .i64 y.1, .int .i64 y.2.1, .int .u64 y.2.2] 114)
  generalize w1.alloc (.cells #[.int .i64 y.1, .int .i64 y.2.1, .int .u64 y.2.2] 114) = w2 at *
  have e2 := ext_alloc w2 (.cells #[.int .i64 0, .int .i64 0, .int .u64 0] 114)
  have hx3 := hx.ext (e1.trans e2)
  refine ⟨_, hx3.cell (i := 0) (add_blk _ _) rfl, _, hx3.cell (i := 1) (add_blk _ _) rfl, _, hx3.cell (i := 2) (add_blk _ _) rfl, ?_⟩
  refine do_st3 (blk_alloc w2 _ _) fun w4 h4 g4 => ?_
  have e4 : Ext w2 w4 := e2.st g4 (Nat.le_refl _)
  exact ⟨_, h4.cell (i := 0) (add_blk _ _) rfl, _, h4.cell (i := 1) (add_blk _ _) rfl, _, h4.cell (i := 2) (add_blk _ _) rfl, h _ ((e0.trans e1).trans e4)⟩
theorem itemW_meet {b b6 : Nat} {p : Int} {w0 : World} (hp : may p = true) (hb : Blk w0 b6 #[.int .u8 p] 5) (hne : b6 ≠ b) : ItemW b w0 (meetF b6) (meetI p) := fun x y is w R g h => by
  refine do_callc Tryz.call160 (by rfl) (sh160_ok _ _ _ _ _ _ _ _ ?_)
  unfold sh160
  have hb := hb.gs g hne
  refine ⟨⟨⟨?_⟩⟩⟩
  have e0 := ext_alloc w (.cells #[.int .i64 x.1, .int .i64 x.2.1, .int .u64 x.2.2] 114)
  have hx := blk_alloc w #[.int .i64 x.1, .int .i64 x.2.1, .int .u64 x.2.2] 114
  generalize hb9 : w.heap.size = b9 at *
  generalize w.alloc (.cells #[.int .i64 x.1, .int .i64 x.2.1, .int .u64 x.2.2] 114) = w1 at *
  have e1 := ext_alloc w1 (.cells #[.int .i64 y.1, .int .i64 y.2.1, .int .u64 y.2.2] 114)
  have hy := blk_alloc w1 #[.int .i64 y.1, .int .i64 y.2.1, .int .u64 y.2.2] 114
  generalize w1.heap.size = b11 at *
  generalize w1.alloc (.cells #[.int .i64 y.1, .int .i64 y.2.1, .int .u64 y.2.2] 114) = w2 at *
  have e2 := ext_alloc w2 (.cells #[.int .i64 0, .int .i64 0, .int .u64 0] 114)
  have hz := blk_alloc w2 #[.int .i64 0, .int .i64 0, .int .u64 0] 114
  have hx2 := hx.ext e1
  have h9 : b9 < w2.heap.size := hx2.lt
  generalize hb13 : w2.heap.size = b13 at *
  generalize w2.alloc (.cells #[.int .i64 0, .int .i64 0, .int .u64 0] 114) = w3 at *
  have E3 := (e0.trans e1).trans e2
  refine ⟨_, (hb.ext E3).cell (i := 0) rfl rfl, _, (hx2.ext e2).cell (i := 1) (add_blk _ _) rfl, _, (hy.ext e2).cell (i := 1) (add_blk _ _) rfl, ?_⟩
  refine do_call Tryz.call154 (c_comb fun w4 e4 => retS_ret ⟨_, _, rfl, ?_⟩)
  rw [hp]
  refine do_st ((hx2.ext e2).ext e4) (i := 1) (by rw [add_zero']; exact add_blk _ _) (by simp) fun w5 h5 g5 => ?_
  have h5 : Blk w5 b9 #[.int .i64 x.1, .int .i64 (comb p x.2.1 y.2.1), .int .u64 x.2.2] 114 := h5
  refine ⟨_, h5.cell (i := 0) (add_blk _ _) rfl, _, h5.cell (i := 1) (add_blk _ _) rfl, _, h5.cell (i := 2) (add_blk _ _) rfl, ?_⟩
  refine do_st3 ((hz.ext e4).grown g5 (ne_some (by omega))) fun w6 h6 g6 => ?_
  exact ⟨_, h6.cell (i := 0) (add_blk _ _) rfl, _, h6.cell (i := 1) (add_blk _ _) rfl, _, h6.cell (i := 2) (add_blk _ _) rfl, h _ (((E3.trans e4).st g5 (by omega)).st g6 (by omega))⟩
set_option maxRecDepth 20000 in
set_option maxHeartbeats 1600000 in
theorem c_goes {c o : Int} {b : Nat} {A1 A2 A3 : Fn} {X1 X2 X3 C1 C2 C3 : Array Value} {f1 f2 : Tr → Tr} {it : It → It → Bool → It × Bool} (ho : isO o = true) (s1 : Side c f1) (s2 : Side c f2) {w : World}
    (H1 : SideW c b (.func A1 X1 C1) f1) (H2 : SideW c b (.func A2 X2 C2) f2) (H3 : ItemW b w (.func A3 X3 C3) it) {a u : Tr} {pa pb : Option Addr} {R : Ending → World → Prop} (hs : IsSch c b w) (ha : IsN w pa a) (hu : IsN w pb u) (oa : OkU c o a) (ou : OkU c o u) (hB : a.size + u.size + 10 ≤ BIG)
    (h : ∀ q w', Gs b w w' → IsSch c b w' → IsN w' q (goC c o f1 f2 it a u) → R (.returned (.tuple #[.pointer q, .int .i64 0])) w') :
    Calls Tryz.prog 161 #[.agg #[.func A1 X1 C1, .func A2 X2 C2, .func A3 X3 C3], .pointer (some (blk b)), .int .u8 o, .pointer pa, .pointer pb] w R := by
  refine sh161_ok _ _ _ _ _ _ _ _ _ _ _ _ _ ?_
  unfold sh161
  refine ⟨⟨⟨?_⟩⟩⟩
  have hlt := hs.lt
  have e0 := ext_alloc w (.cells #[.func A1 X1 C1, .func A2 X2 C2, .func A3 X3 C3] 198)
  have h14 := blk_alloc w #[.func A1 X1 C1, .func A2 X2 C2, .func A3 X3 C3] 198
  have n14 : w.heap.size ≠ b := by omega
  have k14 : w.heap.size ≤ w.heap.size := Nat.le_refl _
  generalize hb14 : w.heap.size = b14 at h14 n14 k14 ⊢
  generalize w.alloc (.cells #[.func A1 X1 C1, .func A2 X2 C2, .func A3 X3 C3] 198) = w1 at *
  have l1 := h14.lt
  have e1 := ext_alloc w1 (.cells #[.pointer (some (blk b))] 25)
  have h16 := blk_alloc w1 #[.pointer (some (blk b))] 25
  have n16 : w1.heap.size ≠ b := by omega
  generalize w1.heap.size = b16 at *
  generalize w1.alloc (.cells #[.pointer (some (blk b))] 25) = w2 at *
  have l2 := (h14.ext e1).lt
  have e2 := ext_alloc w2 (.cells #[.int .u8 o] 5)
  have h18 := blk_alloc w2 #[.int .u8 o] 5
  have n18 : w2.heap.size ≠ b := by omega
  generalize w2.heap.size = b18 at *
  generalize w2.alloc (.cells #[.int .u8 o] 5) = w3 at *
  have E3 := (e0.trans e1).trans e2
  refine ⟨_, (h16.ext e2).cell (i := 0) rfl rfl, _, h18.cell (i := 0) rfl rfl, ?_⟩
  have hs3 := hs.ext E3
  refine do_call Tryz.call89 (c_split ho ⟨by decide, by decide⟩ hs3 (t := .nil) rfl (OkM.nil hs.1).1 trivial (by decide) fun ql qr w4 g4 hs4 _ _ => retS_ret ⟨_, _, _, _, _, _, _, rfl, ⟨?_⟩⟩)
  refine do_st3 (blk_alloc w4 _ _) fun w5 h5 g5 => ?_
  have e5 : Ext w4 w5 := (ext_alloc w4 _).st g5 (Nat.le_refl _)
  have G5 := g4.trans (gs_of (b := b) e5)
  have hs5 := hs4.ext e5
  refine ifB_f rfl ⟨?_⟩
  have n36 : w5.heap.size ≠ b := by have := hs5.lt; omega
  refine do_st (blk_alloc w5 _ _) (i := 0) (add_blk _ _) (by simp) fun w6 h36 g6 => ?_
  have e6 : Ext w5 w6 := (ext_alloc w5 _).st g6 (Nat.le_refl _)
  have G6 := G5.trans (gs_of (b := b) e6)
  refine ⟨_, _, _, h36.cell (i := 0) rfl rfl, ?_⟩
  have caps : CapsM w6 b14 b16 b18 w5.heap.size b o (.func A1 X1 C1) (.func A2 X2 C2) (.func A3 X3 C3) 286 :=
    ⟨(h14.ext (e1.trans e2)).gs G6 n14, (h16.ext e2).gs G6 n16, h18.gs G6 n18, h36, n14, n16, n18, n36⟩
  have GW := (gs_of (b := b) E3).trans G6
  exact c_onM ho s1 s2 H1 H2 H3 a GW caps (hs5.ext e6) (ha.gs hs GW) (hu.gs hs GW) oa.ok.1 ou.ok oa.k ou.k ou.asc hB fun q w7 g7 hs7 h7 => retS_ret ⟨_, rfl, h _ _ (GW.trans g7) hs7 h7⟩
section
variable {c o : Int} {b : Nat} {a u : Tr} {pa pb : Option Addr} {w : World} {R : Ending → World → Prop}
theorem c_less (ho : isO o = true) (hs : IsSch c b w) (ha : IsN w pa a) (hu : IsN w pb u) (oa : OkU c o a) (ou : OkU c o u) (hB : a.size + u.size + 10 ≤ BIG)
    (h : ∀ q w', Gs b w w' → IsSch c b w' → IsN w' q (lessC c o a u) → R (.returned (.tuple #[.pointer q, .int .i64 0])) w') : Calls Tryz.prog 88 #[.pointer (some (blk b)), .int .u8 o, .pointer pa, .pointer pb] w R := by
  refine sh88_ok _ _ _ _ ?_
  unfold sh88
  exact do_call Tryz.call161 (c_goes ho (side_whole c) (side_none hs.1) (sideW_whole c b) (sideW_none c b) (itemW_alone b w) hs ha hu oa ou hB fun q w1 g1 hs1 h1 => retS_ret ⟨_, _, rfl, h _ _ g1 hs1 h1⟩)
theorem c_meet {p : Int} (ho : isO o = true) (hp : may p = true) (hs : IsSch c b w) (ha : IsN w pa a) (hu : IsN w pb u) (oa : OkU c o a) (ou : OkU c o u) (hB : a.size + u.size + 10 ≤ BIG)
    (h : ∀ q w', Gs b w w' → IsSch c b w' → IsN w' q (meetC c o p a u) → R (.returned (.tuple #[.pointer q, .int .i64 0])) w') : Calls Tryz.prog 87 #[.pointer (some (blk b)), .int .u8 o, .int .u8 p, .pointer pa, .pointer pb] w R := by
  refine sh87_ok _ _ _ _ _ ?_
  unfold sh87
  refine ⟨?_⟩
  have e0 := ext_alloc w (.cells #[.int .u8 p] 5)
  have h6 := blk_alloc w #[.int .u8 p] 5
  have n6 : w.heap.size ≠ b := by have := hs.lt; omega
  generalize w.heap.size = b6 at *
  generalize w.alloc (.cells #[.int .u8 p] 5) = w1 at *
  refine ⟨_, h6.cell (i := 0) rfl rfl, ?_⟩
  refine do_call Tryz.call151 (c_fmay fun w2 e2 => retS_ret ⟨_, rfl, ?_⟩)
  rw [hp]
  have E2 := e0.trans e2
  exact ifB_f rfl (do_call Tryz.call161 (c_goes ho (side_none hs.1) (side_none hs.1) (sideW_none c b) (sideW_none c b) (itemW_meet hp (h6.ext e2) n6) (hs.ext E2) (ha.ext E2) (hu.ext E2) oa ou hB fun q w3 g3 hs3 h3 => retS_ret ⟨_, _, rfl, h _ _ ((gs_of E2).trans g3) hs3 h3⟩))
end
end Go.Proofs.YtlddfgfmkapoiaaGreat

namespace Go.Proofs.YtlddfgfmkapoiaaGreat
open Go Go.Sh Go.RowKit

end Go.Proofs.YtlddfgfmkapoiaaGreat

namespace Go.Proofs.YtlddfgfmkapoiaaGreat
open Go Go.Sh Go.RowKit

/-- two trees that a statement takes -/
structure Law24T (code o : Int) (l : List Bd) (n : Nat) (t : BT) : Prop where
  n4 : n ≤ 400
  wf : t.wf = true
  l : l = t.beads
  fit : FitB t
  ok : OkM code t.tr
  asc : asc o (itsC code t.tr)
theorem Law24T.u {code o : Int} {l : List Bd} {n : Nat} {t : BT} (h : Law24T code o l n t) : OkU code o t.tr := ⟨h.ok, h.asc, h.fit.inK⟩
end Go.Proofs.YtlddfgfmkapoiaaGreat

