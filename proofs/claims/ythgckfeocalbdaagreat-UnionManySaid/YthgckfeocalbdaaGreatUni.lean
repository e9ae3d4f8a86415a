/-
  union: two trees made one; the document's answers of layer 28.
-/
import Derived.Test.YthgckfeocalbdaaGreatMgLaw
namespace Go.Proofs.YthgckfeocalbdaaGreat
open Go Go.Sh Go.RowKit

theorem do_callf {P : Program} {k : Nat} {first cap args bs : Array Value} {w : World} {R : Ending → World → Prop} (he : ∀ xs w, (callFunc k xs).run P w = .ok (.enter k xs) w) (hb : first ++ args ++ cap = bs) (h : Calls P k bs w R) :
    doCall P (.func (.func k) first cap) args w R := ⟨callV_func he (by subst hb; exact h)⟩
/-- what is kept of two items of a key -/
theorem do_ofI {p : Int} (hp : may p = true) {x y : It} {is : Bool} {w : World} {R : Ending → World → Prop}
    (h : ∀ w', Ext w w' → R (.returned (agI (ofI p x y is))) w') : doCall Tryz.prog (.func (.func 81) #[.int .u8 p] #[]) #[agI x, agI y, .bool is] w R := by
  refine do_callf Tryz.call81 (by rfl) (sh81_ok _ _ _ _ _ _ _ _ ?_)
  unfold sh81
  refine ⟨⟨⟨?_⟩⟩⟩
  have e0 := ext_alloc w (.cells #[.int .i64 x.1, .int .i64 x.2.1, .int .u64 x.2.2] 33)
  have hx := blk_alloc w #[.int .i64 x.1, .int .i64 x.2.1, .int .u64 x.2.2] 33
  generalize hb9 : w.heap.size = b9 at *
  generalize w.alloc (.cells #[.int .i64 x.1, .int .i64 x.2.1, .int .u64 x.2.2] 33) = w1 at *
  have e1 := ext_alloc w1 (.cells #[.int .i64 y.1, .int .i64 y.2.1, .int .u64 y.2.2] 33)
  have hy := blk_alloc w1 #[.int .i64 y.1, .int .i64 y.2.1, .int .u64 y.2.2] 33
  generalize w1.heap.size = b11 at *
  generalize w1.alloc (.cells #[.int .i64 y.1, .int .i64 y.2.1, .int .u64 y.2.2] 33) = w2 at *
  have e2 := ext_alloc w2 (.cells #[.int .i64 0, .int .i64 0, .int .u64 0] 33)
  have hz := blk_alloc w2 #[.int .i64 0, .int .i64 0, .int .u64 0] 33
  have hx2 := hx.ext e1
  have h9 : b9 < w2.heap.size := hx2.lt
  generalize hb13 : w2.heap.size = b13 at *
  generalize w2.alloc (.cells #[.int .i64 0, .int .i64 0, .int .u64 0] 33) = w3 at *
  have hx3 := hx2.ext e2
  have E3 := (e0.trans e1).trans e2
  intro K16
  have hK : ∀ w4 (z : It), Ext w w4 → Blk w4 b9 #[.int .i64 z.1, .int .i64 z.2.1, .int .u64 z.2.2] 33 → Blk w4 b13 #[.int .i64 0, .int .i64 0, .int .u64 0] 33 → (∀ w', Ext w w' → R (.returned (agI z)) w') → K16 w4 := by
    intro w4 z E4 h4 hz4 hh
    refine ⟨_, h4.cell (i := 0) (add_blk _ _) rfl, _, h4.cell (i := 1) (add_blk _ _) rfl, _, h4.cell (i := 2) (add_blk _ _) rfl, ?_⟩
    refine do_st3 hz4 fun w5 h5 g5 => ?_
    exact ⟨_, h5.cell (i := 0) (add_blk _ _) rfl, _, h5.cell (i := 1) (add_blk _ _) rfl, _, h5.cell (i := 2) (add_blk _ _) rfl, hh _ (E4.st g5 (by omega))⟩
  cases is with
  | false => exact ifB_f rfl (hK w3 x E3 hx3 hz h)
  | true =>
    refine ifB_t rfl ⟨_, hx3.cell (i := 1) (add_blk _ _) rfl, _, (hy.ext e2).cell (i := 1) (add_blk _ _) rfl, ?_⟩
    refine do_call Tryz.call74 (c_comb fun w4 e4 => retS_ret ⟨_, _, rfl, ?_⟩)
    rw [hp]
    refine do_st (hx3.ext e4) (i := 1) (by rw [add_zero']; exact add_blk _ _) (by simp) fun w5 h5 g5 => ?_
    exact hK w5 (x.1, comb p x.2.1 y.2.1, x.2.2) ((E3.trans e4).st g5 (by omega)) h5 ((hz.ext e4).grown g5 (ne_some (by omega))) h
/-- what the closure holds -/
structure CapsU (w : World) (b8 b10 b14 b12 b : Nat) (o p : Int) (T12 T14 : TypeId) : Prop where
  s : Blk w b8 #[.pointer (some (blk b))] 23
  o : Blk w b10 #[.int .u8 o] 5
  on : Blk w b14 #[.func (.func 101) #[] #[.pointer (some (blk b8)), .pointer (some (blk b10)), .pointer (some (blk b14)), .pointer (some (blk b12))]] T14
  come : Blk w b12 #[.func (.func 81) #[.int .u8 p] #[]] T12
  ne : b8 ≠ b ∧ b10 ≠ b ∧ b14 ≠ b ∧ b12 ≠ b
theorem CapsU.gs {w w' : World} {b8 b10 b14 b12 b : Nat} {o p : Int} {T12 T14 : TypeId} (h : CapsU w b8 b10 b14 b12 b o p T12 T14) (g : Gs b w w') : CapsU w' b8 b10 b14 b12 b o p T12 T14 :=
  ⟨h.s.gs g h.ne.1, h.o.gs g h.ne.2.1, h.on.gs g h.ne.2.2.1, h.come.gs g h.ne.2.2.2, h.ne⟩
theorem inK_lt {c o key : Int} {t s : Tr} {q : It → Bool} (h : InK t) (e : itsC c s = (itsC c t).filter q) (_ : asc o (itsC c t)) (_ : key = key) : InK s := (inK_its (c := c)).2 fun x hx => by
  rw [e] at hx
  exact (inK_its (c := c)).1 h x (List.mem_filter.1 hx).1
abbrev onU (b8 b10 b14 b12 : Nat) : Value := .func (.func 101) #[] #[.pointer (some (blk b8)), .pointer (some (blk b10)), .pointer (some (blk b14)), .pointer (some (blk b12))]
set_option maxRecDepth 20000 in
set_option maxHeartbeats 1600000 in
theorem c_on {c o p : Int} {b b8 b10 b14 b12 : Nat} {T12 T14 : TypeId} (ho : isO o = true) (hp : may p = true) : ∀ (a : Tr) {u : Tr} {pa pb : Option Addr} {w : World} {R : Ending → World → Prop} (_hc : CapsU w b8 b10 b14 b12 b o p T12 T14) (_hs : IsSch c b w)
    (_ha : IsN w pa a) (_hu : IsN w pb u) (_oka : OkP c a) (_oku : OkM c u) (_hka : InK a) (_hku : InK u) (_hau : asc o (itsC c u)) (_hB : a.size + u.size + 10 ≤ BIG)
    (_h : ∀ q w', Gs b w w' → IsSch c b w' → IsN w' q (unionC c o p a u) → R (.returned (.pointer q)) w'),
    doCall Tryz.prog (onU b8 b10 b14 b12) #[.pointer pa, .pointer pb] w R
  | .nil, u, pa, pb, w, R, hc, hs, ha, hu, oka, oku, hka, hku, hau, hB, h => by
    refine do_callc Tryz.call101 (by rfl) (sh101_ok _ _ _ _ _ _ ?_)
    unfold sh101
    have : pa = none := ha
    subst this
    exact ifB_t rfl (h _ _ (gs_refl _ _) hs hu)
  | .node l k v g r, u, pa, pb, w, R, hc, hs, ha, hu, oka, oku, hka, hku, hau, hB, h => by
    refine do_callc Tryz.call101 (by rfl) (sh101_ok _ _ _ _ _ _ ?_)
    unfold sh101
    obtain ⟨hl, hr⟩ := oka.sides
    obtain ⟨kl, kk, kr⟩ := hka
    have e : (Tr.node l k v g r).size = l.size + 1 + r.size := rfl
    obtain ⟨ba, pal, par, rfl, hba⟩ := id ha
    refine ifB_f rfl ?_
    cases hn : u.nn with
    | false =>
      have hunil : u = .nil := by cases u with
        | nil => rfl
        | node _ _ _ _ _ => cases hn
      subst hunil
      have : pb = none := hu
      subst this
      refine ifB_t rfl ⟨_, hc.s.cell (i := 0) rfl rfl, ?_⟩
      exact do_call Tryz.call91 (c_swhole hs ha oka (by omega) fun q w1 g1 hs1 h1 => retS_ret ⟨_, rfl, h _ _ g1 hs1 h1⟩)
    | true =>
      have S := splitC_ok (o := o) (key := k) oku.1 hau
      have sp := splitC_p (o := o) (key := k) oku.1
      have q1 : asc o (itsC c (splitC c o k u).1) := by rw [S.lt]; exact asc_filter hau
      have q2 : asc o (itsC c (splitC c o k u).2.2) := by rw [S.gt]; exact asc_filter hau
      have k1 : InK (splitC c o k u).1 := inK_lt (key := k) hku S.lt hau rfl
      have k2 : InK (splitC c o k u).2.2 := inK_lt (key := k) hku S.gt hau rfl
      have pL := unionC_p (o := o) (p := p) hl S.okl
      have pR := unionC_p (o := o) (p := p) hr S.okr
      have hU : unionC c o p (.node l k v g r) u = joinC c (unionC c o p l (splitC c o k u).1) (ofI p (itC c (k, v, g)) (itO (splitC c o k u).2.1) (splitC c o k u).2.1.isSome) (unionC c o p r (splitC c o k u).2.2) := by
        rw [unionC, if_pos hn]
      rw [hU] at h
      have hpb : pb.isNone = false := by
        cases u with
        | nil => cases hn
        | node _ _ _ _ _ => obtain ⟨_, _, _, rfl, _⟩ := hu; rfl
      refine ifB_f hpb ?_
      intro K16
      have hK16 : ∀ w1 bz ql qr, Gs b w w1 → IsSch c b w1 → IsN w1 ql (splitC c o k u).1 → IsN w1 qr (splitC c o k u).2.2 → bz ≠ b →
          Blk w1 bz #[.int .i64 (itO (splitC c o k u).2.1).1, .int .i64 (itO (splitC c o k u).2.1).2.1, .int .u64 (itO (splitC c o k u).2.1).2.2] 33 → K16 ql (blk bz) (splitC c o k u).2.1.isSome qr w1 := by
        intro w1 bz ql qr g1 hs1 hl1 hr1 nz hz
        have d := gs_of (b := b) (ext_drew w1)
        have g2 := g1.trans d
        have hc2 := hc.gs g2
        have hs2 := hs1.ext (ext_drew w1)
        have ha2 := ha.gs hs g2
        have hz2 := hz.ext (ext_drew w1)
        refine ⟨⟨fun w' => CapsU w' b8 b10 b14 b12 b o p T12 T14 ∧ Blk w' bz #[.int .i64 (itO (splitC c o k u).2.1).1, .int .i64 (itO (splitC c o k u).2.1).2.1, .int .u64 (itO (splitC c o k u).2.1).2.2] 33, ⟨hc2, hz2⟩,
          _, fun w' q => q.1.s.cell (i := 0) rfl rfl, _, _, _, fun w' q => q.1.on.cell (i := 0) rfl rfl, _, _, _, fun w' q => q.1.come.cell (i := 0) rfl rfl, _, fun w' q => q.1.s.cell (i := 0) rfl rfl,
          _, fun w' q => q.2.cell (i := 0) (add_blk _ _) rfl, _, fun w' q => q.2.cell (i := 1) (add_blk _ _) rfl, _, fun w' q => q.2.cell (i := 2) (add_blk _ _) rfl, _, _, _, fun w' q => q.1.on.cell (i := 0) rfl rfl, ?_⟩⟩
        have hl2 := hl1.ext (ext_drew w1)
        have hr2 := hr1.ext (ext_drew w1)
        refine do_call Tryz.call68 (c_left ha2 fun pl hpl => retS_ret ⟨_, rfl, ⟨hc2, hz2⟩, ?_⟩)
        refine c_on ho hp l hc2 hs2 hpl hl2 hl S.okl kl k1 q1 (by omega) fun q3 w3 g3 hs3 h3 => retS_ret ⟨_, rfl, ⟨hc2.gs g3, hz2.gs g3 nz⟩, ?_⟩
        have ha3 := ha2.gs hs2 g3
        refine do_call Tryz.call92 (c_sitem hs3 ha3 fun w4 g4 hs4 => retS_ret ⟨_, _, _, rfl, ⟨(hc2.gs g3).gs g4, (hz2.gs g3 nz).gs g4 nz⟩, ?_⟩)
        have ha4 := ha3.gs hs3 g4
        refine do_ofI hp (x := rootC c (.node l k v g r)) (y := itO (splitC c o k u).2.1) fun w5 e5 => retS_ret ⟨_, _, _, rfl, ⟨((hc2.gs g3).gs g4).gs (gs_of e5), ((hz2.gs g3 nz).gs g4 nz).ext e5⟩, ?_⟩
        have hs5 := hs4.ext e5
        have g35 := g4.trans (gs_of e5)
        have hr5 := (hr2.gs hs2 g3).gs hs3 g35
        refine do_call Tryz.call66 (c_right (ha4.ext e5) fun pr hpr => retS_ret ⟨_, rfl, ⟨(hc2.gs g3).gs g35, (hz2.gs g3 nz).gs g35 nz⟩, ?_⟩)
        refine c_on ho hp r ((hc2.gs g3).gs g35) hs5 hpr hr5 hr S.okr kr k2 q2 (by omega) fun q6 w6 g6 hs6 h6 => retS_ret ⟨_, rfl, ⟨((hc2.gs g3).gs g35).gs g6, ((hz2.gs g3 nz).gs g35 nz).gs g6 nz⟩, ?_⟩
        have h36 := (h3.gs hs3 g35).gs hs5 g6
        refine do_call Tryz.call51 (c_sjoin hs6 h36 h6 pL.1.1 pR.1.1 (by have := pL.2; have := pR.2; omega) fun q7 w7 g7 hs7 h7 => retS_ret ⟨_, rfl, ⟨(((hc2.gs g3).gs g35).gs g6).gs g7, (((hz2.gs g3 nz).gs g35 nz).gs g6 nz).gs g7 nz⟩, ?_⟩)
        exact h _ _ ((((g2.trans g3).trans g35).trans g6).trans g7) hs7 h7
      have d := ext_drew w
      have hcd := hc.gs (gs_of d)
      have hsd := hs.ext d
      refine ⟨⟨fun w' => CapsU w' b8 b10 b14 b12 b o p T12 T14, hcd, _, fun w' q => q.s.cell (i := 0) rfl rfl, _, fun w' q => q.o.cell (i := 0) rfl rfl, ⟨?_, ?_⟩⟩⟩
      · refine do_call Tryz.call67 (c_key (ha.ext d) fun w1 e1 => retS_ret ⟨_, rfl, hcd.gs (gs_of e1), ?_⟩)
        have e01 := d.trans e1
        have hs1 := hs.ext e01
        have hu1 := hu.ext e01
        constructor
        · refine do_call Tryz.call16 (c_split ho kk hs1 hu1 oku.1 hku (by omega) fun ql qr w2 g2 hs2 hl2 hr2 => retS_ret ⟨_, _, _, _, _, _, _, rfl, ⟨?_⟩⟩)
          have G2 := (gs_of (b := b) e01).trans g2
          have ez := ext_alloc w2 (.cells #[.int .i64 0, .int .i64 0, .int .u64 0] 33)
          refine ⟨(hc.gs G2).gs (gs_of ez), ?_⟩
          refine do_st3 (blk_alloc w2 _ _) fun w3 hx3 g3 => ?_
          have e3 : Ext w2 w3 := ez.st g3 (Nat.le_refl _)
          have nz : w2.heap.size ≠ b := by have := hs2.lt; omega
          exact hK16 w3 _ ql qr (G2.trans (gs_of e3)) (hs2.ext e3) (hl2.ext e3) (hr2.ext e3) nz hx3
        · refine ⟨?_⟩
          have ez := ext_alloc w1 (.cells #[.int .i64 0, .int .i64 0, .int .u64 0] 33)
          have hz := blk_alloc w1 #[.int .i64 0, .int .i64 0, .int .u64 0] 33
          have nz : w1.heap.size ≠ b := by have := hs1.lt; omega
          have E1 := e01.trans ez
          refine ⟨hc.gs (gs_of E1), ?_⟩
          refine do_call Tryz.call16 (c_split ho kk (hs.ext E1) (hu.ext E1) oku.1 hku (by omega) fun ql qr w2 g2 hs2 hl2 hr2 => retS_ret ⟨_, _, _, _, _, _, _, rfl, ?_⟩)
          have G2 := (gs_of (b := b) E1).trans g2
          refine do_st3 (hz.gs g2 nz) fun w3 hx3 g3 => ?_
          exact hK16 w3 _ ql qr (G2.st g3 e01.size) (hs2.st g3 nz) (hl2.st g3 (hz.gs g2 nz) (by decide)) (hr2.st g3 (hz.gs g2 nz) (by decide)) nz hx3
      · refine ⟨?_⟩
        have ez := ext_alloc w.drew (.cells #[.int .i64 0, .int .i64 0, .int .u64 0] 33)
        have hz := blk_alloc w.drew #[.int .i64 0, .int .i64 0, .int .u64 0] 33
        have nz : w.drew.heap.size ≠ b := by have := hsd.lt; omega
        have E1 := d.trans ez
        refine ⟨hc.gs (gs_of E1), ?_⟩
        refine do_call Tryz.call67 (c_key (ha.ext E1) fun w1 e1 => retS_ret ⟨_, rfl, hc.gs (gs_of (E1.trans e1)), ?_⟩)
        have E2 := E1.trans e1
        refine do_call Tryz.call16 (c_split ho kk (hs.ext E2) (hu.ext E2) oku.1 hku (by omega) fun ql qr w2 g2 hs2 hl2 hr2 => retS_ret ⟨_, _, _, _, _, _, _, rfl, ?_⟩)
        have G2 := (gs_of (b := b) E2).trans g2
        have hz2 := (hz.ext e1).gs g2 nz
        refine do_st3 hz2 fun w3 hx3 g3 => ?_
        exact hK16 w3 _ ql qr (G2.st g3 d.size) (hs2.st g3 nz) (hl2.st g3 hz2 (by decide)) (hr2.st g3 hz2 (by decide)) nz hx3
end Go.Proofs.YthgckfeocalbdaaGreat
