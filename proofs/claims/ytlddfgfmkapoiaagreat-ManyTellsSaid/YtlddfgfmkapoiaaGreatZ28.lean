/-
  meet: two trees gone down together.
-/
/-
  meet: Meet, Less, Apart, Within.
-/
/-
  The document's answers of layer 29.
-/
/-
  UnionTells; the chapter's examples.
-/
/-
  many: Puts, Drops, Holds; the document's answers of layer 31; what its statement asks.
-/
import Derived.Test.YtlddfgfmkapoiaaGreatZ26
import Derived.Test.YtlddfgfmkapoiaaGreatZ27

namespace Go.Proofs.YtlddfgfmkapoiaaGreat
open Go Go.Sh Go.RowKit

/-- what the closure holds -/
structure CapsM (w : World) (b14 b16 b18 b36 b : Nat) (o : Int) (F1 : Value) (F2 : Value) (F3 : Value) (T36 : TypeId) : Prop where
  way : Blk w b14 #[F1, F2, F3] 198
  s : Blk w b16 #[.pointer (some (blk b))] 25
  o : Blk w b18 #[.int .u8 o] 5
  on : Blk w b36 #[.func (.func 214) #[] #[.pointer (some (blk b14)), .pointer (some (blk b16)), .pointer (some (blk b18)), .pointer (some (blk b36))]] T36
  ne : b14 ≠ b ∧ b16 ≠ b ∧ b18 ≠ b ∧ b36 ≠ b
theorem CapsM.gs {w w' : World} {b14 b16 b18 b36 b : Nat} {o : Int} {F1 F2 F3 : Value} {T36 : TypeId} (h : CapsM w b14 b16 b18 b36 b o F1 F2 F3 T36) (g : Gs b w w') : CapsM w' b14 b16 b18 b36 b o F1 F2 F3 T36 :=
  ⟨h.way.gs g h.ne.1, h.s.gs g h.ne.2.1, h.o.gs g h.ne.2.2.1, h.on.gs g h.ne.2.2.2, h.ne⟩
abbrev onM (b14 b16 b18 b36 : Nat) : Value := .func (.func 214) #[] #[.pointer (some (blk b14)), .pointer (some (blk b16)), .pointer (some (blk b18)), .pointer (some (blk b36))]
/-- a side of a way -/
def SideW (c : Int) (b : Nat) (F : Value) (f : Tr → Tr) : Prop := ∀ (t : Tr) (p : Option Addr) (w : World) (R : Ending → World → Prop), IsSch c b w → IsN w p t → OkP c t → t.size + 10 ≤ BIG → (∀ q w', Gs b w w' → IsSch c b w' → IsN w' q (f t) → R (.returned (.pointer q)) w') → doCall Tryz.prog F #[.pointer p] w R
def ItemW (b : Nat) (w0 : World) (F : Value) (it : It → It → Bool → It × Bool) : Prop := ∀ (x y : It) (is : Bool) (w : World) (R : Ending → World → Prop), Gs b w0 w → (∀ w', Ext w w' → R (.returned (.tuple #[agI (it x y is).1, .bool (it x y is).2])) w') → doCall Tryz.prog F #[agI x, agI y, .bool is] w R
set_option maxRecDepth 20000 in
set_option maxHeartbeats 1600000 in
theorem c_onM {c o : Int} {b b14 b16 b18 b36 : Nat} {T36 : TypeId} {w0 : World} {A1 A2 A3 : Fn} {X1 X2 X3 C1 C2 C3 : Array Value} {f1 f2 : Tr → Tr} {it : It → It → Bool → It × Bool} (ho : isO o = true) (s1 : Side c f1) (s2 : Side c f2)
    (H1 : SideW c b (.func A1 X1 C1) f1) (H2 : SideW c b (.func A2 X2 C2) f2) (H3 : ItemW b w0 (.func A3 X3 C3) it) :
    ∀ (a : Tr) {u : Tr} {pa pb : Option Addr} {w : World} {R : Ending → World → Prop} (_g0 : Gs b w0 w) (_hc : CapsM w b14 b16 b18 b36 b o (.func A1 X1 C1) (.func A2 X2 C2) (.func A3 X3 C3) T36) (_hs : IsSch c b w)
    (_ha : IsN w pa a) (_hu : IsN w pb u) (_oka : OkP c a) (_oku : OkM c u) (_hka : InK a) (_hku : InK u) (_hau : asc o (itsC c u)) (_hB : a.size + u.size + 10 ≤ BIG)
    (_h : ∀ q w', Gs b w w' → IsSch c b w' → IsN w' q (goC c o f1 f2 it a u) → R (.returned (.pointer q)) w'), doCall Tryz.prog (onM b14 b16 b18 b36) #[.pointer pa, .pointer pb] w R
  | .nil, u, pa, pb, w, R, g0, hc, hs, ha, hu, oka, oku, hka, hku, hau, hB, h => by
    refine do_callc Tryz.call214 (by rfl) (sh214_ok _ _ _ _ _ _ ?_)
    unfold sh214
    have : pa = none := ha
    subst this
    refine ifB_t rfl ⟨_, _, _, hc.way.cell (i := 1) (add_blk _ _) rfl, ?_⟩
    exact H2 u pb w _ hs hu oku.1 (by omega) fun q w1 g1 hs1 h1 => retS_ret ⟨_, rfl, h _ _ g1 hs1 h1⟩
  | .node l k v g r, u, pa, pb, w, R, g0, hc, hs, ha, hu, oka, oku, hka, hku, hau, hB, h => by
    refine do_callc Tryz.call214 (by rfl) (sh214_ok _ _ _ _ _ _ ?_)
    unfold sh214
    obtain ⟨hl, hr⟩ := oka.sides
    obtain ⟨kl, kk, kr⟩ := hka
    have e : (Tr.node l k v g r).size = l.size + 1 + r.size := rfl
    obtain ⟨ba, pal, par, rfl, hba⟩ := id ha
    refine ifB_f rfl ?_
    cases hn : u.nn with
    | false =>
      have hunil : u = .nil := by cases u with
        | nil => rfl
        | node _ _ _ _ _ => cases hn
      subst hunil
      have : pb = none := hu
      subst this
      refine ifB_t rfl ⟨_, _, _, hc.way.cell (i := 0) (add_blk _ _) rfl, ?_⟩
      exact H1 _ _ w _ hs ha oka (by omega) fun q w1 g1 hs1 h1 => retS_ret ⟨_, rfl, h _ _ g1 hs1 h1⟩
    | true =>
      have S := splitC_ok (o := o) (key := k) oku.1 hau
      have sp := splitC_p (o := o) (key := k) oku.1
      have q1 : asc o (itsC c (splitC c o k u).1) := by rw [S.lt]; exact asc_filter hau
      have q2 : asc o (itsC c (splitC c o k u).2.2) := by rw [S.gt]; exact asc_filter hau
      have k1 : InK (splitC c o k u).1 := inK_lt (key := k) hku S.lt hau rfl
      have k2 : InK (splitC c o k u).2.2 := inK_lt (key := k) hku S.gt hau rfl
      have pL := goC_p (o := o) (it := it) s1 s2 hl S.okl
      have pR := goC_p (o := o) (it := it) s1 s2 hr S.okr
      have hU : goC c o f1 f2 it (.node l k v g r) u = if (it (itC c (k, v, g)) (itO (splitC c o k u).2.1) (splitC c o k u).2.1.isSome).2 then
          joinC c (goC c o f1 f2 it l (splitC c o k u).1) (it (itC c (k, v, g)) (itO (splitC c o k u).2.1) (splitC c o k u).2.1.isSome).1 (goC c o f1 f2 it r (splitC c o k u).2.2)
        else join2C c (goC c o f1 f2 it l (splitC c o k u).1) (goC c o f1 f2 it r (splitC c o k u).2.2) := by rw [goC, if_pos hn]
      rw [hU] at h
      have hpb : pb.isNone = false := by
        cases u with
        | nil => cases hn
        | node _ _ _ _ _ => obtain ⟨_, _, _, rfl, _⟩ := hu; rfl
      refine ifB_f hpb ?_
      generalize hY : itO (splitC c o k u).2.1 = Y at *
      generalize hI : (splitC c o k u).2.1.isSome = isY at *
      intro K24
      have hK24 : ∀ w1 bz ql qr, Gs b w w1 → IsSch c b w1 → IsN w1 ql (splitC c o k u).1 → IsN w1 qr (splitC c o k u).2.2 → bz ≠ b →
          Blk w1 bz #[.int .i64 Y.1, .int .i64 Y.2.1, .int .u64 Y.2.2] 114 → K24 ql (blk bz) isY qr w1 := by
        intro w1 bz ql qr g1 hs1 hl1 hr1 nz hz
        have d := gs_of (b := b) (ext_drew w1)
        have g2 := g1.trans d
        have hc2 := hc.gs g2
        have hs2 := hs1.ext (ext_drew w1)
        have ha2 := ha.gs hs g2
        have hz2 := hz.ext (ext_drew w1)
        refine ⟨⟨fun w' => CapsM w' b14 b16 b18 b36 b o (.func A1 X1 C1) (.func A2 X2 C2) (.func A3 X3 C3) T36, hc2, _, _, _, fun w' q => q.on.cell (i := 0) rfl rfl, _, _, _, fun w' q => q.on.cell (i := 0) rfl rfl, ?_⟩⟩
        have hl2 := hl1.ext (ext_drew w1)
        have hr2 := hr1.ext (ext_drew w1)
        refine do_call Tryz.call123 (c_left ha2 fun pl hpl => retS_ret ⟨_, rfl, hc2, ?_⟩)
        refine c_onM ho s1 s2 H1 H2 H3 l (g0.trans g2) hc2 hs2 hpl hl2 hl S.okl kl k1 q1 (by omega) fun q3 w3 g3 hs3 h3 => retS_ret ⟨_, rfl, hc2.gs g3, ?_⟩
        have ha3 := ha2.gs hs2 g3
        have hr3 := hr2.gs hs2 g3
        refine do_call Tryz.call125 (c_right ha3 fun pr hpr => retS_ret ⟨_, rfl, hc2.gs g3, ?_⟩)
        refine c_onM ho s1 s2 H1 H2 H3 r ((g0.trans g2).trans g3) (hc2.gs g3) hs3 hpr hr3 hr S.okr kr k2 q2 (by omega) fun q6 w6 g6 hs6 h6 => retS_ret ⟨_, rfl, (hc2.gs g3).gs g6, ?_⟩
        have G6 := (g2.trans g3).trans g6
        have h36 := h3.gs hs3 g6
        have ha6 := ha3.gs hs3 g6
        have hz6 := (hz2.gs g3 nz).gs g6 nz
        have hc6 := (hc2.gs g3).gs g6
        intro K48
        have hK48 : ∀ w' bx, Gs b w6 w' → IsSch c b w' → IsN w' q3 (goC c o f1 f2 it l (splitC c o k u).1) → IsN w' q6 (goC c o f1 f2 it r (splitC c o k u).2.2) →
            Blk w' bx #[.int .i64 (it (itC c (k, v, g)) Y isY).1.1, .int .i64 (it (itC c (k, v, g)) Y isY).1.2.1, .int .u64 (it (itC c (k, v, g)) Y isY).1.2.2] 114 → K48 (blk bx) (it (itC c (k, v, g)) Y isY).2 w' := by
          intro w' bx gg hs' hl' hr' hx'
          have hc' := hc6.gs gg
          cases hst : (it (itC c (k, v, g)) Y isY).2 with
          | true =>
            rw [hst] at h
            refine ifB_t rfl ⟨_, hc'.s.cell (i := 0) rfl rfl, _, hx'.cell (i := 0) (add_blk _ _) rfl, _, hx'.cell (i := 1) (add_blk _ _) rfl, _, hx'.cell (i := 2) (add_blk _ _) rfl, ?_⟩
            exact do_call Tryz.call106 (c_sjoin hs' hl' hr' pL.1.1 pR.1.1 (by have := pL.2; have := pR.2; omega) fun q7 w7 g7 hs7 h7 => retS_ret ⟨_, rfl, h _ _ ((G6.trans gg).trans g7) hs7 h7⟩)
          | false =>
            rw [hst] at h
            refine ifB_f rfl ⟨_, hc'.s.cell (i := 0) rfl rfl, ?_⟩
            exact do_call Tryz.call211 (c_join2 hs' hl' hr' pL.1.1 pR.1.1 (by have := pL.2; have := pR.2; omega) fun q7 w7 g7 hs7 h7 => retS_ret ⟨_, rfl, h _ _ ((G6.trans gg).trans g7) hs7 h7⟩)
        have dr := ext_drew w6
        have cC : ∀ w', Gs b w6 w' → CapsM w' b14 b16 b18 b36 b o (.func A1 X1 C1) (.func A2 X2 C2) (.func A3 X3 C3) T36 ∧ Blk w' bz #[.int .i64 Y.1, .int .i64 Y.2.1, .int .u64 Y.2.2] 114 := fun w' gg => ⟨hc6.gs gg, hz6.gs gg nz⟩
        refine ⟨⟨fun w' => CapsM w' b14 b16 b18 b36 b o (.func A1 X1 C1) (.func A2 X2 C2) (.func A3 X3 C3) T36 ∧ Blk w' bz #[.int .i64 Y.1, .int .i64 Y.2.1, .int .u64 Y.2.2] 114, cC _ (gs_of dr),
          _, _, _, fun w' q => q.1.way.cell (i := 2) (add_blk _ _) rfl, _, fun w' q => q.1.s.cell (i := 0) rfl rfl, _, fun w' q => q.2.cell (i := 0) (add_blk _ _) rfl, _, fun w' q => q.2.cell (i := 1) (add_blk _ _) rfl, _, fun w' q => q.2.cell (i := 2) (add_blk _ _) rfl, ⟨?_, ?_⟩⟩⟩
        · refine do_call Tryz.call213 (c_sitem (hs6.ext dr) (ha6.ext dr) fun w7 g7 hs7 => retS_ret ⟨_, _, _, rfl, cC _ ((gs_of dr).trans g7), ?_⟩)
          have G7 := (gs_of (b := b) dr).trans g7
          have hl7 := h36.gs hs6 G7
          have hr7 := h6.gs hs6 G7
          constructor
          · refine H3 (rootC c (.node l k v g r)) Y isY w7 _ (((g0.trans G6)).trans G7) fun w8 e8 => retS_ret ⟨_, _, _, _, rfl, cC _ (G7.trans (gs_of e8)), ⟨?_⟩⟩
            have ez := ext_alloc w8 (.cells #[.int .i64 0, .int .i64 0, .int .u64 0] 114)
            refine ⟨cC _ ((G7.trans (gs_of e8)).trans (gs_of ez)), ?_⟩
            refine do_st3 (blk_alloc w8 _ _) fun w9 hx9 g9 => ?_
            have e9 : Ext w8 w9 := ez.st g9 (Nat.le_refl _)
            have e79 := e8.trans e9
            exact hK48 w9 _ (G7.trans (gs_of e79)) (hs7.ext e79) (hl7.ext e79) (hr7.ext e79) hx9
          · refine ⟨?_⟩
            have ez := ext_alloc w7 (.cells #[.int .i64 0, .int .i64 0, .int .u64 0] 114)
            have hzz := blk_alloc w7 #[.int .i64 0, .int .i64 0, .int .u64 0] 114
            have nzz : w7.heap.size ≠ b := by have := hs7.lt; omega
            have Gz := G7.trans (gs_of ez)
            refine ⟨cC _ Gz, ?_⟩
            refine H3 (rootC c (.node l k v g r)) Y isY _ _ ((g0.trans G6).trans Gz) fun w8 e8 => retS_ret ⟨_, _, _, _, rfl, cC _ (Gz.trans (gs_of e8)), ?_⟩
            have e78 := ez.trans e8
            have hzz8 := hzz.ext e8
            refine do_st3 hzz8 fun w9 hx9 g9 => ?_
            exact hK48 w9 _ ((G7.trans (gs_of e78)).st g9 (World.grownBy.size G7)) ((hs7.ext e78).st g9 nzz) ((hl7.ext e78).st g9 hzz8 (by decide)) ((hr7.ext e78).st g9 hzz8 (by decide)) hx9
        · refine ⟨?_⟩
          have ez := ext_alloc w6.drew (.cells #[.int .i64 0, .int .i64 0, .int .u64 0] 114)
          have hzz := blk_alloc w6.drew #[.int .i64 0, .int .i64 0, .int .u64 0] 114
          have nzz : w6.drew.heap.size ≠ b := by have := (hs6.ext dr).lt; omega
          have E1 := dr.trans ez
          refine ⟨cC _ (gs_of E1), ?_⟩
          refine do_call Tryz.call213 (c_sitem (hs6.ext E1) (ha6.ext E1) fun w7 g7 hs7 => retS_ret ⟨_, _, _, rfl, cC _ ((gs_of E1).trans g7), ?_⟩)
          have G7 := (gs_of (b := b) E1).trans g7
          have hl7 := h36.gs hs6 G7
          have hr7 := h6.gs hs6 G7
          have hzz7 := hzz.gs g7 nzz
          refine H3 (rootC c (.node l k v g r)) Y isY w7 _ ((g0.trans G6).trans G7) fun w8 e8 => retS_ret ⟨_, _, _, _, rfl, cC _ (G7.trans (gs_of e8)), ?_⟩
          have hzz8 := hzz7.ext e8
          refine do_st3 hzz8 fun w9 hx9 g9 => ?_
          exact hK48 w9 _ ((G7.trans (gs_of e8)).st g9 dr.size) ((hs7.ext e8).st g9 nzz) ((hl7.ext e8).st g9 hzz8 (by decide)) ((hr7.ext e8).st g9 hzz8 (by decide)) hx9
      have d := ext_drew w
      have hcd := hc.gs (gs_of d)
      have hsd := hs.ext d
      refine ⟨⟨fun w' => CapsM w' b14 b16 b18 b36 b o (.func A1 X1 C1) (.func A2 X2 C2) (.func A3 X3 C3) T36, hcd, _, fun w' q => q.s.cell (i := 0) rfl rfl, _, fun w' q => q.o.cell (i := 0) rfl rfl, ⟨?_, ?_⟩⟩⟩
      · refine do_call Tryz.call108 (c_key (ha.ext d) fun w1 e1 => retS_ret ⟨_, rfl, hcd.gs (gs_of e1), ?_⟩)
        have e01 := d.trans e1
        have hs1 := hs.ext e01
        have hu1 := hu.ext e01
        constructor
        · refine do_call Tryz.call89 (c_split ho kk hs1 hu1 oku.1 hku (by omega) fun ql qr w2 g2 hs2 hl2 hr2 => retS_ret ⟨_, _, _, _, _, _, _, rfl, ⟨?_⟩⟩)
          rw [hY, hI]
          have G2 := (gs_of (b := b) e01).trans g2
          have ez := ext_alloc w2 (.cells #[.int .i64 0, .int .i64 0, .int .u64 0] 114)
          refine ⟨(hc.gs G2).gs (gs_of ez), ?_⟩
          refine do_st3 (blk_alloc w2 _ _) fun w3 hx3 g3 => ?_
          have e3 : Ext w2 w3 := ez.st g3 (Nat.le_refl _)
          have nz : w2.heap.size ≠ b := by have := hs2.lt; omega
          exact hK24 w3 _ ql qr (G2.trans (gs_of e3)) (hs2.ext e3) (hl2.ext e3) (hr2.ext e3) nz hx3
        · refine ⟨?_⟩
          have ez := ext_alloc w1 (.cells #[.int .i64 0, .int .i64 0, .int .u64 0] 114)
          have hz := blk_alloc w1 #[.int .i64 0, .int .i64 0, .int .u64 0] 114
          have nz : w1.heap.size ≠ b := by have := hs1.lt; omega
          have E1 := e01.trans ez
          refine ⟨hc.gs (gs_of E1), ?_⟩
          refine do_call Tryz.call89 (c_split ho kk (hs.ext E1) (hu.ext E1) oku.1 hku (by omega) fun ql qr w2 g2 hs2 hl2 hr2 => retS_ret ⟨_, _, _, _, _, _, _, rfl, ?_⟩)
          rw [hY, hI]
          have G2 := (gs_of (b := b) E1).trans g2
          refine do_st3 (hz.gs g2 nz) fun w3 hx3 g3 => ?_
          exact hK24 w3 _ ql qr (G2.st g3 e01.size) (hs2.st g3 nz) (hl2.st g3 (hz.gs g2 nz) (by decide)) (hr2.st g3 (hz.gs g2 nz) (by decide)) nz hx3
      · refine ⟨?_⟩
        have ez := ext_alloc w.drew (.cells #[.int .i64 0, .int .i64 0, .int .u64 0] 114)
        have hz := blk_alloc w.drew #[.int .i64 0, .int .i64 0, .int .u64 0] 114
        have nz : w.drew.heap.size ≠ b := by have := hsd.lt; omega
        have E1 := d.trans ez
        refine ⟨hc.gs (gs_of E1), ?_⟩
        refine do_call Tryz.call108 (c_key (ha.ext E1) fun w1 e1 => retS_ret ⟨_, rfl, hc.gs (gs_of (E1.trans e1)), ?_⟩)
        have E2 := E1.trans e1
        refine do_call Tryz.call89 (c_split ho kk (hs.ext E2) (hu.ext E2) oku.1 hku (by omega) fun ql qr w2 g2 hs2 hl2 hr2 => retS_ret ⟨_, _, _, _, _, _, _, rfl, ?_⟩)
        rw [hY, hI]
        have G2 := (gs_of (b := b) E2).trans g2
        have hz2 := (hz.ext e1).gs g2 nz
        refine do_st3 hz2 fun w3 hx3 g3 => ?_
        exact hK24 w3 _ ql qr (G2.st g3 d.size) (hs2.st g3 nz) (hl2.st g3 hz2 (by decide)) (hr2.st g3 hz2 (by decide)) nz hx3
end Go.Proofs.YtlddfgfmkapoiaaGreat

namespace Go.Proofs.YtlddfgfmkapoiaaGreat
open Go Go.Sh Go.RowKit

abbrev noneF : Value := .func (.func 159) #[] #[]
abbrev wholeF (b : Nat) : Value := .func (.func 162) #[.pointer (some (blk b))] #[]
abbrev aloneF : Value := .func (.func 163) #[] #[]
abbrev meetF (b6 : Nat) : Value := .func (.func 160) #[] #[.pointer (some (blk b6))]
theorem sideW_none (c : Int) (b : Nat) : SideW c b noneF fun _ => .nil := fun t p w R hs _ _ _ h => by
  refine do_call Tryz.call159 (sh159_ok _ ?_)
  unfold sh159
  exact h _ _ (gs_refl _ _) hs rfl
theorem sideW_whole (c : Int) (b : Nat) : SideW c b (wholeF b) (wholeC c) := fun t p w R hs ht ok hB h =>
  do_callf Tryz.call162 (by rfl) (c_swhole hs ht ok (by omega) h)
theorem itemW_alone (b : Nat) (w0 : World) : ItemW b w0 aloneF aloneI := fun x y is w R _ h => by
  refine do_call Tryz.call163 (sh163_ok _ _ _ _ _ _ _ ?_)
  unfold sh163
  refine ⟨⟨⟨?_⟩⟩⟩
  have e0 := ext_alloc w (.cells #[.int .i64 x.1, .int .i64 x.2.1, .int .u64 x.2.2] 114)
  have hx := blk_alloc w #[.int .i64 x.1, .int .i64 x.2.1, .int .u64 x.2.2] 114
  generalize w.heap.size = b8 at *
  generalize w.alloc (.cells #[.int .i64 x.1, .int .i64 x.2.1, .int .u64 x.2.2] 114) = w1 at *
  have e1 := ext_alloc w1 (.cells #[.int .i64 y.1, .int .i64 y.2.1, .int .u64 y.2.2] 114)
  generalize w1.alloc (.cells #[.int .i64 y.1, .int .i64 y.2.1, .int .u64 y.2.2] 114) = w2 at *
  have e2 := ext_alloc w2 (.cells #[.int .i64 0, .int .i64 0, .int .u64 0] 114)
  have hx3 := hx.ext (e1.trans e2)
  refine ⟨_, hx3.cell (i := 0) (add_blk _ _) rfl, _, hx3.cell (i := 1) (add_blk _ _) rfl, _, hx3.cell (i := 2) (add_blk _ _) rfl, ?_⟩
  refine do_st3 (blk_alloc w2 _ _) fun w4 h4 g4 => ?_
  have e4 : Ext w2 w4 := e2.st g4 (Nat.le_refl _)
  exact ⟨_, h4.cell (i := 0) (add_blk _ _) rfl, _, h4.cell (i := 1) (add_blk _ _) rfl, _, h4.cell (i := 2) (add_blk _ _) rfl, h _ ((e0.trans e1).trans e4)⟩
theorem itemW_meet {b b6 : Nat} {p : Int} {w0 : World} (hp : may p = true) (hb : Blk w0 b6 #[.int .u8 p] 5) (hne : b6 ≠ b) : ItemW b w0 (meetF b6) (meetI p) := fun x y is w R g h => by
  refine do_callc Tryz.call160 (by rfl) (sh160_ok _ _ _ _ _ _ _ _ ?_)
  unfold sh160
  have hb := hb.gs g hne
  refine ⟨⟨⟨?_⟩⟩⟩
  have e0 := ext_alloc w (.cells #[.int .i64 x.1, .int .i64 x.2.1, .int .u64 x.2.2] 114)
  have hx := blk_alloc w #[.int .i64 x.1, .int .i64 x.2.1, .int .u64 x.2.2] 114
  generalize hb9 : w.heap.size = b9 at *
  generalize w.alloc (.cells #[.int .i64 x.1, .int .i64 x.2.1, .int .u64 x.2.2] 114) = w1 at *
  have e1 := ext_alloc w1 (.cells #[.int .i64 y.1, .int .i64 y.2.1, .int .u64 y.2.2] 114)
  have hy := blk_alloc w1 #[.int .i64 y.1, .int .i64 y.2.1, .int .u64 y.2.2] 114
  generalize w1.heap.size = b11 at *
  generalize w1.alloc (.cells #[.int .i64 y.1, .int .i64 y.2.1, .int .u64 y.2.2] 114) = w2 at *
  have e2 := ext_alloc w2 (.cells #[.int .i64 0, .int .i64 0, .int .u64 0] 114)
  have hz := blk_alloc w2 #[.int .i64 0, .int .i64 0, .int .u64 0] 114
  have hx2 := hx.ext e1
  have h9 : b9 < w2.heap.size := hx2.lt
  generalize hb13 : w2.heap.size = b13 at *
  generalize w2.alloc (.cells #[.int .i64 0, .int .i64 0, .int .u64 0] 114) = w3 at *
  have E3 := (e0.trans e1).trans e2
  refine ⟨_, (hb.ext E3).cell (i := 0) rfl rfl, _, (hx2.ext e2).cell (i := 1) (add_blk _ _) rfl, _, (hy.ext e2).cell (i := 1) (add_blk _ _) rfl, ?_⟩
  refine do_call Tryz.call154 (c_comb fun w4 e4 => retS_ret ⟨_, _, rfl, ?_⟩)
  rw [hp]
  refine do_st ((hx2.ext e2).ext e4) (i := 1) (by rw [add_zero']; exact add_blk _ _) (by simp) fun w5 h5 g5 => ?_
  have h5 : Blk w5 b9 #[.int .i64 x.1, .int .i64 (comb p x.2.1 y.2.1), .int .u64 x.2.2] 114 := h5
  refine ⟨_, h5.cell (i := 0) (add_blk _ _) rfl, _, h5.cell (i := 1) (add_blk _ _) rfl, _, h5.cell (i := 2) (add_blk _ _) rfl, ?_⟩
  refine do_st3 ((hz.ext e4).grown g5 (ne_some (by omega))) fun w6 h6 g6 => ?_
  exact ⟨_, h6.cell (i := 0) (add_blk _ _) rfl, _, h6.cell (i := 1) (add_blk _ _) rfl, _, h6.cell (i := 2) (add_blk _ _) rfl, h _ (((E3.trans e4).st g5 (by omega)).st g6 (by omega))⟩
set_option maxRecDepth 20000 in
set_option maxHeartbeats 1600000 in
theorem c_goes {c o : Int} {b : Nat} {A1 A2 A3 : Fn} {X1 X2 X3 C1 C2 C3 : Array Value} {f1 f2 : Tr → Tr} {it : It → It → Bool → It × Bool} (ho : isO o = true) (s1 : Side c f1) (s2 : Side c f2) {w : World}
    (H1 : SideW c b (.func A1 X1 C1) f1) (H2 : SideW c b (.func A2 X2 C2) f2) (H3 : ItemW b w (.func A3 X3 C3) it) {a u : Tr} {pa pb : Option Addr} {R : Ending → World → Prop} (hs : IsSch c b w) (ha : IsN w pa a) (hu : IsN w pb u) (oa : OkU c o a) (ou : OkU c o u) (hB : a.size + u.size + 10 ≤ BIG)
    (h : ∀ q w', Gs b w w' → IsSch c b w' → IsN w' q (goC c o f1 f2 it a u) → R (.returned (.tuple #[.pointer q, .int .i64 0])) w') :
    Calls Tryz.prog 161 #[.agg #[.func A1 X1 C1, .func A2 X2 C2, .func A3 X3 C3], .pointer (some (blk b)), .int .u8 o, .pointer pa, .pointer pb] w R := by
  refine sh161_ok _ _ _ _ _ _ _ _ _ _ _ _ _ ?_
  unfold sh161
  refine ⟨⟨⟨?_⟩⟩⟩
  have hlt := hs.lt
  have e0 := ext_alloc w (.cells #[.func A1 X1 C1, .func A2 X2 C2, .func A3 X3 C3] 198)
  have h14 := blk_alloc w #[.func A1 X1 C1, .func A2 X2 C2, .func A3 X3 C3] 198
  have n14 : w.heap.size ≠ b := by omega
  have k14 : w.heap.size ≤ w.heap.size := Nat.le_refl _
  generalize hb14 : w.heap.size = b14 at h14 n14 k14 ⊢
  generalize w.alloc (.cells #[.func A1 X1 C1, .func A2 X2 C2, .func A3 X3 C3] 198) = w1 at *
  have l1 := h14.lt
  have e1 := ext_alloc w1 (.cells #[.pointer (some (blk b))] 25)
  have h16 := blk_alloc w1 #[.pointer (some (blk b))] 25
  have n16 : w1.heap.size ≠ b := by omega
  generalize w1.heap.size = b16 at *
  generalize w1.alloc (.cells #[.pointer (some (blk b))] 25) = w2 at *
  have l2 := (h14.ext e1).lt
  have e2 := ext_alloc w2 (.cells #[.int .u8 o] 5)
  have h18 := blk_alloc w2 #[.int .u8 o] 5
  have n18 : w2.heap.size ≠ b := by omega
  generalize w2.heap.size = b18 at *
  generalize w2.alloc (.cells #[.int .u8 o] 5) = w3 at *
  have E3 := (e0.trans e1).trans e2
  refine ⟨_, (h16.ext e2).cell (i := 0) rfl rfl, _, h18.cell (i := 0) rfl rfl, ?_⟩
  have hs3 := hs.ext E3
  refine do_call Tryz.call89 (c_split ho ⟨by decide, by decide⟩ hs3 (t := .nil) rfl (OkM.nil hs.1).1 trivial (by decide) fun ql qr w4 g4 hs4 _ _ => retS_ret ⟨_, _, _, _, _, _, _, rfl, ⟨?_⟩⟩)
  refine do_st3 (blk_alloc w4 _ _) fun w5 h5 g5 => ?_
  have e5 : Ext w4 w5 := (ext_alloc w4 _).st g5 (Nat.le_refl _)
  have G5 := g4.trans (gs_of (b := b) e5)
  have hs5 := hs4.ext e5
  refine ifB_f rfl ⟨?_⟩
  have n36 : w5.heap.size ≠ b := by have := hs5.lt; omega
  refine do_st (blk_alloc w5 _ _) (i := 0) (add_blk _ _) (by simp) fun w6 h36 g6 => ?_
  have e6 : Ext w5 w6 := (ext_alloc w5 _).st g6 (Nat.le_refl _)
  have G6 := G5.trans (gs_of (b := b) e6)
  refine ⟨_, _, _, h36.cell (i := 0) rfl rfl, ?_⟩
  have caps : CapsM w6 b14 b16 b18 w5.heap.size b o (.func A1 X1 C1) (.func A2 X2 C2) (.func A3 X3 C3) 286 :=
    ⟨(h14.ext (e1.trans e2)).gs G6 n14, (h16.ext e2).gs G6 n16, h18.gs G6 n18, h36, n14, n16, n18, n36⟩
  have GW := (gs_of (b := b) E3).trans G6
  exact c_onM ho s1 s2 H1 H2 H3 a GW caps (hs5.ext e6) (ha.gs hs GW) (hu.gs hs GW) oa.ok.1 ou.ok oa.k ou.k ou.asc hB fun q w7 g7 hs7 h7 => retS_ret ⟨_, rfl, h _ _ (GW.trans g7) hs7 h7⟩
section
variable {c o : Int} {b : Nat} {a u : Tr} {pa pb : Option Addr} {w : World} {R : Ending → World → Prop}
theorem c_less (ho : isO o = true) (hs : IsSch c b w) (ha : IsN w pa a) (hu : IsN w pb u) (oa : OkU c o a) (ou : OkU c o u) (hB : a.size + u.size + 10 ≤ BIG)
    (h : ∀ q w', Gs b w w' → IsSch c b w' → IsN w' q (lessC c o a u) → R (.returned (.tuple #[.pointer q, .int .i64 0])) w') : Calls Tryz.prog 88 #[.pointer (some (blk b)), .int .u8 o, .pointer pa, .pointer pb] w R := by
  refine sh88_ok _ _ _ _ ?_
  unfold sh88
  exact do_call Tryz.call161 (c_goes ho (side_whole c) (side_none hs.1) (sideW_whole c b) (sideW_none c b) (itemW_alone b w) hs ha hu oa ou hB fun q w1 g1 hs1 h1 => retS_ret ⟨_, _, rfl, h _ _ g1 hs1 h1⟩)
theorem c_meet {p : Int} (ho : isO o = true) (hp : may p = true) (hs : IsSch c b w) (ha : IsN w pa a) (hu : IsN w pb u) (oa : OkU c o a) (ou : OkU c o u) (hB : a.size + u.size + 10 ≤ BIG)
    (h : ∀ q w', Gs b w w' → IsSch c b w' → IsN w' q (meetC c o p a u) → R (.returned (.tuple #[.pointer q, .int .i64 0])) w') : Calls Tryz.prog 87 #[.pointer (some (blk b)), .int .u8 o, .int .u8 p, .pointer pa, .pointer pb] w R := by
  refine sh87_ok _ _ _ _ _ ?_
  unfold sh87
  refine ⟨?_⟩
  have e0 := ext_alloc w (.cells #[.int .u8 p] 5)
  have h6 := blk_alloc w #[.int .u8 p] 5
  have n6 : w.heap.size ≠ b := by have := hs.lt; omega
  generalize w.heap.size = b6 at *
  generalize w.alloc (.cells #[.int .u8 p] 5) = w1 at *
  refine ⟨_, h6.cell (i := 0) rfl rfl, ?_⟩
  refine do_call Tryz.call151 (c_fmay fun w2 e2 => retS_ret ⟨_, rfl, ?_⟩)
  rw [hp]
  have E2 := e0.trans e2
  exact ifB_f rfl (do_call Tryz.call161 (c_goes ho (side_none hs.1) (side_none hs.1) (sideW_none c b) (sideW_none c b) (itemW_meet hp (h6.ext e2) n6) (hs.ext E2) (ha.ext E2) (hu.ext E2) oa ou hB fun q w3 g3 hs3 h3 => retS_ret ⟨_, _, rfl, h _ _ ((gs_of E2).trans g3) hs3 h3⟩))
end
end Go.Proofs.YtlddfgfmkapoiaaGreat

namespace Go.Proofs.YtlddfgfmkapoiaaGreat
open Go Go.Sh Go.RowKit

end Go.Proofs.YtlddfgfmkapoiaaGreat

namespace Go.Proofs.YtlddfgfmkapoiaaGreat
open Go Go.Sh Go.RowKit

theorem inK_of {c : Int} {t : Tr} {l : List It} (e : itsC c t = l) (h : ∀ x ∈ l, In x.1) : InK t := (inK_its (c := c)).2 (by rw [e]; exact h)
/-- two trees that a statement takes -/
structure Law24T (code o : Int) (l : List Bd) (n : Nat) (t : BT) : Prop where
  n4 : n ≤ 400
  wf : t.wf = true
  l : l = t.beads
  fit : FitB t
  ok : OkM code t.tr
  asc : asc o (itsC code t.tr)
theorem Law24T.u {code o : Int} {l : List Bd} {n : Nat} {t : BT} (h : Law24T code o l n t) : OkU code o t.tr := ⟨h.ok, h.asc, h.fit.inK⟩
end Go.Proofs.YtlddfgfmkapoiaaGreat

namespace Go.Proofs.YtlddfgfmkapoiaaGreat
open Go Go.Sh Go.RowKit

theorem tagL_asc {c o : Int} {ds : List Int} {S : List Pr} (h : mayR o S = true) : asc o (tagL c ds S) := by
  have hc := mayR_chain h
  unfold asc
  have e : (tagL c ds S).map (·.1) = S.map (·.1) := by
    have := congrArg (List.map (·.1)) (tagL_prs c ds S)
    rw [List.map_map] at this
    exact this
  rw [e]
  exact chain_pw.1 hc
theorem tagL_inI {c : Int} {ds : List Int} {S : List Pr} (h : InP S) : InI (tagL c ds S) := fun x hx => by
  obtain ⟨y, hy, e⟩ := (tagL_key (k := x.1)).1 ⟨x, hx, rfl⟩
  rw [← e]; exact (h y hy).1
theorem bld_u {c o : Int} {ds : List Int} {S : List Pr} (hs : isS c = true) (hm : mayR o S = true) (hI : InP S) : OkU c o (bldC c (tagL c ds S)) :=
  ⟨(bldC_ok hs _).1, by rw [bldC_its hs]; exact tagL_asc hm, (inK_its (c := c)).2 (by rw [bldC_its hs]; exact tagL_inI hI)⟩
theorem gs_gd {b : Nat} {w w' : World} (g : Gd [b] w w') : Gs b w w' := ⟨g.1, g.2.1, g.2.2.1, g.2.2.2.1, fun k hk hne => g.2.2.2.2 k hk fun hm => hne (by simp at hm; rw [hm])⟩
theorem gs_none {b : Nat} {w w' : World} (g : Gd (b :: blksD none) w w') : Gs b w w' := gs_gd g
theorem row_gd2 {S : List Nat} {w w' : World} {base M ty s n : Nat} {v : Value} {xs : List Value} (h : w.ownsRow base ty s v n xs) (hM : ∀ k, v.ownBlock = some k → k < M) (g : Gd S w w') (hb : ∀ k ∈ S, k < base ∨ M ≤ k) : w'.ownsRow base ty s v n xs := by
  refine ⟨h.1, ?_⟩
  rcases h.2 with q | ⟨b, cap, cur, hv, hbb, hblk, rest⟩
  · exact .inl q
  · refine .inr ⟨b, cap, cur, hv, hbb, ?_, rest⟩
    have hlt : b < w.heap.size := (World.ownsRow.lt h b (by rw [hv]; rfl)).2
    have hbM := hM b (by rw [hv]; rfl)
    rw [g.2.2.2.2 b hlt fun hm => by have := hb b hm; omega]
    exact hblk
theorem oth_sd {c : Int} {b : Nat} {p : Option Addr} {D : Option (Nat × Nat × Nat × Nat)} {ds : List Int} {w : World} (hs : IsSch c b w) (hd : IsD p D ds w) : Oth (b :: blksD D) w := fun k hk => by
  rcases List.mem_cons.1 hk with rfl | hk
  · exact hs.oth
  · exact hd.oth k hk
section
variable {c o po : Int} {b : Nat} {t : Tr} {pt : Option Addr} {w : World} {R : Ending → World → Prop}
theorem c_puts {p : Option Addr} {D : Option (Nat × Nat × Nat × Nat)} {ds : List Int} {l : List Pr} {q : Option Addr} {n cp : Nat} (ho : isO o = true) (hp : may po = true) (hs : IsSch c b w) (hd : IsD p D ds w) (hN : topD D ≤ w.heap.size)
    (ht : IsN w pt t) (ot : OkU c o t) (hz : t.size ≤ 1000000) (hl : Cs w q (prs l)) (hn : l.length = n) (hB : n ≤ 1000000) (hI : InP l)
    (h : ∀ qt w', Gd (b :: blksD D) w w' → IsSch c b w' → IsD p D (restL c ds (sortL o po l)) w' → IsN w' qt (unionC c o po t (bldC c (tagL c ds (sortL o po l)))) → R (.returned (.tuple #[.pointer qt, .int .i64 0])) w') :
    Calls Tryz.prog 41 #[.pointer (some (blk b)), .int .u8 o, .int .u8 po, .pointer p, .pointer pt, .slice q n cp] w R := by
  refine sh41_ok _ _ _ _ _ _ _ _ ?_
  unfold sh41
  have hm := sortL_may ho hp hI
  have U := bld_u (ds := ds) hs.1 hm.1 hm.2.1
  have Z := bldC_size hs.1 (tagL c ds (sortL o po l))
  rw [tagL_len] at Z
  refine do_call Tryz.call23 (c_bof ho hp hs hd hN hl hn hB hI fun qu w1 g1 hs1 hd1 hu1 => retS_ret ⟨_, _, rfl, ifB_f rfl ?_⟩)
  have ht1 := ht.gd (oth_sd hs hd) g1
  refine do_call Tryz.call86 (c_union ho hp hs1 ht1 hu1 ot.ok.1 U.ok ot.k U.k U.asc (by simp only [BIG]; omega) fun q2 w2 g2 hs2 h2 => retS_ret ⟨_, _, rfl, ?_⟩)
  exact h q2 w2 (g1.trans (gd_gs g2 (by simp))) hs2 (hd1.gs hs1 g2) h2
theorem c_puts_no {sp p : Option Addr} {l : List Pr} {q : Option Addr} {n cp : Nat} (hl : Cs w q (prs l)) (hn : l.length = n) (hB : n ≤ 1000000) (hI : InP l) (hno : sp = none ∨ (isO o && may po) = false)
    (h : ∀ w', Ext w w' → R (.returned (.tuple #[.pointer none, .int .i64 2])) w') : Calls Tryz.prog 41 #[.pointer sp, .int .u8 o, .int .u8 po, .pointer p, .pointer pt, .slice q n cp] w R := by
  refine sh41_ok _ _ _ _ _ _ _ _ ?_
  unfold sh41
  exact do_call Tryz.call23 (c_bof_no hl hn hB hI hno fun w1 e1 => retS_ret ⟨_, _, rfl, ifB_t rfl (h _ e1)⟩)
set_option maxRecDepth 20000 in
theorem c_sideof {f : Fn} {fx fc : Array Value} {keys : List Int} {q : Option Addr} {n cp : Nat} (ho : isO o = true) (hs : IsSch c b w) (ht : IsN w pt t) (hl : Cs w q (ints keys)) (hn : keys.length = n) (hB : n ≤ 1000000) (hI : ∀ k ∈ keys, In k)
    (k : ∀ pu w', Gs b w w' → IsSch c b w' → IsN w' pt t → IsN w' pu (bldC c (tagL c [] (sortL o 1 (zeroP keys)))) → doCall Tryz.prog (.func f fx fc) #[.pointer (some (blk b)), .int .u8 o, .pointer pt, .pointer pu] w' (retS (fun v21 w22 => ∃ (x19 : Option Addr), ∃ (x20 : Int), v21 = (.tuple #[.pointer x19, .int .i64 x20] : Value) ∧ (
 R (.returned (.tuple #[.pointer x19, .int .i64 x20])) w22)) (fun ch w => Kfn R ch [] w))) :
    Calls Tryz.prog 111 #[.agg #[.func f fx fc], .pointer (some (blk b)), .int .u8 o, .pointer pt, .slice q n cp] w R := by
  refine sh111_ok _ _ _ _ _ _ _ _ _ ?_
  unfold sh111
  refine ⟨?_⟩
  have e0 := ext_alloc w (.cells #[.func f fx fc] 155)
  have h0 := blk_alloc w #[.func f fx fc] 155
  have hlt := hs.lt
  have nb : w.heap.size ≠ b := by omega
  refine do_call Tryz.call24 (c_bkeys ho (hs.ext e0) (isD_nil _) (Nat.zero_le _) (hl.ext e0) hn hB hI fun pu w1 g1 hs1 _ hu1 => retS_ret ⟨_, _, rfl, ifB_f rfl ?_⟩)
  have g1 := gs_none g1
  refine ⟨_, _, _, (h0.gs g1 nb).cell (i := 0) (add_blk _ _) rfl, ?_⟩
  exact k pu w1 ((gs_of e0).trans g1) hs1 ((ht.ext e0).gs (hs.ext e0) g1) hu1
theorem c_drops {keys : List Int} {q : Option Addr} {n cp : Nat} (ho : isO o = true) (hs : IsSch c b w) (ht : IsN w pt t) (ot : OkU c o t) (hz : t.size ≤ 1000000) (hl : Cs w q (ints keys)) (hn : keys.length = n) (hB : n ≤ 1000000) (hI : ∀ k ∈ keys, In k)
    (h : ∀ qt w', Gs b w w' → IsSch c b w' → IsN w' qt (lessC c o t (bldC c (tagL c [] (sortL o 1 (zeroP keys))))) → R (.returned (.tuple #[.pointer qt, .int .i64 0])) w') :
    Calls Tryz.prog 42 #[.pointer (some (blk b)), .int .u8 o, .pointer pt, .slice q n cp] w R := by
  refine sh42_ok _ _ _ _ _ _ ?_
  unfold sh42
  have hm := sortL_may (p := 1) ho (by decide) (zeroP_in hI)
  have U := bld_u (ds := []) hs.1 hm.1 hm.2.1
  have Z := bldC_size hs.1 (tagL c [] (sortL o 1 (zeroP keys)))
  rw [tagL_len] at Z
  have hzl := zeroP_len keys
  refine do_call Tryz.call111 (c_sideof ho hs ht hl hn hB hI fun pu w1 g1 hs1 ht1 hu1 => ?_)
  refine do_call Tryz.call88 (c_less ho hs1 ht1 hu1 ot U (by simp only [BIG]; omega) fun q2 w2 g2 hs2 h2 => retS_ret ⟨_, _, rfl, retS_ret ⟨_, _, rfl, ?_⟩⟩)
  exact h q2 w2 (g1.trans g2) hs2 h2
theorem c_holds {keys : List Int} {q : Option Addr} {n cp : Nat} (ho : isO o = true) (hs : IsSch c b w) (ht : IsN w pt t) (ot : OkU c o t) (hz : t.size ≤ 1000000) (hl : Cs w q (ints keys)) (hn : keys.length = n) (hB : n ≤ 1000000) (hI : ∀ k ∈ keys, In k)
    (h : ∀ qt w', Gs b w w' → IsSch c b w' → IsN w' qt (meetC c o 1 t (bldC c (tagL c [] (sortL o 1 (zeroP keys))))) → R (.returned (.tuple #[.pointer qt, .int .i64 0])) w') :
    Calls Tryz.prog 43 #[.pointer (some (blk b)), .int .u8 o, .pointer pt, .slice q n cp] w R := by
  refine sh43_ok _ _ _ _ _ _ ?_
  unfold sh43
  have hm := sortL_may (p := 1) ho (by decide) (zeroP_in hI)
  have U := bld_u (ds := []) hs.1 hm.1 hm.2.1
  have Z := bldC_size hs.1 (tagL c [] (sortL o 1 (zeroP keys)))
  rw [tagL_len] at Z
  have hzl := zeroP_len keys
  refine do_call Tryz.call111 (c_sideof ho hs ht hl hn hB hI fun pu w1 g1 hs1 ht1 hu1 => ?_)
  refine do_call Tryz.call112 (sh112_ok _ _ _ _ ?_)
  unfold sh112
  refine do_call Tryz.call87 (c_meet ho (by decide) hs1 ht1 hu1 ot U (by simp only [BIG]; omega) fun q2 w2 g2 hs2 h2 => retS_ret ⟨_, _, rfl, retS_ret ⟨_, _, rfl, retS_ret ⟨_, _, rfl, ?_⟩⟩⟩)
  exact h q2 w2 (g1.trans g2) hs2 h2
theorem c_sideof_no {f : Fn} {fx fc : Array Value} {sp : Option Addr} {keys : List Int} {q : Option Addr} {n cp : Nat} (hl : Cs w q (ints keys)) (hn : keys.length = n) (hB : n ≤ 1000000) (hI : ∀ k ∈ keys, In k) (hno : sp = none ∨ isO o = false)
    (h : ∀ w', Ext w w' → R (.returned (.tuple #[.pointer none, .int .i64 2])) w') : Calls Tryz.prog 111 #[.agg #[.func f fx fc], .pointer sp, .int .u8 o, .pointer pt, .slice q n cp] w R := by
  refine sh111_ok _ _ _ _ _ _ _ _ _ ?_
  unfold sh111
  refine ⟨?_⟩
  have e0 := ext_alloc w (.cells #[.func f fx fc] 155)
  exact do_call Tryz.call24 (c_bkeys_no (hl.ext e0) hn hB hI hno fun w1 e1 => retS_ret ⟨_, _, rfl, ifB_t rfl (h _ (e0.trans e1))⟩)
theorem c_drops_no {sp : Option Addr} {keys : List Int} {q : Option Addr} {n cp : Nat} (hl : Cs w q (ints keys)) (hn : keys.length = n) (hB : n ≤ 1000000) (hI : ∀ k ∈ keys, In k) (hno : sp = none ∨ isO o = false)
    (h : ∀ w', Ext w w' → R (.returned (.tuple #[.pointer none, .int .i64 2])) w') : Calls Tryz.prog 42 #[.pointer sp, .int .u8 o, .pointer pt, .slice q n cp] w R := by
  refine sh42_ok _ _ _ _ _ _ ?_
  unfold sh42
  exact do_call Tryz.call111 (c_sideof_no hl hn hB hI hno fun w1 e1 => retS_ret ⟨_, _, rfl, h _ e1⟩)
theorem c_holds_no {sp : Option Addr} {keys : List Int} {q : Option Addr} {n cp : Nat} (hl : Cs w q (ints keys)) (hn : keys.length = n) (hB : n ≤ 1000000) (hI : ∀ k ∈ keys, In k) (hno : sp = none ∨ isO o = false)
    (h : ∀ w', Ext w w' → R (.returned (.tuple #[.pointer none, .int .i64 2])) w') : Calls Tryz.prog 43 #[.pointer sp, .int .u8 o, .pointer pt, .slice q n cp] w R := by
  refine sh43_ok _ _ _ _ _ _ ?_
  unfold sh43
  exact do_call Tryz.call111 (c_sideof_no hl hn hB hI hno fun w1 e1 => retS_ret ⟨_, _, rfl, h _ e1⟩)
end
/-! ### the document's -/
theorem c_r31has {keys : List Int} {k : Int} {q : Option Addr} {n cp : Nat} {w : World} {R : Ending → World → Prop} (hl : Cs w q (ints keys)) (hn : keys.length = n) (hB : n ≤ 1000000) (h : R (.returned (.bool (keys.contains k))) w) :
    Calls Tryz.prog 114 #[.slice q n cp, .int .i64 k] w R := by
  refine sh114_ok _ _ _ _ ?_
  unfold sh114
  refine ⟨fun vs w' => ∃ i : Nat, vs = [.int .i64 i] ∧ i ≤ n ∧ w' = w ∧ (keys.take i).contains k = false, fun vs _ => n - (intOf (vs.getD 0 undef)).toNat, ⟨0, rfl, by omega, rfl, by simp⟩, ?_⟩
  rintro i _ w1 ⟨m, hv, hm, rfl, hf⟩
  simp only [List.cons.injEq, Value.int.injEq, true_and, and_true] at hv
  subst hv
  refine ifB_intro (fun hlt => ?_) fun hge => ?_
  · have hlt : m < n := by have := of_decide_eq_true hlt; omega
    have hx : keys.take (m + 1) = keys.take m ++ [keys[m]'(by omega)] := (List.take_append_getElem (by omega)).symm
    refine ix_int hl hn (by omega) (by omega) fun a ha hc => ⟨keys[m]'(by omega), by rw [hc, Int.toNat_natCast, List.getD_eq_getElem?_getD, List.getElem?_eq_getElem (show m < keys.length by omega)]; rfl, ?_⟩
    refine ifB_intro (fun he => ?_) fun hne => ?_
    · have he : keys[m]'(by omega) = k := by simpa using he
      have : keys.contains k = true := by rw [← he]; simp
      rw [this] at h; exact h
    · have hne : keys[m]'(by omega) ≠ k := by simpa using hne
      refine ⟨⟨m + 1, by rw [wrap_succ hlt (by omega)], by omega, rfl, ?_⟩, by rw [wrap_succ hlt (by omega)]; simp [intOf]; omega⟩
      rw [hx]
      rw [List.contains_eq_any_beq] at hf ⊢
      rw [List.any_append, hf]
      simpa using fun e : k = keys[m]'(by omega) => hne e.symm
  · have hge : m = n := by have := of_decide_eq_false hge; omega
    subst hge
    rw [List.take_of_length_le (by omega)] at hf
    rw [hf] at h; exact h
theorem keepL_take {l : List It} {keys : List Int} {are : Bool} {i : Nat} (hi : i < l.length) : keepL (l.take (i + 1)) keys are = keepL (l.take i) keys are ++ (if keys.contains l[i].1 == are then [l[i]] else []) := by
  unfold keepL; exact take_filt hi
theorem keepL_len (l : List It) (keys : List Int) (are : Bool) : (keepL l keys are).length ≤ l.length := List.length_filter_le ..
theorem c_r31keep {l : List It} {keys : List Int} {are : Bool} {q q' : Option Addr} {n cp n' cp' : Nat} {w : World} {R : Ending → World → Prop} (hl : Cs w q (its l)) (hn : l.length = n) (hB : n ≤ 1000000) (hk : Cs w q' (ints keys)) (hn' : keys.length = n') (hB' : n' ≤ 1000000)
    (h : ∀ p1 n1 c1 w', OwnI w' w.heap.size p1 n1 c1 (keepL l keys are) → Ext w w' → R (.returned (.slice p1 n1 c1)) w') : Calls Tryz.prog 45 #[.slice q n cp, .slice q' n' cp', .bool are] w R := by
  refine sh45_ok _ _ _ _ _ _ _ ?_
  unfold sh45
  refine ⟨fun vs w' => ∃ (i nn cc : Nat) (qq : Option Addr), vs = [.slice qq nn cc, .int .i64 i] ∧ i ≤ n ∧ Ext w w' ∧ OwnI w' w.heap.size qq nn cc (keepL (l.take i) keys are),
    fun vs _ => n - (intOf (vs.getD 1 undef)).toNat, ⟨0, 0, 0, none, rfl, by omega, ext_refl _, ownI_nil _ _⟩, ?_⟩
  rintro q2 n2 c2 x' _ w1 ⟨m, nn, cc, qq, hv, hm, e1, ho⟩
  simp only [List.cons.injEq, Value.slice.injEq, Value.int.injEq, true_and, and_true] at hv
  obtain ⟨⟨rfl, rfl, rfl⟩, rfl⟩ := hv
  refine ifB_intro (fun hlt => ?_) fun hge => ?_
  · have hlt : m < n := by have := of_decide_eq_true hlt; omega
    have hml : m < l.length := by omega
    intro K20
    have hlen := ownI_len ho
    have hll := keepL_len (l.take m) keys are
    rw [List.length_take] at hll
    refine ix_flat ecI_len (by omega) (hl.ext e1) hn rfl hlt fun a r _ => ⟨(l[m]).1, r 0 _ rfl, ?_⟩
    refine do_call Tryz.call114 (c_r31has (hk.ext e1) hn' hB' (retS_ret ⟨_, rfl, ?_⟩))
    have hmu : ∀ (a b c d : Nat) (p1 p2 : Option Addr), n - (intOf ((([.slice p1 a b, .int .i64 (IntKind.wrap .i64 ((m : Int) + 1))] : List Value)).getD 1 undef)).toNat < n - (intOf ((([.slice p2 c d, .int .i64 (m : Int)] : List Value)).getD 1 undef)).toNat := fun _ _ _ _ _ _ => by
      rw [wrap_succ hlt (by omega)]; simp [intOf]; omega
    refine ifB_intro (fun he => ?_) fun hne => ?_
    · refine ix_flat ecI_len (by omega) (hl.ext e1) hn rfl hlt fun a r _ => ⟨(l[m]).1, r 0 _ rfl, (l[m]).2.1, r 1 _ rfl, (l[m]).2.2, r 2 _ rfl, ?_⟩
      refine do_app1I (x := ((l[m]).1, (l[m]).2.1, (l[m]).2.2)) ho (by omega) e1.size fun q4 c4 w4 ho4 hx4 g4 hor => ⟨_, _, _, rfl, ?_⟩
      refine ⟨⟨m + 1, n2 + 1, c4, q4, by rw [wrap_succ hlt (by omega)], by omega, hx4 w e1 (Nat.le_refl _), ?_⟩, hmu _ _ _ _ _ _⟩
      rw [keepL_take hml, if_pos he]; exact ho4
    · refine ⟨⟨m + 1, n2, c2, q2, by rw [wrap_succ hlt (by omega)], by omega, e1, ?_⟩, hmu _ _ _ _ _ _⟩
      rw [keepL_take hml, if_neg (by rw [hne]; simp), List.append_nil]; exact ho
  · have hge : m = n := by have := of_decide_eq_false hge; omega
    subst hge
    rw [List.take_of_length_le (by omega)] at ho
    exact h _ _ _ _ ho e1
theorem c_r31puts {c o po : Int} {b M N : Nat} {ds : List Int} {L : List It} {l : List Pr} {q q' : Option Addr} {n cp n' cp' : Nat} {w : World} {R : Ending → World → Prop} (ho : isO o = true) (hp : may po = true) (hd : IsRd b M N ds w) (hN : N ≤ w.heap.size)
    (hL : ∀ w', Gs b w w' → Cs w' q' (its L)) (hn' : L.length = n') (hB' : n' ≤ 10000) (hLI : InI L) (hl : Cs w q (prs l)) (hn : l.length = n) (hB : n ≤ 10000) (hI : InP l)
    (h : ∀ p1 n1 c1 w', Gs b w w' → OwnI w' w.heap.size p1 n1 c1 (foldI o po L (tagL c ds (sortL o po l))) → R (.returned (.slice p1 n1 c1)) w') :
    Calls Tryz.prog 44 #[.int .u8 c, .int .u8 o, .int .u8 po, .pointer (some (blk b)), .slice q' n' cp', .slice q n cp] w R := by
  refine sh44_ok _ _ _ _ _ _ _ _ _ _ ?_
  unfold sh44
  have hm := sortL_may ho hp hI
  refine do_call Tryz.call25 (c_r27of ho hp hd hN hl hn (by omega) hI fun q1 n1 c1 w1 g1 hd1 o1 => retS_ret ⟨_, _, _, rfl, ?_⟩)
  have hlen := ownI_len o1
  rw [tagL_len] at hlen
  refine do_call Tryz.call113 (c_r28union (o := o) (p := po) (hL w1 g1) hn' (ownI_cs o1) (ownI_len o1) (by omega) hLI (tagL_inI hm.2.1) fun p8 n8 c8 w8 h8 e8 => retS_ret ⟨_, _, _, rfl, ?_⟩)
  exact h _ _ _ _ (g1.trans (gs_of e8)) (row_mono h8 g1.size)
/-! ### what the statement asks beside -/
theorem one_key {c : Int} {t : Tr} {x : It} (h : itsC c t = [x]) : t.key = x.1 := by
  cases t with
  | nil => cases h
  | node l k v g r =>
    rw [itsC_node] at h
    have hl : itsC c l = [] := by
      cases hq : itsC c l with
      | nil => rfl
      | cons a m =>
        rw [hq] at h
        have := congrArg List.length h
        simp at this
    rw [hl] at h
    simp only [List.nil_append, List.cons.injEq] at h
    rw [← h.1, itC_key]
    rfl
theorem sum_its {c : Int} {t : Tr} {l : List It} (h : itsC c t = l) : t.sum = IntKind.wrap .i64 ((l.map (·.2.1)).sum) := by rw [sum_tot, tot_its c, h]
set_option maxRecDepth 20000 in
set_option maxHeartbeats 1000000 in
theorem c_alive31 {w : World} {R : Ending → World → Prop} (h : ∀ w', Ext w w' → R (.returned (.bool true)) w') : Calls Tryz.prog 38 #[] w R := by
  refine sh38_ok ?_
  unfold sh38
  refine do_call Tryz.call15 (c_l22of (fun h0 => by cases h0) fun hsc b w1 e1 hbw hs1 => retS_ret ⟨_, _, rfl, ifB_f rfl ?_⟩)
  have hb : w.heap.size ≤ b := by omega
  have hS : ∀ k ∈ (b :: blksD none), w.heap.size ≤ k := fun k hk => by simp [blksD] at hk; omega
  have oN : OkP 4 Tr.nil := .nil hsc
  have j0 := joinC_ok oN oN ((1, 10, 4) : It)
  have z0 := joinC_size oN oN ((1, 10, 4) : It)
  refine do_call Tryz.call106 (c_sjoin hs1 (l := .nil) (r := .nil) rfl rfl oN oN (by decide) fun qt w2 g2 hs2 h2 => retS_ret ⟨_, rfl, ⟨?_⟩⟩)
  have E2 := Ext.gs e1 g2 hb
  generalize hT : joinC 4 .nil ((1 : Int), (10 : Int), (4 : Int)) .nil = T at *
  have iT : itsC 4 T = [(1, 10, 4)] := j0.2
  have zT : T.size = 1 := z0
  have kk : ∀ x ∈ [(1, 10, 4)], In (x : It).1 := fun x hx => by simp at hx; subst hx; exact ⟨by decide, by decide⟩
  have uT : OkU 4 1 T := ⟨j0.1, by rw [iT]; decide, inK_of iT kk⟩
  have iP : InP [((2 : Int), (5 : Int)), (1, 1), (2, 6)] := fun x hx => by
    simp at hx
    rcases hx with rfl | rfl | rfl <;> exact ⟨⟨by decide, by decide⟩, ⟨by decide, by decide⟩⟩
  have iK : ∀ k ∈ [(1 : Int), 7], In k := fun k hk => by
    simp at hk
    rcases hk with rfl | rfl <;> exact ⟨by decide, by decide⟩
  have hsort : sortL 1 3 [((2 : Int), (5 : Int)), (1, 1), (2, 6)] = [(1, 1), (2, 11)] := by decide +kernel
  have hmR := sortL_may (o := 1) (p := 3) (by decide) (by decide) iP
  have e3 := ext_alloc w2 (.cells #[.int .i64 2, .int .i64 5, .int .i64 1, .int .i64 1, .int .i64 2, .int .i64 6] 46)
  have c3 : Cs (w2.alloc (.cells #[.int .i64 2, .int .i64 5, .int .i64 1, .int .i64 1, .int .i64 2, .int .i64 6] 46)) (some (blk w2.heap.size)) (prs [((2 : Int), (5 : Int)), (1, 1), (2, 6)]) := cs_alloc w2 _ _
  generalize w2.alloc (.cells #[.int .i64 2, .int .i64 5, .int .i64 1, .int .i64 1, .int .i64 2, .int .i64 6] 46) = w3 at *
  have U := bld_u (c := 4) (o := 1) (ds := []) (by decide) hmR.1 hmR.2.1
  have I := bldC_its (c := 4) (ds := []) (l := sortL 1 3 [((2 : Int), (5 : Int)), (1, 1), (2, 6)]) (by decide)
  have Z := bldC_size (c := 4) (by decide) (tagL 4 [] (sortL 1 3 [((2 : Int), (5 : Int)), (1, 1), (2, 6)]))
  have P := uT.union (p := 3) U
  have V := unionC_ok (p := 3) uT.ok.1 U.ok uT.asc U.asc
  refine do_call Tryz.call41 (c_puts (by decide) (by decide) (hs2.ext e3) (isD_nil _) (Nat.zero_le _) (h2.ext e3) uT (by omega) c3 rfl (by omega) iP fun qa w4 g4 hs4 _ h4 => retS_ret ⟨_, _, rfl, ⟨?_⟩⟩)
  have E4 := Ext.gd (E2.trans e3) g4 hS
  rw [tagL_len, hsort] at Z
  rw [I, iT, hsort] at V
  have V : itsC 4 (unionC 4 1 3 T (bldC 4 (tagL 4 [] (sortL 1 3 [((2 : Int), (5 : Int)), (1, 1), (2, 6)])))) = [(1, 11, 4), (2, 11, mixK 2)] := V.trans rfl
  generalize hA : unionC 4 1 3 T (bldC 4 (tagL 4 [] (sortL 1 3 [((2 : Int), (5 : Int)), (1, 1), (2, 6)]))) = A at *
  have zA : A.size = 2 := by rw [← itsC_len 4, V]; rfl
  have uA : OkU 4 1 A := P.1
  have e5 := ext_alloc w4 (.cells #[.int .i64 1, .int .i64 7] 2)
  have c5 : Cs (w4.alloc (.cells #[.int .i64 1, .int .i64 7] 2)) (some (blk w4.heap.size)) (ints [1, 7]) := cs_alloc w4 _ _
  generalize w4.alloc (.cells #[.int .i64 1, .int .i64 7] 2) = w5 at *
  have hmK := sortL_may (o := 1) (p := 1) (by decide) (by decide) (zeroP_in iK)
  have UK := bld_u (c := 4) (o := 1) (ds := []) (by decide) hmK.1 hmK.2.1
  have IK := bldC_its (c := 4) (ds := []) (l := sortL 1 1 (zeroP [1, 7])) (by decide)
  have LO := lessC_ok (by decide) uA UK
  have MO := meetC_ok (p := 1) (by decide) uA UK
  rw [V, IK, less_keys (by decide) iK] at LO
  rw [V, IK, meet_keys (by decide) iK] at MO
  refine do_call Tryz.call42 (c_drops (by decide) (hs4.ext e5) (h4.ext e5) uA (by omega) c5 rfl (by omega) iK fun qb w6 g6 hs6 h6 => retS_ret ⟨_, _, rfl, ⟨?_⟩⟩)
  have E6 := Ext.gs (E4.trans e5) g6 hb
  have h46 := (h4.ext e5).gs (hs4.ext e5) g6
  have e7 := ext_alloc w6 (.cells #[.int .i64 1, .int .i64 7] 2)
  have c7 : Cs (w6.alloc (.cells #[.int .i64 1, .int .i64 7] 2)) (some (blk w6.heap.size)) (ints [1, 7]) := cs_alloc w6 _ _
  generalize w6.alloc (.cells #[.int .i64 1, .int .i64 7] 2) = w7 at *
  refine do_call Tryz.call43 (c_holds (by decide) (hs6.ext e7) (h46.ext e7) uA (by omega) c7 rfl (by omega) iK fun qc w8 g8 hs8 h8 => retS_ret ⟨_, _, rfl, ?_⟩)
  have E8 := Ext.gs (E6.trans e7) g8 hb
  have h48 := (h46.ext e7).gs (hs6.ext e7) g8
  have h68 := (h6.ext e7).gs (hs6.ext e7) g8
  generalize lessC 4 1 A (bldC 4 (tagL 4 [] (sortL 1 1 (zeroP [1, 7])))) = B at *
  generalize meetC 4 1 1 A (bldC 4 (tagL 4 [] (sortL 1 1 (zeroP [1, 7])))) = C at *
  have iB : itsC 4 B = [(2, 11, mixK 2)] := LO.2.1
  have iC : itsC 4 C = [(1, 11, 4)] := MO.2.1
  have zB : B.size = 1 := by rw [← itsC_len 4, iB]; rfl
  have zC : C.size = 1 := by rw [← itsC_len 4, iC]; rfl
  intro K28
  refine ifB_t rfl (ifB_t rfl (ifB_t rfl ?_))
  refine do_call Tryz.call91 (c_tsize h48 fun w9 e9 => retS_ret ⟨_, rfl, ifB_t (by rw [zA]; rfl) ?_⟩)
  refine do_call Tryz.call107 (c_tsum (h48.ext e9) fun w10 e10 => retS_ret ⟨_, rfl, ifB_t (by rw [sum_its V]; decide) ?_⟩)
  have e810 := e9.trans e10
  refine do_call Tryz.call91 (c_tsize (h68.ext e810) fun w11 e11 => retS_ret ⟨_, rfl, ifB_t (by rw [zB]; rfl) ?_⟩)
  have e811 := e810.trans e11
  refine do_call Tryz.call107 (c_tsum (h68.ext e811) fun w12 e12 => retS_ret ⟨_, rfl, ifB_t (by rw [sum_its iB]; decide) ?_⟩)
  have e812 := e811.trans e12
  refine do_call Tryz.call108 (c_key (h68.ext e812) fun w13 e13 => retS_ret ⟨_, rfl, ifB_t (by rw [one_key iB]; rfl) ⟨?_⟩⟩)
  have e813 := e812.trans e13
  have c14 := cs_alloc w13 #[.int .i64 1, .int .i64 11, .int .u64 4] 114
  have e14 := ext_alloc w13 (.cells #[.int .i64 1, .int .i64 11, .int .u64 4] 114)
  have e814 := e813.trans e14
  refine do_call Tryz.call27 (c_has (L := [(1, 11, 4)]) MO.1 (by rw [iC]; decide) (by rw [iC]; decide) (h8.ext e814) (by omega) c14 rfl fun w15 e15 => retS_ret ⟨_, rfl, h _ ((E8.trans e814).trans e15)⟩)
set_option maxRecDepth 20000 in
set_option maxHeartbeats 1000000 in
theorem c_nothing31 {o p : Int} {w : World} {R : Ending → World → Prop} (h : ∀ w', Ext w w' → R (.returned (.bool true)) w') : Calls Tryz.prog 37 #[.int .u8 o, .int .u8 p] w R := by
  refine sh37_ok _ _ ?_
  unfold sh37
  refine do_call Tryz.call15 (c_l22of (fun h0 => by cases h0) fun hsc b w1 e1 hbw hs1 => retS_ret ⟨_, _, rfl, ?_⟩)
  have hb : w.heap.size ≤ b := by omega
  have hS : ∀ k ∈ (b :: blksD none), w.heap.size ≤ k := fun k hk => by simp [blksD] at hk; omega
  have i1 : In 1 := ⟨by decide, by decide⟩
  have iK : ∀ k ∈ [(1 : Int)], In k := fun k hk => by simp at hk; subst hk; exact i1
  have okT : OkM 1 (.node .nil 1 1 1 .nil) := ⟨.inl ⟨rfl, trivial, trivial, by decide, by decide, by decide⟩, fun q => absurd q (by decide)⟩
  have hU : OkU 1 o (.node .nil 1 1 1 .nil) := ⟨okT, by show List.Pairwise _ [1]; simp, trivial, i1, trivial⟩
  have nP : InP [] := fun x hx => by cases hx
  refine do_call Tryz.call105 (c_new (l := .nil) (r := .nil) rfl rfl (by decide) fun bn w2 e2 h2 _ => retS_ret ⟨_, rfl, ?_⟩)
  refine do_call Tryz.call41 (c_puts_no (l := []) (cs_nil _ _) rfl (by omega) nP (.inl rfl) fun w3 e3 => retS_ret ⟨_, _, rfl, ?_⟩)
  refine do_call Tryz.call42 (c_drops_no (keys := []) (cs_nil _ _) rfl (by omega) (fun x hx => by cases hx) (.inl rfl) fun w4 e4 => retS_ret ⟨_, _, rfl, ⟨?_⟩⟩)
  have e24 := e3.trans e4
  have e5 := ext_alloc w4 (.cells #[.int .i64 1] 2)
  have c5 : Cs (w4.alloc (.cells #[.int .i64 1] 2)) (some (blk w4.heap.size)) (ints [1]) := cs_alloc w4 _ _
  generalize w4.alloc (.cells #[.int .i64 1] 2) = w5 at *
  have e25 := e24.trans e5
  have E5 := e1.trans (e2.trans e25)
  have hs5 := hs1.ext (e2.trans e25)
  have h5 := h2.ext e25
  cases ho : isO o with
  | true =>
    refine do_call Tryz.call43 (c_holds ho hs5 h5 hU (by decide) c5 rfl (by omega) iK fun qc w6 g6 hs6 _ => retS_ret ⟨_, _, rfl, ?_⟩)
    have E6 := Ext.gs E5 g6 hb
    have h6 := h5.gs hs5 g6
    cases hp : may p with
    | true =>
      refine do_call Tryz.call41 (c_puts (l := []) ho hp hs6 (isD_nil _) (Nat.zero_le _) h6 hU (by decide) (cs_nil _ _) rfl (by omega) nP fun qa w7 g7 hs7 _ _ => retS_ret ⟨_, _, rfl, ?_⟩)
      have E7 := Ext.gd E6 g7 hS
      intro K30
      refine ifB_f rfl (ifB_f rfl (ifB_f rfl ?_))
      simp -zeta -zetaHave only [K30]
      refine ifB_f rfl ?_
      intro K32 K44
      refine do_call Tryz.call16 (c_ris (retS_ret ⟨_, rfl, ?_⟩))
      rw [ho]
      refine ifB_f rfl ?_
      simp -zeta -zetaHave only [K32]
      intro K35
      refine do_call Tryz.call16 (c_ris (retS_ret ⟨_, rfl, ?_⟩))
      rw [ho]
      refine ifB_t rfl (do_call Tryz.call17 (c_rmay (retS_ret ⟨_, rfl, ?_⟩)))
      rw [hp]
      exact ifB_t rfl (h _ E7)
    | false =>
      refine do_call Tryz.call41 (c_puts_no (l := []) (cs_nil _ _) rfl (by omega) nP (.inr (by rw [ho, hp]; rfl)) fun w7 e7 => retS_ret ⟨_, _, rfl, ?_⟩)
      have E7 := E6.trans e7
      intro K30
      refine ifB_f rfl (ifB_f rfl (ifB_f rfl ?_))
      simp -zeta -zetaHave only [K30]
      refine ifB_f rfl ?_
      intro K32 K44
      refine do_call Tryz.call16 (c_ris (retS_ret ⟨_, rfl, ?_⟩))
      rw [ho]
      refine ifB_f rfl ?_
      simp -zeta -zetaHave only [K32]
      intro K35
      refine do_call Tryz.call16 (c_ris (retS_ret ⟨_, rfl, ?_⟩))
      rw [ho]
      refine ifB_t rfl (do_call Tryz.call17 (c_rmay (retS_ret ⟨_, rfl, ?_⟩)))
      rw [hp]
      exact ifB_f rfl (ifB_t rfl (h _ E7))
  | false =>
    refine do_call Tryz.call43 (c_holds_no c5 rfl (by omega) iK (.inr ho) fun w6 e6 => retS_ret ⟨_, _, rfl, ?_⟩)
    refine do_call Tryz.call41 (c_puts_no (l := []) (cs_nil _ _) rfl (by omega) nP (.inr (by rw [ho]; rfl)) fun w7 e7 => retS_ret ⟨_, _, rfl, ?_⟩)
    have E7 := (E5.trans e6).trans e7
    intro K30
    refine ifB_f rfl (ifB_f rfl (ifB_f rfl ?_))
    simp -zeta -zetaHave only [K30]
    refine ifB_f rfl ?_
    intro K32 K44
    refine do_call Tryz.call16 (c_ris (retS_ret ⟨_, rfl, ?_⟩))
    rw [ho]
    refine ifB_t rfl (ifB_f rfl ?_)
    simp -zeta -zetaHave only [K44]
    refine ifB_f rfl ?_
    simp -zeta -zetaHave only [K32]
    intro K35
    refine do_call Tryz.call16 (c_ris (retS_ret ⟨_, rfl, ?_⟩))
    rw [ho]
    exact ifB_f rfl (ifB_t rfl (h _ E7))
end Go.Proofs.YtlddfgfmkapoiaaGreat

