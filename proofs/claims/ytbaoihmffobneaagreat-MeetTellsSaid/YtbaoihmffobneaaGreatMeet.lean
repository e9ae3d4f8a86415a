/-
  meet: two trees gone down together.
-/
import Derived.Test.YtbaoihmffobneaaGreatMeetLaw2
import Derived.Test.YtbaoihmffobneaaGreatUni
namespace Go.Proofs.YtbaoihmffobneaaGreat
open Go Go.Sh Go.RowKit

/-- what the closure holds -/
structure CapsM (w : World) (b14 b16 b18 b36 b : Nat) (o : Int) (F1 : Value) (F2 : Value) (F3 : Value) (T36 : TypeId) : Prop where
  way : Blk w b14 #[F1, F2, F3] 104
  s : Blk w b16 #[.pointer (some (blk b))] 23
  o : Blk w b18 #[.int .u8 o] 5
  on : Blk w b36 #[.func (.func 106) #[] #[.pointer (some (blk b14)), .pointer (some (blk b16)), .pointer (some (blk b18)), .pointer (some (blk b36))]] T36
  ne : b14 ≠ b ∧ b16 ≠ b ∧ b18 ≠ b ∧ b36 ≠ b
theorem CapsM.gs {w w' : World} {b14 b16 b18 b36 b : Nat} {o : Int} {F1 F2 F3 : Value} {T36 : TypeId} (h : CapsM w b14 b16 b18 b36 b o F1 F2 F3 T36) (g : Gs b w w') : CapsM w' b14 b16 b18 b36 b o F1 F2 F3 T36 :=
  ⟨h.way.gs g h.ne.1, h.s.gs g h.ne.2.1, h.o.gs g h.ne.2.2.1, h.on.gs g h.ne.2.2.2, h.ne⟩
abbrev onM (b14 b16 b18 b36 : Nat) : Value := .func (.func 106) #[] #[.pointer (some (blk b14)), .pointer (some (blk b16)), .pointer (some (blk b18)), .pointer (some (blk b36))]
/-- a side of a way -/
def SideW (c : Int) (b : Nat) (F : Value) (f : Tr → Tr) : Prop := ∀ (t : Tr) (p : Option Addr) (w : World) (R : Ending → World → Prop), IsSch c b w → IsN w p t → OkP c t → t.size + 10 ≤ BIG → (∀ q w', Gs b w w' → IsSch c b w' → IsN w' q (f t) → R (.returned (.pointer q)) w') → doCall Tryz.prog F #[.pointer p] w R
def ItemW (b : Nat) (w0 : World) (F : Value) (it : It → It → Bool → It × Bool) : Prop := ∀ (x y : It) (is : Bool) (w : World) (R : Ending → World → Prop), Gs b w0 w → (∀ w', Ext w w' → R (.returned (.tuple #[agI (it x y is).1, .bool (it x y is).2])) w') → doCall Tryz.prog F #[agI x, agI y, .bool is] w R
set_option maxRecDepth 20000 in
set_option maxHeartbeats 1600000 in
theorem c_onM {c o : Int} {b b14 b16 b18 b36 : Nat} {T36 : TypeId} {w0 : World} {A1 A2 A3 : Fn} {X1 X2 X3 C1 C2 C3 : Array Value} {f1 f2 : Tr → Tr} {it : It → It → Bool → It × Bool} (ho : isO o = true) (s1 : Side c f1) (s2 : Side c f2)
    (H1 : SideW c b (.func A1 X1 C1) f1) (H2 : SideW c b (.func A2 X2 C2) f2) (H3 : ItemW b w0 (.func A3 X3 C3) it) :
    ∀ (a : Tr) {u : Tr} {pa pb : Option Addr} {w : World} {R : Ending → World → Prop} (_g0 : Gs b w0 w) (_hc : CapsM w b14 b16 b18 b36 b o (.func A1 X1 C1) (.func A2 X2 C2) (.func A3 X3 C3) T36) (_hs : IsSch c b w)
    (_ha : IsN w pa a) (_hu : IsN w pb u) (_oka : OkP c a) (_oku : OkM c u) (_hka : InK a) (_hku : InK u) (_hau : asc o (itsC c u)) (_hB : a.size + u.size + 10 ≤ BIG)
    (_h : ∀ q w', Gs b w w' → IsSch c b w' → IsN w' q (goC c o f1 f2 it a u) → R (.returned (.pointer q)) w'), doCall Tryz.prog (onM b14 b16 b18 b36) #[.pointer pa, .pointer pb] w R
  | .nil, u, pa, pb, w, R, g0, hc, hs, ha, hu, oka, oku, hka, hku, hau, hB, h => by
    refine do_callc Tryz.call106 (by rfl) (sh106_ok _ _ _ _ _ _ ?_)
    unfold sh106
    have : pa = none := ha
    subst this
    refine ifB_t rfl ⟨_, _, _, hc.way.cell (i := 1) (add_blk _ _) rfl, ?_⟩
    exact H2 u pb w _ hs hu oku.1 (by omega) fun q w1 g1 hs1 h1 => retS_ret ⟨_, rfl, h _ _ g1 hs1 h1⟩
  | .node l k v g r, u, pa, pb, w, R, g0, hc, hs, ha, hu, oka, oku, hka, hku, hau, hB, h => by
    refine do_callc Tryz.call106 (by rfl) (sh106_ok _ _ _ _ _ _ ?_)
    unfold sh106
    obtain ⟨hl, hr⟩ := oka.sides
    obtain ⟨kl, kk, kr⟩ := hka
    have e : (Tr.node l k v g r).size = l.size + 1 + r.size := rfl
    obtain ⟨ba, pal, par, rfl, hba⟩ := id ha
    refine ifB_f rfl ?_
    cases hn : u.nn with
    | false =>
      have hunil : u = .nil := by cases u with
        | nil => rfl
        | node _ _ _ _ _ => cases hn
      subst hunil
      have : pb = none := hu
      subst this
      refine ifB_t rfl ⟨_, _, _, hc.way.cell (i := 0) (add_blk _ _) rfl, ?_⟩
      exact H1 _ _ w _ hs ha oka (by omega) fun q w1 g1 hs1 h1 => retS_ret ⟨_, rfl, h _ _ g1 hs1 h1⟩
    | true =>
      have S := splitC_ok (o := o) (key := k) oku.1 hau
      have sp := splitC_p (o := o) (key := k) oku.1
      have q1 : asc o (itsC c (splitC c o k u).1) := by rw [S.lt]; exact asc_filter hau
      have q2 : asc o (itsC c (splitC c o k u).2.2) := by rw [S.gt]; exact asc_filter hau
      have k1 : InK (splitC c o k u).1 := inK_lt (key := k) hku S.lt hau rfl
      have k2 : InK (splitC c o k u).2.2 := inK_lt (key := k) hku S.gt hau rfl
      have pL := goC_p (o := o) (it := it) s1 s2 hl S.okl
      have pR := goC_p (o := o) (it := it) s1 s2 hr S.okr
      have hU : goC c o f1 f2 it (.node l k v g r) u = if (it (itC c (k, v, g)) (itO (splitC c o k u).2.1) (splitC c o k u).2.1.isSome).2 then
          joinC c (goC c o f1 f2 it l (splitC c o k u).1) (it (itC c (k, v, g)) (itO (splitC c o k u).2.1) (splitC c o k u).2.1.isSome).1 (goC c o f1 f2 it r (splitC c o k u).2.2)
        else join2C c (goC c o f1 f2 it l (splitC c o k u).1) (goC c o f1 f2 it r (splitC c o k u).2.2) := by rw [goC, if_pos hn]
      rw [hU] at h
      have hpb : pb.isNone = false := by
        cases u with
        | nil => cases hn
        | node _ _ _ _ _ => obtain ⟨_, _, _, rfl, _⟩ := hu; rfl
      refine ifB_f hpb ?_
      generalize hY : itO (splitC c o k u).2.1 = Y at *
      generalize hI : (splitC c o k u).2.1.isSome = isY at *
      intro K24
      have hK24 : ∀ w1 bz ql qr, Gs b w w1 → IsSch c b w1 → IsN w1 ql (splitC c o k u).1 → IsN w1 qr (splitC c o k u).2.2 → bz ≠ b →
          Blk w1 bz #[.int .i64 Y.1, .int .i64 Y.2.1, .int .u64 Y.2.2] 93 → K24 ql (blk bz) isY qr w1 := by
        intro w1 bz ql qr g1 hs1 hl1 hr1 nz hz
        have d := gs_of (b := b) (ext_drew w1)
        have g2 := g1.trans d
        have hc2 := hc.gs g2
        have hs2 := hs1.ext (ext_drew w1)
        have ha2 := ha.gs hs g2
        have hz2 := hz.ext (ext_drew w1)
        refine ⟨⟨fun w' => CapsM w' b14 b16 b18 b36 b o (.func A1 X1 C1) (.func A2 X2 C2) (.func A3 X3 C3) T36, hc2, _, _, _, fun w' q => q.on.cell (i := 0) rfl rfl, _, _, _, fun w' q => q.on.cell (i := 0) rfl rfl, ?_⟩⟩
        have hl2 := hl1.ext (ext_drew w1)
        have hr2 := hr1.ext (ext_drew w1)
        refine do_call Tryz.call108 (c_left ha2 fun pl hpl => retS_ret ⟨_, rfl, hc2, ?_⟩)
        refine c_onM ho s1 s2 H1 H2 H3 l (g0.trans g2) hc2 hs2 hpl hl2 hl S.okl kl k1 q1 (by omega) fun q3 w3 g3 hs3 h3 => retS_ret ⟨_, rfl, hc2.gs g3, ?_⟩
        have ha3 := ha2.gs hs2 g3
        have hr3 := hr2.gs hs2 g3
        refine do_call Tryz.call109 (c_right ha3 fun pr hpr => retS_ret ⟨_, rfl, hc2.gs g3, ?_⟩)
        refine c_onM ho s1 s2 H1 H2 H3 r ((g0.trans g2).trans g3) (hc2.gs g3) hs3 hpr hr3 hr S.okr kr k2 q2 (by omega) fun q6 w6 g6 hs6 h6 => retS_ret ⟨_, rfl, (hc2.gs g3).gs g6, ?_⟩
        have G6 := (g2.trans g3).trans g6
        have h36 := h3.gs hs3 g6
        have ha6 := ha3.gs hs3 g6
        have hz6 := (hz2.gs g3 nz).gs g6 nz
        have hc6 := (hc2.gs g3).gs g6
        intro K48
        have hK48 : ∀ w' bx, Gs b w6 w' → IsSch c b w' → IsN w' q3 (goC c o f1 f2 it l (splitC c o k u).1) → IsN w' q6 (goC c o f1 f2 it r (splitC c o k u).2.2) →
            Blk w' bx #[.int .i64 (it (itC c (k, v, g)) Y isY).1.1, .int .i64 (it (itC c (k, v, g)) Y isY).1.2.1, .int .u64 (it (itC c (k, v, g)) Y isY).1.2.2] 93 → K48 (blk bx) (it (itC c (k, v, g)) Y isY).2 w' := by
          intro w' bx gg hs' hl' hr' hx'
          have hc' := hc6.gs gg
          cases hst : (it (itC c (k, v, g)) Y isY).2 with
          | true =>
            rw [hst] at h
            refine ifB_t rfl ⟨_, hc'.s.cell (i := 0) rfl rfl, _, hx'.cell (i := 0) (add_blk _ _) rfl, _, hx'.cell (i := 1) (add_blk _ _) rfl, _, hx'.cell (i := 2) (add_blk _ _) rfl, ?_⟩
            exact do_call Tryz.call62 (c_sjoin hs' hl' hr' pL.1.1 pR.1.1 (by have := pL.2; have := pR.2; omega) fun q7 w7 g7 hs7 h7 => retS_ret ⟨_, rfl, h _ _ ((G6.trans gg).trans g7) hs7 h7⟩)
          | false =>
            rw [hst] at h
            refine ifB_f rfl ⟨_, hc'.s.cell (i := 0) rfl rfl, ?_⟩
            exact do_call Tryz.call63 (c_join2 hs' hl' hr' pL.1.1 pR.1.1 (by have := pL.2; have := pR.2; omega) fun q7 w7 g7 hs7 h7 => retS_ret ⟨_, rfl, h _ _ ((G6.trans gg).trans g7) hs7 h7⟩)
        have dr := ext_drew w6
        have cC : ∀ w', Gs b w6 w' → CapsM w' b14 b16 b18 b36 b o (.func A1 X1 C1) (.func A2 X2 C2) (.func A3 X3 C3) T36 ∧ Blk w' bz #[.int .i64 Y.1, .int .i64 Y.2.1, .int .u64 Y.2.2] 93 := fun w' gg => ⟨hc6.gs gg, hz6.gs gg nz⟩
        refine ⟨⟨fun w' => CapsM w' b14 b16 b18 b36 b o (.func A1 X1 C1) (.func A2 X2 C2) (.func A3 X3 C3) T36 ∧ Blk w' bz #[.int .i64 Y.1, .int .i64 Y.2.1, .int .u64 Y.2.2] 93, cC _ (gs_of dr),
          _, _, _, fun w' q => q.1.way.cell (i := 2) (add_blk _ _) rfl, _, fun w' q => q.1.s.cell (i := 0) rfl rfl, _, fun w' q => q.2.cell (i := 0) (add_blk _ _) rfl, _, fun w' q => q.2.cell (i := 1) (add_blk _ _) rfl, _, fun w' q => q.2.cell (i := 2) (add_blk _ _) rfl, ⟨?_, ?_⟩⟩⟩
        · refine do_call Tryz.call110 (c_sitem (hs6.ext dr) (ha6.ext dr) fun w7 g7 hs7 => retS_ret ⟨_, _, _, rfl, cC _ ((gs_of dr).trans g7), ?_⟩)
          have G7 := (gs_of (b := b) dr).trans g7
          have hl7 := h36.gs hs6 G7
          have hr7 := h6.gs hs6 G7
          constructor
          · refine H3 (rootC c (.node l k v g r)) Y isY w7 _ (((g0.trans G6)).trans G7) fun w8 e8 => retS_ret ⟨_, _, _, _, rfl, cC _ (G7.trans (gs_of e8)), ⟨?_⟩⟩
            have ez := ext_alloc w8 (.cells #[.int .i64 0, .int .i64 0, .int .u64 0] 93)
            refine ⟨cC _ ((G7.trans (gs_of e8)).trans (gs_of ez)), ?_⟩
            refine do_st3 (blk_alloc w8 _ _) fun w9 hx9 g9 => ?_
            have e9 : Ext w8 w9 := ez.st g9 (Nat.le_refl _)
            have e79 := e8.trans e9
            exact hK48 w9 _ (G7.trans (gs_of e79)) (hs7.ext e79) (hl7.ext e79) (hr7.ext e79) hx9
          · refine ⟨?_⟩
            have ez := ext_alloc w7 (.cells #[.int .i64 0, .int .i64 0, .int .u64 0] 93)
            have hzz := blk_alloc w7 #[.int .i64 0, .int .i64 0, .int .u64 0] 93
            have nzz : w7.heap.size ≠ b := by have := hs7.lt; omega
            have Gz := G7.trans (gs_of ez)
            refine ⟨cC _ Gz, ?_⟩
            refine H3 (rootC c (.node l k v g r)) Y isY _ _ ((g0.trans G6).trans Gz) fun w8 e8 => retS_ret ⟨_, _, _, _, rfl, cC _ (Gz.trans (gs_of e8)), ?_⟩
            have e78 := ez.trans e8
            have hzz8 := hzz.ext e8
            refine do_st3 hzz8 fun w9 hx9 g9 => ?_
            exact hK48 w9 _ ((G7.trans (gs_of e78)).st g9 (World.grownBy.size G7)) ((hs7.ext e78).st g9 nzz) ((hl7.ext e78).st g9 hzz8 (by decide)) ((hr7.ext e78).st g9 hzz8 (by decide)) hx9
        · refine ⟨?_⟩
          have ez := ext_alloc w6.drew (.cells #[.int .i64 0, .int .i64 0, .int .u64 0] 93)
          have hzz := blk_alloc w6.drew #[.int .i64 0, .int .i64 0, .int .u64 0] 93
          have nzz : w6.drew.heap.size ≠ b := by have := (hs6.ext dr).lt; omega
          have E1 := dr.trans ez
          refine ⟨cC _ (gs_of E1), ?_⟩
          refine do_call Tryz.call110 (c_sitem (hs6.ext E1) (ha6.ext E1) fun w7 g7 hs7 => retS_ret ⟨_, _, _, rfl, cC _ ((gs_of E1).trans g7), ?_⟩)
          have G7 := (gs_of (b := b) E1).trans g7
          have hl7 := h36.gs hs6 G7
          have hr7 := h6.gs hs6 G7
          have hzz7 := hzz.gs g7 nzz
          refine H3 (rootC c (.node l k v g r)) Y isY w7 _ ((g0.trans G6).trans G7) fun w8 e8 => retS_ret ⟨_, _, _, _, rfl, cC _ (G7.trans (gs_of e8)), ?_⟩
          have hzz8 := hzz7.ext e8
          refine do_st3 hzz8 fun w9 hx9 g9 => ?_
          exact hK48 w9 _ ((G7.trans (gs_of e8)).st g9 dr.size) ((hs7.ext e8).st g9 nzz) ((hl7.ext e8).st g9 hzz8 (by decide)) ((hr7.ext e8).st g9 hzz8 (by decide)) hx9
      have d := ext_drew w
      have hcd := hc.gs (gs_of d)
      have hsd := hs.ext d
      refine ⟨⟨fun w' => CapsM w' b14 b16 b18 b36 b o (.func A1 X1 C1) (.func A2 X2 C2) (.func A3 X3 C3) T36, hcd, _, fun w' q => q.s.cell (i := 0) rfl rfl, _, fun w' q => q.o.cell (i := 0) rfl rfl, ⟨?_, ?_⟩⟩⟩
      · refine do_call Tryz.call107 (c_key (ha.ext d) fun w1 e1 => retS_ret ⟨_, rfl, hcd.gs (gs_of e1), ?_⟩)
        have e01 := d.trans e1
        have hs1 := hs.ext e01
        have hu1 := hu.ext e01
        constructor
        · refine do_call Tryz.call105 (c_split ho kk hs1 hu1 oku.1 hku (by omega) fun ql qr w2 g2 hs2 hl2 hr2 => retS_ret ⟨_, _, _, _, _, _, _, rfl, ⟨?_⟩⟩)
          rw [hY, hI]
          have G2 := (gs_of (b := b) e01).trans g2
          have ez := ext_alloc w2 (.cells #[.int .i64 0, .int .i64 0, .int .u64 0] 93)
          refine ⟨(hc.gs G2).gs (gs_of ez), ?_⟩
          refine do_st3 (blk_alloc w2 _ _) fun w3 hx3 g3 => ?_
          have e3 : Ext w2 w3 := ez.st g3 (Nat.le_refl _)
          have nz : w2.heap.size ≠ b := by have := hs2.lt; omega
          exact hK24 w3 _ ql qr (G2.trans (gs_of e3)) (hs2.ext e3) (hl2.ext e3) (hr2.ext e3) nz hx3
        · refine ⟨?_⟩
          have ez := ext_alloc w1 (.cells #[.int .i64 0, .int .i64 0, .int .u64 0] 93)
          have hz := blk_alloc w1 #[.int .i64 0, .int .i64 0, .int .u64 0] 93
          have nz : w1.heap.size ≠ b := by have := hs1.lt; omega
          have E1 := e01.trans ez
          refine ⟨hc.gs (gs_of E1), ?_⟩
          refine do_call Tryz.call105 (c_split ho kk (hs.ext E1) (hu.ext E1) oku.1 hku (by omega) fun ql qr w2 g2 hs2 hl2 hr2 => retS_ret ⟨_, _, _, _, _, _, _, rfl, ?_⟩)
          rw [hY, hI]
          have G2 := (gs_of (b := b) E1).trans g2
          refine do_st3 (hz.gs g2 nz) fun w3 hx3 g3 => ?_
          exact hK24 w3 _ ql qr (G2.st g3 e01.size) (hs2.st g3 nz) (hl2.st g3 (hz.gs g2 nz) (by decide)) (hr2.st g3 (hz.gs g2 nz) (by decide)) nz hx3
      · refine ⟨?_⟩
        have ez := ext_alloc w.drew (.cells #[.int .i64 0, .int .i64 0, .int .u64 0] 93)
        have hz := blk_alloc w.drew #[.int .i64 0, .int .i64 0, .int .u64 0] 93
        have nz : w.drew.heap.size ≠ b := by have := hsd.lt; omega
        have E1 := d.trans ez
        refine ⟨hc.gs (gs_of E1), ?_⟩
        refine do_call Tryz.call107 (c_key (ha.ext E1) fun w1 e1 => retS_ret ⟨_, rfl, hc.gs (gs_of (E1.trans e1)), ?_⟩)
        have E2 := E1.trans e1
        refine do_call Tryz.call105 (c_split ho kk (hs.ext E2) (hu.ext E2) oku.1 hku (by omega) fun ql qr w2 g2 hs2 hl2 hr2 => retS_ret ⟨_, _, _, _, _, _, _, rfl, ?_⟩)
        rw [hY, hI]
        have G2 := (gs_of (b := b) E2).trans g2
        have hz2 := (hz.ext e1).gs g2 nz
        refine do_st3 hz2 fun w3 hx3 g3 => ?_
        exact hK24 w3 _ ql qr (G2.st g3 d.size) (hs2.st g3 nz) (hl2.st g3 hz2 (by decide)) (hr2.st g3 hz2 (by decide)) nz hx3
end Go.Proofs.YtbaoihmffobneaaGreat
