/-
  many: Puts, Drops, Holds; the document's answers of layer 31; what its statement asks.
-/
/-
  Printed by a program (gen.py): what the functions of the program do, as formulas; each with the proof that its call is what the formula says.
-/
/-
  Printed by a program (gen.py): what the functions of the program do, as formulas; each with the proof that its call is what the formula says.
-/
/-
  BuildRows, BuildSorts: what they compute.
-/
/-
  Printed by a program (gen.py): what the functions of the program do, as formulas; each with the proof that its call is what the formula says.
-/
/-
  BuildTurns: what it computes.
-/
/-
  treap.Check of a treap: nothing is wrong.
-/
/-
  wb.Check of a tree in balance: nothing is wrong.
-/
/-
  avl.Check of a tree in balance: nothing is wrong.
-/
/-
  rb.Check of a tree in balance: nothing is wrong.
-/
/-
  sound.Check of a tree whose keys rise: nothing is wrong.
-/
/-
  sound.Check, Ahead; a scheme's Check.
-/
/-
  canon: what it makes, digests, and when a tree is canonical.
-/
/-
  canon.Diff: the keys in which two trees differ; in plain.
-/
import Derived.Test.YtlddfgfmkapoiaaGreatZ22
import Derived.Test.YtlddfgfmkapoiaaGreatZ02
import Derived.Test.YtlddfgfmkapoiaaGreatProg
import Derived.Test.YtlddfgfmkapoiaaGreatZ04
import Derived.Test.YtlddfgfmkapoiaaGreatZ19
import Derived.Test.YtlddfgfmkapoiaaGreatZ16
import Derived.Test.YtlddfgfmkapoiaaGreatZ17
import Derived.Test.YtlddfgfmkapoiaaGreatZ18

namespace Go.Proofs.YtlddfgfmkapoiaaGreat
open Go Go.Sh Go.RowKit

theorem tagL_asc {c o : Int} {ds : List Int} {S : List Pr} (h : mayR o S = true) : asc o (tagL c ds S) := by
  have hc := mayR_chain h
  unfold asc
  have e : (tagL c ds S).map (·.1) = S.map (·.1) := by
    have := congrArg (List.map (·.1)) (tagL_prs c ds S)
    rw [List.map_map] at this
    exact this
  rw [e]
  exact chain_pw.1 hc
theorem tagL_inI {c : Int} {ds : List Int} {S : List Pr} (h : InP S) : InI (tagL c ds S) := fun x hx => by
  obtain ⟨y, hy, e⟩ := (tagL_key (k := x.1)).1 ⟨x, hx, rfl⟩
  rw [← e]; exact (h y hy).1
theorem bld_u {c o : Int} {ds : List Int} {S : List Pr} (hs : isS c = true) (hm : mayR o S = true) (hI : InP S) : OkU c o (bldC c (tagL c ds S)) :=
  ⟨(bldC_ok hs _).1, by rw [bldC_its hs]; exact tagL_asc hm, (inK_its (c := c)).2 (by rw [bldC_its hs]; exact tagL_inI hI)⟩
theorem gs_gd {b : Nat} {w w' : World} (g : Gd [b] w w') : Gs b w w' := ⟨g.1, g.2.1, g.2.2.1, g.2.2.2.1, fun k hk hne => g.2.2.2.2 k hk fun hm => hne (by simp at hm; rw [hm])⟩
theorem gs_none {b : Nat} {w w' : World} (g : Gd (b :: blksD none) w w') : Gs b w w' := gs_gd g
section
variable {c o po : Int} {b : Nat} {t : Tr} {pt : Option Addr} {w : World} {R : Ending → World → Prop}
end
/-! ### the document's -/
/-! ### what the statement asks beside -/
end Go.Proofs.YtlddfgfmkapoiaaGreat

namespace Go.Proofs.YtlddfgfmkapoiaaGreat
open Go Go.Sh
end Go.Proofs.YtlddfgfmkapoiaaGreat

namespace Go.Proofs.YtlddfgfmkapoiaaGreat
open Go Go.Sh
end Go.Proofs.YtlddfgfmkapoiaaGreat

namespace Go.Proofs.YtlddfgfmkapoiaaGreat
open Go Go.Sh Go.RowKit

end Go.Proofs.YtlddfgfmkapoiaaGreat

namespace Go.Proofs.YtlddfgfmkapoiaaGreat
open Go Go.Sh
end Go.Proofs.YtlddfgfmkapoiaaGreat

namespace Go.Proofs.YtlddfgfmkapoiaaGreat
open Go Go.Sh Go.RowKit

theorem bld_pairs {c : Int} {ds : List Int} {S : List Pr} (hs : isS c = true) : (bldC c (tagL c ds S)).pairs = S := by
  have h := bldC_its (ds := ds) (l := S) hs
  have e : ∀ t : Tr, t.pairs = (itsC c t).map fun x => (x.1, x.2.1) := fun t => by
    rw [items_pairs]
    unfold itsC
    rw [List.map_map]
    exact List.map_congr_left fun x _ => by show _ = ((itC c x).1, (itC c x).2.1); rw [itC_key, itC_val]
  rw [e, h, tagL_prs]
end Go.Proofs.YtlddfgfmkapoiaaGreat

namespace Go.Proofs.YtlddfgfmkapoiaaGreat
open Go Go.Sh Go.RowKit

abbrev onT (b2 b4 : Nat) : Value := .func (.func 252) #[] #[.pointer (some (blk b2)), .pointer (some (blk b4))]
set_option maxRecDepth 20000 in
theorem do_tpon {b2 b4 : Nat} {T4 : TypeId} (hne : b4 ≠ b2) : ∀ (t : Tr) {p : Option Addr} {n : Nat} {w : World} {R : Ending → World → Prop} (_h2 : Blk w b2 #[.int .i64 (n : Nat)] 3) (_h4 : Blk w b4 #[onT b2 b4] T4) (_ht : IsN w p t) (_tp : Tp t) (_hn : n + t.size ≤ BIG)
    (_h : ∀ w', Gs b2 w w' → Blk w' b2 #[.int .i64 ((n + t.size : Nat) : Int)] 3 → R (.returned (.bool true)) w'), doCall Tryz.prog (onT b2 b4) #[.pointer p] w R
  | .nil, p, n, w, R, h2, h4, ht, tp, hn, h => by
    refine do_callc Tryz.call252 (by rfl) (sh252_ok _ _ _ ?_)
    unfold sh252
    have : p = none := ht
    subst this
    exact ifB_t rfl (h _ (gs_refl _ _) h2)
  | .node l k v g r, p, n, w, R, h2, h4, ht, tp, hn, h => by
    refine do_callc Tryz.call252 (by rfl) (sh252_ok _ _ _ ?_)
    unfold sh252
    obtain ⟨tl, tr, al, ar⟩ := tp
    have e : (Tr.node l k v g r).size = l.size + 1 + r.size := rfl
    rw [ht.isNone]
    refine ifB_f rfl ?_
    intro K6
    refine do_call Tryz.call123 (c_left ht fun pl hpl => retS_ret ⟨_, rfl, ?_⟩)
    refine do_call Tryz.call253 (c_abT hpl ht fun w1 e1 => retS_ret ⟨_, rfl, ?_⟩)
    rw [show abT (Tr.node l k v g r).left (Tr.node l k v g r) = false from al]
    refine ifB_f rfl (do_call Tryz.call125 (c_right (ht.ext e1) fun pr hpr => retS_ret ⟨_, rfl, ?_⟩))
    refine do_call Tryz.call253 (c_abT hpr (ht.ext e1) fun w2 e2 => retS_ret ⟨_, rfl, ?_⟩)
    rw [show abT (Tr.node l k v g r).right (Tr.node l k v g r) = false from ar]
    simp -zeta -zetaHave only [K6]
    have e02 := e1.trans e2
    have h22 := h2.ext e02
    refine ifB_f rfl ⟨_, h22.cell (i := 0) rfl rfl, ?_⟩
    refine do_st h22 (i := 0) (add_blk _ _) (by simp) fun w3 h3 g3 => ?_
    have G3 : Gs b2 w w3 := (gs_of e02).trans g3
    have h3 : Blk w3 b2 #[.int .i64 ((n + 1 : Nat) : Int)] 3 := by
      have : IntKind.wrap .i64 ((n : Int) + 1) = ((n + 1 : Nat) : Int) := by simp only [BIG] at hn; rw [wrap_of (by omega) (by omega)]; omega
      rw [this] at h3; exact h3
    intro K11
    have d := ext_drew w3
    have G3' : Gs b2 w w3.drew := G3.trans (gs_of d)
    have h43 := h4.gs G3' hne
    have ht3 : IsN w3.drew p (.node l k v g r) := ht.st G3' h2 (by decide)
    refine ⟨⟨fun w' => Blk w' b4 #[onT b2 b4] T4, h43, _, _, _, fun w' q => q.cell (i := 0) rfl rfl, ?_⟩⟩
    refine do_call Tryz.call123 (c_left ht3 fun pl3 hpl3 => retS_ret ⟨_, rfl, h43, ?_⟩)
    refine do_tpon hne l (h3.ext d) h43 hpl3 tl (by omega) fun w4 g4 h24 => retS_ret ⟨_, rfl, h43.gs g4 hne, ?_⟩
    refine ifB_t rfl ⟨_, _, _, fun w' q => q.cell (i := 0) rfl rfl, ?_⟩
    have ht4 := ht3.st g4 (h3.ext d) (by decide)
    refine do_call Tryz.call125 (c_right ht4 fun pr4 hpr4 => retS_ret ⟨_, rfl, h43.gs g4 hne, ?_⟩)
    refine do_tpon hne r h24 (h43.gs g4 hne) hpr4 tr (by omega) fun w5 g5 h25 => retS_ret ⟨_, rfl, (h43.gs g4 hne).gs g5 hne, ?_⟩
    rw [show n + 1 + l.size + r.size = n + (Tr.node l k v g r).size by omega] at h25
    exact h _ ((G3'.trans g4).trans g5) h25
theorem c_tpcheck {t : Tr} {p : Option Addr} {w : World} {R : Ending → World → Prop} (ht : IsN w p t) (tp : Tp t) (hn : t.size ≤ BIG) (h : ∀ k w', Ext w w' → R (.returned (.tuple #[.int .i64 k, .int .i64 0])) w') :
    Calls Tryz.prog 195 #[.pointer p] w R := by
  refine sh195_ok _ ?_
  unfold sh195
  refine ⟨⟨?_⟩⟩
  have e0 := ext_alloc w (.cells #[.int .i64 0] 3)
  have h2 := blk_alloc w #[.int .i64 0] 3
  have k2 : w.heap.size ≤ w.heap.size := Nat.le_refl _
  generalize hb : w.heap.size = b2 at h2 k2 ⊢
  generalize w.alloc (.cells #[.int .i64 0] 3) = w1 at *
  have hlt := h2.lt
  refine do_st (blk_alloc w1 _ _) (i := 0) (add_blk _ _) (by simp) fun w2 h4 g4 => ?_
  have e2 : Ext w1 w2 := (ext_alloc w1 _).st g4 (Nat.le_refl _)
  refine ⟨_, _, _, h4.cell (i := 0) rfl rfl, ?_⟩
  refine do_tpon (n := 0) (by omega) t (h2.ext e2) h4 (ht.ext (e0.trans e2)) tp (by omega) fun w3 g3 h23 => retS_ret ⟨_, rfl, ?_⟩
  have E3 : Ext w w3 := (e0.trans e2).st g3 (by omega)
  refine ifB_f rfl ⟨_, h23.cell (i := 0) rfl rfl, ?_⟩
  refine do_st h23 (i := 0) (add_blk _ _) (by simp) fun w4 h44 g44 => ?_
  exact ⟨_, h44.cell (i := 0) rfl rfl, h _ _ (E3.st g44 (by omega))⟩
end Go.Proofs.YtlddfgfmkapoiaaGreat

namespace Go.Proofs.YtlddfgfmkapoiaaGreat
open Go Go.Sh Go.RowKit

end Go.Proofs.YtlddfgfmkapoiaaGreat

namespace Go.Proofs.YtlddfgfmkapoiaaGreat
open Go Go.Sh Go.RowKit

/-! ### the nodes, one by one -/
end Go.Proofs.YtlddfgfmkapoiaaGreat

namespace Go.Proofs.YtlddfgfmkapoiaaGreat
open Go Go.Sh Go.RowKit

/-! ### the nodes, one by one -/
end Go.Proofs.YtlddfgfmkapoiaaGreat

namespace Go.Proofs.YtlddfgfmkapoiaaGreat
open Go Go.Sh Go.RowKit

/-- what lies above is kept -/
def KP (d : Nat) (w w' : World) : Prop := ∀ b cs ty, d < b → Blk w b cs ty → Blk w' b cs ty
theorem KP.trans {d : Nat} {x y z : World} (h : KP d x y) (k : KP d y z) : KP d x z := fun b cs ty hb q => k b cs ty hb (h b cs ty hb q)
theorem KP.of {d : Nat} {w w' : World} (e : Ext w w') : KP d w w' := fun _ _ _ _ q => q.ext e
/-- a bound that lets keys through -/
def MayB (J : Nat → World → Prop) (d : Nat) (w : World) (P : Int → Prop) (f : Fn) (xs cs : Array Value) : Prop :=
  ∀ n w' key (K : Ending → World → Prop), KP d w w' → J n w' → In key → P key → (∀ w'', Ext w' w'' → K (.returned (.bool true)) w'') → doCall Tryz.prog (.func f xs cs) #[.int .i64 key] w' K
theorem MayB.kp {J : Nat → World → Prop} {d : Nat} {w w1 : World} {P : Int → Prop} {f : Fn} {xs cs : Array Value} (h : MayB J d w P f xs cs) (k : KP d w w1) : MayB J d w1 P f xs cs := fun n w' key K q j hk hp hK => h n w' key K (k.trans q) j hk hp hK
section
variable {J : Nat → World → Prop} {d bo : Nat} {o : Int} {w0 : World}
theorem mayB_left (hJe : ∀ n w, J n w → Ext w0 w) (hJx : ∀ n w w', J n w → Ext w w' → J n w') (hJo : ∀ n w, J n w → Blk w bo #[.int .u8 o] 5) {w : World} {P : Int → Prop} {f : Fn} {xs cs : Array Value} {b8 b10 : Nat} {p : Option Addr} {l r : Tr} {k v g : Int} (h8 : d < b8) (h10 : d < b10)
    (hM : MayB J d w P f xs cs) (hb8 : Blk w b8 #[.pointer p] 35) (hb10 : Blk w b10 #[.func f xs cs] 319) (ht : IsN w0 p (.node l k v g r)) (hk : In k) :
    MayB J d w (fun x => P x ∧ cmpI o x k < 0) (.func 249) #[] #[.pointer (some (blk b10)), .pointer (some (blk bo)), .pointer (some (blk b8))] := by
  intro n w' key K hkp hj hkey hp hK
  refine do_callc Tryz.call249 (by rfl) (sh249_ok _ _ _ _ ?_)
  unfold sh249
  intro K7
  have dr := ext_drew w'
  have hb8' := hkp _ _ _ h8 hb8
  have hb10' := hkp _ _ _ h10 hb10
  have hbo := hJo _ _ hj
  refine ⟨⟨fun w'' => Ext w' w'', dr, _, _, _, fun w'' e => (hb10'.ext e).cell (i := 0) rfl rfl, ?_⟩⟩
  refine hM n _ key _ (hkp.trans (.of dr)) (hJx _ _ _ hj dr) hkey hp.1 fun w1 e1 => retS_ret ⟨_, rfl, dr.trans e1, ?_⟩
  refine ifB_t rfl ⟨_, fun w'' e => (hbo.ext e).cell (i := 0) rfl rfl, _, fun w'' e => (hb8'.ext e).cell (i := 0) rfl rfl, ?_⟩
  have E1 := dr.trans e1
  refine do_call Tryz.call108 (c_key (ht.ext ((hJe _ _ hj).trans E1)) fun w2 e2 => retS_ret ⟨_, rfl, E1.trans e2, ?_⟩)
  refine do_call Tryz.call176 (c_compare hkey hk fun w3 e3 => retS_ret ⟨_, rfl, (E1.trans e2).trans e3, ?_⟩)
  have : decide (cmpI o key (Tr.node l k v g r).key < 0) = true := decide_eq_true hp.2
  simp -zeta -zetaHave only [K7]
  have hh := hK _ ((E1.trans e2).trans e3)
  rw [← this] at hh
  exact hh
theorem mayB_right (hJe : ∀ n w, J n w → Ext w0 w) (hJx : ∀ n w w', J n w → Ext w w' → J n w') (hJo : ∀ n w, J n w → Blk w bo #[.int .u8 o] 5) {w : World} {P : Int → Prop} {f : Fn} {xs cs : Array Value} {b8 b10 : Nat} {p : Option Addr} {l r : Tr} {k v g : Int} (h8 : d < b8) (h10 : d < b10)
    (hM : MayB J d w P f xs cs) (hb8 : Blk w b8 #[.pointer p] 35) (hb10 : Blk w b10 #[.func f xs cs] 319) (ht : IsN w0 p (.node l k v g r)) (hk : In k) :
    MayB J d w (fun x => P x ∧ 0 < cmpI o x k) (.func 250) #[] #[.pointer (some (blk b10)), .pointer (some (blk bo)), .pointer (some (blk b8))] := by
  intro n w' key K hkp hj hkey hp hK
  refine do_callc Tryz.call250 (by rfl) (sh250_ok _ _ _ _ ?_)
  unfold sh250
  intro K7
  have dr := ext_drew w'
  have hb8' := hkp _ _ _ h8 hb8
  have hb10' := hkp _ _ _ h10 hb10
  have hbo := hJo _ _ hj
  refine ⟨⟨fun w'' => Ext w' w'', dr, _, _, _, fun w'' e => (hb10'.ext e).cell (i := 0) rfl rfl, ?_⟩⟩
  refine hM n _ key _ (hkp.trans (.of dr)) (hJx _ _ _ hj dr) hkey hp.1 fun w1 e1 => retS_ret ⟨_, rfl, dr.trans e1, ?_⟩
  refine ifB_t rfl ⟨_, fun w'' e => (hbo.ext e).cell (i := 0) rfl rfl, _, fun w'' e => (hb8'.ext e).cell (i := 0) rfl rfl, ?_⟩
  have E1 := dr.trans e1
  refine do_call Tryz.call108 (c_key (ht.ext ((hJe _ _ hj).trans E1)) fun w2 e2 => retS_ret ⟨_, rfl, E1.trans e2, ?_⟩)
  refine do_call Tryz.call176 (c_compare hkey hk fun w3 e3 => retS_ret ⟨_, rfl, (E1.trans e2).trans e3, ?_⟩)
  have : decide (cmpI o key (Tr.node l k v g r).key > 0) = true := decide_eq_true hp.2
  simp -zeta -zetaHave only [K7]
  have hh := hK _ ((E1.trans e2).trans e3)
  rw [← this] at hh
  exact hh
abbrev onS (bo b5 b7 : Nat) : Value := .func (.func 248) #[] #[.pointer (some (blk bo)), .pointer (some (blk b5)), .pointer (some (blk b7))]
set_option maxRecDepth 20000 in
set_option maxHeartbeats 1600000 in
theorem do_onS {c : Int} {Y1 : Fn} {Y2 Y3 : Array Value} {b5 b7 : Nat} {T5 T7 : TypeId} (hd5 : d < b5) (hd7 : d < b7) (hJd : ∀ n w, J n w → d < w.heap.size) (hJe : ∀ n w, J n w → Ext w0 w) (hJx : ∀ n w w', J n w → Ext w w' → J n w') (hJo : ∀ n w, J n w → Blk w bo #[.int .u8 o] 5)
    (hY : ∀ n q w (K : Ending → World → Prop), J n w → (∀ w', J (n + 1) w' → KP d w w' → K (.returned (.bool true)) w') → doCall Tryz.prog (.func Y1 Y2 Y3) #[.pointer q, .bool false] w K) :
    ∀ (t : Tr) {p : Option Addr} {n : Nat} {w : World} {P : Int → Prop} {f : Fn} {xs cs : Array Value} {K : Ending → World → Prop} (_ht : IsN w0 p t) (_ha : asc o (itsC c t)) (_hk : InK t) (_hP : ∀ x ∈ itsC c t, P x.1) (_hM : MayB J d w P f xs cs) (_hj : J n w)
      (_h5 : Blk w b5 #[.func Y1 Y2 Y3] T5) (_h7 : Blk w b7 #[onS bo b5 b7] T7) (_h : ∀ w', J (n + t.size) w' → KP d w w' → K (.returned (.bool true)) w'), doCall Tryz.prog (onS bo b5 b7) #[.pointer p, .func f xs cs] w K
  | t, p, n, w, P, f, xs, cs, K, ht, ha, hk, hP, hM, hj, h5, h7, h => by
    refine do_callc Tryz.call248 (by rfl) (sh248_ok _ _ _ _ _ _ _ ?_)
    unfold sh248
    refine ⟨⟨?_⟩⟩
    have e1 := ext_alloc w (.cells #[.pointer p] 35)
    have h8 := blk_alloc w #[.pointer p] 35
    have d8 := hJd _ _ hj
    generalize w.heap.size = b8 at *
    generalize w.alloc (.cells #[.pointer p] 35) = w1 at *
    have e2 := ext_alloc w1 (.cells #[.func f xs cs] 319)
    have h10 := blk_alloc w1 #[.func f xs cs] 319
    have d10 : d < w1.heap.size := by have := h8.lt; omega
    generalize w1.heap.size = b10 at *
    generalize w1.alloc (.cells #[.func f xs cs] 319) = w2 at *
    have E2 := e1.trans e2
    have h82 := h8.ext e2
    have h52 := h5.ext E2
    have h72 := h7.ext E2
    have hj2 := hJx _ _ _ hj E2
    have hM2 := hM.kp (.of E2)
    refine ⟨_, h82.cell (i := 0) rfl rfl, ?_⟩
    rw [ht.isNone]
    match t, ht, ha, hk, hP, h with
    | .nil, ht, ha, hk, hP, h => exact ifB_t rfl (h _ hj2 (.of E2))
    | .node l k v g r, ht, ha, hk, hP, h =>
      refine ifB_f rfl ?_
      intro K15
      have e : (Tr.node l k v g r).size = l.size + 1 + r.size := rfl
      obtain ⟨al, ar, bl, br⟩ := asc_node ha
      obtain ⟨kl, kk, kr⟩ := hk
      have hPk : P k := by
        have := hP (itC c (k, v, g)) (by rw [itsC_node]; simp)
        rw [itC_key] at this
        exact this
      have dr := ext_drew w2
      have hC : ∀ w', KP d w2 w' → Blk w' b5 #[.func Y1 Y2 Y3] T5 ∧ Blk w' b8 #[.pointer p] 35 ∧ Blk w' b10 #[.func f xs cs] 319 ∧ Blk w' b7 #[onS bo b5 b7] T7 := fun w' q => ⟨q _ _ _ hd5 h52, q _ _ _ d8 h82, q _ _ _ d10 h10, q _ _ _ hd7 h72⟩
      have hj3 := hJx _ _ _ hj2 dr
      refine ⟨⟨fun w' => KP d w2 w', .of dr, _, _, _, fun w' q => (hC w' q).1.cell (i := 0) rfl rfl, _, fun w' q => (hC w' q).2.1.cell (i := 0) rfl rfl, _, _, _, fun w' q => (hC w' q).2.2.1.cell (i := 0) rfl rfl, _, fun w' q => (hC w' q).2.1.cell (i := 0) rfl rfl, ?_⟩⟩
      refine do_call Tryz.call108 (c_key (ht.ext (hJe _ _ hj3)) fun w4 e4 => retS_ret ⟨_, rfl, .of (dr.trans e4), ?_⟩)
      have hj4 := hJx _ _ _ hj3 e4
      refine hM2 n _ k _ (.of (dr.trans e4)) hj4 kk hPk fun w5 e5 => retS_ret ⟨_, rfl, .of ((dr.trans e4).trans e5), ?_⟩
      have hj5 := hJx _ _ _ hj4 e5
      refine hY n p _ _ hj5 fun w6 hj6 k6 => retS_ret ⟨_, rfl, ?_⟩
      have q6 : KP d w2 w6 := (KP.of ((dr.trans e4).trans e5)).trans k6
      refine ⟨q6, ifB_t rfl ⟨_, _, _, fun w' q => (hC w' q).2.2.2.cell (i := 0) rfl rfl, _, fun w' q => (hC w' q).2.1.cell (i := 0) rfl rfl, ?_⟩⟩
      refine do_call Tryz.call123 (c_left0 ht (hJe _ _ hj6) fun pl hpl => retS_ret ⟨_, rfl, q6, ?_⟩)
      have ML := mayB_left hJe hJx hJo d8 d10 (hM2.kp q6) (hC w6 q6).2.1 (hC w6 q6).2.2.1 ht kk
      refine do_onS hd5 hd7 hJd hJe hJx hJo hY l hpl al kl (fun x hx => ⟨hP x (by rw [itsC_node]; simp [hx]), bl x hx⟩) ML hj6 (hC w6 q6).1 (hC w6 q6).2.2.2 fun w7 hj7 k7 => retS_ret ⟨_, rfl, q6.trans k7, ?_⟩
      have q7 := q6.trans k7
      refine ifB_t rfl ⟨_, _, _, fun w' q => (hC w' q).2.2.2.cell (i := 0) rfl rfl, _, fun w' q => (hC w' q).2.1.cell (i := 0) rfl rfl, ?_⟩
      refine do_call Tryz.call125 (c_right0 ht (hJe _ _ hj7) fun pr hpr => retS_ret ⟨_, rfl, q7, ?_⟩)
      have MR := mayB_right hJe hJx hJo d8 d10 (hM2.kp q7) (hC w7 q7).2.1 (hC w7 q7).2.2.1 ht kk
      refine do_onS hd5 hd7 hJd hJe hJx hJo hY r hpr ar kr (fun x hx => ⟨hP x (by rw [itsC_node]; simp [hx]), cmpI_neg (br x hx)⟩) MR hj7 (hC w7 q7).1 (hC w7 q7).2.2.2 fun w8 hj8 k8 => retS_ret ⟨_, rfl, q7.trans k8, ?_⟩
      rw [show n + 1 + l.size + r.size = n + (Tr.node l k v g r).size by omega] at hj8
      exact h _ hj8 ((KP.of E2).trans (q7.trans k8))
  termination_by t => t.size
  decreasing_by all_goals simp_wf; simp only [Tr.size]; omega
end
end Go.Proofs.YtlddfgfmkapoiaaGreat

namespace Go.Proofs.YtlddfgfmkapoiaaGreat
open Go Go.Sh Go.RowKit

set_option maxRecDepth 20000 in
set_option maxHeartbeats 1600000 in
theorem c_scheckS {c o : Int} {t : Tr} {p : Option Addr} {w : World} {R : Ending → World → Prop} (ho : isO o = true) (ht : IsN w p t) (ha : asc o (itsC c t)) (hk : InK t) (h : ∀ k w', Ext w w' → R (.returned (.tuple #[.int .i64 k, .int .i64 0])) w') :
    Calls Tryz.prog 117 #[.int .u8 o, .pointer p] w R := by
  refine sh117_ok _ _ ?_
  unfold sh117
  have ho7 : 1 ≤ o ∧ o ≤ 7 := by simpa [isO] using ho
  refine ⟨⟨?_⟩⟩
  have e0 := ext_alloc w (.cells #[.int .i64 0] 3)
  have h2 := blk_alloc w #[.int .i64 0] 3
  have k2 : w.heap.size ≤ w.heap.size := Nat.le_refl _
  generalize hb2 : w.heap.size = b2 at h2 k2 ⊢
  generalize w.alloc (.cells #[.int .i64 0] 3) = w1 at *
  have e1 := ext_alloc w1 (.cells #[.int .i64 0] 36)
  have h4 := blk_alloc w1 #[.int .i64 0] 36
  have l2 := h2.lt
  have n24 : b2 < w1.heap.size := l2
  generalize w1.heap.size = b4 at *
  generalize w1.alloc (.cells #[.int .i64 0] 36) = w2 at *
  have h22 := h2.ext e1
  have l4 := h4.lt
  intro K11 K40
  refine ifB_f (decide_eq_false (by omega)) ?_
  simp -zeta -zetaHave only [K40]
  refine ifB_f (decide_eq_false (by omega)) ?_
  simp -zeta -zetaHave only [K11]
  intro K13
  refine do_call Tryz.call194 (sh194_ok _ _ ?_)
  unfold sh194
  refine ⟨⟨retS_ret ⟨_, _, _, rfl, do_rf fun fn L w6 d hd hL hst hpe e6 hd6 hl6 => ?_⟩⟩⟩
  have e3 := ext_alloc w2 (.cells #[.int .u8 o] 5)
  have hbo := blk_alloc w2 #[.int .u8 o] 5
  generalize w2.heap.size = bo at *
  generalize w2.alloc (.cells #[.int .u8 o] 5) = w3 at *
  have e5 := ext_alloc w3 (.cells #[.pointer p] 35)
  have hbt := blk_alloc w3 #[.pointer p] 35
  generalize w3.heap.size = bt at *
  generalize w3.alloc (.cells #[.pointer p] 35) = w5 at *
  have e26 : Ext w2 w6 := (e3.trans e5).trans e6
  have E6 : Ext w w6 := (e0.trans e1).trans e26
  have hbt6 := hbt.ext e6
  have d2 : b2 < d := by have := (h22.ext (e3.trans e5)).lt; omega
  have d4 : b4 < d := by have := (h4.ext (e3.trans e5)).lt; omega
  have dO : bo < d := by have := (hbo.ext e5).lt; omega
  obtain ⟨J, hJ⟩ : ∃ J : Nat → World → Prop, J = fun n w' => Ext w w' ∧ Blk w' b2 #[.int .i64 (IntKind.wrap .i64 (n : Nat))] 3 ∧ Blk w' b4 #[.int .i64 0] 36 ∧ Blk w' bo #[.int .u8 o] 5 ∧ w'.heap[d]? = some (.deferred (some [])) ∧ w'.heap[d + 1]? = some (.loop L) := ⟨_, rfl⟩
  have hJe : ∀ n w', J n w' → Ext w w' := fun n w' q => by rw [hJ] at q; exact q.1
  have hJo : ∀ n w', J n w' → Blk w' bo #[.int .u8 o] 5 := fun n w' q => by rw [hJ] at q; exact q.2.2.2.1
  have hJd : ∀ n w', J n w' → d + 1 < w'.heap.size := fun n w' q => by rw [hJ] at q; exact (Array.getElem?_eq_some_iff.1 q.2.2.2.2.2).1
  have hJx : ∀ n w' w'', J n w' → Ext w' w'' → J n w'' := fun n w' w'' q e => by
    rw [hJ] at q ⊢
    exact ⟨q.1.trans e, q.2.1.ext e, q.2.2.1.ext e, q.2.2.2.1.ext e, e.heap q.2.2.2.2.1, e.heap q.2.2.2.2.2⟩
  have hwl : w.heap.size ≤ d := by omega
  have hY : ∀ n q w' (K : Ending → World → Prop), J n w' →
      (∀ w'', J (n + 1) w'' → KP (d + 1) w' w'' → K (.returned (.bool true)) w'') → doCall Tryz.prog (.func (.yield (d + 1)) #[] #[]) #[.pointer q, .bool false] w' K := by
    intro n q w5 K hj hK
    rw [hJ] at hj
    obtain ⟨E5, j2, j4, jo, jd, jl⟩ := hj
    refine sh117_0_ok (by rw [jl, hL]) ?_
    unfold sh117_0
    refine ⟨_, jl, hst, ?_⟩
    have g7 := put_grown w5 (d + 1) (.loop { L with state := .busy })
    have l7 := put_heap (o' := .loop { L with state := .busy }) jl
    have E7 := E5.put (l := d + 1) (by omega) (.loop { L with state := .busy })
    have hlt := (Array.getElem?_eq_some_iff.1 jl).1
    have j2 := j2.grown g7 (ne_some (by omega))
    have j4 := j4.grown g7 (ne_some (by omega))
    have jo := jo.grown g7 (ne_some (by omega))
    have jd := heap_grown g7 jd (ne_some (by omega))
    have hfr : KP (d + 1) w5 (w5.putObj (d + 1) (.loop { L with state := .busy })) := fun b cs ty hb hk => hk.grown g7 (ne_some (by omega))
    generalize w5.putObj (d + 1) (.loop { L with state := .busy }) = w7 at *
    refine ifB_f rfl ⟨_, j2.cell (i := 0) rfl rfl, ?_⟩
    refine do_st j2 (i := 0) (add_blk _ _) (by simp) fun w9 h9 g9 => ?_
    have l9 := heap_grown g9 l7 (ne_some (by omega))
    refine ⟨_, l9, hK _ ?_ fun b cs ty hb hk => ?_⟩
    · rw [hJ, rec_back hst hpe]
      have gp := put_grown w9 (d + 1) (.loop L)
      have h9 : Blk w9 b2 #[.int .i64 (IntKind.wrap .i64 ((n + 1 : Nat) : Int))] 3 := by
        have : IntKind.wrap .i64 (IntKind.wrap .i64 (n : Int) + 1) = IntKind.wrap .i64 ((n + 1 : Nat) : Int) := by rw [wrap_add]; rfl
        rw [this] at h9; exact h9
      exact ⟨(E7.st g9 (by omega)).put (by omega) _, h9.grown gp (ne_some (by omega)), (j4.grown g9 (ne_some (by omega))).grown gp (ne_some (by omega)), (jo.grown g9 (ne_some (by omega))).grown gp (ne_some (by omega)), heap_grown gp (heap_grown g9 jd (ne_some (by omega))) (ne_some (by omega)), put_heap l9⟩
    · exact ((hfr b cs ty hb hk).grown g9 (ne_some (by omega))).grown (put_grown _ _ _) (ne_some (by omega))
  have hJ0 : J 0 w6 := by rw [hJ]; exact ⟨E6, h22.ext e26, h4.ext e26, hbo.ext (e5.trans e6), hd6, hl6⟩
  refine callE_c Tryz.call247 (by rfl) (sh247_ok _ _ _ _ _ ?_)
  unfold sh247
  refine ⟨⟨?_⟩⟩
  have e7 := ext_alloc w6 (.cells #[.func (.yield (d + 1)) #[] #[]] 317)
  have h7 := blk_alloc w6 #[.func (.yield (d + 1)) #[] #[]] 317
  have n7 : d + 1 < w6.heap.size := (Array.getElem?_eq_some_iff.1 hl6).1
  generalize w6.heap.size = b7 at *
  generalize w6.alloc (.cells #[.func (.yield (d + 1)) #[] #[]] 317) = w7 at *
  have n8 : b7 < w7.heap.size := h7.lt
  refine do_st (blk_alloc w7 _ _) (i := 0) (add_blk _ _) (by simp) fun w8 h8 g8 => ?_
  have e8 : Ext w7 w8 := (ext_alloc w7 _).st g8 (Nat.le_refl _)
  refine ⟨_, _, _, h8.cell (i := 0) rfl rfl, _, (hbt6.ext (e7.trans e8)).cell (i := 0) rfl rfl, ?_⟩
  have hM : MayB J (d + 1) w8 (fun _ => True) (.func 251) #[] #[] := by
    intro n w' key K _ _ _ _ hK
    refine do_call Tryz.call251 (sh251_ok _ ?_)
    unfold sh251
    exact hK _ (ext_refl _)
  refine do_onS (J := J) (d := d + 1) (c := c) (by omega) (by omega) hJd hJe hJx hJo hY t ht ha hk (fun _ _ => trivial) hM (hJx _ _ _ hJ0 (e7.trans e8)) (h7.ext e8) h8 fun w9 hj9 _ => retS_ret ⟨_, rfl, ?_⟩
  rw [hJ] at hj9
  obtain ⟨E9, j2, j4, _, jd, jl⟩ := hj9
  refine rf_done jl (by rw [hst]; simp) hpe fun ob => ?_
  have gp := put_grown w9 (d + 1) ob
  have E10 := E9.put (l := d + 1) (by omega) ob
  have j2 := j2.grown gp (ne_some (by omega))
  have j4 := j4.grown gp (ne_some (by omega))
  have jd := heap_grown gp jd (ne_some (by omega))
  generalize w9.putObj (d + 1) ob = w10 at *
  have dr := ext_drew w10
  refine ⟨⟨fun w' => Blk w' b2 #[.int .i64 (IntKind.wrap .i64 ((0 + t.size : Nat) : Int))] 3 ∧ Blk w' b4 #[.int .i64 0] 36, ⟨j2.ext dr, j4.ext dr⟩, _, fun w' q => q.1.cell (i := 0) rfl rfl, _, fun w' q => q.2.cell (i := 0) rfl rfl, ?_⟩⟩
  refine do_st (j2.ext dr) (i := 0) (add_blk _ _) (by simp) fun w11 h11' g11 => ⟨⟨h11', (j4.ext dr).grown g11 (ne_some (by omega))⟩, ?_⟩
  refine do_st ((j4.ext dr).grown g11 (ne_some (by omega))) (i := 0) (add_blk _ _) (by simp) fun w12 h12 g12 => ?_
  have jd12 := heap_grown g12 (heap_grown g11 (dr.heap jd) (ne_some (by omega))) (ne_some (by omega))
  rw [hd] at jd12
  refine ⟨jd12, ?_⟩
  have gp2 := put_grown w12 d (.deferred none)
  rw [hd] at gp2
  refine ⟨_, ((h11'.grown g12 (ne_some (by omega))).grown gp2 (ne_some (by omega))).cell (i := 0) rfl rfl, _, (h12.grown gp2 (ne_some (by omega))).cell (i := 0) rfl rfl, ?_⟩
  refine h _ _ ?_
  have E12 := ((E10.trans dr).st g11 (by omega)).st g12 (by omega)
  exact E12.st gp2 (by omega)
/-! ### the ends -/
end Go.Proofs.YtlddfgfmkapoiaaGreat

namespace Go.Proofs.YtlddfgfmkapoiaaGreat
open Go Go.Sh Go.RowKit

theorem prs_itsC {c : Int} (t : Tr) : t.pairs = (itsC c t).map fun x => (x.1, x.2.1) := by
  rw [items_pairs]
  unfold itsC
  rw [List.map_map]
  exact List.map_congr_left fun x _ => by show _ = ((itC c x).1, (itC c x).2.1); rw [itC_key, itC_val]
/-- a canonical tree -/
structure Can (o : Int) (t : Tr) : Prop where
  u : OkU 4 o t
  mx : ∀ x ∈ itsC 4 t, x.2.2 = mixK x.1
theorem can_items {o : Int} {t : Tr} (h : Can o t) : itsC 4 t = t.pairs.map fun x => (x.1, x.2, mixK x.1) := by
  have e : t.pairs = (itsC 4 t).map fun x => (x.1, x.2.1) := prs_itsC t
  rw [e, List.map_map]
  have : (itsC 4 t).map id = (itsC 4 t).map ((fun x : Pr => (x.1, x.2, mixK x.1)) ∘ fun x : It => (x.1, x.2.1)) := List.map_congr_left fun x hx => by
    show x = (x.1, x.2.1, mixK x.1)
    rw [← h.mx x hx]
  rw [← this, List.map_id]
theorem its4 (t : Tr) : itsC 4 t = itT t := by
  unfold itsC
  have : (itT t).map (itC 4) = (itT t).map id := List.map_congr_left fun x _ => by unfold itC; rw [if_pos rfl]; rfl
  rw [this, List.map_id]
theorem can_eq {o o' : Int} {t t' : Tr} (h : Can o t) (h' : Can o' t') (e : t.pairs = t'.pairs) : t = t' := by
  have tp : ∀ {o : Int} {t : Tr}, Can o t → Tp t := fun h => by
    rcases h.u.ok.1 with ⟨q, _⟩ | ⟨q, _⟩ | ⟨q, _⟩ | ⟨_, q⟩
    · cases q
    · cases q
    · cases q
    · exact q
  have un : ∀ {o : Int} {t : Tr}, Can o t → Unl (itT t) := fun {o t} h => by
    have ha := h.u.asc
    rw [its4] at ha
    unfold asc at ha
    rw [List.pairwise_map] at ha
    exact ha.imp fun {a b} q r => by
      rw [r] at q
      have := cmpI_self o b.1
      unfold ltO at q
      omega
  have ei : itT t = itT t' := by rw [← its4, ← its4, can_items h, can_items h', e]
  rw [tp_one (tp h) (un h), tp_one (tp h') (un h'), ei]
theorem can_bld {o po : Int} {l : List Pr} (ho : isO o = true) (hp : may po = true) (hI : InP l) : Can o (bldC 4 (tagL 4 [] (sortL o po l))) ∧ (bldC 4 (tagL 4 [] (sortL o po l))).pairs = sortL o po l := by
  have hm := sortL_may ho hp hI
  refine ⟨⟨bld_u (by decide) hm.1 hm.2.1, fun x hx => ?_⟩, bld_pairs (by decide)⟩
  rw [bldC_its (by decide)] at hx
  have : ∀ (l : List Pr), ∀ x ∈ drawL [] l, x.2.2 = mixK x.1 := by
    intro l
    induction l with
    | nil => intro x hx; cases hx
    | cons y l ih =>
      intro x hx
      rcases List.mem_cons.1 hx with rfl | hx
      · rfl
      · exact ih x hx
  exact this _ x hx
theorem c_canof {o po : Int} {l : List Pr} {q : Option Addr} {n cp : Nat} {w : World} {R : Ending → World → Prop} (ho : isO o = true) (hp : may po = true) (hl : Cs w q (prs l)) (hn : l.length = n) (hB : n ≤ 1000000) (hI : InP l)
    (h : ∀ qt t w', Ext w w' → IsN w' qt t → Can o t → t.pairs = sortL o po l → R (.returned (.tuple #[.pointer qt, .int .i64 0])) w') : Calls Tryz.prog 49 #[.int .u8 o, .int .u8 po, .slice q n cp] w R := by
  refine sh49_ok _ _ _ _ _ ?_
  unfold sh49
  refine do_call Tryz.call92 (c_schOf (fun hc => by cases hc) fun _ b w1 e1 hb hs => retS_ret ⟨_, _, rfl, ifB_f rfl ?_⟩)
  refine do_call Tryz.call23 (c_bof ho hp hs (isD_nil _) (Nat.zero_le _) (hl.ext e1) hn hB hI fun qt w2 g2 hs2 _ h2 => retS_ret ⟨_, _, rfl, ?_⟩)
  have C := can_bld ho hp hI
  exact h qt _ w2 (Ext.gs e1 (gs_none g2) (by omega)) h2 C.1 C.2
theorem c_canof_no {o po : Int} {l : List Pr} {q : Option Addr} {n cp : Nat} {w : World} {R : Ending → World → Prop} (hno : (isO o && may po) = false) (hl : Cs w q (prs l)) (hn : l.length = n) (hB : n ≤ 1000000) (hI : InP l)
    (h : ∀ w', Ext w w' → R (.returned (.tuple #[.pointer none, .int .i64 2])) w') : Calls Tryz.prog 49 #[.int .u8 o, .int .u8 po, .slice q n cp] w R := by
  refine sh49_ok _ _ _ _ _ ?_
  unfold sh49
  refine do_call Tryz.call92 (c_schOf (fun hc => by cases hc) fun _ b w1 e1 hb hs => retS_ret ⟨_, _, rfl, ifB_f rfl ?_⟩)
  exact do_call Tryz.call23 (c_bof_no (hl.ext e1) hn hB hI (.inr hno) fun w2 e2 => retS_ret ⟨_, _, rfl, h _ (e1.trans e2)⟩)
/-! ### digests -/
def turnB (s : Nat) (x : BitVec 64) : BitVec 64 := (x <<< s) ||| (x >>> (64 - s))
def digT : Tr → BitVec 64
  | .nil => 0
  | .node l k v _ r => mixB (1#64 + digT l + turnB 17 (digT r) + mixB (BitVec.ofInt 64 k) + turnB 31 (mixB (BitVec.ofInt 64 v)))
theorem c_digest : ∀ (t : Tr) {p : Option Addr} {w : World} {R : Ending → World → Prop} (_ht : IsN w p t) (_h : ∀ w', Ext w w' → R (.returned (.int .u64 (U (digT t)))) w'), Calls Tryz.prog 55 #[.pointer p] w R
  | .nil, p, w, R, ht, h => by
    refine sh55_ok _ ?_
    unfold sh55
    have : p = none := ht
    subst this
    exact ifB_t rfl (h w (ext_refl w))
  | .node l k v g r, p, w, R, ht, h => by
    refine sh55_ok _ ?_
    unfold sh55
    rw [ht.isNone]
    refine ifB_f rfl ?_
    refine do_call Tryz.call123 (c_left ht fun pl hpl => retS_ret ⟨_, rfl, ?_⟩)
    refine do_call Tryz.call55 (c_digest l hpl fun w1 e1 => retS_ret ⟨_, rfl, ?_⟩)
    refine do_call Tryz.call125 (c_right (ht.ext e1) fun pr hpr => retS_ret ⟨_, rfl, ?_⟩)
    refine do_call Tryz.call55 (c_digest r hpr fun w2 e2 => retS_ret ⟨_, rfl, ?_⟩)
    refine do_call Tryz.call124 (c_turn (s := 17) (by omega) (by decide) (retS_ret ⟨_, rfl, ?_⟩))
    have E2 := e1.trans e2
    refine do_call Tryz.call108 (c_key (ht.ext E2) fun w3 e3 => retS_ret ⟨_, rfl, ?_⟩)
    rw [wrap_U]
    refine do_call Tryz.call122 (c_mix fun w4 e4 => retS_ret ⟨_, rfl, ?_⟩)
    have E4 := (E2.trans e3).trans e4
    refine do_call Tryz.call126 (c_val (ht.ext E4) fun w5 e5 => retS_ret ⟨_, rfl, ?_⟩)
    rw [wrap_U]
    refine do_call Tryz.call122 (c_mix fun w6 e6 => retS_ret ⟨_, rfl, ?_⟩)
    refine do_call Tryz.call124 (c_turn (s := 31) (by omega) (by decide) (retS_ret ⟨_, rfl, ?_⟩))
    rw [show (1 : Int) = U 1#64 from rfl, add_U, add_U, add_U, add_U]
    exact do_call Tryz.call122 (c_mix fun w7 e7 => retS_ret ⟨_, rfl, h w7 (((E4.trans e5).trans e6).trans e7)⟩)
/-! ### is a tree canonical? -/
def MixT : Tr → Prop
  | .nil => True
  | .node l k _ g r => g = mixK k ∧ MixT l ∧ MixT r
theorem mixT_iff : ∀ {t : Tr}, MixT t ↔ ∀ x ∈ itsC 4 t, x.2.2 = mixK x.1
  | .nil => by simp [MixT, itsC_nil]
  | .node l k v g r => by
    rw [itsC_node]
    unfold MixT
    rw [mixT_iff (t := l), mixT_iff (t := r)]
    have e : itC 4 (k, v, g) = (k, v, g) := by unfold itC; rw [if_pos rfl]
    rw [e]
    constructor
    · rintro ⟨a, b, c⟩ x hx
      rcases List.mem_append.1 hx with hx | hx
      · exact b x hx
      · rcases List.mem_cons.1 hx with rfl | hx
        · exact a
        · exact c x hx
    · intro h
      exact ⟨h (k, v, g) (by simp), fun x hx => h x (by simp [hx]), fun x hx => h x (by simp [hx])⟩
theorem c_mixed : ∀ (t : Tr) {p : Option Addr} {w : World} {R : Ending → World → Prop} (_ht : IsN w p t) (_h : ∀ r w', Ext w w' → (r = true ↔ MixT t) → R (.returned (.bool r)) w'), Calls Tryz.prog 119 #[.pointer p] w R
  | .nil, p, w, R, ht, h => by
    refine sh119_ok _ ?_
    unfold sh119
    have : p = none := ht
    subst this
    intro K4
    exact ifB_t rfl (h _ w (ext_refl w) (by simp [MixT]))
  | .node l k v g r, p, w, R, ht, h => by
    refine sh119_ok _ ?_
    unfold sh119
    rw [ht.isNone]
    intro K4
    refine ifB_f rfl ?_
    refine do_call Tryz.call196 (c_tag ht fun w1 e1 => retS_ret ⟨_, rfl, ?_⟩)
    refine do_call Tryz.call108 (c_key (ht.ext e1) fun w2 e2 => retS_ret ⟨_, rfl, ?_⟩)
    refine do_call Tryz.call83 (c_mixof fun w3 e3 => retS_ret ⟨_, rfl, ?_⟩)
    have E3 := (e1.trans e2).trans e3
    refine ifB_intro (fun q => ?_) fun q => ?_
    · have q : g = mixK k := by simpa [Tr.tag, Tr.key] using q
      refine do_call Tryz.call123 (c_left (ht.ext E3) fun pl hpl => retS_ret ⟨_, rfl, ?_⟩)
      refine do_call Tryz.call119 (c_mixed l hpl fun r1 w4 e4 i4 => retS_ret ⟨_, rfl, ?_⟩)
      have E4 := E3.trans e4
      cases r1 with
      | false =>
        refine ifB_f rfl (h _ w4 E4 ?_)
        have : ¬ MixT l := fun q => by have := i4.2 q; cases this
        simp [MixT, this]
      | true =>
      have q4 := i4.1 rfl
      refine ifB_t rfl ?_
      refine do_call Tryz.call125 (c_right (ht.ext E4) fun pr hpr => retS_ret ⟨_, rfl, ?_⟩)
      refine do_call Tryz.call119 (c_mixed r hpr fun r2 w5 e5 i5 => retS_ret ⟨_, rfl, h _ w5 (E4.trans e5) ?_⟩)
      rw [i5]
      simp [MixT, q, q4]
    · have q : ¬ g = mixK k := by simpa [Tr.tag, Tr.key] using q
      exact h _ w3 E3 (by simp [MixT, q])
theorem c_cis_yes {o : Int} {t : Tr} {p : Option Addr} {w : World} {R : Ending → World → Prop} (ho : isO o = true) (ht : IsN w p t) (hc : Can o t) (hn : t.size ≤ 1000000) (h : ∀ w', Ext w w' → R (.returned (.bool true)) w') :
    Calls Tryz.prog 51 #[.int .u8 o, .pointer p] w R := by
  refine sh51_ok _ _ ?_
  unfold sh51
  have tp : Tp t := by
    rcases hc.u.ok.1 with ⟨q, _⟩ | ⟨q, _⟩ | ⟨q, _⟩ | ⟨_, q⟩
    · cases q
    · cases q
    · cases q
    · exact q
  refine do_call Tryz.call117 (c_scheckS ho ht hc.u.asc hc.u.k fun k w1 e1 => retS_ret ⟨_, _, rfl, ?_⟩)
  intro K9
  refine ifB_t rfl ?_
  refine do_call Tryz.call118 (sh118_ok _ ?_)
  unfold sh118
  refine do_call Tryz.call195 (c_tpcheck (ht.ext e1) tp (by simp only [BIG]; omega) fun k w2 e2 => retS_ret ⟨_, _, rfl, retS_ret ⟨_, rfl, ifB_t rfl ?_⟩⟩)
  refine do_call Tryz.call119 (c_mixed t (ht.ext (e1.trans e2)) fun r w3 e3 i3 => retS_ret ⟨_, rfl, ?_⟩)
  obtain rfl : r = true := i3.2 (mixT_iff.2 hc.mx)
  exact h w3 ((e1.trans e2).trans e3)
end Go.Proofs.YtlddfgfmkapoiaaGreat

namespace Go.Proofs.YtlddfgfmkapoiaaGreat
open Go Go.Sh Go.RowKit

def difT (o : Int) : Tr → List Pr → List Int
  | .nil, B => B.map (·.1)
  | .node l k v _ r, B => difT o l (B.filter fun x => decide (cmpI o x.1 k < 0)) ++ (if (k, v) ∈ B then [] else [k]) ++ difT o r (B.filter fun x => decide (0 < cmpI o x.1 k))
theorem difT_nil (o : Int) : ∀ a : Tr, difT o a [] = a.pairs.map (·.1)
  | .nil => rfl
  | .node l k v g r => by
    have e : (Tr.node l k v g r).pairs = l.pairs ++ (k, v) :: r.pairs := rfl
    rw [e]
    simp only [difT, List.filter_nil, difT_nil o l, difT_nil o r, List.not_mem_nil, if_false]
    simp
theorem difT_spec {o : Int} (ho : isO o = true) : ∀ {a : Tr} {B : List Pr}, (a.pairs.map (·.1)).Pairwise (ltO o) → (B.map (·.1)).Pairwise (ltO o) → (∀ x ∈ a.pairs, In x.1) → (∀ x ∈ B, In x.1) →
    (difT o a B).Pairwise (ltO o) ∧ ∀ k, k ∈ difT o a B ↔ ((∃ v, (k, v) ∈ a.pairs) ∨ ∃ v, (k, v) ∈ B) ∧ ¬ ∃ v, (k, v) ∈ a.pairs ∧ (k, v) ∈ B
  | .nil, B, ha, hb, _, _ => by
    refine ⟨hb, fun k => ?_⟩
    simp only [difT, List.mem_map, Tr.pairs, List.not_mem_nil, false_and, exists_false, not_false_iff, and_true, false_or]
    constructor
    · rintro ⟨x, hx, rfl⟩; exact ⟨x.2, hx⟩
    · rintro ⟨v, hv⟩; exact ⟨_, hv, rfl⟩
  | .node l k v g r, B, ha, hb, iA, iB => by
    have e : (Tr.node l k v g r).pairs = l.pairs ++ (k, v) :: r.pairs := rfl
    rw [e] at ha iA
    rw [List.map_append, List.map_cons] at ha
    obtain ⟨hl, hr, hx⟩ := List.pairwise_append.1 ha
    obtain ⟨hkr, hr⟩ := List.pairwise_cons.1 hr
    have ik : In k := iA (k, v) (by simp)
    have ltl : ∀ x ∈ l.pairs, cmpI o x.1 k < 0 := fun x q => hx x.1 (List.mem_map_of_mem q) k (by simp)
    have gtr : ∀ x ∈ r.pairs, cmpI o k x.1 < 0 := fun x q => hkr x.1 (List.mem_map_of_mem q)
    have sub : ∀ p : Pr → Bool, ((B.filter p).map (·.1)).Pairwise (ltO o) := fun p => List.Pairwise.sublist (List.Sublist.map _ List.filter_sublist) hb
    have IL := difT_spec ho (B := B.filter fun x => decide (cmpI o x.1 k < 0)) hl (sub _) (fun x q => iA x (by simp [q])) fun x q => iB x (List.mem_filter.1 q).1
    have IR := difT_spec ho (B := B.filter fun x => decide (0 < cmpI o x.1 k)) hr (sub _) (fun x q => iA x (by simp [q])) fun x q => iB x (List.mem_filter.1 q).1
    have dl : ∀ x ∈ difT o l (B.filter fun x => decide (cmpI o x.1 k < 0)), cmpI o x k < 0 := fun x q => by
      rcases ((IL.2 x).1 q).1 with ⟨u, hu⟩ | ⟨u, hu⟩
      · exact ltl (x, u) hu
      · exact (of_decide_eq_true (List.mem_filter.1 hu).2 : cmpI o (x, u).1 k < 0)
    have dr : ∀ x ∈ difT o r (B.filter fun x => decide (0 < cmpI o x.1 k)), cmpI o k x < 0 := fun x q => by
      rcases ((IR.2 x).1 q).1 with ⟨u, hu⟩ | ⟨u, hu⟩
      · exact gtr (x, u) hu
      · exact cmpI_pos (a := x) (b := k) (of_decide_eq_true (List.mem_filter.1 hu).2 : 0 < cmpI o (x, u).1 k)
    have dk : ∀ x ∈ (if (k, v) ∈ B then [] else [k]), x = k := fun x q => by
      split at q
      · cases q
      · simpa using q
    have sk := cmpI_self o k
    have asym : ∀ {x y : Int}, cmpI o x y < 0 → ¬ cmpI o y x < 0 := fun h h' => by have := cmpI_neg h; omega
    constructor
    · unfold difT
      refine List.pairwise_append.2 ⟨List.pairwise_append.2 ⟨IL.1, ?_, fun x hx y hy => ?_⟩, IR.1, fun x hx y hy => ?_⟩
      · split <;> simp
      · rw [dk y hy]; exact dl x hx
      · rcases List.mem_append.1 hx with q | q
        · exact cmpI_trans (dl x q) (dr y hy)
        · rw [dk x q]; exact dr y hy
    · intro x
      unfold difT
      rw [List.mem_append, List.mem_append, e]
      rcases Int.lt_trichotomy (cmpI o x k) 0 with c | c | c
      · have nk : x ≠ k := fun q => by rw [q] at c; omega
        have e1 : ∀ u, (x, u) ∈ l.pairs ++ (k, v) :: r.pairs ↔ (x, u) ∈ l.pairs := fun u => by
          rw [List.mem_append, List.mem_cons]
          refine ⟨fun q => q.elim id fun q => q.elim (fun q => absurd (Prod.mk.inj q).1 nk) fun q => absurd (gtr (x, u) q) (asym c), .inl⟩
        have e2 : ∀ u, (x, u) ∈ B.filter (fun x => decide (cmpI o x.1 k < 0)) ↔ (x, u) ∈ B := fun u => by rw [List.mem_filter]; simp [c]
        have := IL.2 x
        simp only [e2] at this
        simp only [e1]
        rw [← this]
        refine ⟨fun q => q.elim (fun q => q.elim id fun q => absurd (dk x q) nk) fun q => absurd (dr x q) (asym c), fun q => .inl (.inl q)⟩
      · by_cases hxi : x = k
        · subst hxi
          have n1 : x ∉ difT o l (B.filter fun y => decide (cmpI o y.1 x < 0)) := fun q => by have := dl x q; omega
          have n2 : x ∉ difT o r (B.filter fun y => decide (0 < cmpI o y.1 x)) := fun q => by have := dr x q; omega
          have e1 : ∀ u, (x, u) ∈ l.pairs ++ (x, v) :: r.pairs ↔ u = v := fun u => by
            rw [List.mem_append, List.mem_cons]
            refine ⟨fun q => q.elim (fun q => by have := ltl (x, u) q; simp only at this; omega) fun q => q.elim (fun q => (Prod.mk.inj q).2) fun q => by have := gtr (x, u) q; simp only at this; omega, fun q => .inr (.inl (by rw [q]))⟩
          simp only [e1, n1, n2, false_or, or_false]
          by_cases hb : (x, v) ∈ B
          · simp [hb]
          · simp [hb]
        · -- no key that came in
          have n1 : x ∉ difT o l (B.filter fun y => decide (cmpI o y.1 k < 0)) := fun q => by have := dl x q; omega
          have n2 : x ∉ difT o r (B.filter fun y => decide (0 < cmpI o y.1 k)) := fun q => by
            have h1 := dr x q
            have h2 := cmpI_neg h1
            omega
          have n3 : x ∉ (if (k, v) ∈ B then [] else [k]) := fun q => hxi (dk x q)
          constructor
          · rintro ((q | q) | q)
            · exact absurd q n1
            · exact absurd q n3
            · exact absurd q n2
          · rintro ⟨q, _⟩
            have ix : In x := by
              rcases q with ⟨u, hu⟩ | ⟨u, hu⟩
              · exact iA (x, u) hu
              · exact iB (x, u) hu
            exact absurd (cmpI_eq ho ix ik c) hxi
      · have c' := cmpI_pos c
        have nk : x ≠ k := fun q => by rw [q] at c; omega
        have e1 : ∀ u, (x, u) ∈ l.pairs ++ (k, v) :: r.pairs ↔ (x, u) ∈ r.pairs := fun u => by
          rw [List.mem_append, List.mem_cons]
          refine ⟨fun q => q.elim (fun q => absurd (ltl (x, u) q) (asym c')) fun q => q.elim (fun q => absurd (Prod.mk.inj q).1 nk) id, fun q => .inr (.inr q)⟩
        have e2 : ∀ u, (x, u) ∈ B.filter (fun x => decide (0 < cmpI o x.1 k)) ↔ (x, u) ∈ B := fun u => by rw [List.mem_filter]; simp [c]
        have := IR.2 x
        simp only [e2] at this
        simp only [e1]
        rw [← this]
        refine ⟨fun q => q.elim (fun q => q.elim (fun q => absurd (dl x q) (asym c')) fun q => absurd (dk x q) nk) id, .inr⟩
theorem difT_self {o : Int} (ho : isO o = true) {a : Tr} (ha : (a.pairs.map (·.1)).Pairwise (ltO o)) (iA : ∀ x ∈ a.pairs, In x.1) : difT o a a.pairs = [] := by
  have S := difT_spec ho ha ha iA iA
  cases hd : difT o a a.pairs with
  | nil => rfl
  | cons x t =>
    have := (S.2 x).1 (by rw [hd]; simp)
    obtain ⟨⟨v, hv⟩ | ⟨v, hv⟩, hn⟩ := this
    · exact absurd ⟨v, hv, hv⟩ hn
    · exact absurd ⟨v, hv, hv⟩ hn
/-- what is split off, in plain -/
theorem split_pairs {o k : Int} {b : Tr} (hu : OkU 4 o b) : (splitC 4 o k b).1.pairs = b.pairs.filter (fun x => decide (cmpI o x.1 k < 0)) ∧ (splitC 4 o k b).2.2.pairs = b.pairs.filter (fun x => decide (0 < cmpI o x.1 k)) ∧ OkU 4 o (splitC 4 o k b).1 ∧ OkU 4 o (splitC 4 o k b).2.2 := by
  have S := splitC_ok (key := k) hu.ok.1 hu.asc
  have fm : ∀ p : Int → Bool, ((itsC 4 b).filter fun x => p x.1).map (fun x => (x.1, x.2.1)) = b.pairs.filter fun x => p x.1 := fun p => by
    rw [prs_itsC (c := 4) b, List.filter_map]
    rfl
  refine ⟨?_, ?_, ⟨S.okl, by rw [S.lt]; exact asc_filter hu.asc, (inK_its (c := 4)).2 fun x hx => ?_⟩, ⟨S.okr, by rw [S.gt]; exact asc_filter hu.asc, (inK_its (c := 4)).2 fun x hx => ?_⟩⟩
  · rw [prs_itsC (c := 4) (splitC 4 o k b).1, S.lt]; exact fm fun z => decide (cmpI o z k < 0)
  · rw [prs_itsC (c := 4) (splitC 4 o k b).2.2, S.gt]; exact fm fun z => decide (0 < cmpI o z k)
  · rw [S.lt] at hx; exact (inK_its (c := 4)).1 hu.k x (List.mem_filter.1 hx).1
  · rw [S.gt] at hx; exact (inK_its (c := 4)).1 hu.k x (List.mem_filter.1 hx).1
theorem split_is {o k v : Int} {b : Tr} (ho : isO o = true) (hk : In k) (hu : OkU 4 o b) : ((splitC 4 o k b).2.1.isSome && (itO (splitC 4 o k b).2.1).2.1 == v) = decide ((k, v) ∈ b.pairs) := by
  have S := splitC_ok (key := k) hu.ok.1 hu.asc
  have h := S.eq
  rw [Bool.eq_iff_iff, decide_eq_true_iff, prs_itsC (c := 4) b]
  have hI := (inK_its (c := 4)).1 hu.k
  have hm : ∀ y, y ∈ eqF o k (itsC 4 b) ↔ y ∈ itsC 4 b ∧ y.1 = k := fun y => by
    unfold eqF
    rw [List.mem_filter, decide_eq_true_iff]
    refine and_congr_right fun hy => ⟨fun q => cmpI_eq ho (hI y hy) hk q, fun q => by rw [q]; exact cmpI_self o k⟩
  cases hs : (splitC 4 o k b).2.1 with
  | none =>
    rw [hs] at h
    constructor
    · intro q; cases q
    · intro q
      obtain ⟨y, hy, e⟩ := List.mem_map.1 q
      have := (hm y).2 ⟨hy, (Prod.mk.inj e).1⟩
      rw [← h] at this; cases this
  | some y =>
    rw [hs] at h
    have hy : y ∈ eqF o k (itsC 4 b) := by rw [← h]; simp
    have hy' := (hm y).1 hy
    constructor
    · intro q
      have q : y.2.1 = v := by simpa [itO] using q
      exact List.mem_map.2 ⟨y, hy'.1, by rw [hy'.2, q]⟩
    · intro q
      obtain ⟨z, hz, e⟩ := List.mem_map.1 q
      have := (hm z).2 ⟨hz, (Prod.mk.inj e).1⟩
      rw [← h] at this
      have : z = y := by simpa using this
      rw [this] at e
      simp [itO, (Prod.mk.inj e).2]
end Go.Proofs.YtlddfgfmkapoiaaGreat

