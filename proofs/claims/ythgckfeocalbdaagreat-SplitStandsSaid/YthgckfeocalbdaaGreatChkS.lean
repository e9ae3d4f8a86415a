/-
  sound.Check of a tree whose keys rise: nothing is wrong.
-/
import Derived.Test.YthgckfeocalbdaaGreatChkR
namespace Go.Proofs.YthgckfeocalbdaaGreat
open Go Go.Sh Go.RowKit

/-- what lies above is kept -/
def KP (d : Nat) (w w' : World) : Prop := ∀ b cs ty, d < b → Blk w b cs ty → Blk w' b cs ty
theorem KP.trans {d : Nat} {x y z : World} (h : KP d x y) (k : KP d y z) : KP d x z := fun b cs ty hb q => k b cs ty hb (h b cs ty hb q)
theorem KP.of {d : Nat} {w w' : World} (e : Ext w w') : KP d w w' := fun _ _ _ _ q => q.ext e
/-- a bound that lets keys through -/
def MayB (J : Nat → World → Prop) (d : Nat) (w : World) (P : Int → Prop) (f : Fn) (xs cs : Array Value) : Prop :=
  ∀ n w' key (K : Ending → World → Prop), KP d w w' → J n w' → In key → P key → (∀ w'', Ext w' w'' → K (.returned (.bool true)) w'') → doCall Tryz.prog (.func f xs cs) #[.int .i64 key] w' K
theorem MayB.kp {J : Nat → World → Prop} {d : Nat} {w w1 : World} {P : Int → Prop} {f : Fn} {xs cs : Array Value} (h : MayB J d w P f xs cs) (k : KP d w w1) : MayB J d w1 P f xs cs := fun n w' key K q j hk hp hK => h n w' key K (k.trans q) j hk hp hK
section
variable {J : Nat → World → Prop} {d bo : Nat} {o : Int} {w0 : World}
theorem mayB_left (hJe : ∀ n w, J n w → Ext w0 w) (hJx : ∀ n w w', J n w → Ext w w' → J n w') (hJo : ∀ n w, J n w → Blk w bo #[.int .u8 o] 5) {w : World} {P : Int → Prop} {f : Fn} {xs cs : Array Value} {b8 b10 : Nat} {p : Option Addr} {l r : Tr} {k v g : Int} (h8 : d < b8) (h10 : d < b10)
    (hM : MayB J d w P f xs cs) (hb8 : Blk w b8 #[.pointer p] 29) (hb10 : Blk w b10 #[.func f xs cs] 201) (ht : IsN w0 p (.node l k v g r)) (hk : In k) :
    MayB J d w (fun x => P x ∧ cmpI o x k < 0) (.func 137) #[] #[.pointer (some (blk b10)), .pointer (some (blk bo)), .pointer (some (blk b8))] := by
  intro n w' key K hkp hj hkey hp hK
  refine do_callc Tryz.call137 (by rfl) (sh137_ok _ _ _ _ ?_)
  unfold sh137
  intro K7
  have dr := ext_drew w'
  have hb8' := hkp _ _ _ h8 hb8
  have hb10' := hkp _ _ _ h10 hb10
  have hbo := hJo _ _ hj
  refine ⟨⟨fun w'' => Ext w' w'', dr, _, _, _, fun w'' e => (hb10'.ext e).cell (i := 0) rfl rfl, ?_⟩⟩
  refine hM n _ key _ (hkp.trans (.of dr)) (hJx _ _ _ hj dr) hkey hp.1 fun w1 e1 => retS_ret ⟨_, rfl, dr.trans e1, ?_⟩
  refine ifB_t rfl ⟨_, fun w'' e => (hbo.ext e).cell (i := 0) rfl rfl, _, fun w'' e => (hb8'.ext e).cell (i := 0) rfl rfl, ?_⟩
  have E1 := dr.trans e1
  refine do_call Tryz.call67 (c_key (ht.ext ((hJe _ _ hj).trans E1)) fun w2 e2 => retS_ret ⟨_, rfl, E1.trans e2, ?_⟩)
  refine do_call Tryz.call64 (c_compare hkey hk fun w3 e3 => retS_ret ⟨_, rfl, (E1.trans e2).trans e3, ?_⟩)
  have : decide (cmpI o key (Tr.node l k v g r).key < 0) = true := decide_eq_true hp.2
  simp -zeta -zetaHave only [K7]
  have hh := hK _ ((E1.trans e2).trans e3)
  rw [← this] at hh
  exact hh
theorem mayB_right (hJe : ∀ n w, J n w → Ext w0 w) (hJx : ∀ n w w', J n w → Ext w w' → J n w') (hJo : ∀ n w, J n w → Blk w bo #[.int .u8 o] 5) {w : World} {P : Int → Prop} {f : Fn} {xs cs : Array Value} {b8 b10 : Nat} {p : Option Addr} {l r : Tr} {k v g : Int} (h8 : d < b8) (h10 : d < b10)
    (hM : MayB J d w P f xs cs) (hb8 : Blk w b8 #[.pointer p] 29) (hb10 : Blk w b10 #[.func f xs cs] 201) (ht : IsN w0 p (.node l k v g r)) (hk : In k) :
    MayB J d w (fun x => P x ∧ 0 < cmpI o x k) (.func 138) #[] #[.pointer (some (blk b10)), .pointer (some (blk bo)), .pointer (some (blk b8))] := by
  intro n w' key K hkp hj hkey hp hK
  refine do_callc Tryz.call138 (by rfl) (sh138_ok _ _ _ _ ?_)
  unfold sh138
  intro K7
  have dr := ext_drew w'
  have hb8' := hkp _ _ _ h8 hb8
  have hb10' := hkp _ _ _ h10 hb10
  have hbo := hJo _ _ hj
  refine ⟨⟨fun w'' => Ext w' w'', dr, _, _, _, fun w'' e => (hb10'.ext e).cell (i := 0) rfl rfl, ?_⟩⟩
  refine hM n _ key _ (hkp.trans (.of dr)) (hJx _ _ _ hj dr) hkey hp.1 fun w1 e1 => retS_ret ⟨_, rfl, dr.trans e1, ?_⟩
  refine ifB_t rfl ⟨_, fun w'' e => (hbo.ext e).cell (i := 0) rfl rfl, _, fun w'' e => (hb8'.ext e).cell (i := 0) rfl rfl, ?_⟩
  have E1 := dr.trans e1
  refine do_call Tryz.call67 (c_key (ht.ext ((hJe _ _ hj).trans E1)) fun w2 e2 => retS_ret ⟨_, rfl, E1.trans e2, ?_⟩)
  refine do_call Tryz.call64 (c_compare hkey hk fun w3 e3 => retS_ret ⟨_, rfl, (E1.trans e2).trans e3, ?_⟩)
  have : decide (cmpI o key (Tr.node l k v g r).key > 0) = true := decide_eq_true hp.2
  simp -zeta -zetaHave only [K7]
  have hh := hK _ ((E1.trans e2).trans e3)
  rw [← this] at hh
  exact hh
abbrev onS (bo b5 b7 : Nat) : Value := .func (.func 136) #[] #[.pointer (some (blk bo)), .pointer (some (blk b5)), .pointer (some (blk b7))]
set_option maxRecDepth 20000 in
set_option maxHeartbeats 1600000 in
theorem do_onS {c : Int} {Y1 : Fn} {Y2 Y3 : Array Value} {b5 b7 : Nat} {T5 T7 : TypeId} (hd5 : d < b5) (hd7 : d < b7) (hJd : ∀ n w, J n w → d < w.heap.size) (hJe : ∀ n w, J n w → Ext w0 w) (hJx : ∀ n w w', J n w → Ext w w' → J n w') (hJo : ∀ n w, J n w → Blk w bo #[.int .u8 o] 5)
    (hY : ∀ n q w (K : Ending → World → Prop), J n w → (∀ w', J (n + 1) w' → KP d w w' → K (.returned (.bool true)) w') → doCall Tryz.prog (.func Y1 Y2 Y3) #[.pointer q, .bool false] w K) :
    ∀ (t : Tr) {p : Option Addr} {n : Nat} {w : World} {P : Int → Prop} {f : Fn} {xs cs : Array Value} {K : Ending → World → Prop} (_ht : IsN w0 p t) (_ha : asc o (itsC c t)) (_hk : InK t) (_hP : ∀ x ∈ itsC c t, P x.1) (_hM : MayB J d w P f xs cs) (_hj : J n w)
      (_h5 : Blk w b5 #[.func Y1 Y2 Y3] T5) (_h7 : Blk w b7 #[onS bo b5 b7] T7) (_h : ∀ w', J (n + t.size) w' → KP d w w' → K (.returned (.bool true)) w'), doCall Tryz.prog (onS bo b5 b7) #[.pointer p, .func f xs cs] w K
  | t, p, n, w, P, f, xs, cs, K, ht, ha, hk, hP, hM, hj, h5, h7, h => by
    refine do_callc Tryz.call136 (by rfl) (sh136_ok _ _ _ _ _ _ _ ?_)
    unfold sh136
    refine ⟨⟨?_⟩⟩
    have e1 := ext_alloc w (.cells #[.pointer p] 29)
    have h8 := blk_alloc w #[.pointer p] 29
    have d8 := hJd _ _ hj
    generalize w.heap.size = b8 at *
    generalize w.alloc (.cells #[.pointer p] 29) = w1 at *
    have e2 := ext_alloc w1 (.cells #[.func f xs cs] 201)
    have h10 := blk_alloc w1 #[.func f xs cs] 201
    have d10 : d < w1.heap.size := by have := h8.lt; omega
    generalize w1.heap.size = b10 at *
    generalize w1.alloc (.cells #[.func f xs cs] 201) = w2 at *
    have E2 := e1.trans e2
    have h82 := h8.ext e2
    have h52 := h5.ext E2
    have h72 := h7.ext E2
    have hj2 := hJx _ _ _ hj E2
    have hM2 := hM.kp (.of E2)
    refine ⟨_, h82.cell (i := 0) rfl rfl, ?_⟩
    rw [ht.isNone]
    match t, ht, ha, hk, hP, h with
    | .nil, ht, ha, hk, hP, h => exact ifB_t rfl (h _ hj2 (.of E2))
    | .node l k v g r, ht, ha, hk, hP, h =>
      refine ifB_f rfl ?_
      intro K15
      have e : (Tr.node l k v g r).size = l.size + 1 + r.size := rfl
      obtain ⟨al, ar, bl, br⟩ := asc_node ha
      obtain ⟨kl, kk, kr⟩ := hk
      have hPk : P k := by
        have := hP (itC c (k, v, g)) (by rw [itsC_node]; simp)
        rw [itC_key] at this
        exact this
      have dr := ext_drew w2
      have hC : ∀ w', KP d w2 w' → Blk w' b5 #[.func Y1 Y2 Y3] T5 ∧ Blk w' b8 #[.pointer p] 29 ∧ Blk w' b10 #[.func f xs cs] 201 ∧ Blk w' b7 #[onS bo b5 b7] T7 := fun w' q => ⟨q _ _ _ hd5 h52, q _ _ _ d8 h82, q _ _ _ d10 h10, q _ _ _ hd7 h72⟩
      have hj3 := hJx _ _ _ hj2 dr
      refine ⟨⟨fun w' => KP d w2 w', .of dr, _, _, _, fun w' q => (hC w' q).1.cell (i := 0) rfl rfl, _, fun w' q => (hC w' q).2.1.cell (i := 0) rfl rfl, _, _, _, fun w' q => (hC w' q).2.2.1.cell (i := 0) rfl rfl, _, fun w' q => (hC w' q).2.1.cell (i := 0) rfl rfl, ?_⟩⟩
      refine do_call Tryz.call67 (c_key (ht.ext (hJe _ _ hj3)) fun w4 e4 => retS_ret ⟨_, rfl, .of (dr.trans e4), ?_⟩)
      have hj4 := hJx _ _ _ hj3 e4
      refine hM2 n _ k _ (.of (dr.trans e4)) hj4 kk hPk fun w5 e5 => retS_ret ⟨_, rfl, .of ((dr.trans e4).trans e5), ?_⟩
      have hj5 := hJx _ _ _ hj4 e5
      refine hY n p _ _ hj5 fun w6 hj6 k6 => retS_ret ⟨_, rfl, ?_⟩
      have q6 : KP d w2 w6 := (KP.of ((dr.trans e4).trans e5)).trans k6
      refine ⟨q6, ifB_t rfl ⟨_, _, _, fun w' q => (hC w' q).2.2.2.cell (i := 0) rfl rfl, _, fun w' q => (hC w' q).2.1.cell (i := 0) rfl rfl, ?_⟩⟩
      refine do_call Tryz.call68 (c_left0 ht (hJe _ _ hj6) fun pl hpl => retS_ret ⟨_, rfl, q6, ?_⟩)
      have ML := mayB_left hJe hJx hJo d8 d10 (hM2.kp q6) (hC w6 q6).2.1 (hC w6 q6).2.2.1 ht kk
      refine do_onS hd5 hd7 hJd hJe hJx hJo hY l hpl al kl (fun x hx => ⟨hP x (by rw [itsC_node]; simp [hx]), bl x hx⟩) ML hj6 (hC w6 q6).1 (hC w6 q6).2.2.2 fun w7 hj7 k7 => retS_ret ⟨_, rfl, q6.trans k7, ?_⟩
      have q7 := q6.trans k7
      refine ifB_t rfl ⟨_, _, _, fun w' q => (hC w' q).2.2.2.cell (i := 0) rfl rfl, _, fun w' q => (hC w' q).2.1.cell (i := 0) rfl rfl, ?_⟩
      refine do_call Tryz.call66 (c_right0 ht (hJe _ _ hj7) fun pr hpr => retS_ret ⟨_, rfl, q7, ?_⟩)
      have MR := mayB_right hJe hJx hJo d8 d10 (hM2.kp q7) (hC w7 q7).2.1 (hC w7 q7).2.2.1 ht kk
      refine do_onS hd5 hd7 hJd hJe hJx hJo hY r hpr ar kr (fun x hx => ⟨hP x (by rw [itsC_node]; simp [hx]), cmpI_neg (br x hx)⟩) MR hj7 (hC w7 q7).1 (hC w7 q7).2.2.2 fun w8 hj8 k8 => retS_ret ⟨_, rfl, q7.trans k8, ?_⟩
      rw [show n + 1 + l.size + r.size = n + (Tr.node l k v g r).size by omega] at hj8
      exact h _ hj8 ((KP.of E2).trans (q7.trans k8))
  termination_by t => t.size
  decreasing_by all_goals simp_wf; simp only [Tr.size]; omega
end
end Go.Proofs.YthgckfeocalbdaaGreat
