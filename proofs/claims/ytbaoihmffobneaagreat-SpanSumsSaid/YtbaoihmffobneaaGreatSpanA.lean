/-
  span: what stands ahead of a key, added up; Count, Sum.
-/
import Derived.Test.YtbaoihmffobneaaGreatSpanLaw
namespace Go.Proofs.YtbaoihmffobneaaGreat
open Go Go.Sh Go.RowKit

def nodeS (w : World) : Value → Nat
  | .pointer (some q) => match w.cell? (q.add 4) with | some (.int _ k) => k.toNat | _ => 0
  | _ => 0
theorem nodeS_is {w : World} {p : Option Addr} {t : Tr} (ht : IsN w p t) : nodeS w (.pointer p) = t.size := by
  cases t with
  | nil => have : p = none := ht; subst this; rfl
  | node l k v g r =>
    obtain ⟨b, pl, pr, rfl, hb, _⟩ := ht
    have : w.cell? ((blk b).add 4) = some (.int .i64 ((Tr.node l k v g r).size : Nat)) := hb.cell (i := 4) (add_blk _ _) rfl
    show (match w.cell? ((blk b).add 4) with | some (.int _ k) => k.toNat | _ => 0) = _
    rw [this]
    rfl
def totI (φ : It → Int) (l : List It) : Int := (l.map φ).sum
theorem totI_app (φ : It → Int) (a b : List It) : totI φ (a ++ b) = totI φ a + totI φ b := by unfold totI; rw [List.map_append, List.sum_append]
theorem totI_cons (φ : It → Int) (x : It) (b : List It) : totI φ (x :: b) = φ x + totI φ b := by unfold totI; rw [List.map_cons, List.sum_cons]
/-- up to a key, with it, or without -/
def upB (o key : Int) (wth : Bool) (x : It) : Bool := decide (cmpI o x.1 key < 0) || (decide (cmpI o x.1 key = 0) && wth)
theorem itC_key_up {c o key : Int} {wth : Bool} {x : It} : upB o key wth (itC c x) = upB o key wth x := by unfold upB; rw [itC_key]
theorem wrap_wrap (a : Int) : IntKind.wrap .i64 (IntKind.wrap .i64 a) = IntKind.wrap .i64 a := by
  have := wrap_add a 0
  rw [Int.add_zero, Int.add_zero] at this
  exact this
theorem wrap_step (s a x b y : Int) : IntKind.wrap .i64 (IntKind.wrap .i64 (s + IntKind.wrap .i64 (IntKind.wrap .i64 (a + (x + b)) - IntKind.wrap .i64 b)) + y) = IntKind.wrap .i64 (s + (a + (x + y))) := by
  simp only [IntKind.wrap, IntKind.signed, IntKind.bits]
  simp
  omega
/-- a function value that tells what a tree comes to -/
def GoF (w : World) (t : Tr) (c : Int) (f : Fn) (φ : It → Int) : Prop :=
  ∀ (p : Option Addr) (w' : World) (R : Ending → World → Prop), IsN w p t → Ext w w' → (∀ w'', Ext w' w'' → R (.returned (.int .i64 (IntKind.wrap .i64 (totI φ (itsC c t))))) w'') → doCall Tryz.prog (.func f #[] #[]) #[.pointer p] w' R
def AllF (w : World) : Tr → Int → Fn → (It → Int) → Prop
  | .nil, c, f, φ => GoF w .nil c f φ
  | .node l k v g r, c, f, φ => GoF w (.node l k v g r) c f φ ∧ AllF w l c f φ ∧ AllF w r c f φ
theorem AllF.go {w : World} {t : Tr} {c : Int} {f : Fn} {φ : It → Int} (h : AllF w t c f φ) : GoF w t c f φ := by
  cases t with
  | nil => exact h
  | node l k v g r => exact h.1
theorem AllF.node {w : World} {l r : Tr} {k v g c : Int} {f : Fn} {φ : It → Int} (h : AllF w (.node l k v g r) c f φ) : AllF w l c f φ ∧ AllF w r c f φ ∧
    ∀ (p : Option Addr) (w' : World) (R : Ending → World → Prop), IsN w p (.node l k v g r) → Ext w w' → (∀ w'', Ext w' w'' → R (.returned (.int .i64 (IntKind.wrap .i64 (totI φ (itsC c l) + (φ (itC c (k, v, g)) + totI φ (itsC c r)))))) w'') → doCall Tryz.prog (.func f #[] #[]) #[.pointer p] w' R := by
  refine ⟨h.2.1, h.2.2, fun p w' R hp e hh => h.1 p w' R hp e ?_⟩
  rw [itsC_node, totI_app, totI_cons]
  exact hh
theorem tot_one (l : List It) : totI (fun _ => 1) l = (l.length : Int) := by
  unfold totI
  induction l with
  | nil => rfl
  | cons x xs ih => rw [List.map_cons, List.sum_cons, ih, List.length_cons]; omega
theorem goF_size (w : World) (c : Int) (t : Tr) (hs : t.size ≤ 1000000) : GoF w t c (.func 80) fun _ => 1 := fun p w' R hp e' hh => do_call Tryz.call80 (c_tsize (hp.ext e') fun w1 e1 => by
  have := hh w1 e1
  rw [tot_one, itsC_len, wrap_of (by omega) (by omega)] at this
  exact this)
theorem goF_sum (w : World) (c : Int) (t : Tr) : GoF w t c (.func 88) fun x => x.2.1 := fun p w' R hp e' hh => do_call Tryz.call88 (c_tsum (hp.ext e') fun w1 e1 => by
  have := hh w1 e1
  have et : totI (fun x => x.2.1) (itsC c t) = totT t := (tot_its c _).symm
  rw [et, ← sum_tot] at this
  exact this)
theorem allF_size (w : World) (c : Int) : ∀ t : Tr, t.size ≤ 1000000 → AllF w t c (.func 80) fun _ => 1
  | .nil, hs => goF_size w c .nil hs
  | .node l k v g r, hs => by
    have e : (Tr.node l k v g r).size = l.size + 1 + r.size := rfl
    exact ⟨goF_size w c _ hs, allF_size w c l (by omega), allF_size w c r (by omega)⟩
theorem allF_sum (w : World) (c : Int) : ∀ t : Tr, AllF w t c (.func 88) fun x => x.2.1
  | .nil => goF_sum w c .nil
  | .node l _ _ _ r => ⟨goF_sum w c _, allF_sum w c l, allF_sum w c r⟩
set_option maxRecDepth 20000 in
set_option maxHeartbeats 1600000 in
theorem c_spaheadN {c o key : Int} {wth : Bool} {φ : It → Int} {f : Fn} (hk : In key) {t : Tr} {p : Option Addr} {w : World} {R : Ending → World → Prop} (ht : IsN w p t) (ha : asc o (itsC c t)) (hkt : InK t) (hf : AllF w t c f φ)
    (h : ∀ w', Ext w w' → R (.returned (.int .i64 (IntKind.wrap .i64 (totI φ ((itsC c t).filter (upB o key wth)))))) w') : Calls Tryz.prog 119 #[.int .u8 o, .pointer p, .int .i64 key, .bool wth, .func f #[] #[]] w R := by
  refine sh119_ok _ _ _ _ _ _ _ ?_
  unfold sh119
  refine ⟨fun vs w' => ∃ (q : Option Addr) (u : Tr) (s : Int), vs = [.pointer q, .int .i64 s] ∧ Ext w w' ∧ IsN w q u ∧ asc o (itsC c u) ∧ InK u ∧ AllF w u c f φ ∧ IntKind.wrap .i64 (s + totI φ ((itsC c u).filter (upB o key wth))) = IntKind.wrap .i64 (totI φ ((itsC c t).filter (upB o key wth))) ∧ IntKind.wrap .i64 s = s,
    fun vs w' => nodeS w' (vs.getD 0 undef), ⟨p, t, 0, rfl, ext_refl _, ht, ha, hkt, hf, by rw [Int.zero_add], rfl⟩, ?_⟩
  rintro q_ s_ _ w1 ⟨q, u, s, hv, E, hu, hau, hku, hfu, hinv, hws⟩
  simp only [List.cons.injEq, Value.pointer.injEq, Value.int.injEq, true_and, and_true] at hv
  obtain ⟨v1, v2⟩ := hv
  have v1 := v1.symm; subst v1
  have v2 := v2.symm; subst v2
  rw [hu.isNone]
  match u, hu, hau, hku, hfu, hinv with
  | .nil, hu, hau, hku, hfu, hinv =>
    refine ifB_f rfl ?_
    have := h w1 E
    rw [← hinv] at this
    have e : s + totI φ ((itsC c .nil).filter (upB o key wth)) = s := by show s + 0 = s; omega
    rw [e, hws] at this
    exact this
  | .node l k v g r, hu, hau, hku, hfu, hinv =>
    refine ifB_t rfl ?_
    obtain ⟨al, ar, bl, br⟩ := asc_node hau
    obtain ⟨kl, kk, kr⟩ := hku
    obtain ⟨fl, fr, fn⟩ := hfu.node
    refine do_call Tryz.call107 (c_key (hu.ext E) fun w2 e2 => retS_ret ⟨_, rfl, ?_⟩)
    refine do_call Tryz.call129 (c_compare kk hk fun w3 e3 => retS_ret ⟨_, rfl, ?_⟩)
    have E3 := (E.trans e2).trans e3
    intro K21 K36
    have hleft : (cmpI o k key > 0 ∨ (cmpI o k key = 0 ∧ wth = false)) → ∀ w', Ext w w' → doCall Tryz.prog (.func (.func 108) #[] #[]) #[.pointer q] w' (retS (fun v38 w39 => ∃ (x37 : Option Addr), v38 = (.pointer x37 : Value) ∧ (
        (∃ (q' : Option Addr) (u : Tr) (s' : Int), [Value.pointer x37, .int .i64 s] = [.pointer q', .int .i64 s'] ∧ Ext w w39 ∧ IsN w q' u ∧ asc o (itsC c u) ∧ InK u ∧ AllF w u c f φ ∧ IntKind.wrap .i64 (s' + totI φ ((itsC c u).filter (upB o key wth))) = IntKind.wrap .i64 (totI φ ((itsC c t).filter (upB o key wth))) ∧ IntKind.wrap .i64 s' = s') ∧
        nodeS w39 (.pointer x37) < nodeS w1 (.pointer q))) (fun ch w => Kfn R ch [] w)) := by
      intro hc w' e'
      refine do_call Tryz.call108 (c_left0 hu e' fun pl hpl => retS_ret ⟨_, rfl, ⟨pl, l, s, rfl, e', hpl, al, kl, fl, ?_, hws⟩, ?_⟩)
      · rw [← hinv, itsC_node, List.filter_append, List.filter_cons, itC_key_up, if_neg, filt_no (l := itsC c r), List.append_nil]
        · intro x hx
          have := br x hx
          unfold upB
          rcases hc with hc | ⟨hc, hw⟩
          · have := cmpI_neg (cmpI_trans (cmpI_pos hc) this)
            rw [decide_eq_false (by omega), decide_eq_false (show ¬ cmpI o x.1 key = 0 by omega)]; simp
          · have := cmpI_eql this hc
            rw [decide_eq_false (by omega), decide_eq_false (show ¬ cmpI o x.1 key = 0 by omega)]; simp
        · unfold upB
          rcases hc with hc | ⟨hc, hw⟩
          · simp; omega
          · simp [hw]; omega
      · rw [nodeS_is (hpl.ext e'), nodeS_is (hu.ext E)]
        show l.size < l.size + 1 + r.size
        omega
    have hright : (cmpI o k key < 0 ∨ (cmpI o k key = 0 ∧ wth = true)) → ∀ w', Ext w w' → K21 w' := by
      intro hc w' e'
      simp -zeta -zetaHave only [K21]
      refine fn q w' _ hu e' fun w4 e4 => retS_ret ⟨_, rfl, ?_⟩
      refine do_call Tryz.call109 (c_right0 hu (e'.trans e4) fun pr hpr => retS_ret ⟨_, rfl, ?_⟩)
      refine fr.go pr w4 _ hpr (e'.trans e4) fun w5 e5 => retS_ret ⟨_, rfl, ?_⟩
      have E5 := (e'.trans e4).trans e5
      refine do_call Tryz.call109 (c_right0 hu E5 fun pr2 hpr2 => retS_ret ⟨_, rfl, ⟨pr2, r, _, rfl, E5, hpr2, ar, kr, fr, ?_, wrap_wrap _⟩, ?_⟩)
      · rw [← hinv, itsC_node, List.filter_append, List.filter_cons, itC_key_up, if_pos, filt_all (l := itsC c l), totI_app, totI_cons]
        · exact wrap_step _ _ _ _ _
        · intro x hx
          have := bl x hx
          unfold upB
          rcases hc with hc | ⟨hc, hw⟩
          · rw [decide_eq_true (cmpI_trans this hc)]; rfl
          · rw [decide_eq_true (cmpI_eqr this hc)]; rfl
        · unfold upB
          rcases hc with hc | ⟨hc, hw⟩
          · simp [hc]
          · simp [hc, hw]
      · show nodeS w5 (.pointer pr2) < nodeS w1 (.pointer q)
        rw [nodeS_is (hpr2.ext E5), nodeS_is (hu.ext E)]
        show r.size < l.size + 1 + r.size
        omega
    refine ifB_intro (fun h1 => ?_) fun h1 => ?_
    · have h1 : cmpI o k key > 0 := of_decide_eq_true h1
      exact hleft (.inl h1) _ E3
    · have h1 : ¬ cmpI o k key > 0 := of_decide_eq_false h1
      refine ifB_intro (fun h2 => ?_) fun h2 => ?_
      · have h2 : cmpI o k key = 0 := by simpa using h2
        simp -zeta -zetaHave only [K36]
        by_cases hwt : wth = true
        · exact ifB_f (by rw [hwt]; rfl) (hright (.inr ⟨h2, hwt⟩) _ E3)
        · exact ifB_t (by simp [hwt]) (hleft (.inr ⟨h2, by simpa using hwt⟩) _ E3)
      · have h2 : cmpI o k key ≠ 0 := by simpa using h2
        exact hright (.inl (by omega)) _ E3
set_option maxRecDepth 20000 in
set_option maxHeartbeats 1600000 in
theorem c_spaheadS {c o key : Int} {wth : Bool} {φ : It → Int} {f : Fn} (hk : In key) {t : Tr} {p : Option Addr} {w : World} {R : Ending → World → Prop} (ht : IsN w p t) (ha : asc o (itsC c t)) (hkt : InK t) (hf : AllF w t c f φ)
    (h : ∀ w', Ext w w' → R (.returned (.int .i64 (IntKind.wrap .i64 (totI φ ((itsC c t).filter (upB o key wth)))))) w') : Calls Tryz.prog 120 #[.int .u8 o, .pointer p, .int .i64 key, .bool wth, .func f #[] #[]] w R := by
  refine sh120_ok _ _ _ _ _ _ _ ?_
  unfold sh120
  refine ⟨fun vs w' => ∃ (q : Option Addr) (u : Tr) (s : Int), vs = [.pointer q, .int .i64 s] ∧ Ext w w' ∧ IsN w q u ∧ asc o (itsC c u) ∧ InK u ∧ AllF w u c f φ ∧ IntKind.wrap .i64 (s + totI φ ((itsC c u).filter (upB o key wth))) = IntKind.wrap .i64 (totI φ ((itsC c t).filter (upB o key wth))) ∧ IntKind.wrap .i64 s = s,
    fun vs w' => nodeS w' (vs.getD 0 undef), ⟨p, t, 0, rfl, ext_refl _, ht, ha, hkt, hf, by rw [Int.zero_add], rfl⟩, ?_⟩
  rintro q_ s_ _ w1 ⟨q, u, s, hv, E, hu, hau, hku, hfu, hinv, hws⟩
  simp only [List.cons.injEq, Value.pointer.injEq, Value.int.injEq, true_and, and_true] at hv
  obtain ⟨v1, v2⟩ := hv
  have v1 := v1.symm; subst v1
  have v2 := v2.symm; subst v2
  rw [hu.isNone]
  match u, hu, hau, hku, hfu, hinv with
  | .nil, hu, hau, hku, hfu, hinv =>
    refine ifB_f rfl ?_
    have := h w1 E
    rw [← hinv] at this
    have e : s + totI φ ((itsC c .nil).filter (upB o key wth)) = s := by show s + 0 = s; omega
    rw [e, hws] at this
    exact this
  | .node l k v g r, hu, hau, hku, hfu, hinv =>
    refine ifB_t rfl ?_
    obtain ⟨al, ar, bl, br⟩ := asc_node hau
    obtain ⟨kl, kk, kr⟩ := hku
    obtain ⟨fl, fr, fn⟩ := hfu.node
    refine do_call Tryz.call107 (c_key (hu.ext E) fun w2 e2 => retS_ret ⟨_, rfl, ?_⟩)
    refine do_call Tryz.call129 (c_compare kk hk fun w3 e3 => retS_ret ⟨_, rfl, ?_⟩)
    have E3 := (E.trans e2).trans e3
    intro K21 K36
    have hleft : (cmpI o k key > 0 ∨ (cmpI o k key = 0 ∧ wth = false)) → ∀ w', Ext w w' → doCall Tryz.prog (.func (.func 108) #[] #[]) #[.pointer q] w' (retS (fun v38 w39 => ∃ (x37 : Option Addr), v38 = (.pointer x37 : Value) ∧ (
        (∃ (q' : Option Addr) (u : Tr) (s' : Int), [Value.pointer x37, .int .i64 s] = [.pointer q', .int .i64 s'] ∧ Ext w w39 ∧ IsN w q' u ∧ asc o (itsC c u) ∧ InK u ∧ AllF w u c f φ ∧ IntKind.wrap .i64 (s' + totI φ ((itsC c u).filter (upB o key wth))) = IntKind.wrap .i64 (totI φ ((itsC c t).filter (upB o key wth))) ∧ IntKind.wrap .i64 s' = s') ∧
        nodeS w39 (.pointer x37) < nodeS w1 (.pointer q))) (fun ch w => Kfn R ch [] w)) := by
      intro hc w' e'
      refine do_call Tryz.call108 (c_left0 hu e' fun pl hpl => retS_ret ⟨_, rfl, ⟨pl, l, s, rfl, e', hpl, al, kl, fl, ?_, hws⟩, ?_⟩)
      · rw [← hinv, itsC_node, List.filter_append, List.filter_cons, itC_key_up, if_neg, filt_no (l := itsC c r), List.append_nil]
        · intro x hx
          have := br x hx
          unfold upB
          rcases hc with hc | ⟨hc, hw⟩
          · have := cmpI_neg (cmpI_trans (cmpI_pos hc) this)
            rw [decide_eq_false (by omega), decide_eq_false (show ¬ cmpI o x.1 key = 0 by omega)]; simp
          · have := cmpI_eql this hc
            rw [decide_eq_false (by omega), decide_eq_false (show ¬ cmpI o x.1 key = 0 by omega)]; simp
        · unfold upB
          rcases hc with hc | ⟨hc, hw⟩
          · simp; omega
          · simp [hw]; omega
      · rw [nodeS_is (hpl.ext e'), nodeS_is (hu.ext E)]
        show l.size < l.size + 1 + r.size
        omega
    have hright : (cmpI o k key < 0 ∨ (cmpI o k key = 0 ∧ wth = true)) → ∀ w', Ext w w' → K21 w' := by
      intro hc w' e'
      simp -zeta -zetaHave only [K21]
      refine fn q w' _ hu e' fun w4 e4 => retS_ret ⟨_, rfl, ?_⟩
      refine do_call Tryz.call109 (c_right0 hu (e'.trans e4) fun pr hpr => retS_ret ⟨_, rfl, ?_⟩)
      refine fr.go pr w4 _ hpr (e'.trans e4) fun w5 e5 => retS_ret ⟨_, rfl, ?_⟩
      have E5 := (e'.trans e4).trans e5
      refine do_call Tryz.call109 (c_right0 hu E5 fun pr2 hpr2 => retS_ret ⟨_, rfl, ⟨pr2, r, _, rfl, E5, hpr2, ar, kr, fr, ?_, wrap_wrap _⟩, ?_⟩)
      · rw [← hinv, itsC_node, List.filter_append, List.filter_cons, itC_key_up, if_pos, filt_all (l := itsC c l), totI_app, totI_cons]
        · exact wrap_step _ _ _ _ _
        · intro x hx
          have := bl x hx
          unfold upB
          rcases hc with hc | ⟨hc, hw⟩
          · rw [decide_eq_true (cmpI_trans this hc)]; rfl
          · rw [decide_eq_true (cmpI_eqr this hc)]; rfl
        · unfold upB
          rcases hc with hc | ⟨hc, hw⟩
          · simp [hc]
          · simp [hc, hw]
      · show nodeS w5 (.pointer pr2) < nodeS w1 (.pointer q)
        rw [nodeS_is (hpr2.ext E5), nodeS_is (hu.ext E)]
        show r.size < l.size + 1 + r.size
        omega
    refine ifB_intro (fun h1 => ?_) fun h1 => ?_
    · have h1 : cmpI o k key > 0 := of_decide_eq_true h1
      exact hleft (.inl h1) _ E3
    · have h1 : ¬ cmpI o k key > 0 := of_decide_eq_false h1
      refine ifB_intro (fun h2 => ?_) fun h2 => ?_
      · have h2 : cmpI o k key = 0 := by simpa using h2
        simp -zeta -zetaHave only [K36]
        by_cases hwt : wth = true
        · exact ifB_f (by rw [hwt]; rfl) (hright (.inr ⟨h2, hwt⟩) _ E3)
        · exact ifB_t (by simp [hwt]) (hleft (.inr ⟨h2, by simpa using hwt⟩) _ E3)
      · have h2 : cmpI o k key ≠ 0 := by simpa using h2
        exact hright (.inl (by omega)) _ E3
end Go.Proofs.YtbaoihmffobneaaGreat
