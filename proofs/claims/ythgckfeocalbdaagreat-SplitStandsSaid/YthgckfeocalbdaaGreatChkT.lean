/-
  treap.Check of a treap: nothing is wrong.
-/
import Derived.Test.YthgckfeocalbdaaGreatPp
import Derived.Test.YthgckfeocalbdaaGreatPr
namespace Go.Proofs.YthgckfeocalbdaaGreat
open Go Go.Sh Go.RowKit

abbrev onT (b2 b4 : Nat) : Value := .func (.func 271) #[] #[.pointer (some (blk b2)), .pointer (some (blk b4))]
set_option maxRecDepth 20000 in
theorem do_tpon {b2 b4 : Nat} {T4 : TypeId} (hne : b4 ≠ b2) : ∀ (t : Tr) {p : Option Addr} {n : Nat} {w : World} {R : Ending → World → Prop} (_h2 : Blk w b2 #[.int .i64 (n : Nat)] 3) (_h4 : Blk w b4 #[onT b2 b4] T4) (_ht : IsN w p t) (_tp : Tp t) (_hn : n + t.size ≤ BIG)
    (_h : ∀ w', Gs b2 w w' → Blk w' b2 #[.int .i64 ((n + t.size : Nat) : Int)] 3 → R (.returned (.bool true)) w'), doCall Tryz.prog (onT b2 b4) #[.pointer p] w R
  | .nil, p, n, w, R, h2, h4, ht, tp, hn, h => by
    refine do_callc Tryz.call271 (by rfl) (sh271_ok _ _ _ ?_)
    unfold sh271
    have : p = none := ht
    subst this
    exact ifB_t rfl (h _ (gs_refl _ _) h2)
  | .node l k v g r, p, n, w, R, h2, h4, ht, tp, hn, h => by
    refine do_callc Tryz.call271 (by rfl) (sh271_ok _ _ _ ?_)
    unfold sh271
    obtain ⟨tl, tr, al, ar⟩ := tp
    have e : (Tr.node l k v g r).size = l.size + 1 + r.size := rfl
    rw [ht.isNone]
    refine ifB_f rfl ?_
    intro K6
    refine do_call Tryz.call68 (c_left ht fun pl hpl => retS_ret ⟨_, rfl, ?_⟩)
    refine do_call Tryz.call269 (c_abT hpl ht fun w1 e1 => retS_ret ⟨_, rfl, ?_⟩)
    rw [show abT (Tr.node l k v g r).left (Tr.node l k v g r) = false from al]
    refine ifB_f rfl (do_call Tryz.call66 (c_right (ht.ext e1) fun pr hpr => retS_ret ⟨_, rfl, ?_⟩))
    refine do_call Tryz.call269 (c_abT hpr (ht.ext e1) fun w2 e2 => retS_ret ⟨_, rfl, ?_⟩)
    rw [show abT (Tr.node l k v g r).right (Tr.node l k v g r) = false from ar]
    simp -zeta -zetaHave only [K6]
    have e02 := e1.trans e2
    have h22 := h2.ext e02
    refine ifB_f rfl ⟨_, h22.cell (i := 0) rfl rfl, ?_⟩
    refine do_st h22 (i := 0) (add_blk _ _) (by simp) fun w3 h3 g3 => ?_
    have G3 : Gs b2 w w3 := (gs_of e02).trans g3
    have h3 : Blk w3 b2 #[.int .i64 ((n + 1 : Nat) : Int)] 3 := by
      have : IntKind.wrap .i64 ((n : Int) + 1) = ((n + 1 : Nat) : Int) := by simp only [BIG] at hn; rw [wrap_of (by omega) (by omega)]; omega
      rw [this] at h3; exact h3
    intro K11
    have d := ext_drew w3
    have G3' : Gs b2 w w3.drew := G3.trans (gs_of d)
    have h43 := h4.gs G3' hne
    have ht3 : IsN w3.drew p (.node l k v g r) := ht.st G3' h2 (by decide)
    refine ⟨⟨fun w' => Blk w' b4 #[onT b2 b4] T4, h43, _, _, _, fun w' q => q.cell (i := 0) rfl rfl, ?_⟩⟩
    refine do_call Tryz.call68 (c_left ht3 fun pl3 hpl3 => retS_ret ⟨_, rfl, h43, ?_⟩)
    refine do_tpon hne l (h3.ext d) h43 hpl3 tl (by omega) fun w4 g4 h24 => retS_ret ⟨_, rfl, h43.gs g4 hne, ?_⟩
    refine ifB_t rfl ⟨_, _, _, fun w' q => q.cell (i := 0) rfl rfl, ?_⟩
    have ht4 := ht3.st g4 (h3.ext d) (by decide)
    refine do_call Tryz.call66 (c_right ht4 fun pr4 hpr4 => retS_ret ⟨_, rfl, h43.gs g4 hne, ?_⟩)
    refine do_tpon hne r h24 (h43.gs g4 hne) hpr4 tr (by omega) fun w5 g5 h25 => retS_ret ⟨_, rfl, (h43.gs g4 hne).gs g5 hne, ?_⟩
    rw [show n + 1 + l.size + r.size = n + (Tr.node l k v g r).size by omega] at h25
    exact h _ ((G3'.trans g4).trans g5) h25
theorem c_tpcheck {t : Tr} {p : Option Addr} {w : World} {R : Ending → World → Prop} (ht : IsN w p t) (tp : Tp t) (hn : t.size ≤ BIG) (h : ∀ k w', Ext w w' → R (.returned (.tuple #[.int .i64 k, .int .i64 0])) w') :
    Calls Tryz.prog 264 #[.pointer p] w R := by
  refine sh264_ok _ ?_
  unfold sh264
  refine ⟨⟨?_⟩⟩
  have e0 := ext_alloc w (.cells #[.int .i64 0] 3)
  have h2 := blk_alloc w #[.int .i64 0] 3
  have k2 : w.heap.size ≤ w.heap.size := Nat.le_refl _
  generalize hb : w.heap.size = b2 at h2 k2 ⊢
  generalize w.alloc (.cells #[.int .i64 0] 3) = w1 at *
  have hlt := h2.lt
  refine do_st (blk_alloc w1 _ _) (i := 0) (add_blk _ _) (by simp) fun w2 h4 g4 => ?_
  have e2 : Ext w1 w2 := (ext_alloc w1 _).st g4 (Nat.le_refl _)
  refine ⟨_, _, _, h4.cell (i := 0) rfl rfl, ?_⟩
  refine do_tpon (n := 0) (by omega) t (h2.ext e2) h4 (ht.ext (e0.trans e2)) tp (by omega) fun w3 g3 h23 => retS_ret ⟨_, rfl, ?_⟩
  have E3 : Ext w w3 := (e0.trans e2).st g3 (by omega)
  refine ifB_f rfl ⟨_, h23.cell (i := 0) rfl rfl, ?_⟩
  refine do_st h23 (i := 0) (add_blk _ _) (by simp) fun w4 h44 g44 => ?_
  exact ⟨_, h44.cell (i := 0) rfl rfl, h _ _ (E3.st g44 (by omega))⟩
end Go.Proofs.YthgckfeocalbdaaGreat
