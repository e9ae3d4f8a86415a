/-
  UnionTells; the chapter's examples.
-/
import Derived.Test.YtbaoihmffobneaaGreatUni2
namespace Go.Proofs.YtbaoihmffobneaaGreat
open Go Go.Sh Go.RowKit

theorem cs_blk1 {w : World} {b : Nat} {v : Value} {t : TypeId} (h : Blk w b #[v] t) : Cs w (some (blk b)) [v] := fun i u hu => by
  match i with
  | 0 =>
    simp at hu
    subst hu
    exact ⟨_, rfl, by rw [add_zero']; exact h.cell (i := 0) rfl rfl⟩
  | i + 1 => simp at hu
/-- a tree of one item -/
theorem one_ok {c : Int} (hc : isS c = true) (k v : Int) : OkM c (joinC c .nil (k, v, 0) .nil) ∧ itsC c (joinC c .nil (k, v, 0) .nil) = [(k, v, 0)] ∧ (joinC c .nil (k, v, 0) .nil).size = 1 := by
  have n := OkM.nil hc
  have j := joinC_ok n.1 n.1 ((k, v, 0) : It)
  refine ⟨j.1, ?_, joinC_size n.1 n.1 _⟩
  rw [j.2, itsC_nil]
  unfold itC
  split <;> rfl
theorem inK_of {c : Int} {t : Tr} {l : List It} (e : itsC c t = l) (h : ∀ x ∈ l, In x.1) : InK t := (inK_its (c := c)).2 (by rw [e]; exact h)
/-- two trees that a statement takes -/
structure Law24T (code o : Int) (l : List Bd) (n : Nat) (t : BT) : Prop where
  n4 : n ≤ 400
  wf : t.wf = true
  l : l = t.beads
  fit : FitB t
  ok : OkM code t.tr
  asc : asc o (itsC code t.tr)
theorem Law24T.u {code o : Int} {l : List Bd} {n : Nat} {t : BT} (h : Law24T code o l n t) : OkU code o t.tr := ⟨h.ok, h.asc, h.fit.inK⟩
theorem c_long28 {code o : Int} {l m : List Bd} {q q' : Option Addr} {n c n' c' : Nat} {w : World} {R : Ending → World → Prop} (hl : Cs w q (bds l)) (hn : l.length = n) (hnc : n ≤ c) (hF : ∀ t : BT, l = t.beads → FitB t)
    (hm : Cs w q' (bds m)) (hn' : m.length = n') (hnc' : n' ≤ c') (hF' : ∀ t : BT, m = t.beads → FitB t)
    (h : ∀ b w', Ext w w' → (b = true ∨ (b = false ∧ isS code = true ∧ isO o = true ∧ ∃ t u : BT, Law24T code o l n t ∧ Law24T code o m n' u)) → R (.returned (.bool b)) w') :
    Calls Tryz.prog 10 #[.int .u8 code, .int .u8 o, .slice q n c, .slice q' n' c'] w R := by
  refine sh10_ok _ _ _ _ _ _ _ _ ?_
  unfold sh10
  intro K11
  refine do_call Tryz.call28 (c_long24 (code := code) (o := o) hl hn hnc hF fun b w1 e1 hb => retS_ret ⟨_, rfl, ?_⟩)
  rcases hb with rfl | ⟨rfl, hs, ho, hn4, t, hw, ht, hfit, hok, hch⟩
  · exact ifB_t rfl (h _ _ e1 (.inl rfl))
  · refine ifB_f rfl (do_call Tryz.call28 (c_long24 (code := code) (o := o) (hm.ext e1) hn' hnc' hF' fun b w2 e2 hb => retS_ret ⟨_, rfl, h _ _ (e1.trans e2) ?_⟩))
    rcases hb with rfl | ⟨rfl, _, _, hn4', u, hw', hu, hfit', hok', hch'⟩
    · exact .inl rfl
    · exact .inr ⟨rfl, hs, ho, t, u, ⟨hn4, hw, ht, hfit, hok, asc_of hch⟩, ⟨hn4', hw', hu, hfit', hok', asc_of hch'⟩⟩
end Go.Proofs.YtbaoihmffobneaaGreat
