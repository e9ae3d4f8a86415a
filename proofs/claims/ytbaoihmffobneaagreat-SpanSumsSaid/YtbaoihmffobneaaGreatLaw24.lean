/-
  Layer 24: what a statement parts; the chapter's examples.
-/
import Derived.Test.YtbaoihmffobneaaGreatPs
namespace Go.Proofs.YtbaoihmffobneaaGreat
open Go Go.Sh Go.RowKit

theorem Ext.gs {b : Nat} {w w1 w2 : World} (e : Ext w w1) (g : Gs b w1 w2) (hb : w.heap.size ≤ b) : Ext w w2 := Go.Sh.Ext.st e g hb
theorem c_ahead_no {o key : Int} (hk : In key) {sp p : Option Addr} {wth : Bool} {w : World} {R : Ending → World → Prop} (hno : sp = none ∨ isO o = false)
    (h : ∀ w', Ext w w' → R (.returned (.tuple #[.pointer none, .int .i64 2])) w') : Calls Tryz.prog 116 #[.pointer sp, .int .u8 o, .pointer p, .int .i64 key, .bool wth] w R := by
  refine sh116_ok _ _ _ _ _ ?_
  unfold sh116
  refine do_call Tryz.call105 (c_split_no hk hno fun w1 e1 => retS_ret ⟨_, _, _, _, _, _, _, rfl, ⟨?_⟩⟩)
  refine do_st3 (blk_alloc w1 _ _) fun w2 h2 g2 => ?_
  have e2 : Ext w1 w2 := (ext_alloc w1 _).st g2 (Nat.le_refl _)
  intro K21 K24
  exact ifB_f rfl (h _ (e1.trans e2))
theorem c_behind_no {o key : Int} (hk : In key) {sp p : Option Addr} {wth : Bool} {w : World} {R : Ending → World → Prop} (hno : sp = none ∨ isO o = false)
    (h : ∀ w', Ext w w' → R (.returned (.tuple #[.pointer none, .int .i64 2])) w') : Calls Tryz.prog 117 #[.pointer sp, .int .u8 o, .pointer p, .int .i64 key, .bool wth] w R := by
  refine sh117_ok _ _ _ _ _ ?_
  unfold sh117
  refine do_call Tryz.call105 (c_split_no hk hno fun w1 e1 => retS_ret ⟨_, _, _, _, _, _, _, rfl, ⟨?_⟩⟩)
  refine do_st3 (blk_alloc w1 _ _) fun w2 h2 g2 => ?_
  have e2 : Ext w1 w2 := (ext_alloc w1 _).st g2 (Nat.le_refl _)
  intro K21 K24
  exact ifB_f rfl (h _ (e1.trans e2))
theorem c_r22is {c : Int} {w : World} {R : Ending → World → Prop} (h : R (.returned (.bool (isS c))) w) : Calls Tryz.prog 12 #[.int .u8 c] w R := by
  refine sh12_ok _ ?_
  unfold sh12
  intro K4
  unfold isS at h
  refine ifB_intro (fun h1 => ?_) fun h1 => ?_
  · have h1 := of_decide_eq_true h1
    have : decide (1 ≤ c ∧ c ≤ 4) = decide (c ≤ 4) := decide_eq_decide.2 (by omega)
    rw [this] at h
    exact h
  · have h1 := of_decide_eq_false h1
    have : decide (1 ≤ c ∧ c ≤ 4) = false := decide_eq_false (by omega)
    rw [this] at h
    exact h
theorem c_r2may {o : Int} {w : World} {R : Ending → World → Prop} (h : R (.returned (.bool (isO o))) w) : Calls Tryz.prog 36 #[.int .u8 o] w R := by
  refine sh36_ok _ ?_
  unfold sh36
  exact do_call Tryz.call42 (c_ris (retS_ret ⟨_, rfl, h⟩))
/-! ### plain -/
theorem inK_all {t : Tr} (h : ∀ x ∈ t.pairs, In x.1) : InK t := by
  induction t with
  | nil => trivial
  | node l k v g r ihl ihr => exact ⟨ihl fun x hx => h x (by simp [Tr.pairs, hx]), h (k, v) (by simp [Tr.pairs]), ihr fun x hx => h x (by simp [Tr.pairs, hx])⟩
/-- numbers of beads that fit -/
structure FitB (t : BT) : Prop where
  key : ∀ x ∈ t.beads, In x.key
  val : ∀ x ∈ t.beads, In x.val
  tag : TagB t
theorem FitB.inK {t : BT} (h : FitB t) : InK t.tr := inK_all fun x hx => by
  obtain ⟨b, hb, rfl⟩ := BT.tr_mem hx
  exact h.key b hb
theorem FitB.inP {t : BT} (h : FitB t) : InP t.tr.pairs := fun x hx => by
  obtain ⟨b, hb, rfl⟩ := BT.tr_mem hx
  exact ⟨h.key b hb, h.val b hb⟩
theorem itT_mem {t : BT} {x : It} (h : x ∈ itT t.tr) : ∃ b ∈ t.beads, x = (b.key, b.val, b.tag) := by
  induction t with
  | nil => simp [BT.tr, itT] at h
  | node y l r ihl ihr =>
    simp only [BT.tr, itT, List.mem_append, List.mem_cons] at h
    simp only [BT.beads, List.mem_cons, List.mem_append]
    rcases h with h | h | h
    · obtain ⟨b, hb, e⟩ := ihl h; exact ⟨b, .inr (.inl hb), e⟩
    · exact ⟨y, .inl rfl, h⟩
    · obtain ⟨b, hb, e⟩ := ihr h; exact ⟨b, .inr (.inr hb), e⟩
theorem tagI_itC {c : Int} {x : It} (h : 0 ≤ x.2.2 ∧ x.2.2 < 18446744073709551616) : 0 ≤ (itC c x).2.2 ∧ (itC c x).2.2 < 18446744073709551616 := by
  unfold itC; split
  · exact h
  · refine ⟨Int.le_refl _, ?_⟩
    show (0 : Int) < _
    decide
theorem FitB.tagI {t : BT} (h : FitB t) (c : Int) : TagI (itsC c t.tr) := fun x hx => by
  obtain ⟨y, hy, rfl⟩ := List.mem_map.1 hx
  obtain ⟨b, hb, rfl⟩ := itT_mem hy
  exact tagI_itC (h.tag b hb)
theorem FitB.inI {t : BT} (h : FitB t) (c : Int) : InI (itsC c t.tr) := fun x hx => inK_its.1 h.inK x hx
theorem its_fix {c : Int} {t : Tr} {x : It} (h : x ∈ itsC c t) : itC c x = x := by
  obtain ⟨y, _, rfl⟩ := List.mem_map.1 h
  exact itC_itC c y
theorem filt_fix {c : Int} {t : Tr} (p : It → Bool) : ((itsC c t).filter p).map (itC c) = (itsC c t).filter p := by
  have : ((itsC c t).filter p).map (itC c) = ((itsC c t).filter p).map id := List.map_congr_left fun x hx => its_fix (List.mem_filter.1 hx).1
  rw [this, List.map_id]
theorem asc_of {o c : Int} {t : Tr} (h : chain o t.pairs = true) : asc o (itsC c t) := by
  unfold asc
  rw [← pairs_its]
  exact chain_pw.1 h
theorem lastE_opt {o key : Int} {l : List It} {x : Option It} (h : x.toList = eqF o key l) : itO x = lastE o key l ∧ x.isSome = anyE o key l := by
  unfold lastE anyE
  rw [← h]
  cases x <;> simp
/-- what a statement parts -/
theorem c_long24 {code o : Int} {l : List Bd} {q : Option Addr} {n c : Nat} {w : World} {R : Ending → World → Prop} (hl : Cs w q (bds l)) (hn : l.length = n) (hnc : n ≤ c) (hF : ∀ t : BT, l = t.beads → FitB t)
    (h : ∀ b w', Ext w w' → (b = true ∨ (b = false ∧ isS code = true ∧ isO o = true ∧ n ≤ 400 ∧ ∃ t : BT, t.wf = true ∧ l = t.beads ∧ FitB t ∧ OkM code t.tr ∧ chain o t.tr.pairs = true)) → R (.returned (.bool b)) w') :
    Calls Tryz.prog 28 #[.int .u8 code, .int .u8 o, .slice q n c] w R := by
  refine sh28_ok _ _ _ _ _ ?_
  unfold sh28
  intro K8
  refine do_call Tryz.call35 (c_long hl hn fun b hb => retS_ret ⟨_, rfl, ?_⟩)
  rcases hb with rfl | ⟨rfl, hn4, t, hw, ht⟩
  · exact ifB_t rfl (h _ _ (ext_refl w) (.inl rfl))
  · have hfit := hF t ht
    subst ht
    have hts : t.size = n := hn
    refine ifB_f rfl (do_call Tryz.call79 (sh79_ok _ _ _ _ _ ?_))
    unfold sh79
    intro K8'
    refine do_call Tryz.call12 (c_r22is (retS_ret ⟨_, rfl, ?_⟩))
    cases hs : isS code with
    | false => exact ifB_f rfl (retS_ret ⟨_, rfl, h _ _ (ext_refl w) (.inl rfl)⟩)
    | true =>
      refine ifB_t rfl (do_call Tryz.call36 (c_r2may (retS_ret ⟨_, rfl, ?_⟩)))
      cases ho : isO o with
      | false => exact ifB_f rfl (retS_ret ⟨_, rfl, h _ _ (ext_refl w) (.inl rfl)⟩)
      | true =>
        refine ifB_t rfl (do_call Tryz.call112 (c_r22may hs hl hts hnc hw (by omega) hfit.tag fun b w1 e1 hb => retS_ret ⟨_, rfl, ?_⟩))
        cases b with
        | false => exact ifB_f rfl (retS_ret ⟨_, rfl, h _ _ e1 (.inl rfl)⟩)
        | true =>
          refine ifB_t rfl (do_call Tryz.call37 (sh37_ok _ _ _ _ ?_))
          unfold sh37
          refine do_call Tryz.call85 (c_pairs t (hl.ext e1) hts hnc hw (by omega) fun p2 n2 c2 w2 h2 e2 => retS_ret ⟨_, _, _, rfl, ?_⟩)
          have hn2 := ownP_len h2
          have hpl := t.tr.pairs_length
          have htr := BT.tr_size t
          refine do_call Tryz.call84 (c_rises (ownP_cs h2) hn2 (by omega) hfit.inP fun w3 e3 => retS_ret ⟨_, rfl, retS_ret ⟨_, rfl, retS_ret ⟨_, rfl, ?_⟩⟩⟩)
          have E3 := (e1.trans e2).trans e3
          cases hch : chain o t.tr.pairs with
          | false => exact h _ _ E3 (.inl rfl)
          | true => exact h _ _ E3 (.inr ⟨rfl, hs, ho, hn4, t, hw, rfl, hfit, hb.1 rfl, hch⟩)
/-! ### the chapter's examples -/
def al24 (m : Nat) : List It := (List.range m).map fun (i : Nat) => (((i : Int) + 1, 0, 0) : It)
end Go.Proofs.YtbaoihmffobneaaGreat
