/-
  Layer 24: what a statement parts; the chapter's examples.
-/
import Derived.Test.YthgckfeocalbdaaGreatPs
namespace Go.Proofs.YthgckfeocalbdaaGreat
open Go Go.Sh Go.RowKit

theorem Ext.gs {b : Nat} {w w1 w2 : World} (e : Ext w w1) (g : Gs b w1 w2) (hb : w.heap.size ≤ b) : Ext w w2 := Go.Sh.Ext.st e g hb
theorem c_ahead_no {o key : Int} (hk : In key) {sp p : Option Addr} {wth : Bool} {w : World} {R : Ending → World → Prop} (hno : sp = none ∨ isO o = false)
    (h : ∀ w', Ext w w' → R (.returned (.tuple #[.pointer none, .int .i64 2])) w') : Calls Tryz.prog 22 #[.pointer sp, .int .u8 o, .pointer p, .int .i64 key, .bool wth] w R := by
  refine sh22_ok _ _ _ _ _ ?_
  unfold sh22
  refine do_call Tryz.call16 (c_split_no hk hno fun w1 e1 => retS_ret ⟨_, _, _, _, _, _, _, rfl, ⟨?_⟩⟩)
  refine do_st3 (blk_alloc w1 _ _) fun w2 h2 g2 => ?_
  have e2 : Ext w1 w2 := (ext_alloc w1 _).st g2 (Nat.le_refl _)
  intro K21 K24
  exact ifB_f rfl (h _ (e1.trans e2))
theorem c_behind_no {o key : Int} (hk : In key) {sp p : Option Addr} {wth : Bool} {w : World} {R : Ending → World → Prop} (hno : sp = none ∨ isO o = false)
    (h : ∀ w', Ext w w' → R (.returned (.tuple #[.pointer none, .int .i64 2])) w') : Calls Tryz.prog 23 #[.pointer sp, .int .u8 o, .pointer p, .int .i64 key, .bool wth] w R := by
  refine sh23_ok _ _ _ _ _ ?_
  unfold sh23
  refine do_call Tryz.call16 (c_split_no hk hno fun w1 e1 => retS_ret ⟨_, _, _, _, _, _, _, rfl, ⟨?_⟩⟩)
  refine do_st3 (blk_alloc w1 _ _) fun w2 h2 g2 => ?_
  have e2 : Ext w1 w2 := (ext_alloc w1 _).st g2 (Nat.le_refl _)
  intro K21 K24
  exact ifB_f rfl (h _ (e1.trans e2))
theorem c_r22is {c : Int} {w : World} {R : Ending → World → Prop} (h : R (.returned (.bool (isS c))) w) : Calls Tryz.prog 12 #[.int .u8 c] w R := by
  refine sh12_ok _ ?_
  unfold sh12
  intro K4
  unfold isS at h
  refine ifB_intro (fun h1 => ?_) fun h1 => ?_
  · have h1 := of_decide_eq_true h1
    have : decide (1 ≤ c ∧ c ≤ 4) = decide (c ≤ 4) := decide_eq_decide.2 (by omega)
    rw [this] at h
    exact h
  · have h1 := of_decide_eq_false h1
    have : decide (1 ≤ c ∧ c ≤ 4) = false := decide_eq_false (by omega)
    rw [this] at h
    exact h
theorem c_r2may {o : Int} {w : World} {R : Ending → World → Prop} (h : R (.returned (.bool (isO o))) w) : Calls Tryz.prog 50 #[.int .u8 o] w R := by
  refine sh50_ok _ ?_
  unfold sh50
  exact do_call Tryz.call70 (c_ris (retS_ret ⟨_, rfl, h⟩))
/-! ### plain -/
theorem inK_all {t : Tr} (h : ∀ x ∈ t.pairs, In x.1) : InK t := by
  induction t with
  | nil => trivial
  | node l k v g r ihl ihr => exact ⟨ihl fun x hx => h x (by simp [Tr.pairs, hx]), h (k, v) (by simp [Tr.pairs]), ihr fun x hx => h x (by simp [Tr.pairs, hx])⟩
/-- numbers of beads that fit -/
structure FitB (t : BT) : Prop where
  key : ∀ x ∈ t.beads, In x.key
  val : ∀ x ∈ t.beads, In x.val
  tag : TagB t
theorem FitB.inK {t : BT} (h : FitB t) : InK t.tr := inK_all fun x hx => by
  obtain ⟨b, hb, rfl⟩ := BT.tr_mem hx
  exact h.key b hb
theorem FitB.inP {t : BT} (h : FitB t) : InP t.tr.pairs := fun x hx => by
  obtain ⟨b, hb, rfl⟩ := BT.tr_mem hx
  exact ⟨h.key b hb, h.val b hb⟩
theorem itT_mem {t : BT} {x : It} (h : x ∈ itT t.tr) : ∃ b ∈ t.beads, x = (b.key, b.val, b.tag) := by
  induction t with
  | nil => simp [BT.tr, itT] at h
  | node y l r ihl ihr =>
    simp only [BT.tr, itT, List.mem_append, List.mem_cons] at h
    simp only [BT.beads, List.mem_cons, List.mem_append]
    rcases h with h | h | h
    · obtain ⟨b, hb, e⟩ := ihl h; exact ⟨b, .inr (.inl hb), e⟩
    · exact ⟨y, .inl rfl, h⟩
    · obtain ⟨b, hb, e⟩ := ihr h; exact ⟨b, .inr (.inr hb), e⟩
theorem tagI_itC {c : Int} {x : It} (h : 0 ≤ x.2.2 ∧ x.2.2 < 18446744073709551616) : 0 ≤ (itC c x).2.2 ∧ (itC c x).2.2 < 18446744073709551616 := by
  unfold itC; split
  · exact h
  · refine ⟨Int.le_refl _, ?_⟩
    show (0 : Int) < _
    decide
theorem FitB.tagI {t : BT} (h : FitB t) (c : Int) : TagI (itsC c t.tr) := fun x hx => by
  obtain ⟨y, hy, rfl⟩ := List.mem_map.1 hx
  obtain ⟨b, hb, rfl⟩ := itT_mem hy
  exact tagI_itC (h.tag b hb)
theorem FitB.inI {t : BT} (h : FitB t) (c : Int) : InI (itsC c t.tr) := fun x hx => inK_its.1 h.inK x hx
theorem its_fix {c : Int} {t : Tr} {x : It} (h : x ∈ itsC c t) : itC c x = x := by
  obtain ⟨y, _, rfl⟩ := List.mem_map.1 h
  exact itC_itC c y
theorem filt_fix {c : Int} {t : Tr} (p : It → Bool) : ((itsC c t).filter p).map (itC c) = (itsC c t).filter p := by
  have : ((itsC c t).filter p).map (itC c) = ((itsC c t).filter p).map id := List.map_congr_left fun x hx => its_fix (List.mem_filter.1 hx).1
  rw [this, List.map_id]
theorem asc_of {o c : Int} {t : Tr} (h : chain o t.pairs = true) : asc o (itsC c t) := by
  unfold asc
  rw [← pairs_its]
  exact chain_pw.1 h
theorem lastE_opt {o key : Int} {l : List It} {x : Option It} (h : x.toList = eqF o key l) : itO x = lastE o key l ∧ x.isSome = anyE o key l := by
  unfold lastE anyE
  rw [← h]
  cases x <;> simp
/-- what a statement parts -/
theorem c_long24 {code o : Int} {l : List Bd} {q : Option Addr} {n c : Nat} {w : World} {R : Ending → World → Prop} (hl : Cs w q (bds l)) (hn : l.length = n) (hnc : n ≤ c) (hF : ∀ t : BT, l = t.beads → FitB t)
    (h : ∀ b w', Ext w w' → (b = true ∨ (b = false ∧ isS code = true ∧ isO o = true ∧ n ≤ 400 ∧ ∃ t : BT, t.wf = true ∧ l = t.beads ∧ FitB t ∧ OkM code t.tr ∧ chain o t.tr.pairs = true)) → R (.returned (.bool b)) w') :
    Calls Tryz.prog 11 #[.int .u8 code, .int .u8 o, .slice q n c] w R := by
  refine sh11_ok _ _ _ _ _ ?_
  unfold sh11
  intro K8
  refine do_call Tryz.call48 (c_long hl hn fun b hb => retS_ret ⟨_, rfl, ?_⟩)
  rcases hb with rfl | ⟨rfl, hn4, t, hw, ht⟩
  · exact ifB_t rfl (h _ _ (ext_refl w) (.inl rfl))
  · have hfit := hF t ht
    subst ht
    have hts : t.size = n := hn
    refine ifB_f rfl (do_call Tryz.call49 (sh49_ok _ _ _ _ _ ?_))
    unfold sh49
    intro K8'
    refine do_call Tryz.call12 (c_r22is (retS_ret ⟨_, rfl, ?_⟩))
    cases hs : isS code with
    | false => exact ifB_f rfl (retS_ret ⟨_, rfl, h _ _ (ext_refl w) (.inl rfl)⟩)
    | true =>
      refine ifB_t rfl (do_call Tryz.call50 (c_r2may (retS_ret ⟨_, rfl, ?_⟩)))
      cases ho : isO o with
      | false => exact ifB_f rfl (retS_ret ⟨_, rfl, h _ _ (ext_refl w) (.inl rfl)⟩)
      | true =>
        refine ifB_t rfl (do_call Tryz.call84 (c_r22may hs hl hts hnc hw (by omega) hfit.tag fun b w1 e1 hb => retS_ret ⟨_, rfl, ?_⟩))
        cases b with
        | false => exact ifB_f rfl (retS_ret ⟨_, rfl, h _ _ e1 (.inl rfl)⟩)
        | true =>
          refine ifB_t rfl (do_call Tryz.call85 (sh85_ok _ _ _ _ ?_))
          unfold sh85
          refine do_call Tryz.call121 (c_pairs t (hl.ext e1) hts hnc hw (by omega) fun p2 n2 c2 w2 h2 e2 => retS_ret ⟨_, _, _, rfl, ?_⟩)
          have hn2 := ownP_len h2
          have hpl := t.tr.pairs_length
          have htr := BT.tr_size t
          refine do_call Tryz.call120 (c_rises (ownP_cs h2) hn2 (by omega) hfit.inP fun w3 e3 => retS_ret ⟨_, rfl, retS_ret ⟨_, rfl, retS_ret ⟨_, rfl, ?_⟩⟩⟩)
          have E3 := (e1.trans e2).trans e3
          cases hch : chain o t.tr.pairs with
          | false => exact h _ _ E3 (.inl rfl)
          | true => exact h _ _ E3 (.inr ⟨rfl, hs, ho, hn4, t, hw, rfl, hfit, hb.1 rfl, hch⟩)
/-! ### the chapter's examples -/
def al24 (m : Nat) : List It := (List.range m).map fun (i : Nat) => (((i : Int) + 1, 0, 0) : It)
set_option maxHeartbeats 800000 in
set_option maxRecDepth 20000 in
theorem c_alive24 {w : World} {R : Ending → World → Prop} (h : ∀ w', Ext w w' → R (.returned (.bool true)) w') : Calls Tryz.prog 14 #[] w R := by
  refine sh14_ok ?_
  unfold sh14
  refine do_call Tryz.call10 (c_l22of (fun h0 => by cases h0) fun _ b w1 e1 hbw hs1 => retS_ret ⟨_, _, rfl, ifB_f rfl ?_⟩)
  have hb : w.heap.size ≤ b := by omega
  refine ⟨fun vs w' => ∃ (m : Nat) (p : Option Addr) (T : Tr), vs = [.pointer p, .int .i64 ((m : Int) + 1)] ∧ m ≤ 4 ∧ Ext w w' ∧ IsSch 2 b w' ∧ IsN w' p T ∧ OkM 2 T ∧ itsC 2 T = al24 m, fun vs _ => 5 - (intOf (vs.getD 1 undef)).toNat,
    ⟨0, none, .nil, rfl, by omega, e1, hs1, rfl, .nil rfl, rfl⟩, ?_⟩
  rintro t_ k_ _ w2 ⟨m, p, T, hv, hm, E, hs, hT, ok, hit⟩
  simp only [List.cons.injEq, Value.pointer.injEq, Value.int.injEq, true_and, and_true] at hv
  obtain ⟨rfl, rfl⟩ := hv
  have hsz : T.size = m := by rw [← itsC_len 2 T, hit]; simp [al24]
  refine ifB_intro (fun hlt => ?_) fun hge => ?_
  · have hlt : m < 4 := by have := of_decide_eq_true hlt; omega
    refine do_call Tryz.call51 (c_sjoin hs hT (r := .nil) rfl ok.1 (.nil rfl) (by simp only [Tr.size, BIG]; omega) fun q w3 g3 hs3 h3 => retS_ret ⟨_, rfl, ?_⟩)
    have j := joinC_ok ok.1 (.nil (c := 2) rfl) (((m : Int) + 1, 0, 0) : It)
    refine ⟨⟨m + 1, q, _, ?_, by omega, Ext.gs E g3 hb, hs3, h3, j.1, ?_⟩, ?_⟩
    · rw [wrap_of (by omega) (by omega)]; simp
    · rw [j.2, hit]
      simp [al24, List.range_succ, itC, itsC_nil]
    · rw [wrap_of (by omega) (by omega)]; simp [intOf]; omega
  · have hge : m = 4 := by have := of_decide_eq_false hge; omega
    subst hge
    have hit : itsC 2 T = [(1, 0, 0), (2, 0, 0), (3, 0, 0), (4, 0, 0)] := hit
    have hasc : asc 1 (itsC 2 T) := by rw [hit]; decide
    have hinK : InK T := (inK_its (c := 2)).2 (by rw [hit]; intro x hx; simp at hx; rcases hx with rfl | rfl | rfl | rfl <;> exact ⟨by decide, by decide⟩)
    have S3 := splitC_ok (key := 3) ok.1 hasc
    have S0 := splitC_ok (key := 0) ok.1 hasc
    have hlt3 : itsC 2 (splitC 2 1 3 T).1 = [(1, 0, 0), (2, 0, 0)] := by rw [S3.lt, hit]; decide
    have hgt3 : itsC 2 (splitC 2 1 3 T).2.2 = [(4, 0, 0)] := by rw [S3.gt, hit]; decide
    have heq3 : (splitC 2 1 3 T).2.1 = some (3, 0, 0) := by
      have := S3.eq
      rw [hit, show eqF 1 3 [(1, 0, 0), (2, 0, 0), (3, 0, 0), (4, 0, 0)] = [(3, 0, 0)] by decide] at this
      cases hx : (splitC 2 1 3 T).2.1 with
      | none => rw [hx] at this; cases this
      | some x => rw [hx] at this; simp at this; rw [this]
    have heq0 : (splitC 2 1 0 T).2.1 = none := by
      have := S0.eq
      rw [hit, show eqF 1 0 [(1, 0, 0), (2, 0, 0), (3, 0, 0), (4, 0, 0)] = [] by decide] at this
      cases hx : (splitC 2 1 0 T).2.1 with
      | none => rfl
      | some x => rw [hx] at this; cases this
    have hsz0 : (splitC 2 1 0 T).2.2.size = 4 := by
      rw [← itsC_len 2, S0.gt, hit]; decide
    refine do_call Tryz.call16 (c_split rfl ⟨by decide, by decide⟩ hs hT ok.1 hinK (by simp only [BIG]; omega) fun ql qr w3 g3 hs3 hl3 hr3 => retS_ret ⟨_, _, _, _, _, _, _, rfl, ⟨?_⟩⟩)
    rw [heq3]
    have E3 := Ext.gs E g3 hb
    refine do_st3 (blk_alloc w3 _ _) fun w4 h4 g4 => ?_
    have e4 : Ext w3 w4 := (ext_alloc w3 _).st g4 (Nat.le_refl _)
    have E4 := E3.trans e4
    refine do_call Tryz.call16 (c_split_no ⟨by decide, by decide⟩ (.inr rfl) fun w5 e5 => retS_ret ⟨_, _, _, _, _, _, _, rfl, ⟨?_⟩⟩)
    refine do_st3 (blk_alloc w5 _ _) fun w6 h6 g6 => ?_
    have e6 : Ext w5 w6 := (ext_alloc w5 _).st g6 (Nat.le_refl _)
    have e46 := e5.trans e6
    have E6 := E4.trans e46
    have hs6 := hs3.ext (e4.trans e46)
    have hT6 := (hT.gs hs g3).ext (e4.trans e46)
    refine do_call Tryz.call16 (c_split rfl ⟨by decide, by decide⟩ hs6 hT6 ok.1 hinK (by simp only [BIG]; omega) fun ql' qr' w7 g7 hs7 hl7 hr7 => retS_ret ⟨_, _, _, _, _, _, _, rfl, ⟨?_⟩⟩)
    rw [heq0]
    have E7 := Ext.gs E6 g7 hb
    refine do_st3 (blk_alloc w7 _ _) fun w8 h8 g8 => ?_
    have e8 : Ext w7 w8 := (ext_alloc w7 _).st g8 (Nat.le_refl _)
    have E8 := E7.trans e8
    intro K58
    have hlt3' : w3.heap.size ≠ b := by have := hs3.lt; omega
    have h48 := ((h4.ext e46).gs g7 hlt3').ext e8
    have hl8 := ((hl3.ext (e4.trans e46)).gs hs6 g7).ext e8
    have hr8 := ((hr3.ext (e4.trans e46)).gs hs6 g7).ext e8
    refine ifB_t rfl (ifB_t rfl ⟨_, h48.cell (i := 0) (add_blk _ _) rfl, ifB_t rfl (ifB_t rfl (ifB_t rfl ⟨?_⟩))⟩)
    have c9 := cs_alloc w8 #[.int .i64 1, .int .i64 0, .int .u64 0, .int .i64 2, .int .i64 0, .int .u64 0] 33
    have e9 := ext_alloc w8 (.cells #[.int .i64 1, .int .i64 0, .int .u64 0, .int .i64 2, .int .i64 0, .int .u64 0] 33)
    have s1 : (splitC 2 1 3 T).1.size = 2 := by rw [← itsC_len 2, hlt3]; rfl
    have s2 : (splitC 2 1 3 T).2.2.size = 1 := by rw [← itsC_len 2, hgt3]; rfl
    refine do_call Tryz.call19 (c_has (L := [(1, 0, 0), (2, 0, 0)]) S3.okl (by rw [hlt3]; decide) (by rw [hlt3]; decide) (hl8.ext e9) (by omega) c9 rfl fun w10 e10 => retS_ret ⟨_, rfl, ifB_t rfl ⟨?_⟩⟩)
    have c11 := cs_alloc w10 #[.int .i64 4, .int .i64 0, .int .u64 0] 33
    have e11 := ext_alloc w10 (.cells #[.int .i64 4, .int .i64 0, .int .u64 0] 33)
    have e811 := (e9.trans e10).trans e11
    refine do_call Tryz.call19 (c_has (L := [(4, 0, 0)]) S3.okr (by rw [hgt3]; decide) (by rw [hgt3]; decide) (hr8.ext e811) (by omega) c11 rfl fun w12 e12 => retS_ret ⟨_, rfl, ifB_t rfl ?_⟩)
    have e812 := e811.trans e12
    refine do_call Tryz.call29 (c_tsize ((hr7.ext e8).ext e812) fun w13 e13 => retS_ret ⟨_, rfl, ?_⟩)
    have := h _ ((E8.trans e812).trans e13)
    rw [hsz0]
    exact this
set_option maxRecDepth 20000 in
theorem c_nothing24 {o : Int} {w : World} {R : Ending → World → Prop} (h : ∀ w', Ext w w' → R (.returned (.bool true)) w') : Calls Tryz.prog 13 #[.int .u8 o] w R := by
  refine sh13_ok _ ?_
  unfold sh13
  refine do_call Tryz.call10 (c_l22of (fun h0 => by cases h0) fun _ b w1 e1 hbw hs1 => retS_ret ⟨_, _, rfl, ?_⟩)
  have hb : w.heap.size ≤ b := by omega
  have h1 : In 1 := ⟨by decide, by decide⟩
  refine do_call Tryz.call16 (c_split_no h1 (.inl rfl) fun w2 e2 => retS_ret ⟨_, _, _, _, _, _, _, rfl, ⟨?_⟩⟩)
  refine do_st3 (blk_alloc w2 _ _) fun w3 h3 g3 => ?_
  have e3 : Ext w2 w3 := (ext_alloc w2 _).st g3 (Nat.le_refl _)
  have nb3 : w2.heap.size ≠ b := by have := hs1.lt; have := e2.size; omega
  refine do_call Tryz.call27 (c_new (l := .nil) (r := .nil) rfl rfl (by decide) fun bn w4 e4 h4 _ => retS_ret ⟨_, rfl, ?_⟩)
  have e14 := (e2.trans e3).trans e4
  have E4 := e1.trans e14
  have hs4 := hs1.ext e14
  have ok4 : OkP 4 (.node .nil 1 1 1 .nil) := .inr (.inr (.inr ⟨rfl, trivial, trivial, rfl, rfl⟩))
  have h34 := h3.ext e4
  -- what it comes to, with an order, or without
  cases ho : isO o with
  | true =>
    refine do_call Tryz.call16 (c_split ho h1 hs4 h4 ok4 ⟨trivial, h1, trivial⟩ (by decide) fun ql qr w5 g5 hs5 hl5 hr5 => retS_ret ⟨_, _, _, _, _, _, _, rfl, ⟨?_⟩⟩)
    have E5 := Ext.gs E4 g5 hb
    refine do_st3 (blk_alloc w5 _ _) fun w6 h6 g6 => ?_
    have e6 : Ext w5 w6 := (ext_alloc w5 _).st g6 (Nat.le_refl _)
    refine do_call Tryz.call22 (c_ahead_no h1 (.inl rfl) fun w7 e7 => retS_ret ⟨_, _, rfl, ?_⟩)
    refine do_call Tryz.call23 (c_behind_no h1 (.inl rfl) fun w8 e8 => retS_ret ⟨_, _, rfl, ?_⟩)
    have e58 := (e6.trans e7).trans e8
    refine do_call Tryz.call22 (c_ahead ho h1 (hs5.ext e58) (t := .nil) rfl (.nil rfl) trivial (by decide) fun q9 w9 g9 hs9 h9 => retS_ret ⟨_, _, rfl, ?_⟩)
    have E9 := Ext.gs (E5.trans e58) g9 hb
    have h39 := ((h34.gs g5 nb3).ext e58).gs g9 nb3
    intro K51
    refine ifB_f rfl (ifB_f rfl (ifB_f rfl ⟨_, h39.cell (i := 0) (add_blk _ _) rfl, _, h39.cell (i := 1) (add_blk _ _) rfl, _, h39.cell (i := 2) (add_blk _ _) rfl, ifB_f rfl (ifB_f rfl (ifB_f rfl (ifB_f rfl (ifB_f rfl ?_))))⟩))
    refine ifB_f rfl ?_
    intro K54
    refine do_call Tryz.call50 (c_r2may (retS_ret ⟨_, rfl, ?_⟩))
    rw [ho]
    exact ifB_t rfl (h _ E9)
  | false =>
    refine do_call Tryz.call16 (c_split_no h1 (.inr ho) fun w5 e5 => retS_ret ⟨_, _, _, _, _, _, _, rfl, ⟨?_⟩⟩)
    refine do_st3 (blk_alloc w5 _ _) fun w6 h6 g6 => ?_
    have e6 : Ext w5 w6 := (ext_alloc w5 _).st g6 (Nat.le_refl _)
    refine do_call Tryz.call22 (c_ahead_no h1 (.inl rfl) fun w7 e7 => retS_ret ⟨_, _, rfl, ?_⟩)
    refine do_call Tryz.call23 (c_behind_no h1 (.inl rfl) fun w8 e8 => retS_ret ⟨_, _, rfl, ?_⟩)
    refine do_call Tryz.call22 (c_ahead_no h1 (.inr ho) fun w9 e9 => retS_ret ⟨_, _, rfl, ?_⟩)
    have e69 := (e7.trans e8).trans e9
    have e49 := (e5.trans e6).trans e69
    have h39 := h34.ext e49
    have h69 := h6.ext e69
    intro K51
    refine ifB_f rfl (ifB_f rfl (ifB_f rfl ⟨_, h39.cell (i := 0) (add_blk _ _) rfl, _, h39.cell (i := 1) (add_blk _ _) rfl, _, h39.cell (i := 2) (add_blk _ _) rfl, ifB_f rfl (ifB_f rfl (ifB_f rfl (ifB_f rfl (ifB_f rfl ?_))))⟩))
    refine ifB_f rfl ?_
    intro K54
    refine do_call Tryz.call50 (c_r2may (retS_ret ⟨_, rfl, ?_⟩))
    rw [ho]
    exact ifB_f rfl (ifB_t rfl (ifB_t rfl (ifB_t rfl ⟨_, h69.cell (i := 0) (add_blk _ _) rfl, _, h69.cell (i := 1) (add_blk _ _) rfl, _, h69.cell (i := 2) (add_blk _ _) rfl, ifB_t rfl (ifB_t rfl (ifB_t rfl (h _ (E4.trans e49))))⟩)))
end Go.Proofs.YthgckfeocalbdaaGreat
