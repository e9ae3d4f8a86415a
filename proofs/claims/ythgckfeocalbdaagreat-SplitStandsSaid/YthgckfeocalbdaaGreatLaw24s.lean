/-
  SplitStands.
-/
import Derived.Test.YthgckfeocalbdaaGreatChkS2
import Derived.Test.YthgckfeocalbdaaGreatMgLaw
import Derived.Test.YthgckfeocalbdaaGreatL5
namespace Go.Proofs.YthgckfeocalbdaaGreat
open Go Go.Sh Go.RowKit

/-- what the parts come to -/
theorem split_sums {c o key : Int} {t : Tr} (ok : OkP c t) (ha : asc o (itsC c t)) :
    (splitC c o key t).1.size + (splitC c o key t).2.2.size + (if (splitC c o key t).2.1.isSome then 1 else 0) = t.size ∧
    totT (splitC c o key t).1 + totT (splitC c o key t).2.2 + (itO (splitC c o key t).2.1).2.1 = totT t := by
  have S := splitC_ok (key := key) ok ha
  have L := parts_len (o := o) (key := key) (itsC c t)
  have P := congrArg (fun l : List It => (l.map (·.2.1)).sum) (asc_parts (key := key) ha)
  simp only [List.map_append, List.sum_append] at P
  rw [← S.lt, ← S.gt, ← S.eq] at L P
  rw [← tot_its, ← tot_its, ← tot_its] at P
  simp only [itsC_len] at L
  cases hq : (splitC c o key t).2.1 with
  | none => rw [hq] at L P; simp at L P; simp; omega
  | some x => rw [hq] at L P; simp at L P; simp; omega
set_option maxRecDepth 20000 in
set_option maxHeartbeats 1600000 in
theorem c_splitStands {code o key : Int} {l : List Bd} {q : Option Addr} {n c : Nat} {w : World} {R : Ending → World → Prop} (hk : In key) (hl : Cs w q (bds l)) (hn : l.length = n) (hnc : n ≤ c) (hF : ∀ t : BT, l = t.beads → FitB t)
    (h : ∀ w', Ext w w' → R (.returned (.bool true)) w') : Calls Tryz.prog 5 #[.int .u8 code, .int .u8 o, .slice q n c, .int .i64 key] w R := by
  refine sh5_ok _ _ _ _ _ _ ?_
  unfold sh5
  have hidle : ∀ w2, Ext w w2 → doCall Tryz.prog (.func (.func 12) #[] #[]) #[.int .u8 code] w2 (retS (fun v18 w19 => ∃ (x17 : Bool), v18 = (.bool x17 : Value) ∧ (
 ifB (isS code == x17) (
 doCall Tryz.prog (.func (.func 14) #[] #[]) #[] w19 (retS (fun v21 w22 => ∃ (x20 : Bool), v21 = (.bool x20 : Value) ∧ (
 R (.returned (.bool x20)) w22)) (fun ch w => Kfn R ch [] w))) (
 R (.returned (.bool false)) w19))) (fun ch w => Kfn R ch [] w)) := fun w2 e2 =>
    do_call Tryz.call12 (c_r22is (retS_ret ⟨_, rfl, ifB_t (by simp) (do_call Tryz.call14 (c_alive24 fun w4 e4 => retS_ret ⟨_, rfl, h w4 (e2.trans e4)⟩))⟩))
  refine do_call Tryz.call10 (c_l22of (fun h0 => retS_ret ⟨_, _, rfl, ?_⟩) fun hs b w1 e1 hbw hs1 => retS_ret ⟨_, _, rfl, ?_⟩)
  · intro K13
    rw [h0] at hidle
    refine do_call Tryz.call11 (c_long24 (code := code) (o := o) hl hn hnc hF fun bb w2 e2 hbb => retS_ret ⟨_, rfl, ?_⟩)
    cases bb with
    | true => exact ifB_t rfl (ifB_t rfl (hidle w2 e2))
    | false => exact ifB_f rfl (ifB_t rfl (hidle w2 e2))
  · intro K13
    rw [hs] at hidle
    have hb : w.heap.size ≤ b := by omega
    refine do_call Tryz.call11 (c_long24 (code := code) (o := o) (hl.ext e1) hn hnc hF fun bb w2 e2 hbb => retS_ret ⟨_, rfl, ?_⟩)
    rcases hbb with rfl | ⟨rfl, _, ho, hn4, t, hw, rfl, hfit, hok, hch⟩
    · exact ifB_t rfl (ifB_t rfl (hidle w2 (e1.trans e2)))
    · refine ifB_f rfl (ifB_f rfl ?_)
      have hts : t.size = n := hn
      have E2 := e1.trans e2
      have hs2 := hs1.ext e2
      have htr := BT.tr_size t
      have hasc := asc_of (c := code) hch
      have S := splitC_ok (key := key) hok.1 hasc
      have SP := splitC_p (o := o) (key := key) hok.1
      obtain ⟨hsize, hsum⟩ := split_sums (key := key) hok.1 hasc
      have kI := hfit.inI code
      have kl : InK (splitC code o key t.tr).1 := (inK_its (c := code)).2 fun x hx => by rw [S.lt] at hx; exact kI x (List.mem_filter.1 hx).1
      have kr : InK (splitC code o key t.tr).2.2 := (inK_its (c := code)).2 fun x hx => by rw [S.gt] at hx; exact kI x (List.mem_filter.1 hx).1
      have al : asc o (itsC code (splitC code o key t.tr).1) := by rw [S.lt]; exact asc_filter hasc
      have ar : asc o (itsC code (splitC code o key t.tr).2.2) := by rw [S.gt]; exact asc_filter hasc
      have lk : ∀ x ∈ itsC code (splitC code o key t.tr).1, cmpI o x.1 key < 0 := fun x hx => by rw [S.lt] at hx; exact of_decide_eq_true (List.mem_filter.1 hx).2
      have rk : ∀ x ∈ itsC code (splitC code o key t.tr).2.2, cmpI o key x.1 < 0 := fun x hx => by rw [S.gt] at hx; exact cmpI_pos (of_decide_eq_true (List.mem_filter.1 hx).2)
      refine do_call Tryz.call15 (c_make t (hl.ext E2) hts hnc hw (by omega) fun p w3 e3 hp => retS_ret ⟨_, rfl, ?_⟩)
      have E3 := E2.trans e3
      have hs3 := hs2.ext e3
      refine do_call Tryz.call16 (c_split ho hk hs3 hp hok.1 hfit.inK (by simp only [BIG]; omega) fun ql qr w4 g4 hs4 hl4 hr4 => retS_ret ⟨_, _, _, _, _, _, _, rfl, ⟨?_⟩⟩)
      have E4 := Ext.gs E3 g4 hb
      have hp4 := hp.gs hs3 g4
      have n4 : w4.heap.size ≠ b := by have := hs4.lt; omega
      refine do_st3 (blk_alloc w4 _ _) fun w5 h5 g5 => ?_
      have e5 : Ext w4 w5 := (ext_alloc w4 _).st g5 (Nat.le_refl _)
      have hs5 := hs4.ext e5
      refine do_call Tryz.call26 (c_schk hs5 (hl4.ext e5) S.okl (by omega) fun k1 w6 g6 hs6 => retS_ret ⟨_, _, rfl, ?_⟩)
      refine do_call Tryz.call26 (c_schk hs6 ((hr4.ext e5).gs hs5 g6) S.okr (by omega) fun k2 w7 g7 hs7 => retS_ret ⟨_, _, rfl, ?_⟩)
      have g57 := g6.trans g7
      have h57 := h5.gs g57 n4
      have hl7 := (hl4.ext e5).gs hs5 g57
      have hr7 := (hr4.ext e5).gs hs5 g57
      have hp7 := (hp4.ext e5).gs hs5 g57
      have E7 := Ext.gs (E4.trans e5) g57 hb
      refine do_call Tryz.call27 (c_new (l := .nil) (r := .nil) (k := key) (v := 0) (g := 0) rfl rfl (by decide) fun bn w8 e8 hone _ => retS_ret ⟨_, rfl, ?_⟩)
      have ione : itsC code (.node .nil key 0 0 .nil) = [itC code (key, 0, 0)] := rfl
      have kone : InK (.node .nil key 0 0 .nil) := ⟨trivial, hk, trivial⟩
      have aone : asc o (itsC code (.node .nil key 0 0 .nil)) := by rw [ione]; unfold asc; simp
      have mone : ∀ y ∈ itsC code (.node .nil key 0 0 .nil), y.1 = key := fun y hy => by rw [ione] at hy; simp at hy; subst hy; exact itC_key _ _
      intro K53
      refine ifB_f rfl (ifB_f rfl (ifB_f rfl ?_))
      refine do_call Tryz.call28 (c_sahead (c := code) ho (hl7.ext e8) hone al aone kl kone (fun x hx y hy => by rw [mone y hy]; exact lk x hx) fun w9 e9 => retS_ret ⟨_, rfl, ifB_f rfl ?_⟩)
      refine do_call Tryz.call28 (c_sahead (c := code) ho (hone.ext e9) (hr7.ext (e8.trans e9)) aone ar kone kr (fun x hx y hy => by rw [mone x hx]; exact rk y hy) fun w10 e10 => retS_ret ⟨_, rfl, ifB_f rfl ?_⟩)
      have e810 := (e8.trans e9).trans e10
      refine do_call Tryz.call28 (c_sahead (c := code) ho (hl7.ext e810) (hr7.ext e810) al ar kl kr (fun x hx y hy => cmpI_trans (lk x hx) (rk y hy)) fun w11 e11 => retS_ret ⟨_, rfl, ?_⟩)
      have e711 := e810.trans e11
      simp -zeta -zetaHave only [K53]
      refine ifB_f rfl ?_
      refine do_call Tryz.call29 (c_tsize (hl7.ext e711) fun w12 e12 => retS_ret ⟨_, rfl, ?_⟩)
      have e712 := e711.trans e12
      refine do_call Tryz.call29 (c_tsize (hr7.ext e712) fun w13 e13 => retS_ret ⟨_, rfl, ?_⟩)
      have e713 := e712.trans e13
      refine do_call Tryz.call30 (c_tsum (hl7.ext e713) fun w14 e14 => retS_ret ⟨_, rfl, ?_⟩)
      have e714 := e713.trans e14
      refine do_call Tryz.call30 (c_tsum (hr7.ext e714) fun w15 e15 => retS_ret ⟨_, rfl, ?_⟩)
      have e715 := e714.trans e15
      intro K69
      have wsum : IntKind.wrap .i64 ((splitC code o key t.tr).1.sum + (splitC code o key t.tr).2.2.sum) = IntKind.wrap .i64 (totT (splitC code o key t.tr).1 + totT (splitC code o key t.tr).2.2) := by rw [sum_tot, sum_tot, wrap_add, wrap_add']
      have hK69 : ∀ w16, Ext w7 w16 → K69 ((t.tr.size : Nat) : Int) t.tr.sum w16 := by
        intro w16 e16
        simp -zeta -zetaHave only [K69]
        intro K72
        refine do_call Tryz.call29 (c_tsize (hp7.ext e16) fun w17 e17 => retS_ret ⟨_, rfl, ifB_t (by simp) ?_⟩)
        have e717 := e16.trans e17
        refine do_call Tryz.call30 (c_tsum (hp7.ext e717) fun w18 e18 => retS_ret ⟨_, rfl, ifB_t (by simp) ?_⟩)
        have e718 := e717.trans e18
        have h18 := h57.ext e718
        have hend : doCall Tryz.prog (.func (.func 14) #[] #[]) #[] w18 (retS (fun v21 w22 => ∃ (x20 : Bool), v21 = (.bool x20 : Value) ∧ K72 x20 w22) (fun ch w => Kfn R ch [] w)) :=
          do_call Tryz.call14 (c_alive24 fun w19 e19 => retS_ret ⟨_, rfl, h w19 ((E7.trans e718).trans e19)⟩)
        cases hq : (splitC code o key t.tr).2.1 with
        | none =>
          rw [hq] at h18
          exact ifB_t rfl ⟨_, h18.cell (i := 0) (add_blk _ _) rfl, _, h18.cell (i := 1) (add_blk _ _) rfl, _, h18.cell (i := 2) (add_blk _ _) rfl, ifB_t rfl hend⟩
        | some x =>
          rw [hq] at h18
          have hx : x ∈ eqF o key (itsC code t.tr) := by rw [← S.eq, hq]; simp
          have hxk : x.1 = key := cmpI_eq ho (kI x (List.mem_filter.1 hx).1) hk (of_decide_eq_true (List.mem_filter.1 hx).2)
          exact ifB_f rfl (ifB_t rfl ⟨_, h18.cell (i := 0) (add_blk _ _) rfl, ifB_t (by show (x.1 == key) = true; simp [hxk]) hend⟩)
      have fin : ∀ w16, Ext w7 w16 → ∀ a s : Int, a = ((t.tr.size : Nat) : Int) → s = t.tr.sum → K69 a s w16 := fun w16 e16 a s ha hs' => by rw [ha, hs']; exact hK69 w16 e16
      cases hq : (splitC code o key t.tr).2.1 with
      | none =>
        rw [hq] at hsize hsum
        simp at hsize hsum
        refine ifB_f rfl (fin _ e715 _ _ ?_ ?_)
        · rw [wrap_of (by omega) (by omega)]; omega
        · rw [wsum, hsum, ← sum_tot]
      | some x =>
        rw [hq] at hsize hsum h57
        simp at hsize hsum
        have dr := ext_drew w15
        have h15 := h57.ext (e715.trans dr)
        refine ifB_t rfl ⟨⟨fun w' => Blk w' w4.heap.size #[.int .i64 (itO (some x)).1, .int .i64 (itO (some x)).2.1, .int .u64 (itO (some x)).2.2] 33, h15, _, fun w' e => e.cell (i := 1) (add_blk _ _) rfl, fin _ (e715.trans dr) _ _ ?_ ?_⟩⟩
        · rw [wrap_add, wrap_of (by omega) (by omega)]; omega
        · rw [wsum, wrap_add, sum_tot, ← hsum]; rfl
end Go.Proofs.YthgckfeocalbdaaGreat
