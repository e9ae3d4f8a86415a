/-
  EditInserts, EditDeletes.
-/
import Derived.Test.YthgckfeocalbdaaGreatEdit2
import Derived.Test.YthgckfeocalbdaaGreatL6
import Derived.Test.YthgckfeocalbdaaGreatL7
namespace Go.Proofs.YthgckfeocalbdaaGreat
open Go Go.Sh Go.RowKit

theorem tagI_edit {c o key : Int} {y : It × Bool} {t : Tr} (hT : TagI (itsC c t)) (hy : y.2 = true → 0 ≤ y.1.2.2 ∧ y.1.2.2 < 18446744073709551616) : TagI ((editL o key y (itsC c t)).map (itC c)) := fun x hx => by
  obtain ⟨z, hz, rfl⟩ := List.mem_map.1 hx
  refine tagI_itC ?_
  unfold editL at hz
  rcases List.mem_append.1 hz with hz | hz
  · rcases List.mem_append.1 hz with hz | hz
    · exact hT z (List.mem_filter.1 hz).1
    · cases hq : y.2 with
      | false => rw [hq] at hz; cases hz
      | true =>
        rw [hq] at hz
        simp at hz
        subst hz
        exact hy hq
  · exact hT z (List.mem_filter.1 hz).1
theorem editL_len {o key : Int} {y : It × Bool} {l : List It} : (editL o key y l).length ≤ 2 * l.length + 1 := by
  unfold editL
  simp only [List.length_append]
  have h1 : (ltF o key l).length ≤ l.length := List.length_filter_le _ _
  have h2 : (gtF o key l).length ≤ l.length := List.length_filter_le _ _
  have h3 : (cond y.2 [y.1] [] : List It).length ≤ 1 := by cases y.2 <;> simp
  omega
theorem tag_last {o key : Int} {l : List It} (hT : TagI l) : 0 ≤ (lastE o key l).2.2 ∧ (lastE o key l).2.2 < 18446744073709551616 := by
  unfold lastE
  cases hq : (eqF o key l).getLast? with
  | none => exact ⟨Int.le_refl _, by show (0 : Int) < _; decide⟩
  | some x => exact hT x (List.mem_filter.1 (List.mem_of_getLast? hq)).1
set_option maxRecDepth 20000 in
theorem c_editInserts {code o p : Int} {x : It} {l : List Bd} {q : Option Addr} {n c : Nat} {w : World} {R : Ending → World → Prop} (hk : In x.1) (hxt : 0 ≤ x.2.2 ∧ x.2.2 < 18446744073709551616) (hl : Cs w q (bds l)) (hn : l.length = n) (hnc : n ≤ c) (hF : ∀ t : BT, l = t.beads → FitB t)
    (h : ∀ w', Ext w w' → R (.returned (.bool true)) w') : Calls Tryz.prog 6 #[.int .u8 code, .int .u8 o, .int .u8 p, .slice q n c, agI x] w R := by
  refine sh6_ok _ _ _ _ _ _ _ _ _ ?_
  unfold sh6
  refine ⟨?_⟩
  have ew := ext_alloc w (.cells #[.int .i64 x.1, .int .i64 x.2.1, .int .u64 x.2.2] 33)
  have hx0 := blk_alloc w #[.int .i64 x.1, .int .i64 x.2.1, .int .u64 x.2.2] 33
  generalize hb10 : w.heap.size = b10 at *
  generalize w.alloc (.cells #[.int .i64 x.1, .int .i64 x.2.1, .int .u64 x.2.2] 33) = w0 at *
  have hidle : ∀ w2, Ext w w2 → doCall Tryz.prog (.func (.func 12) #[] #[]) #[.int .u8 code] w2 (retS (fun v18 w19 => ∃ (x17 : Bool), v18 = (.bool x17 : Value) ∧ (
 ifB (isS code == x17) (
 doCall Tryz.prog (.func (.func 32) #[] #[]) #[.int .u8 o, .int .u8 p] w19 (retS (fun v21 w22 => ∃ (x20 : Bool), v21 = (.bool x20 : Value) ∧ (
 ifB x20 (
 doCall Tryz.prog (.func (.func 33) #[] #[]) #[] w22 (retS (fun v24 w25 => ∃ (x23 : Bool), v24 = (.bool x23 : Value) ∧ (
 R (.returned (.bool x23)) w25)) (fun ch w => Kfn R ch [] w))) (
 R (.returned (.bool false)) w22))) (fun ch w => Kfn R ch [] w))) (
 R (.returned (.bool false)) w19))) (fun ch w => Kfn R ch [] w)) := fun w2 e2 =>
    do_call Tryz.call12 (c_r22is (retS_ret ⟨_, rfl, ifB_t (by simp) (do_call Tryz.call32 (c_nothing26 fun w3 e3 => retS_ret ⟨_, rfl, ifB_t rfl (do_call Tryz.call33 (c_alive26 fun w4 e4 => retS_ret ⟨_, rfl, h w4 ((e2.trans e3).trans e4)⟩))⟩))⟩))
  refine do_call Tryz.call10 (c_l22of (fun h0 => retS_ret ⟨_, _, rfl, ?_⟩) fun hs b w1 e1 hbw hs1 => retS_ret ⟨_, _, rfl, ?_⟩)
  · intro K18
    rw [h0] at hidle
    refine do_call Tryz.call11 (c_long24 (code := code) (o := o) (hl.ext ew) hn hnc hF fun bb w2 e2 hbb => retS_ret ⟨_, rfl, ?_⟩)
    cases bb with
    | true => exact ifB_t rfl (ifB_t rfl (hidle w2 (ew.trans e2)))
    | false => exact ifB_f rfl (ifB_t rfl (ifB_t rfl (hidle w2 (ew.trans e2))))
  · intro K18
    rw [hs] at hidle
    have hb : w.heap.size ≤ b := by have := ew.size; omega
    have nb : b10 ≠ b := by have := hx0.lt; omega
    have Ew1 := ew.trans e1
    refine do_call Tryz.call11 (c_long24 (code := code) (o := o) (hl.ext Ew1) hn hnc hF fun bb w2 e2 hbb => retS_ret ⟨_, rfl, ?_⟩)
    rcases hbb with rfl | ⟨rfl, _, ho, hn4, t, hw, rfl, hfit, hok, hch⟩
    · exact ifB_t rfl (ifB_t rfl (hidle w2 (Ew1.trans e2)))
    · have E2 := Ew1.trans e2
      refine ifB_f rfl (ifB_f rfl (do_call Tryz.call31 (c_rmay (retS_ret ⟨_, rfl, ?_⟩))))
      cases hp : may p with
      | false => exact ifB_t rfl (hidle w2 E2)
      | true =>
        refine ifB_f rfl ?_
        have hts : t.size = n := hn
        have hs2 := hs1.ext e2
        have htr := BT.tr_size t
        have hasc := asc_of (c := code) hch
        have S := splitC_ok (key := x.1) hok.1 hasc
        have hil := itsC_len code t.tr
        have hTg := hfit.tagI code
        obtain ⟨eq1, eq2⟩ := lastE_opt S.eq
        have ED := editC_ok (key := x.1) (y := insI p x (itO (splitC code o x.1 t.tr).2.1) (splitC code o x.1 t.tr).2.1.isSome) hok.1 hasc
        refine do_call Tryz.call15 (c_make t (hl.ext E2) hts hnc hw (by omega) fun pt w3 e3 hp3 => retS_ret ⟨_, rfl, ?_⟩)
        have E3 := E2.trans e3
        have hs3 := hs2.ext e3
        have hx3 := hx0.ext ((e1.trans e2).trans e3)
        refine ⟨_, hx3.cell (i := 0) (add_blk _ _) rfl, _, hx3.cell (i := 1) (add_blk _ _) rfl, _, hx3.cell (i := 2) (add_blk _ _) rfl, ?_⟩
        refine do_call Tryz.call34 (c_insert (x := x) ho hp hk hs3 hp3 hok.1 hfit.inK (by simp only [BIG]; omega) fun qa w4 g4 hs4 ha4 => retS_ret ⟨_, _, _, _, rfl, ?_⟩)
        have E4 := Ext.gs E3 g4 hb
        have hp4 := hp3.gs hs3 g4
        have hx4 := hx3.gs g4 nb
        have d := ext_drew w4
        have E4' := E4.trans d
        refine ⟨⟨fun w' => Ext w4 w', d, _, fun w' e => (hx4.ext e).cell (i := 0) (add_blk _ _) rfl, _, fun w' e => (hx4.ext e).cell (i := 1) (add_blk _ _) rfl, _, fun w' e => (hx4.ext e).cell (i := 2) (add_blk _ _) rfl, ?_⟩⟩
        refine do_call Tryz.call18 (c_r22items (cd := code) (hl.ext E4') hts hnc hw (by omega) fun p5 n5 c5 w5 h5 e5 => retS_ret ⟨_, _, _, rfl, d.trans e5, ?_⟩)
        have hn5 := ownI_len h5
        refine do_call Tryz.call35 (c_r26insert (x := x) (p := p) hk (ownI_cs h5) hn5 (by omega) (hfit.inI code) fun p6 n6 c6 w6 h6 e6 => retS_ret ⟨_, _, _, _, _, rfl, ?_⟩)
        have e46 := (d.trans e5).trans e6
        intro K62
        rw [eq1, eq2] at *
        refine ifB_t rfl (ifB_t (by simp) (ifB_t (by simp) ?_))
        have hlen := editL_len (o := o) (key := x.1) (y := insI p x (lastE o x.1 (itsC code t.tr)) (anyE o x.1 (itsC code t.tr))) (l := itsC code t.tr)
        have hes : (editC code o x.1 (insI p x (lastE o x.1 (itsC code t.tr)) (anyE o x.1 (itsC code t.tr))) t.tr).size ≤ 2000 := by
          rw [← itsC_len code, ED.2, List.length_map]; omega
        have htg : TagI (itsC code (editC code o x.1 (insI p x (lastE o x.1 (itsC code t.tr)) (anyE o x.1 (itsC code t.tr))) t.tr)) := by
          rw [ED.2]
          refine tagI_edit hTg fun _ => ?_
          have := tag_last (o := o) (key := x.1) hTg
          unfold insI
          cases anyE o x.1 (itsC code t.tr)
          · exact hxt
          · exact this
        refine do_call Tryz.call19 (c_has ED.1 htg ED.2.symm (ha4.ext e46) hes (ownI_cs h6) (ownI_len h6) fun w7 e7 => retS_ret ⟨_, rfl, ifB_t rfl ?_⟩)
        have e47 := e46.trans e7
        refine do_call Tryz.call21 (c_r9of t (hl.ext (E4.trans e47)) hts hnc hw (by omega) fun p8 n8 c8 w8 h8 e8 => retS_ret ⟨_, _, _, rfl, ?_⟩)
        rw [← btT_of_wf hw] at h8
        have hn8 := ownB_len h8
        have e48 := e47.trans e8
        refine do_call Tryz.call20 (c_is (hp4.ext e48) (by omega) (ownB_cs h8) (by rw [← hn8]; exact (btT_size _).symm) fun w9 e9 => retS_ret ⟨_, rfl, ifB_t rfl ?_⟩)
        refine do_call Tryz.call32 (c_nothing26 fun w10 e10 => retS_ret ⟨_, rfl, ifB_t rfl (do_call Tryz.call33 (c_alive26 fun w11 e11 => retS_ret ⟨_, rfl, h w11 ((((E4.trans e48).trans e9).trans e10).trans e11)⟩))⟩)
set_option maxRecDepth 20000 in
theorem c_editDeletes {code o key v : Int} {l : List Bd} {q : Option Addr} {n c : Nat} {w : World} {R : Ending → World → Prop} (hk : In key) (hl : Cs w q (bds l)) (hn : l.length = n) (hnc : n ≤ c) (hF : ∀ t : BT, l = t.beads → FitB t)
    (h : ∀ w', Ext w w' → R (.returned (.bool true)) w') : Calls Tryz.prog 7 #[.int .u8 code, .int .u8 o, .slice q n c, .int .i64 key, .int .i64 v] w R := by
  refine sh7_ok _ _ _ _ _ _ _ ?_
  unfold sh7
  have hidle : ∀ w2, Ext w w2 → doCall Tryz.prog (.func (.func 12) #[] #[]) #[.int .u8 code] w2 (retS (fun v18 w19 => ∃ (x17 : Bool), v18 = (.bool x17 : Value) ∧ (
 ifB (isS code == x17) (
 doCall Tryz.prog (.func (.func 32) #[] #[]) #[.int .u8 o, .int .u8 0] w19 (retS (fun v21 w22 => ∃ (x20 : Bool), v21 = (.bool x20 : Value) ∧ (
 ifB x20 (
 doCall Tryz.prog (.func (.func 33) #[] #[]) #[] w22 (retS (fun v24 w25 => ∃ (x23 : Bool), v24 = (.bool x23 : Value) ∧ (
 R (.returned (.bool x23)) w25)) (fun ch w => Kfn R ch [] w))) (
 R (.returned (.bool false)) w22))) (fun ch w => Kfn R ch [] w))) (
 R (.returned (.bool false)) w19))) (fun ch w => Kfn R ch [] w)) := fun w2 e2 =>
    do_call Tryz.call12 (c_r22is (retS_ret ⟨_, rfl, ifB_t (by simp) (do_call Tryz.call32 (c_nothing26 fun w3 e3 => retS_ret ⟨_, rfl, ifB_t rfl (do_call Tryz.call33 (c_alive26 fun w4 e4 => retS_ret ⟨_, rfl, h w4 ((e2.trans e3).trans e4)⟩))⟩))⟩))
  refine do_call Tryz.call10 (c_l22of (fun h0 => retS_ret ⟨_, _, rfl, ?_⟩) fun hs b w1 e1 hbw hs1 => retS_ret ⟨_, _, rfl, ?_⟩)
  · intro K14
    rw [h0] at hidle
    refine do_call Tryz.call11 (c_long24 (code := code) (o := o) hl hn hnc hF fun bb w2 e2 hbb => retS_ret ⟨_, rfl, ?_⟩)
    cases bb with
    | true => exact ifB_t rfl (ifB_t rfl (hidle w2 e2))
    | false => exact ifB_f rfl (ifB_t rfl (hidle w2 e2))
  · intro K14
    rw [hs] at hidle
    have hb : w.heap.size ≤ b := by omega
    refine do_call Tryz.call11 (c_long24 (code := code) (o := o) (hl.ext e1) hn hnc hF fun bb w2 e2 hbb => retS_ret ⟨_, rfl, ?_⟩)
    rcases hbb with rfl | ⟨rfl, _, ho, hn4, t, hw, rfl, hfit, hok, hch⟩
    · exact ifB_t rfl (ifB_t rfl (hidle w2 (e1.trans e2)))
    · have E2 := e1.trans e2
      refine ifB_f rfl (ifB_f rfl ?_)
      have hts : t.size = n := hn
      have hs2 := hs1.ext e2
      have htr := BT.tr_size t
      have hasc := asc_of (c := code) hch
      have S := splitC_ok (key := key) hok.1 hasc
      have hil := itsC_len code t.tr
      have hTg := hfit.tagI code
      obtain ⟨eq1, eq2⟩ := lastE_opt S.eq
      have ED := editC_ok (key := key) (y := delI (itO (splitC code o key t.tr).2.1) (splitC code o key t.tr).2.1.isSome) hok.1 hasc
      have ES := editC_ok (key := key) (y := setI v (itO (splitC code o key t.tr).2.1) (splitC code o key t.tr).2.1.isSome) hok.1 hasc
      refine do_call Tryz.call15 (c_make t (hl.ext E2) hts hnc hw (by omega) fun pt w3 e3 hp3 => retS_ret ⟨_, rfl, ?_⟩)
      have E3 := E2.trans e3
      have hs3 := hs2.ext e3
      refine do_call Tryz.call18 (c_r22items (cd := code) (hl.ext E3) hts hnc hw (by omega) fun p4 n4 c4 w4 h4 e4 => retS_ret ⟨_, _, _, rfl, ?_⟩)
      have hn4 := ownI_len h4
      have E4 := E3.trans e4
      have nb4 : b < w3.heap.size := hs3.lt
      have hs4 := hs3.ext e4
      have hp4 := hp3.ext e4
      refine do_call Tryz.call36 (c_delete ho hk hs4 hp4 hok.1 hfit.inK (by simp only [BIG]; omega) fun qa w5 g5 hs5 ha5 => retS_ret ⟨_, _, _, _, rfl, ?_⟩)
      have E5 := Ext.gs E4 g5 hb
      have hp5 := hp4.gs hs4 g5
      have h5 := ownI_at h4 g5 nb4
      refine do_call Tryz.call37 (c_r26delete hk (ownI_cs h5) hn4 (by omega) (hfit.inI code) fun p6 n6 c6 w6 h6 e6 => retS_ret ⟨_, _, _, _, _, rfl, ?_⟩)
      have hs6 := hs5.ext e6
      have nb6 : b < w5.heap.size := hs5.lt
      refine do_call Tryz.call38 (c_set ho hk hs6 (hp5.ext e6) hok.1 hfit.inK (by simp only [BIG]; omega) fun qb w7 g7 hs7 hb7 => retS_ret ⟨_, _, _, rfl, ?_⟩)
      have E7 := Ext.gs (E5.trans e6) g7 hb
      have hp7 := (hp5.ext e6).gs hs6 g7
      have h67 := ownI_at h6 g7 nb6
      have h57 := ownI_at (e6.row h5) g7 nb4
      have ha7 := (ha5.ext e6).gs hs6 g7
      refine do_call Tryz.call39 (c_r26set (v := v) hk (ownI_cs h57) hn4 (by omega) (hfit.inI code) fun p8 n8 c8 w8 h8 e8 => retS_ret ⟨_, _, _, _, rfl, ?_⟩)
      intro K61
      rw [eq1, eq2] at *
      refine ifB_t rfl (ifB_t rfl (ifB_t (by simp) (ifB_t (by simp) (ifB_t (by simp) ?_))))
      have hlen := editL_len (o := o) (key := key) (y := delI (lastE o key (itsC code t.tr)) (anyE o key (itsC code t.tr))) (l := itsC code t.tr)
      have hlen2 := editL_len (o := o) (key := key) (y := setI v (lastE o key (itsC code t.tr)) (anyE o key (itsC code t.tr))) (l := itsC code t.tr)
      have hes : (editC code o key (delI (lastE o key (itsC code t.tr)) (anyE o key (itsC code t.tr))) t.tr).size ≤ 2000 := by
        rw [← itsC_len code, ED.2, List.length_map]; omega
      have hes2 : (editC code o key (setI v (lastE o key (itsC code t.tr)) (anyE o key (itsC code t.tr))) t.tr).size ≤ 2000 := by
        rw [← itsC_len code, ES.2, List.length_map]; omega
      have htg : TagI (itsC code (editC code o key (delI (lastE o key (itsC code t.tr)) (anyE o key (itsC code t.tr))) t.tr)) := by
        rw [ED.2]
        exact tagI_edit hTg fun hq => by cases hq
      have htg2 : TagI (itsC code (editC code o key (setI v (lastE o key (itsC code t.tr)) (anyE o key (itsC code t.tr))) t.tr)) := by
        rw [ES.2]
        exact tagI_edit hTg fun _ => tag_last (o := o) (key := key) hTg
      refine do_call Tryz.call19 (c_has ED.1 htg ED.2.symm (ha7.ext e8) hes ((ownI_cs h67).ext e8) (ownI_len h67) fun w9 e9 => retS_ret ⟨_, rfl, ifB_t rfl ?_⟩)
      refine do_call Tryz.call19 (c_has ES.1 htg2 ES.2.symm (hb7.ext (e8.trans e9)) hes2 ((ownI_cs h8).ext e9) (ownI_len h8) fun w10 e10 => retS_ret ⟨_, rfl, ifB_t rfl ?_⟩)
      have e710 := (e8.trans e9).trans e10
      refine do_call Tryz.call21 (c_r9of t (hl.ext (E7.trans e710)) hts hnc hw (by omega) fun p11 n11 c11 w11 h11 e11 => retS_ret ⟨_, _, _, rfl, ?_⟩)
      rw [← btT_of_wf hw] at h11
      have hn11 := ownB_len h11
      have e711 := e710.trans e11
      refine do_call Tryz.call20 (c_is (hp7.ext e711) (by omega) (ownB_cs h11) (by rw [← hn11]; exact (btT_size _).symm) fun w12 e12 => retS_ret ⟨_, rfl, ifB_t rfl ?_⟩)
      exact do_call Tryz.call33 (c_alive26 fun w13 e13 => retS_ret ⟨_, rfl, h w13 (((E7.trans e711).trans e12).trans e13)⟩)
end Go.Proofs.YthgckfeocalbdaaGreat
