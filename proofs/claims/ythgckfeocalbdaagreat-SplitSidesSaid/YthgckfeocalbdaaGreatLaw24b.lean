/-
  SplitParts, SplitSides.
-/
import Derived.Test.YthgckfeocalbdaaGreatLaw24
import Derived.Test.YthgckfeocalbdaaGreatL3
import Derived.Test.YthgckfeocalbdaaGreatL4
namespace Go.Proofs.YthgckfeocalbdaaGreat
open Go Go.Sh Go.RowKit

set_option maxRecDepth 20000 in
theorem c_splitParts {code o key : Int} {l : List Bd} {q : Option Addr} {n c : Nat} {w : World} {R : Ending → World → Prop} (hk : In key) (hl : Cs w q (bds l)) (hn : l.length = n) (hnc : n ≤ c) (hF : ∀ t : BT, l = t.beads → FitB t)
    (h : ∀ w', Ext w w' → R (.returned (.bool true)) w') : Calls Tryz.prog 3 #[.int .u8 code, .int .u8 o, .slice q n c, .int .i64 key] w R := by
  refine sh3_ok _ _ _ _ _ _ ?_
  unfold sh3
  have hidle : ∀ w2, Ext w w2 → doCall Tryz.prog (.func (.func 12) #[] #[]) #[.int .u8 code] w2 (retS (fun v18 w19 => ∃ (x17 : Bool), v18 = (.bool x17 : Value) ∧ (
 ifB (isS code == x17) (
 doCall Tryz.prog (.func (.func 13) #[] #[]) #[.int .u8 o] w19 (retS (fun v21 w22 => ∃ (x20 : Bool), v21 = (.bool x20 : Value) ∧ (
 ifB x20 (
 doCall Tryz.prog (.func (.func 14) #[] #[]) #[] w22 (retS (fun v24 w25 => ∃ (x23 : Bool), v24 = (.bool x23 : Value) ∧ (
 R (.returned (.bool x23)) w25)) (fun ch w => Kfn R ch [] w))) (
 R (.returned (.bool false)) w22))) (fun ch w => Kfn R ch [] w))) (
 R (.returned (.bool false)) w19))) (fun ch w => Kfn R ch [] w)) := fun w2 e2 =>
    do_call Tryz.call12 (c_r22is (retS_ret ⟨_, rfl, ifB_t (by simp) (do_call Tryz.call13 (c_nothing24 fun w3 e3 => retS_ret ⟨_, rfl, ifB_t rfl (do_call Tryz.call14 (c_alive24 fun w4 e4 => retS_ret ⟨_, rfl, h w4 ((e2.trans e3).trans e4)⟩))⟩))⟩))
  refine do_call Tryz.call10 (c_l22of (fun h0 => retS_ret ⟨_, _, rfl, ?_⟩) fun hs b w1 e1 hbw hs1 => retS_ret ⟨_, _, rfl, ?_⟩)
  · intro K13
    rw [h0] at hidle
    refine do_call Tryz.call11 (c_long24 (code := code) (o := o) hl hn hnc hF fun bb w2 e2 hbb => retS_ret ⟨_, rfl, ?_⟩)
    cases bb with
    | true => exact ifB_t rfl (ifB_t rfl (hidle w2 e2))
    | false => exact ifB_f rfl (ifB_t rfl (hidle w2 e2))
  · intro K13
    rw [hs] at hidle
    have hb : w.heap.size ≤ b := by omega
    refine do_call Tryz.call11 (c_long24 (code := code) (o := o) (hl.ext e1) hn hnc hF fun bb w2 e2 hbb => retS_ret ⟨_, rfl, ?_⟩)
    rcases hbb with rfl | ⟨rfl, _, ho, hn4, t, hw, rfl, hfit, hok, hch⟩
    · exact ifB_t rfl (ifB_t rfl (hidle w2 (e1.trans e2)))
    · refine ifB_f rfl (ifB_f rfl ?_)
      have hts : t.size = n := hn
      have E2 := e1.trans e2
      have hs2 := hs1.ext e2
      have htr := BT.tr_size t
      have hasc := asc_of (c := code) hch
      have S := splitC_ok (key := key) hok.1 hasc
      have SP := splitC_p (o := o) (key := key) hok.1
      refine do_call Tryz.call15 (c_make t (hl.ext E2) hts hnc hw (by omega) fun p w3 e3 hp => retS_ret ⟨_, rfl, ?_⟩)
      have E3 := E2.trans e3
      have hs3 := hs2.ext e3
      refine do_call Tryz.call16 (c_split ho hk hs3 hp hok.1 hfit.inK (by simp only [BIG]; omega) fun ql qr w4 g4 hs4 hl4 hr4 => retS_ret ⟨_, _, _, _, _, _, _, rfl, ⟨?_⟩⟩)
      have E4 := Ext.gs E3 g4 hb
      have hp4 := hp.gs hs3 g4
      refine do_st3 (blk_alloc w4 _ _) fun w5 h5 g5 => ?_
      have e5 : Ext w4 w5 := (ext_alloc w4 _).st g5 (Nat.le_refl _)
      have E5 := E4.trans e5
      refine do_call Tryz.call18 (c_r22items (cd := code) (hl.ext E5) hts hnc hw (by omega) fun p6 n6 c6 w6 h6 e6 => retS_ret ⟨_, _, _, rfl, ?_⟩)
      have hn6 := ownI_len h6
      have hil := itsC_len code t.tr
      refine do_call Tryz.call17 (c_r24split hk (ownI_cs h6) hn6 (by omega) (hfit.inI code) fun p1 n1 c1 p2 n2 c2 w7 h7 e7 => retS_ret ⟨_, _, _, _, _, _, _, _, _, _, rfl, ⟨?_⟩⟩)
      have e57 := e6.trans e7
      refine do_st3 (blk_alloc w7 _ _) fun w8 h8 g8 => ?_
      have e8 : Ext w7 w8 := (ext_alloc w7 _).st g8 (Nat.le_refl _)
      have e58 := e57.trans e8
      have e48 := e5.trans e58
      have E8 := E5.trans e58
      have h58 := h5.ext e58
      obtain ⟨eq1, eq2⟩ := lastE_opt S.eq
      intro K67
      refine ifB_t rfl ⟨_, h58.cell (i := 0) (add_blk _ _) rfl, _, h58.cell (i := 1) (add_blk _ _) rfl, _, h58.cell (i := 2) (add_blk _ _) rfl, _, h8.cell (i := 0) (add_blk _ _) rfl, _, h8.cell (i := 1) (add_blk _ _) rfl, _, h8.cell (i := 2) (add_blk _ _) rfl, ?_⟩
      rw [eq1, eq2]
      refine ifB_t (by simp) (ifB_t (by simp) ?_)
      have T8 := h7.ext e8
      refine do_call Tryz.call19 (c_has S.okl (by rw [S.lt]; exact fun x hx => hfit.tagI code x (List.mem_filter.1 hx).1) (by rw [S.lt]; exact filt_fix _) (hl4.ext e48) (by omega) (ownI_cs T8.1) (ownI_len T8.1) fun w9 e9 => retS_ret ⟨_, rfl, ifB_t rfl ?_⟩)
      refine do_call Tryz.call19 (c_has S.okr (by rw [S.gt]; exact fun x hx => hfit.tagI code x (List.mem_filter.1 hx).1) (by rw [S.gt]; exact filt_fix _) ((hr4.ext e48).ext e9) (by omega) ((ownI_cs T8.2.1).ext e9) (ownI_len T8.2.1) fun w10 e10 => retS_ret ⟨_, rfl, ifB_t rfl ?_⟩)
      have e810 := e9.trans e10
      refine do_call Tryz.call21 (c_r9of t (hl.ext (E8.trans e810)) hts hnc hw (by omega) fun p11 n11 c11 w11 h11 e11 => retS_ret ⟨_, _, _, rfl, ?_⟩)
      rw [← btT_of_wf hw] at h11
      have hn11 := ownB_len h11
      have e411 := (e48.trans e810).trans e11
      refine do_call Tryz.call20 (c_is (hp4.ext e411) (by omega) (ownB_cs h11) (by rw [← hn11]; exact (btT_size _).symm) fun w12 e12 => retS_ret ⟨_, rfl, ifB_t rfl ?_⟩)
      refine do_call Tryz.call13 (c_nothing24 fun w13 e13 => retS_ret ⟨_, rfl, ifB_t rfl (do_call Tryz.call14 (c_alive24 fun w14 e14 => retS_ret ⟨_, rfl, h w14 (((((E8.trans e810).trans e11).trans e12).trans e13).trans e14)⟩))⟩)
/-- a new row of one item -/
theorem ownI_new {w : World} {b base : Nat} {x : It} (h : Blk w b #[.int .i64 x.1, .int .i64 x.2.1, .int .u64 x.2.2] 33) (hb : base ≤ b) : OwnI w base (some (blk b)) 1 1 [x] :=
  ⟨rfl, .inr ⟨b, 1, _, rfl, hb, h, Nat.le_refl _, by decide, rfl, rfl⟩⟩
theorem eqF_last {o key : Int} {l : List It} (h : (eqF o key l).length ≤ 1) : (if anyE o key l = true then [lastE o key l] else []) = eqF o key l := by
  unfold anyE lastE
  match eqF o key l, h with
  | [], _ => rfl
  | [x], _ => rfl
  | x :: y :: r, h => simp at h
theorem ownI_gs {w w' : World} {b base n c : Nat} {p : Option Addr} {l : List It} (h : OwnI w base p n c l) (g : Gs b w w') (hb : b < base) : OwnI w' base p n c l := by
  refine World.ownsRow.kept h g ?_
  cases hq : (Value.slice p n c).ownBlock with
  | none => exact .inl rfl
  | some k =>
    have := (World.ownsRow.lt h k hq).1
    exact .inr fun e => by injection e with e; omega
set_option maxRecDepth 20000 in
theorem c_r24ahead {o key : Int} {l : List It} {wth : Bool} {q : Option Addr} {n c : Nat} (hk : In key) {w : World} {R : Ending → World → Prop} (hl : Cs w q (its l)) (hn : l.length = n) (hm : n ≤ 1000000) (hI : InI l) (h1 : (eqF o key l).length ≤ 1)
    (h : ∀ p1 n1 c1 w', OwnI w' w.heap.size p1 n1 c1 (ltF o key l ++ cond wth (eqF o key l) []) → Ext w w' → R (.returned (.slice p1 n1 c1)) w') :
    Calls Tryz.prog 24 #[.int .u8 o, .slice q n c, .int .i64 key, .bool wth] w R := by
  refine sh24_ok _ _ _ _ _ _ ?_
  unfold sh24
  have hle : (ltF o key l).length ≤ n := by rw [← hn]; exact List.length_filter_le _ _
  refine do_call Tryz.call17 (c_r24split hk hl hn hm hI fun p1 n1 c1 p2 n2 c2 w1 T1 e1 => retS_ret ⟨_, _, _, _, _, _, _, _, _, _, rfl, ⟨?_⟩⟩)
  refine do_st3 (blk_alloc w1 _ _) fun w2 h2 g2 => ?_
  have e2 : Ext w1 w2 := (ext_alloc w1 _).st g2 (Nat.le_refl _)
  have o1 := e2.row T1.1
  have hn1 := ownI_len o1
  have hel := eqF_last h1
  intro K25 K28
  cases ha : anyE o key l with
  | false =>
    rw [ha] at hel
    rw [← hel] at h
    refine ifB_f rfl (h _ _ _ _ ?_ (e1.trans e2))
    cases wth <;> simpa using o1
  | true =>
    rw [ha] at hel
    rw [← hel] at h
    cases wth with
    | false => exact ifB_t rfl (ifB_f rfl (h _ _ _ _ (by simpa using o1) (e1.trans e2)))
    | true =>
      refine ifB_t rfl (ifB_t rfl ⟨_, h2.cell (i := 0) (add_blk _ _) rfl, _, h2.cell (i := 1) (add_blk _ _) rfl, _, h2.cell (i := 2) (add_blk _ _) rfl, ?_⟩)
      refine do_app1I o1 (by omega) ((e1.trans e2).size) fun q' c' w3 h3 k3 _ _ => ⟨_, _, _, rfl, h _ _ _ _ h3 (k3 w (e1.trans e2) (Nat.le_refl _))⟩
set_option maxRecDepth 20000 in
theorem c_r24behind {o key : Int} {l : List It} {wth : Bool} {q : Option Addr} {n c : Nat} (hk : In key) {w : World} {R : Ending → World → Prop} (hl : Cs w q (its l)) (hn : l.length = n) (hm : n ≤ 1000000) (hI : InI l) (h1 : (eqF o key l).length ≤ 1)
    (h : ∀ p1 n1 c1 w', OwnI w' w.heap.size p1 n1 c1 (cond wth (eqF o key l) [] ++ gtF o key l) → Ext w w' → R (.returned (.slice p1 n1 c1)) w') :
    Calls Tryz.prog 25 #[.int .u8 o, .slice q n c, .int .i64 key, .bool wth] w R := by
  refine sh25_ok _ _ _ _ _ _ ?_
  unfold sh25
  have hle : (gtF o key l).length ≤ n := by rw [← hn]; exact List.length_filter_le _ _
  refine do_call Tryz.call17 (c_r24split hk hl hn hm hI fun p1 n1 c1 p2 n2 c2 w1 T1 e1 => retS_ret ⟨_, _, _, _, _, _, _, _, _, _, rfl, ⟨?_⟩⟩)
  refine do_st3 (blk_alloc w1 _ _) fun w2 h2 g2 => ?_
  have e2 : Ext w1 w2 := (ext_alloc w1 _).st g2 (Nat.le_refl _)
  have o1 := e2.row T1.2.1
  have hn1 := ownI_len o1
  have hel := eqF_last h1
  intro K25 K28
  cases ha : anyE o key l with
  | false =>
    rw [ha] at hel
    rw [← hel] at h
    refine ifB_f rfl (h _ _ _ _ ?_ (e1.trans e2))
    cases wth <;> simpa using o1
  | true =>
    rw [ha] at hel
    rw [← hel] at h
    cases wth with
    | false => exact ifB_t rfl (ifB_f rfl (h _ _ _ _ (by simpa using o1) (e1.trans e2)))
    | true =>
      refine ifB_t rfl (ifB_t rfl ⟨_, h2.cell (i := 0) (add_blk _ _) rfl, _, h2.cell (i := 1) (add_blk _ _) rfl, _, h2.cell (i := 2) (add_blk _ _) rfl, ⟨?_⟩⟩)
      have E2 := e1.trans e2
      have e3 := ext_alloc w2 (.cells #[.int .i64 (lastE o key l).1, .int .i64 (lastE o key l).2.1, .int .u64 (lastE o key l).2.2] 33)
      have on := ownI_new (base := w.heap.size) (x := lastE o key l) (blk_alloc w2 #[.int .i64 (lastE o key l).1, .int .i64 (lastE o key l).2.1, .int .u64 (lastE o key l).2.2] 33) E2.size
      have hlen := its_length (gtF o key l)
      refine do_app elIt on ((ownI_cs o1).ext e3) (by omega) its_one (by simp only [maxLen]; omega) (by omega) (E2.trans e3).size fun q' c' w3 h3 g3 => retS_ret ⟨_, _, _, rfl, ?_⟩
      rw [Nat.add_comm 1 n2] at *
      refine h _ _ _ _ ?_ (extI_own on (E2.trans e3) g3 (Nat.le_refl _))
      rw [← its_append] at h3
      exact h3
set_option maxRecDepth 20000 in
theorem c_splitSides {code o key : Int} {l : List Bd} {wth : Bool} {q : Option Addr} {n c : Nat} {w : World} {R : Ending → World → Prop} (hk : In key) (hl : Cs w q (bds l)) (hn : l.length = n) (hnc : n ≤ c) (hF : ∀ t : BT, l = t.beads → FitB t)
    (h : ∀ w', Ext w w' → R (.returned (.bool true)) w') : Calls Tryz.prog 4 #[.int .u8 code, .int .u8 o, .slice q n c, .int .i64 key, .bool wth] w R := by
  refine sh4_ok _ _ _ _ _ _ _ ?_
  unfold sh4
  have hidle : ∀ w2, Ext w w2 → doCall Tryz.prog (.func (.func 12) #[] #[]) #[.int .u8 code] w2 (retS (fun v18 w19 => ∃ (x17 : Bool), v18 = (.bool x17 : Value) ∧ (
 ifB (isS code == x17) (
 doCall Tryz.prog (.func (.func 13) #[] #[]) #[.int .u8 o] w19 (retS (fun v21 w22 => ∃ (x20 : Bool), v21 = (.bool x20 : Value) ∧ (
 ifB x20 (
 doCall Tryz.prog (.func (.func 14) #[] #[]) #[] w22 (retS (fun v24 w25 => ∃ (x23 : Bool), v24 = (.bool x23 : Value) ∧ (
 R (.returned (.bool x23)) w25)) (fun ch w => Kfn R ch [] w))) (
 R (.returned (.bool false)) w22))) (fun ch w => Kfn R ch [] w))) (
 R (.returned (.bool false)) w19))) (fun ch w => Kfn R ch [] w)) := fun w2 e2 =>
    do_call Tryz.call12 (c_r22is (retS_ret ⟨_, rfl, ifB_t (by simp) (do_call Tryz.call13 (c_nothing24 fun w3 e3 => retS_ret ⟨_, rfl, ifB_t rfl (do_call Tryz.call14 (c_alive24 fun w4 e4 => retS_ret ⟨_, rfl, h w4 ((e2.trans e3).trans e4)⟩))⟩))⟩))
  refine do_call Tryz.call10 (c_l22of (fun h0 => retS_ret ⟨_, _, rfl, ?_⟩) fun hs b w1 e1 hbw hs1 => retS_ret ⟨_, _, rfl, ?_⟩)
  · intro K14
    rw [h0] at hidle
    refine do_call Tryz.call11 (c_long24 (code := code) (o := o) hl hn hnc hF fun bb w2 e2 hbb => retS_ret ⟨_, rfl, ?_⟩)
    cases bb with
    | true => exact ifB_t rfl (ifB_t rfl (hidle w2 e2))
    | false => exact ifB_f rfl (ifB_t rfl (hidle w2 e2))
  · intro K14
    rw [hs] at hidle
    have hb : w.heap.size ≤ b := by omega
    refine do_call Tryz.call11 (c_long24 (code := code) (o := o) (hl.ext e1) hn hnc hF fun bb w2 e2 hbb => retS_ret ⟨_, rfl, ?_⟩)
    rcases hbb with rfl | ⟨rfl, _, ho, hn4, t, hw, rfl, hfit, hok, hch⟩
    · exact ifB_t rfl (ifB_t rfl (hidle w2 (e1.trans e2)))
    · refine ifB_f rfl (ifB_f rfl ?_)
      have hts : t.size = n := hn
      have E2 := e1.trans e2
      have hs2 := hs1.ext e2
      have htr := BT.tr_size t
      have hasc := asc_of (c := code) hch
      have S := splitC_ok (key := key) hok.1 hasc
      have A := aheadC_ok (key := key) (wth := wth) hok.1 hasc
      have B := behindC_ok (key := key) (wth := wth) hok.1 hasc
      have hil := itsC_len code t.tr
      have heq1 : (eqF o key (itsC code t.tr)).length ≤ 1 := by
        rw [← S.eq]
        cases (splitC code o key t.tr).2.1 <;> simp
      have hsub : ∀ x ∈ eqF o key (itsC code t.tr), x ∈ itsC code t.tr := fun x hx => (List.mem_filter.1 hx).1
      have hAm : ∀ x ∈ ltF o key (itsC code t.tr) ++ cond wth (eqF o key (itsC code t.tr)) [], x ∈ itsC code t.tr := fun x hx => by
        rcases List.mem_append.1 hx with hx | hx
        · exact (List.mem_filter.1 hx).1
        · cases wth
          · cases hx
          · exact hsub x hx
      have hBm : ∀ x ∈ cond wth (eqF o key (itsC code t.tr)) [] ++ gtF o key (itsC code t.tr), x ∈ itsC code t.tr := fun x hx => by
        rcases List.mem_append.1 hx with hx | hx
        · cases wth
          · cases hx
          · exact hsub x hx
        · exact (List.mem_filter.1 hx).1
      have fix : ∀ L : List It, (∀ x ∈ L, x ∈ itsC code t.tr) → L.map (itC code) = L := fun L hL => by
        have : L.map (itC code) = L.map id := List.map_congr_left fun x hx => its_fix (hL x hx)
        rw [this, List.map_id]
      have sA : (aheadC code o key wth t.tr).size ≤ t.size + 1 := by
        rw [← itsC_len code, A.2, List.length_append]
        have h1 : (ltF o key (itsC code t.tr)).length ≤ (itsC code t.tr).length := List.length_filter_le _ _
        have h2 : (cond wth (eqF o key (itsC code t.tr)) []).length ≤ 1 := by cases wth <;> simp [heq1]
        omega
      have sB : (behindC code o key wth t.tr).size ≤ t.size + 1 := by
        rw [← itsC_len code, B.2, List.length_append]
        have h1 : (gtF o key (itsC code t.tr)).length ≤ (itsC code t.tr).length := List.length_filter_le _ _
        have h2 : (cond wth (eqF o key (itsC code t.tr)) []).length ≤ 1 := by cases wth <;> simp [heq1]
        omega
      refine do_call Tryz.call15 (c_make t (hl.ext E2) hts hnc hw (by omega) fun p w3 e3 hp => retS_ret ⟨_, rfl, ?_⟩)
      have E3 := E2.trans e3
      have hs3 := hs2.ext e3
      refine do_call Tryz.call18 (c_r22items (cd := code) (hl.ext E3) hts hnc hw (by omega) fun p4 n4 c4 w4 h4 e4 => retS_ret ⟨_, _, _, rfl, ?_⟩)
      have hn4 := ownI_len h4
      have E4 := E3.trans e4
      have hs4 := hs3.ext e4
      have nb4 : b < w3.heap.size := hs3.lt
      refine do_call Tryz.call22 (c_ahead ho hk hs4 (hp.ext e4) hok.1 hfit.inK (by simp only [BIG]; omega) fun qa w5 g5 hs5 ha5 => retS_ret ⟨_, _, rfl, ?_⟩)
      have hp5 := (hp.ext e4).gs hs4 g5
      refine do_call Tryz.call23 (c_behind ho hk hs5 hp5 hok.1 hfit.inK (by simp only [BIG]; omega) fun qb w6 g6 hs6 hb6 => retS_ret ⟨_, _, rfl, ?_⟩)
      have ha6 := ha5.gs hs5 g6
      have c6 := ownI_cs (ownI_gs (ownI_gs h4 g5 nb4) g6 nb4)
      intro K45
      refine ifB_t rfl (ifB_t rfl ?_)
      refine do_call Tryz.call24 (c_r24ahead hk c6 hn4 (by omega) (hfit.inI code) heq1 fun p7 n7 c7 w7 h7 e7 => retS_ret ⟨_, _, _, rfl, ?_⟩)
      refine do_call Tryz.call19 (c_has A.1 (by rw [A.2]; exact fun x hx => hfit.tagI code x (hAm x hx)) (by rw [A.2]; exact fix _ hAm) (ha6.ext e7) (by omega) (ownI_cs h7) (ownI_len h7) fun w8 e8 => retS_ret ⟨_, rfl, ifB_t rfl ?_⟩)
      have e68 := e7.trans e8
      refine do_call Tryz.call25 (c_r24behind hk (c6.ext e68) hn4 (by omega) (hfit.inI code) heq1 fun p9 n9 c9 w9 h9 e9 => retS_ret ⟨_, _, _, rfl, ?_⟩)
      refine do_call Tryz.call19 (c_has B.1 (by rw [B.2]; exact fun x hx => hfit.tagI code x (hBm x hx)) (by rw [B.2]; exact fix _ hBm) (hb6.ext (e68.trans e9)) (by omega) (ownI_cs h9) (ownI_len h9) fun w10 e10 => retS_ret ⟨_, rfl, ifB_t rfl ?_⟩)
      have E6 := Ext.gs (Ext.gs E4 g5 hb) g6 hb
      exact do_call Tryz.call14 (c_alive24 fun w14 e14 => retS_ret ⟨_, rfl, h w14 ((((E6.trans e68).trans e9).trans e10).trans e14)⟩)
end Go.Proofs.YthgckfeocalbdaaGreat
