/-
  MeetTells.
-/
import Derived.Test.YtbaoihmffobneaaGreatMeet3
import Derived.Test.YtbaoihmffobneaaGreatLaw28
import Derived.Test.YtbaoihmffobneaaGreatL3
namespace Go.Proofs.YtbaoihmffobneaaGreat
open Go Go.Sh Go.RowKit

theorem do_one29 {c k v : Int} {b b5 : Nat} {T : TypeId} {w : World} {R : Ending → World → Prop} (h5 : Blk w b5 #[.pointer (some (blk b))] T) (hs : IsSch c b w)
    (h : ∀ q w', Gs b w w' → IsSch c b w' → IsN w' q (joinC c .nil (k, v, 0) .nil) → R (.returned (.pointer q)) w') :
    doCall Tryz.prog (.func (.func 61) #[] #[.pointer (some (blk b5))]) #[.int .i64 k, .int .i64 v] w R := by
  refine do_callc Tryz.call61 (by rfl) (sh61_ok _ _ _ ?_)
  unfold sh61
  have n := OkM.nil hs.1
  exact ⟨_, h5.cell (i := 0) rfl rfl, do_call Tryz.call62 (c_sjoin hs (l := .nil) rfl (r := .nil) rfl n.1 n.1 (by decide) fun q w1 g1 hs1 h1 => retS_ret ⟨_, rfl, h _ _ g1 hs1 h1⟩)⟩
theorem its_empty {c : Int} {t : Tr} : (itsC c t).isEmpty = !t.nn := by
  cases t with
  | nil => rfl
  | node l k v g r => rw [itsC_node]; cases itsC c l <;> rfl
set_option maxRecDepth 20000 in
set_option maxHeartbeats 1600000 in
theorem c_alive29 {w : World} {R : Ending → World → Prop} (h : ∀ w', Ext w w' → R (.returned (.bool true)) w') : Calls Tryz.prog 14 #[] w R := by
  refine sh14_ok ?_
  unfold sh14
  refine do_call Tryz.call9 (c_l22of (fun h0 => by cases h0) fun _ b w1 e1 hbw hs1 => retS_ret ⟨_, _, rfl, ⟨?_⟩⟩)
  have hb : w.heap.size ≤ b := by omega
  have nb : w1.heap.size ≠ b := by have := hs1.lt; omega
  refine do_st (blk_alloc w1 _ _) (i := 0) (add_blk _ _) (by simp) fun w2 h2 g2 => ?_
  have e2 : Ext w1 w2 := (ext_alloc w1 _).st g2 (Nat.le_refl _)
  have h2 : Blk w2 w1.heap.size #[.pointer (some (blk b))] 23 := h2
  generalize w1.heap.size = b5 at *
  have d := ext_drew w2
  have E2 := (e1.trans e2).trans d
  have hs2 := hs1.ext (e2.trans d)
  have h2d := h2.ext d
  refine ifB_f rfl ⟨⟨fun w' => Blk w' b5 #[.pointer (some (blk b))] 23, h2d, _, fun w' e => e.cell (i := 0) rfl rfl, _, fun w' e => e.cell (i := 0) rfl rfl, ?_⟩⟩
  have o1 := one_ok hs1.1 1 10
  have o2 := one_ok hs1.1 2 20
  have o3 := one_ok hs1.1 2 5
  have o4 := one_ok hs1.1 3 30
  refine do_one29 h2d hs2 fun q1 w3 g3 hs3 k1 => retS_ret ⟨_, rfl, h2d.gs g3 nb, ?_⟩
  have h3 := h2d.gs g3 nb
  refine do_one29 h3 hs3 fun q2 w4 g4 hs4 k2 => retS_ret ⟨_, rfl, h3.gs g4 nb, ?_⟩
  have h4 := h3.gs g4 nb
  refine do_call Tryz.call63 (c_join2 hs4 (k1.gs hs3 g4) k2 o1.1.1 o2.1.1 (by rw [o1.2.2, o2.2.2]; decide) fun qa w5 g5 hs5 ka => retS_ret ⟨_, rfl, h4.gs g5 nb, ?_⟩)
  have h5 := h4.gs g5 nb
  refine do_one29 h5 hs5 fun q3 w6 g6 hs6 k3 => retS_ret ⟨_, rfl, h5.gs g6 nb, ?_⟩
  have h6 := h5.gs g6 nb
  refine do_one29 h6 hs6 fun q4 w7 g7 hs7 k4 => retS_ret ⟨_, rfl, h6.gs g7 nb, ?_⟩
  have h7 := h6.gs g7 nb
  refine do_call Tryz.call63 (c_join2 hs7 (k3.gs hs6 g7) k4 o3.1.1 o4.1.1 (by rw [o3.2.2, o4.2.2]; decide) fun qb w8 g8 hs8 kb => retS_ret ⟨_, rfl, h7.gs g8 nb, ?_⟩)
  have h8 := h7.gs g8 nb
  have ka8 := ((ka.gs hs5 g6).gs hs6 g7).gs hs7 g8
  have jA := join2C_ok o1.1.1 o2.1.1
  have jB := join2C_ok o3.1.1 o4.1.1
  rw [o1.2.1, o2.2.1] at jA
  rw [o3.2.1, o4.2.1] at jB
  generalize join2C 2 (joinC 2 .nil (1, 10, 0) .nil) (joinC 2 .nil (2, 20, 0) .nil) = A at *
  generalize join2C 2 (joinC 2 .nil (2, 5, 0) .nil) (joinC 2 .nil (3, 30, 0) .nil) = B at *
  have iA : itsC 2 A = [(1, 10, 0), (2, 20, 0)] := jA.2
  have iB : itsC 2 B = [(2, 5, 0), (3, 30, 0)] := jB.2
  have sA : A.size = 2 := by rw [← itsC_len 2, iA]; rfl
  have sB : B.size = 2 := by rw [← itsC_len 2, iB]; rfl
  have uA : OkU 2 1 A := ⟨jA.1, by rw [iA]; decide, inK_of iA (by intro x hx; simp at hx; rcases hx with rfl | rfl <;> exact ⟨by decide, by decide⟩)⟩
  have uB : OkU 2 1 B := ⟨jB.1, by rw [iB]; decide, inK_of iB (by intro x hx; simp at hx; rcases hx with rfl | rfl <;> exact ⟨by decide, by decide⟩)⟩
  have M := meetC_ok (p := 3) (o := 1) rfl uA uB
  have L := lessC_ok (o := 1) rfl uA uB
  have P := apartC_ok (o := 1) rfl uA uB
  rw [iA, iB] at M L P
  have M2 : itsC 2 (meetC 2 1 3 A B) = [(2, 25, 0)] := M.2.1.trans (by decide)
  have L2 : itsC 2 (lessC 2 1 A B) = [(1, 10, 0)] := L.2.1.trans (by decide)
  have P2 : itsC 2 (apartC 2 1 A B) = [(1, 10, 0), (3, 30, 0)] := P.2.1.trans (by decide)
  have hB : A.size + B.size + 10 ≤ BIG := by rw [sA, sB]; decide
  refine ⟨_, h8.cell (i := 0) rfl rfl, ?_⟩
  refine do_call Tryz.call17 (c_meet (p := 3) rfl (by decide) hs8 ka8 kb uA uB hB fun qm w9 g9 hs9 km => retS_ret ⟨_, _, rfl, ?_⟩)
  have h9 := h8.gs g9 nb
  refine ⟨_, h9.cell (i := 0) rfl rfl, ?_⟩
  have ka9 := ka8.gs hs8 g9
  have kb9 := kb.gs hs8 g9
  refine do_call Tryz.call18 (c_less rfl hs9 ka9 kb9 uA uB hB fun ql w10 g10 hs10 kl => retS_ret ⟨_, _, rfl, ?_⟩)
  have h10 := h9.gs g10 nb
  refine ⟨_, h10.cell (i := 0) rfl rfl, ?_⟩
  have ka10 := ka9.gs hs9 g10
  have kb10 := kb9.gs hs9 g10
  refine do_call Tryz.call19 (c_apart rfl hs10 ka10 kb10 uA uB hB fun qp w11 g11 hs11 kp => retS_ret ⟨_, _, rfl, ?_⟩)
  have h11 := h10.gs g11 nb
  refine ⟨_, h11.cell (i := 0) rfl rfl, ?_⟩
  refine do_call Tryz.call20 (c_mwithin rfl hs11 (ka10.gs hs10 g11) (kb10.gs hs10 g11) uA uB hB fun w12 g12 hs12 => retS_ret ⟨_, _, rfl, ?_⟩)
  have km12 := ((km.gs hs9 g10).gs hs10 g11).gs hs11 g12
  have kl12 := (kl.gs hs10 g11).gs hs11 g12
  have kp12 := kp.gs hs11 g12
  have E12 := Ext.gs E2 (((((((((g3.trans g4).trans g5).trans g6).trans g7).trans g8).trans g9).trans g10).trans g11).trans g12) hb
  intro K52
  have hnn : (lessC 2 1 A B).nn = true := by
    have := its_empty (c := 2) (t := lessC 2 1 A B)
    rw [L2] at this
    simpa using this
  rw [hnn]
  refine ifB_t rfl (ifB_t rfl (ifB_t rfl (ifB_t rfl (ifB_t rfl ⟨?_⟩))))
  have c13 := cs_alloc w12 #[.int .i64 2, .int .i64 25, .int .u64 0] 93
  have e13 := ext_alloc w12 (.cells #[.int .i64 2, .int .i64 25, .int .u64 0] 93)
  refine do_call Tryz.call22 (c_has (L := [(2, 25, 0)]) M.1 (by rw [M2]; decide) (by rw [M2]; decide) (km12.ext e13) (by have := M.2.2; omega) c13 rfl fun w14 e14 => retS_ret ⟨_, rfl, ifB_t rfl ⟨?_⟩⟩)
  have e1214 := e13.trans e14
  have c15 := cs_alloc w14 #[.int .i64 1, .int .i64 10, .int .u64 0] 93
  have e15 := ext_alloc w14 (.cells #[.int .i64 1, .int .i64 10, .int .u64 0] 93)
  refine do_call Tryz.call22 (c_has (L := [(1, 10, 0)]) L.1 (by rw [L2]; decide) (by rw [L2]; decide) (kl12.ext (e1214.trans e15)) (by have := L.2.2; omega) c15 rfl fun w16 e16 => retS_ret ⟨_, rfl, ifB_t rfl ⟨?_⟩⟩)
  have e1216 := (e1214.trans e15).trans e16
  have c17 := cs_alloc w16 #[.int .i64 1, .int .i64 10, .int .u64 0, .int .i64 3, .int .i64 30, .int .u64 0] 93
  have e17 := ext_alloc w16 (.cells #[.int .i64 1, .int .i64 10, .int .u64 0, .int .i64 3, .int .i64 30, .int .u64 0] 93)
  refine do_call Tryz.call22 (c_has (L := [(1, 10, 0), (3, 30, 0)]) P.1 (by rw [P2]; decide) (by rw [P2]; decide) (kp12.ext (e1216.trans e17)) (by have := P.2.2; omega) c17 rfl fun w18 e18 => retS_ret ⟨_, rfl, h _ (E12.trans ((e1216.trans e17).trans e18))⟩)
set_option maxRecDepth 20000 in
theorem c_nothing29 {o p : Int} {w : World} {R : Ending → World → Prop} (h : ∀ w', Ext w w' → R (.returned (.bool true)) w') : Calls Tryz.prog 13 #[.int .u8 o, .int .u8 p] w R := by
  refine sh13_ok _ _ ?_
  unfold sh13
  refine do_call Tryz.call9 (c_l22of (fun h0 => by cases h0) fun _ b w1 e1 hbw hs1 => retS_ret ⟨_, _, rfl, ?_⟩)
  have hb : w.heap.size ≤ b := by omega
  have i1 : In 1 := ⟨by decide, by decide⟩
  refine do_call Tryz.call60 (c_new (l := .nil) (r := .nil) rfl rfl (by decide) fun bn w2 e2 h2 _ => retS_ret ⟨_, rfl, ?_⟩)
  have hU : OkU 1 o (.node .nil 1 1 1 .nil) := ⟨⟨.inl ⟨rfl, trivial, trivial, rfl, by decide, by decide⟩, fun q => absurd q (by decide)⟩, by show List.Pairwise _ [1]; simp, trivial, i1, trivial⟩
  have hN : OkU 1 o .nil := ⟨OkM.nil rfl, List.Pairwise.nil, trivial⟩
  refine do_call Tryz.call17 (c_meet_no (.inr (.inl rfl)) fun w3 e3 => retS_ret ⟨_, _, rfl, ?_⟩)
  refine do_call Tryz.call18 (c_less_no (.inl rfl) fun w4 e4 => retS_ret ⟨_, _, rfl, ?_⟩)
  have e24 := e3.trans e4
  have e14 := e2.trans e24
  have hs4 := hs1.ext e14
  have h4 := h2.ext e24
  have E4 := e1.trans e14
  cases ho : isO o with
  | true =>
    refine do_call Tryz.call19 (c_apart ho hs4 h4 (u := .nil) rfl hU hN (by decide) fun qa w5 g5 hs5 _ => retS_ret ⟨_, _, rfl, ?_⟩)
    have h5 := h4.gs hs4 g5
    refine do_call Tryz.call20 (c_mwithin ho hs5 (a := .nil) rfl h5 hN hU (by decide) fun w6 g6 hs6 => retS_ret ⟨_, _, rfl, ?_⟩)
    have h6 := h5.gs hs5 g6
    have E6 := Ext.gs E4 (g5.trans g6) hb
    cases hp : may p with
    | true =>
      refine do_call Tryz.call17 (c_meet ho hp hs6 h6 h6 hU hU (by decide) fun qm w7 g7 hs7 _ => retS_ret ⟨_, _, rfl, ?_⟩)
      have E7 := Ext.gs E6 g7 hb
      intro K32
      refine ifB_f rfl (ifB_f rfl (ifB_f rfl ?_))
      simp -zeta -zetaHave only [K32]
      refine ifB_f rfl ?_
      intro K34 K46
      refine do_call Tryz.call42 (c_ris (retS_ret ⟨_, rfl, ?_⟩))
      rw [ho]
      refine ifB_f rfl ?_
      simp -zeta -zetaHave only [K34]
      intro K37
      refine do_call Tryz.call42 (c_ris (retS_ret ⟨_, rfl, ?_⟩))
      rw [ho]
      refine ifB_t rfl (do_call Tryz.call11 (c_rmay (retS_ret ⟨_, rfl, ?_⟩)))
      rw [hp]
      exact ifB_t rfl (h _ E7)
    | false =>
      refine do_call Tryz.call17 (c_meet_no (.inl hp) fun w7 e7 => retS_ret ⟨_, _, rfl, ?_⟩)
      have E7 := E6.trans e7
      intro K32
      refine ifB_f rfl (ifB_f rfl (ifB_f rfl ?_))
      simp -zeta -zetaHave only [K32]
      refine ifB_f rfl ?_
      intro K34 K46
      refine do_call Tryz.call42 (c_ris (retS_ret ⟨_, rfl, ?_⟩))
      rw [ho]
      refine ifB_f rfl ?_
      simp -zeta -zetaHave only [K34]
      intro K37
      refine do_call Tryz.call42 (c_ris (retS_ret ⟨_, rfl, ?_⟩))
      rw [ho]
      refine ifB_t rfl (do_call Tryz.call11 (c_rmay (retS_ret ⟨_, rfl, ?_⟩)))
      rw [hp]
      exact ifB_f rfl (ifB_t rfl (h _ E7))
  | false =>
    refine do_call Tryz.call19 (c_apart_no (.inr ho) fun w5 e5 => retS_ret ⟨_, _, rfl, ?_⟩)
    refine do_call Tryz.call20 (c_mwithin_no (.inr ho) fun w6 e6 => retS_ret ⟨_, _, rfl, ?_⟩)
    refine do_call Tryz.call17 (c_meet_no (.inr (.inr ho)) fun w7 e7 => retS_ret ⟨_, _, rfl, ?_⟩)
    have E7 := ((E4.trans e5).trans e6).trans e7
    intro K32
    refine ifB_f rfl (ifB_f rfl (ifB_f rfl ?_))
    simp -zeta -zetaHave only [K32]
    refine ifB_f rfl ?_
    intro K34 K46
    refine do_call Tryz.call42 (c_ris (retS_ret ⟨_, rfl, ?_⟩))
    rw [ho]
    refine ifB_t rfl (ifB_f rfl (ifB_f rfl (ifB_f rfl ?_)))
    simp -zeta -zetaHave only [K46]
    refine ifB_f rfl ?_
    simp -zeta -zetaHave only [K34]
    intro K37
    refine do_call Tryz.call42 (c_ris (retS_ret ⟨_, rfl, ?_⟩))
    rw [ho]
    exact ifB_f rfl (ifB_t rfl (h _ E7))
set_option maxRecDepth 20000 in
set_option maxHeartbeats 1600000 in
theorem c_meetTells {code o p : Int} {l m : List Bd} {q q' : Option Addr} {n c n' c' : Nat} {w : World} {R : Ending → World → Prop} (hl : Cs w q (bds l)) (hn : l.length = n) (hnc : n ≤ c) (hF : ∀ t : BT, l = t.beads → FitB t)
    (hm : Cs w q' (bds m)) (hn' : m.length = n') (hnc' : n' ≤ c') (hF' : ∀ t : BT, m = t.beads → FitB t)
    (h : ∀ w', Ext w w' → R (.returned (.bool true)) w') : Calls Tryz.prog 3 #[.int .u8 code, .int .u8 o, .int .u8 p, .slice q n c, .slice q' n' c'] w R := by
  refine sh3_ok _ _ _ _ _ _ _ _ _ ?_
  unfold sh3
  have hidle : ∀ w2, Ext w w2 → doCall Tryz.prog (.func (.func 12) #[] #[]) #[.int .u8 code] w2 (retS (fun v18 w19 => ∃ (x17 : Bool), v18 = (.bool x17 : Value) ∧ (
 ifB (isS code == x17) (
 doCall Tryz.prog (.func (.func 13) #[] #[]) #[.int .u8 o, .int .u8 p] w19 (retS (fun v21 w22 => ∃ (x20 : Bool), v21 = (.bool x20 : Value) ∧ (
 ifB x20 (
 doCall Tryz.prog (.func (.func 14) #[] #[]) #[] w22 (retS (fun v24 w25 => ∃ (x23 : Bool), v24 = (.bool x23 : Value) ∧ (
 R (.returned (.bool x23)) w25)) (fun ch w => Kfn R ch [] w))) (
 R (.returned (.bool false)) w22))) (fun ch w => Kfn R ch [] w))) (
 R (.returned (.bool false)) w19))) (fun ch w => Kfn R ch [] w)) := fun w2 e2 =>
    do_call Tryz.call12 (c_r22is (retS_ret ⟨_, rfl, ifB_t (by simp) (do_call Tryz.call13 (c_nothing29 fun w3 e3 => retS_ret ⟨_, rfl, ifB_t rfl (do_call Tryz.call14 (c_alive29 fun w4 e4 => retS_ret ⟨_, rfl, h w4 ((e2.trans e3).trans e4)⟩))⟩))⟩))
  refine do_call Tryz.call9 (c_l22of (fun h0 => retS_ret ⟨_, _, rfl, ?_⟩) fun hs b w1 e1 hbw hs1 => retS_ret ⟨_, _, rfl, ?_⟩)
  · intro K16
    rw [h0] at hidle
    refine do_call Tryz.call10 (c_long28 (code := code) (o := o) hl hn hnc hF hm hn' hnc' hF' fun bb w2 e2 hbb => retS_ret ⟨_, rfl, ?_⟩)
    cases bb with
    | true => exact ifB_t rfl (ifB_t rfl (hidle w2 e2))
    | false => exact ifB_f rfl (ifB_t rfl (ifB_t rfl (hidle w2 e2)))
  · intro K16
    rw [hs] at hidle
    have hb : w.heap.size ≤ b := by omega
    refine do_call Tryz.call10 (c_long28 (code := code) (o := o) (hl.ext e1) hn hnc hF (hm.ext e1) hn' hnc' hF' fun bb w2 e2 hbb => retS_ret ⟨_, rfl, ?_⟩)
    rcases hbb with rfl | ⟨rfl, _, ho, t, u, ht, hu⟩
    · exact ifB_t rfl (ifB_t rfl (hidle w2 (e1.trans e2)))
    · have E2 := e1.trans e2
      refine ifB_f rfl (ifB_f rfl (do_call Tryz.call11 (c_rmay (retS_ret ⟨_, rfl, ?_⟩))))
      cases hp : may p with
      | false => exact ifB_t rfl (hidle w2 E2)
      | true =>
        refine ifB_f rfl ?_
        have oa := ht.u
        have ou := hu.u
        obtain ⟨hn4, hw, rfl, hfit, hok, hasc⟩ := ht
        obtain ⟨hn4', hw', rfl, hfit', hok', hasc'⟩ := hu
        have hts : t.size = n := hn
        have hus : u.size = n' := hn'
        have hs2 := hs1.ext e2
        have htr := BT.tr_size t
        have hur := BT.tr_size u
        have hil := itsC_len code t.tr
        have hil' := itsC_len code u.tr
        have M := meetC_ok (p := p) ho oa ou
        have L := lessC_ok ho oa ou
        have P := apartC_ok ho oa ou
        have hB : t.tr.size + u.tr.size + 10 ≤ BIG := by simp only [BIG]; omega
        refine do_call Tryz.call15 (c_make t (hl.ext E2) hts hnc hw (by omega) fun pt w3 e3 hp3 => retS_ret ⟨_, rfl, ?_⟩)
        refine do_call Tryz.call15 (c_make u (hm.ext (E2.trans e3)) hus hnc' hw' (by omega) fun pu w4 e4 hu4 => retS_ret ⟨_, rfl, ?_⟩)
        have e24 := e3.trans e4
        have E4 := E2.trans e24
        have hs4 := hs2.ext e24
        refine do_call Tryz.call16 (c_r22items (cd := code) (hl.ext E4) hts hnc hw (by omega) fun p5 n5 c5 w5 h5 e5 => retS_ret ⟨_, _, _, rfl, ?_⟩)
        refine do_call Tryz.call16 (c_r22items (cd := code) (hm.ext (E4.trans e5)) hus hnc' hw' (by omega) fun p6 n6 c6 w6 h6 e6 => retS_ret ⟨_, _, _, rfl, ?_⟩)
        have hn5 := ownI_len h5
        have hn6 := ownI_len h6
        have e46 := e5.trans e6
        have E6 := E4.trans e46
        have hs6 := hs4.ext e46
        have nb4 : b < w4.heap.size := hs4.lt
        have nb5 : b < w5.heap.size := (hs4.ext e5).lt
        have ht6 := hp3.ext (e4.trans e46)
        have hu6 := hu4.ext e46
        refine do_call Tryz.call17 (c_meet ho hp hs6 ht6 hu6 oa ou hB fun qm w7 g7 hs7 km => retS_ret ⟨_, _, rfl, ?_⟩)
        have ht7 := ht6.gs hs6 g7
        have hu7 := hu6.gs hs6 g7
        refine do_call Tryz.call18 (c_less ho hs7 ht7 hu7 oa ou hB fun ql w8 g8 hs8 kl => retS_ret ⟨_, _, rfl, ?_⟩)
        have ht8 := ht7.gs hs7 g8
        have hu8 := hu7.gs hs7 g8
        refine do_call Tryz.call19 (c_apart ho hs8 ht8 hu8 oa ou hB fun qp w9 g9 hs9 kp => retS_ret ⟨_, _, rfl, ?_⟩)
        have ht9 := ht8.gs hs8 g9
        have hu9 := hu8.gs hs8 g9
        refine do_call Tryz.call20 (c_mwithin ho hs9 ht9 hu9 oa ou hB fun w10 g10 hs10 => retS_ret ⟨_, _, rfl, ?_⟩)
        have ht10 := ht9.gs hs9 g10
        have hu10 := hu9.gs hs9 g10
        have G := ((g7.trans g8).trans g9).trans g10
        have E10 := Ext.gs E6 G hb
        have km10 := ((km.gs hs7 g8).gs hs8 g9).gs hs9 g10
        have kl10 := (kl.gs hs8 g9).gs hs9 g10
        have kp10 := kp.gs hs9 g10
        have r5 := ownI_cs (ownI_at (e6.row h5) G nb4)
        have r6 := ownI_cs (ownI_at h6 G nb5)
        intro K63
        refine ifB_f rfl (ifB_f rfl (ifB_f rfl (ifB_f rfl ?_)))
        refine do_call Tryz.call21 (c_r29within r5 hn5 (by omega) r6 hn6 (by omega) fun w11 e11 => retS_ret ⟨_, rfl, ?_⟩)
        simp -zeta -zetaHave only [K63]
        refine ifB_f ?_ ?_
        · rw [← L.2.1, its_empty]; simp
        intro K66
        have tgA := hfit.tagI code
        have tgB := hfit'.tagI code
        have fx : ∀ s : Tr, (itsC code s).map (itC code) = itsC code s := fun s => by
          have : (itsC code s).map (itC code) = (itsC code s).map id := List.map_congr_left fun x hx => its_fix hx
          rw [this, List.map_id]
        refine do_call Tryz.call23 (c_r29meet (p := p) (r5.ext e11) hn5 (by omega) (r6.ext e11) hn6 (by omega) fun p12 n12 c12 w12 h12 e12 => retS_ret ⟨_, _, _, rfl, ?_⟩)
        have e1012 := e11.trans e12
        refine do_call Tryz.call22 (c_has M.1 (by
          rw [M.2.1]
          intro x hx
          obtain ⟨y, hy, e⟩ := List.mem_filterMap.1 hx
          unfold meetG at e
          cases hf : findK (itsC code u.tr) y.1 with
          | none => rw [hf] at e; cases e
          | some z => rw [hf] at e; injection e with e; subst e; exact tgA y hy) (by rw [← M.2.1]; exact fx _) (km10.ext e1012) (by have := M.2.2; omega) (ownI_cs h12) (ownI_len h12) fun w13 e13 => retS_ret ⟨_, rfl, ifB_t rfl ?_⟩)
        have e1013 := e1012.trans e13
        refine do_call Tryz.call24 (c_r29less (r5.ext e1013) hn5 (by omega) (r6.ext e1013) hn6 (by omega) fun p14 n14 c14 w14 h14 e14 => retS_ret ⟨_, _, _, rfl, ?_⟩)
        have e1014 := e1013.trans e14
        refine do_call Tryz.call22 (c_has L.1 (by rw [L.2.1]; exact fun x hx => tgA x (mem_less hx)) (by rw [← L.2.1]; exact fx _) (kl10.ext e1014) (by have := L.2.2; omega) (ownI_cs h14) (ownI_len h14) fun w15 e15 => retS_ret ⟨_, rfl, ifB_t rfl ?_⟩)
        have e1015 := e1014.trans e15
        refine do_call Tryz.call25 (c_r29apart (o := o) (r5.ext e1015) hn5 (r6.ext e1015) hn6 (by omega) (hfit.inI code) (hfit'.inI code) fun p16 n16 c16 w16 h16 e16 => retS_ret ⟨_, _, _, rfl, ?_⟩)
        have e1016 := e1015.trans e16
        refine do_call Tryz.call22 (c_has P.1 (by rw [P.2.1]; exact foldI_all (P := fun _ g => 0 ≤ g ∧ g < 18446744073709551616) (fun x hx => tgA x (mem_less hx)) (fun x hx => tgB x (mem_less hx))) (by rw [← P.2.1]; exact fx _) (kp10.ext e1016) (by have := P.2.2; omega) (ownI_cs h16) (ownI_len h16) fun w17 e17 => retS_ret ⟨_, rfl, ifB_t rfl ?_⟩)
        have e1017 := e1016.trans e17
        refine do_call Tryz.call27 (c_r9of t (hl.ext (E10.trans e1017)) hts hnc hw (by omega) fun p18 n18 c18 w18 h18 e18 => retS_ret ⟨_, _, _, rfl, ?_⟩)
        rw [← btT_of_wf hw] at h18
        have hn18 := ownB_len h18
        have e1018 := e1017.trans e18
        refine do_call Tryz.call26 (c_is (ht10.ext e1018) (by omega) (ownB_cs h18) (by rw [← hn18]; exact (btT_size _).symm) fun w19 e19 => retS_ret ⟨_, rfl, ifB_t rfl ?_⟩)
        have e1019 := e1018.trans e19
        refine do_call Tryz.call27 (c_r9of u (hm.ext (E10.trans e1019)) hus hnc' hw' (by omega) fun p20 n20 c20 w20 h20 e20 => retS_ret ⟨_, _, _, rfl, ?_⟩)
        rw [← btT_of_wf hw'] at h20
        have hn20 := ownB_len h20
        have e1020 := e1019.trans e20
        refine do_call Tryz.call26 (c_is (hu10.ext e1020) (by omega) (ownB_cs h20) (by rw [← hn20]; exact (btT_size _).symm) fun w21 e21 => retS_ret ⟨_, rfl, ifB_t rfl ?_⟩)
        refine do_call Tryz.call13 (c_nothing29 fun w22 e22 => retS_ret ⟨_, rfl, ifB_t rfl (do_call Tryz.call14 (c_alive29 fun w23 e23 => retS_ret ⟨_, rfl, h w23 ((((E10.trans e1020).trans e21).trans e22).trans e23)⟩))⟩)
end Go.Proofs.YtbaoihmffobneaaGreat
