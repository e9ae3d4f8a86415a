/-
  UnionTells; the chapter's examples.
-/
import Derived.Test.YthgckfeocalbdaaGreatUni2
import Derived.Test.YthgckfeocalbdaaGreatL8
namespace Go.Proofs.YthgckfeocalbdaaGreat
open Go Go.Sh Go.RowKit

theorem cs_blk1 {w : World} {b : Nat} {v : Value} {t : TypeId} (h : Blk w b #[v] t) : Cs w (some (blk b)) [v] := fun i u hu => by
  match i with
  | 0 =>
    simp at hu
    subst hu
    exact ⟨_, rfl, by rw [add_zero']; exact h.cell (i := 0) rfl rfl⟩
  | i + 1 => simp at hu
/-- a tree of one item -/
theorem one_ok {c : Int} (hc : isS c = true) (k v : Int) : OkM c (joinC c .nil (k, v, 0) .nil) ∧ itsC c (joinC c .nil (k, v, 0) .nil) = [(k, v, 0)] ∧ (joinC c .nil (k, v, 0) .nil).size = 1 := by
  have n := OkM.nil hc
  have j := joinC_ok n.1 n.1 ((k, v, 0) : It)
  refine ⟨j.1, ?_, joinC_size n.1 n.1 _⟩
  rw [j.2, itsC_nil]
  unfold itC
  split <;> rfl
theorem do_one28 {c k v : Int} {b b5 : Nat} {T : TypeId} {w : World} {R : Ending → World → Prop} (h5 : Blk w b5 #[.pointer (some (blk b))] T) (hs : IsSch c b w)
    (h : ∀ q w', Gs b w w' → IsSch c b w' → IsN w' q (joinC c .nil (k, v, 0) .nil) → R (.returned (.pointer q)) w') :
    doCall Tryz.prog (.func (.func 78) #[] #[.pointer (some (blk b5))]) #[.int .i64 k, .int .i64 v] w R := by
  refine do_callc Tryz.call78 (by rfl) (sh78_ok _ _ _ ?_)
  unfold sh78
  have n := OkM.nil hs.1
  exact ⟨_, h5.cell (i := 0) rfl rfl, do_call Tryz.call51 (c_sjoin hs (l := .nil) rfl (r := .nil) rfl n.1 n.1 (by decide) fun q w1 g1 hs1 h1 => retS_ret ⟨_, rfl, h _ _ g1 hs1 h1⟩)⟩
theorem inK_of {c : Int} {t : Tr} {l : List It} (e : itsC c t = l) (h : ∀ x ∈ l, In x.1) : InK t := (inK_its (c := c)).2 (by rw [e]; exact h)
set_option maxRecDepth 20000 in
theorem c_alive28 {w : World} {R : Ending → World → Prop} (h : ∀ w', Ext w w' → R (.returned (.bool true)) w') : Calls Tryz.prog 42 #[] w R := by
  refine sh42_ok ?_
  unfold sh42
  refine do_call Tryz.call10 (c_l22of (fun h0 => by cases h0) fun _ b w1 e1 hbw hs1 => retS_ret ⟨_, _, rfl, ⟨?_⟩⟩)
  have hb : w.heap.size ≤ b := by omega
  have nb : w1.heap.size ≠ b := by have := hs1.lt; omega
  refine do_st (blk_alloc w1 _ _) (i := 0) (add_blk _ _) (by simp) fun w2 h2 g2 => ?_
  have e2 : Ext w1 w2 := (ext_alloc w1 _).st g2 (Nat.le_refl _)
  have h2 : Blk w2 w1.heap.size #[.pointer (some (blk b))] 23 := h2
  generalize w1.heap.size = b5 at *
  have d := ext_drew w2
  have E2 := (e1.trans e2).trans d
  have hs2 := hs1.ext (e2.trans d)
  have h2d := h2.ext d
  refine ifB_f rfl ⟨⟨fun w' => Blk w' b5 #[.pointer (some (blk b))] 23, h2d, _, fun w' e => e.cell (i := 0) rfl rfl, _, fun w' e => e.cell (i := 0) rfl rfl, ?_⟩⟩
  have o1 := one_ok hs1.1 1 10
  have o2 := one_ok hs1.1 2 20
  have o3 := one_ok hs1.1 2 5
  have o4 := one_ok hs1.1 3 30
  refine do_one28 h2d hs2 fun q1 w3 g3 hs3 k1 => retS_ret ⟨_, rfl, h2d.gs g3 nb, ?_⟩
  have h3 := h2d.gs g3 nb
  refine do_one28 h3 hs3 fun q2 w4 g4 hs4 k2 => retS_ret ⟨_, rfl, h3.gs g4 nb, ?_⟩
  have h4 := h3.gs g4 nb
  refine do_call Tryz.call61 (c_join2 hs4 (k1.gs hs3 g4) k2 o1.1.1 o2.1.1 (by rw [o1.2.2, o2.2.2]; decide) fun qa w5 g5 hs5 ka => retS_ret ⟨_, rfl, h4.gs g5 nb, ?_⟩)
  have h5 := h4.gs g5 nb
  refine do_one28 h5 hs5 fun q3 w6 g6 hs6 k3 => retS_ret ⟨_, rfl, h5.gs g6 nb, ?_⟩
  have h6 := h5.gs g6 nb
  refine do_one28 h6 hs6 fun q4 w7 g7 hs7 k4 => retS_ret ⟨_, rfl, h6.gs g7 nb, ?_⟩
  have h7 := h6.gs g7 nb
  refine do_call Tryz.call61 (c_join2 hs7 (k3.gs hs6 g7) k4 o3.1.1 o4.1.1 (by rw [o3.2.2, o4.2.2]; decide) fun qb w8 g8 hs8 kb => retS_ret ⟨_, rfl, h7.gs g8 nb, ?_⟩)
  have h8 := h7.gs g8 nb
  have ka8 := ((ka.gs hs5 g6).gs hs6 g7).gs hs7 g8
  have jA := join2C_ok o1.1.1 o2.1.1
  have jB := join2C_ok o3.1.1 o4.1.1
  rw [o1.2.1, o2.2.1] at jA
  rw [o3.2.1, o4.2.1] at jB
  generalize join2C 1 (joinC 1 .nil (1, 10, 0) .nil) (joinC 1 .nil (2, 20, 0) .nil) = A at *
  generalize join2C 1 (joinC 1 .nil (2, 5, 0) .nil) (joinC 1 .nil (3, 30, 0) .nil) = B at *
  have iA : itsC 1 A = [(1, 10, 0), (2, 20, 0)] := jA.2
  have iB : itsC 1 B = [(2, 5, 0), (3, 30, 0)] := jB.2
  have sA : A.size = 2 := by rw [← itsC_len 1, iA]; rfl
  have sB : B.size = 2 := by rw [← itsC_len 1, iB]; rfl
  have aA : asc 1 (itsC 1 A) := by rw [iA]; decide
  have aB : asc 1 (itsC 1 B) := by rw [iB]; decide
  have kA : InK A := inK_of iA (by intro x hx; simp at hx; rcases hx with rfl | rfl <;> exact ⟨by decide, by decide⟩)
  have kB : InK B := inK_of iB (by intro x hx; simp at hx; rcases hx with rfl | rfl <;> exact ⟨by decide, by decide⟩)
  have U := unionC_p (o := 1) (p := 3) jA.1.1 jB.1
  have V := unionC_ok (o := 1) (p := 3) jA.1.1 jB.1 aA aB
  rw [iA, iB] at V
  have V : itsC 1 (unionC 1 1 3 A B) = [(1, 10, 0), (2, 25, 0), (3, 30, 0)] := V.trans (by decide)
  refine ⟨_, h8.cell (i := 0) rfl rfl, ?_⟩
  refine do_call Tryz.call43 (c_union rfl (by decide) hs8 ka8 kb jA.1.1 jB.1 kA kB aB (by rw [sA, sB]; decide) fun qu w9 g9 hs9 ku => retS_ret ⟨_, _, rfl, ?_⟩)
  have h9 := h8.gs g9 nb
  refine ⟨_, h9.cell (i := 0) rfl rfl, ?_⟩
  refine do_call Tryz.call43 (c_union_no2 rfl (by decide) hs9 fun w10 g10 hs10 => retS_ret ⟨_, _, rfl, ?_⟩)
  have ku10 := ku.gs hs9 g10
  have E10 := Ext.gs E2 (((((((g3.trans g4).trans g5).trans g6).trans g7).trans g8).trans g9).trans g10) hb
  intro K42
  refine ifB_t rfl (ifB_t rfl ⟨?_⟩)
  have c11 := cs_alloc w10 #[.int .i64 1, .int .i64 10, .int .u64 0, .int .i64 2, .int .i64 25, .int .u64 0, .int .i64 3, .int .i64 30, .int .u64 0] 33
  have e11 := ext_alloc w10 (.cells #[.int .i64 1, .int .i64 10, .int .u64 0, .int .i64 2, .int .i64 25, .int .u64 0, .int .i64 3, .int .i64 30, .int .u64 0] 33)
  refine do_call Tryz.call19 (c_has (L := [(1, 10, 0), (2, 25, 0), (3, 30, 0)]) U.1 (by rw [V]; decide) (by rw [V]; decide) (ku10.ext e11) (by have := U.2; omega) c11 rfl fun w12 e12 => retS_ret ⟨_, rfl, h _ ((E10.trans e11).trans e12)⟩)
set_option maxRecDepth 20000 in
theorem c_nothing28 {o p : Int} {w : World} {R : Ending → World → Prop} (h : ∀ w', Ext w w' → R (.returned (.bool true)) w') : Calls Tryz.prog 41 #[.int .u8 o, .int .u8 p] w R := by
  refine sh41_ok _ _ ?_
  unfold sh41
  refine do_call Tryz.call10 (c_l22of (fun h0 => by cases h0) fun _ b w1 e1 hbw hs1 => retS_ret ⟨_, _, rfl, ?_⟩)
  have hb : w.heap.size ≤ b := by omega
  have i1 : In 1 := ⟨by decide, by decide⟩
  refine do_call Tryz.call27 (c_new (l := .nil) (r := .nil) rfl rfl (by decide) fun bn w2 e2 h2 _ => retS_ret ⟨_, rfl, ?_⟩)
  have okT : OkM 4 (.node .nil 1 1 1 .nil) := ⟨.inr (.inr (.inr ⟨rfl, trivial, trivial, rfl, rfl⟩)), fun q => absurd q (by decide)⟩
  have hU : OkU 4 o (.node .nil 1 1 1 .nil) := ⟨okT, by show List.Pairwise _ [1]; simp, trivial, i1, trivial⟩
  refine do_call Tryz.call43 (c_union_no (.inl rfl) fun w3 e3 => retS_ret ⟨_, _, rfl, ?_⟩)
  refine do_call Tryz.call45 (c_many_no (.inl rfl) fun w4 e4 => retS_ret ⟨_, _, rfl, ?_⟩)
  have e24 := e3.trans e4
  have e14 := e2.trans e24
  have hs4 := hs1.ext e14
  have h4 := h2.ext e24
  have E4 := e1.trans e14
  -- what is asked behind the two calls
  cases ho : isO o with
  | true =>
    cases hp : may p with
    | true =>
      refine do_call Tryz.call43 (c_union ho hp hs4 h4 (u := .nil) rfl okT.1 (OkM.nil rfl) hU.k trivial List.Pairwise.nil (by decide) fun qu w5 g5 hs5 hu5 => retS_ret ⟨_, _, rfl, ⟨?_⟩⟩)
      have ht5 := h4.gs hs4 g5
      have e6 := ext_alloc w5 (.cells #[.pointer (some (blk bn))] 29)
      have hb6 := blk_alloc w5 #[.pointer (some (blk bn))] 29
      have nb : w5.heap.size ≠ b := by have := hs5.lt; omega
      refine do_call Tryz.call45 (c_many (M := 1) (L := [(some (blk bn), .node .nil 1 1 1 .nil)]) ho hp (hs5.ext e6) (fun w' g => cs_blk1 (hb6.gs g nb)) rfl (fun x hx => by simp at hx; subst hx; exact ⟨ht5.ext e6, hU, Nat.le_refl 1⟩) (by decide) (by decide) fun qm w7 g7 hs7 _ _ => retS_ret ⟨_, _, rfl, ?_⟩)
      have E7 := Ext.gs ((Ext.gs E4 g5 hb).trans e6) g7 hb
      intro K30
      refine ifB_f rfl (ifB_f rfl (ifB_f rfl ?_))
      simp -zeta -zetaHave only [K30]
      refine ifB_f rfl ?_
      intro K33
      refine do_call Tryz.call70 (c_ris (retS_ret ⟨_, rfl, ?_⟩))
      rw [ho]
      refine ifB_t rfl (do_call Tryz.call31 (c_rmay (retS_ret ⟨_, rfl, ?_⟩)))
      rw [hp]
      exact ifB_t rfl (h _ E7)
    | false =>
      refine do_call Tryz.call43 (c_union_no2 ho hp hs4 fun w5 g5 hs5 => retS_ret ⟨_, _, rfl, ⟨?_⟩⟩)
      have e6 := ext_alloc w5 (.cells #[.pointer (some (blk bn))] 29)
      refine do_call Tryz.call45 (c_many_no2 ho hp (hs5.ext e6) fun w7 g7 hs7 => retS_ret ⟨_, _, rfl, ?_⟩)
      have E7 := Ext.gs ((Ext.gs E4 g5 hb).trans e6) g7 hb
      intro K30
      refine ifB_f rfl (ifB_f rfl (ifB_f rfl ?_))
      simp -zeta -zetaHave only [K30]
      refine ifB_f rfl ?_
      intro K33
      refine do_call Tryz.call70 (c_ris (retS_ret ⟨_, rfl, ?_⟩))
      rw [ho]
      refine ifB_t rfl (do_call Tryz.call31 (c_rmay (retS_ret ⟨_, rfl, ?_⟩)))
      rw [hp]
      exact ifB_f rfl (ifB_t rfl (ifB_t rfl (ifB_t rfl (h _ E7))))
  | false =>
    refine do_call Tryz.call43 (c_union_no (.inr ho) fun w5 e5 => retS_ret ⟨_, _, rfl, ⟨?_⟩⟩)
    have e6 := ext_alloc w5 (.cells #[.pointer (some (blk bn))] 29)
    refine do_call Tryz.call45 (c_many_no (.inr ho) fun w7 e7 => retS_ret ⟨_, _, rfl, ?_⟩)
    have E7 := ((E4.trans e5).trans e6).trans e7
    intro K30
    refine ifB_f rfl (ifB_f rfl (ifB_f rfl ?_))
    simp -zeta -zetaHave only [K30]
    refine ifB_f rfl ?_
    intro K33
    refine do_call Tryz.call70 (c_ris (retS_ret ⟨_, rfl, ?_⟩))
    rw [ho]
    exact ifB_f rfl (ifB_t rfl (ifB_t rfl (ifB_t rfl (h _ E7))))
/-- two trees that a statement takes -/
structure Law24T (code o : Int) (l : List Bd) (n : Nat) (t : BT) : Prop where
  n4 : n ≤ 400
  wf : t.wf = true
  l : l = t.beads
  fit : FitB t
  ok : OkM code t.tr
  asc : asc o (itsC code t.tr)
theorem Law24T.u {code o : Int} {l : List Bd} {n : Nat} {t : BT} (h : Law24T code o l n t) : OkU code o t.tr := ⟨h.ok, h.asc, h.fit.inK⟩
theorem c_long28 {code o : Int} {l m : List Bd} {q q' : Option Addr} {n c n' c' : Nat} {w : World} {R : Ending → World → Prop} (hl : Cs w q (bds l)) (hn : l.length = n) (hnc : n ≤ c) (hF : ∀ t : BT, l = t.beads → FitB t)
    (hm : Cs w q' (bds m)) (hn' : m.length = n') (hnc' : n' ≤ c') (hF' : ∀ t : BT, m = t.beads → FitB t)
    (h : ∀ b w', Ext w w' → (b = true ∨ (b = false ∧ isS code = true ∧ isO o = true ∧ ∃ t u : BT, Law24T code o l n t ∧ Law24T code o m n' u)) → R (.returned (.bool b)) w') :
    Calls Tryz.prog 40 #[.int .u8 code, .int .u8 o, .slice q n c, .slice q' n' c'] w R := by
  refine sh40_ok _ _ _ _ _ _ _ _ ?_
  unfold sh40
  intro K11
  refine do_call Tryz.call11 (c_long24 (code := code) (o := o) hl hn hnc hF fun b w1 e1 hb => retS_ret ⟨_, rfl, ?_⟩)
  rcases hb with rfl | ⟨rfl, hs, ho, hn4, t, hw, ht, hfit, hok, hch⟩
  · exact ifB_t rfl (h _ _ e1 (.inl rfl))
  · refine ifB_f rfl (do_call Tryz.call11 (c_long24 (code := code) (o := o) (hm.ext e1) hn' hnc' hF' fun b w2 e2 hb => retS_ret ⟨_, rfl, h _ _ (e1.trans e2) ?_⟩))
    rcases hb with rfl | ⟨rfl, _, _, hn4', u, hw', hu, hfit', hok', hch'⟩
    · exact .inl rfl
    · exact .inr ⟨rfl, hs, ho, t, u, ⟨hn4, hw, ht, hfit, hok, asc_of hch⟩, ⟨hn4', hw', hu, hfit', hok', asc_of hch'⟩⟩
set_option maxRecDepth 20000 in
theorem c_unionTells {code o p : Int} {l m : List Bd} {q q' : Option Addr} {n c n' c' : Nat} {w : World} {R : Ending → World → Prop} (hl : Cs w q (bds l)) (hn : l.length = n) (hnc : n ≤ c) (hF : ∀ t : BT, l = t.beads → FitB t)
    (hm : Cs w q' (bds m)) (hn' : m.length = n') (hnc' : n' ≤ c') (hF' : ∀ t : BT, m = t.beads → FitB t)
    (h : ∀ w', Ext w w' → R (.returned (.bool true)) w') : Calls Tryz.prog 8 #[.int .u8 code, .int .u8 o, .int .u8 p, .slice q n c, .slice q' n' c'] w R := by
  refine sh8_ok _ _ _ _ _ _ _ _ _ ?_
  unfold sh8
  have hidle : ∀ w2, Ext w w2 → doCall Tryz.prog (.func (.func 12) #[] #[]) #[.int .u8 code] w2 (retS (fun v18 w19 => ∃ (x17 : Bool), v18 = (.bool x17 : Value) ∧ (
 ifB (isS code == x17) (
 doCall Tryz.prog (.func (.func 41) #[] #[]) #[.int .u8 o, .int .u8 p] w19 (retS (fun v21 w22 => ∃ (x20 : Bool), v21 = (.bool x20 : Value) ∧ (
 ifB x20 (
 doCall Tryz.prog (.func (.func 42) #[] #[]) #[] w22 (retS (fun v24 w25 => ∃ (x23 : Bool), v24 = (.bool x23 : Value) ∧ (
 R (.returned (.bool x23)) w25)) (fun ch w => Kfn R ch [] w))) (
 R (.returned (.bool false)) w22))) (fun ch w => Kfn R ch [] w))) (
 R (.returned (.bool false)) w19))) (fun ch w => Kfn R ch [] w)) := fun w2 e2 =>
    do_call Tryz.call12 (c_r22is (retS_ret ⟨_, rfl, ifB_t (by simp) (do_call Tryz.call41 (c_nothing28 fun w3 e3 => retS_ret ⟨_, rfl, ifB_t rfl (do_call Tryz.call42 (c_alive28 fun w4 e4 => retS_ret ⟨_, rfl, h w4 ((e2.trans e3).trans e4)⟩))⟩))⟩))
  refine do_call Tryz.call10 (c_l22of (fun h0 => retS_ret ⟨_, _, rfl, ?_⟩) fun hs b w1 e1 hbw hs1 => retS_ret ⟨_, _, rfl, ?_⟩)
  · intro K16
    rw [h0] at hidle
    refine do_call Tryz.call40 (c_long28 (code := code) (o := o) hl hn hnc hF hm hn' hnc' hF' fun bb w2 e2 hbb => retS_ret ⟨_, rfl, ?_⟩)
    cases bb with
    | true => exact ifB_t rfl (ifB_t rfl (hidle w2 e2))
    | false => exact ifB_f rfl (ifB_t rfl (ifB_t rfl (hidle w2 e2)))
  · intro K16
    rw [hs] at hidle
    have hb : w.heap.size ≤ b := by omega
    refine do_call Tryz.call40 (c_long28 (code := code) (o := o) (hl.ext e1) hn hnc hF (hm.ext e1) hn' hnc' hF' fun bb w2 e2 hbb => retS_ret ⟨_, rfl, ?_⟩)
    rcases hbb with rfl | ⟨rfl, _, ho, t, u, ht, hu⟩
    · exact ifB_t rfl (ifB_t rfl (hidle w2 (e1.trans e2)))
    · have E2 := e1.trans e2
      refine ifB_f rfl (ifB_f rfl (do_call Tryz.call31 (c_rmay (retS_ret ⟨_, rfl, ?_⟩))))
      cases hp : may p with
      | false => exact ifB_t rfl (hidle w2 E2)
      | true =>
        refine ifB_f rfl ?_
        obtain ⟨hn4, hw, rfl, hfit, hok, hasc⟩ := ht
        obtain ⟨hn4', hw', rfl, hfit', hok', hasc'⟩ := hu
        have hts : t.size = n := hn
        have hus : u.size = n' := hn'
        have hs2 := hs1.ext e2
        have htr := BT.tr_size t
        have hur := BT.tr_size u
        have hil := itsC_len code t.tr
        have hil' := itsC_len code u.tr
        have P := unionC_p (o := o) (p := p) hok.1 hok'
        have Q := unionC_ok (p := p) hok.1 hok' hasc hasc'
        refine do_call Tryz.call15 (c_make t (hl.ext E2) hts hnc hw (by omega) fun pt w3 e3 hp3 => retS_ret ⟨_, rfl, ?_⟩)
        refine do_call Tryz.call15 (c_make u (hm.ext (E2.trans e3)) hus hnc' hw' (by omega) fun pu w4 e4 hu4 => retS_ret ⟨_, rfl, ?_⟩)
        have e24 := e3.trans e4
        have E4 := E2.trans e24
        have hs4 := hs2.ext e24
        refine do_call Tryz.call18 (c_r22items (cd := code) (hl.ext E4) hts hnc hw (by omega) fun p5 n5 c5 w5 h5 e5 => retS_ret ⟨_, _, _, rfl, ?_⟩)
        refine do_call Tryz.call18 (c_r22items (cd := code) (hm.ext (E4.trans e5)) hus hnc' hw' (by omega) fun p6 n6 c6 w6 h6 e6 => retS_ret ⟨_, _, _, rfl, ?_⟩)
        have hn5 := ownI_len h5
        have hn6 := ownI_len h6
        have e46 := e5.trans e6
        have E6 := E4.trans e46
        have hs6 := hs4.ext e46
        have nb4 : b < w4.heap.size := hs4.lt
        have nb5 : b < w5.heap.size := (hs4.ext e5).lt
        have ht6 := hp3.ext (e4.trans e46)
        have hu6 := hu4.ext e46
        refine do_call Tryz.call43 (c_union ho hp hs6 ht6 hu6 hok.1 hok' hfit.inK hfit'.inK hasc' (by simp only [BIG]; omega) fun qu w7 g7 hs7 h7 => retS_ret ⟨_, _, rfl, ?_⟩)
        have E7 := Ext.gs E6 g7 hb
        have ht7 := ht6.gs hs6 g7
        have hu7 := hu6.gs hs6 g7
        have r5 := ownI_at (e6.row h5) g7 nb4
        have r6 := ownI_at h6 g7 nb5
        intro K51
        refine ifB_t rfl ?_
        refine do_call Tryz.call44 (c_r28union (o := o) (p := p) (ownI_cs r5) hn5 (ownI_cs r6) hn6 (by omega) (hfit.inI code) (hfit'.inI code) fun p8 n8 c8 w8 h8 e8 => retS_ret ⟨_, _, _, rfl, ?_⟩)
        have htg : TagI (itsC code (unionC code o p t.tr u.tr)) := by
          rw [Q]
          exact foldI_all (P := fun _ g => 0 ≤ g ∧ g < 18446744073709551616) (hfit.tagI code) (hfit'.tagI code)
        have hfx : (foldI o p (itsC code t.tr) (itsC code u.tr)).map (itC code) = itsC code (unionC code o p t.tr u.tr) := by
          rw [← Q]
          have : (itsC code (unionC code o p t.tr u.tr)).map (itC code) = (itsC code (unionC code o p t.tr u.tr)).map id := List.map_congr_left fun x hx => its_fix hx
          rw [this, List.map_id]
        refine do_call Tryz.call19 (c_has P.1 htg hfx (h7.ext e8) (by have := P.2; omega) (ownI_cs h8) (ownI_len h8) fun w9 e9 => retS_ret ⟨_, rfl, ifB_t rfl ?_⟩)
        have e79 := e8.trans e9
        refine do_call Tryz.call21 (c_r9of t (hl.ext (E7.trans e79)) hts hnc hw (by omega) fun p10 n10 c10 w10 h10 e10 => retS_ret ⟨_, _, _, rfl, ?_⟩)
        rw [← btT_of_wf hw] at h10
        have hn10 := ownB_len h10
        have e710 := e79.trans e10
        refine do_call Tryz.call20 (c_is (ht7.ext e710) (by omega) (ownB_cs h10) (by rw [← hn10]; exact (btT_size _).symm) fun w11 e11 => retS_ret ⟨_, rfl, ifB_t rfl ?_⟩)
        have e711 := e710.trans e11
        refine do_call Tryz.call21 (c_r9of u (hm.ext (E7.trans e711)) hus hnc' hw' (by omega) fun p12 n12 c12 w12 h12 e12 => retS_ret ⟨_, _, _, rfl, ?_⟩)
        rw [← btT_of_wf hw'] at h12
        have hn12 := ownB_len h12
        have e712 := e711.trans e12
        refine do_call Tryz.call20 (c_is (hu7.ext e712) (by omega) (ownB_cs h12) (by rw [← hn12]; exact (btT_size _).symm) fun w13 e13 => retS_ret ⟨_, rfl, ifB_t rfl ?_⟩)
        refine do_call Tryz.call41 (c_nothing28 fun w14 e14 => retS_ret ⟨_, rfl, ifB_t rfl (do_call Tryz.call42 (c_alive28 fun w15 e15 => retS_ret ⟨_, rfl, h w15 ((((E7.trans e712).trans e13).trans e14).trans e15)⟩))⟩)
end Go.Proofs.YthgckfeocalbdaaGreat
