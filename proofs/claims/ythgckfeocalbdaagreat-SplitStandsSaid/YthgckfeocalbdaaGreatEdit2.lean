/-
  The document's answers of layer 26; the chapter's examples.
-/
import Derived.Test.YthgckfeocalbdaaGreatEdit
namespace Go.Proofs.YthgckfeocalbdaaGreat
open Go Go.Sh Go.RowKit

set_option maxRecDepth 20000 in
set_option maxHeartbeats 800000 in
theorem c_r26insert {o p : Int} {x : It} {l : List It} {q : Option Addr} {n c : Nat} (hk : In x.1) {w : World} {R : Ending → World → Prop} (hl : Cs w q (its l)) (hn : l.length = n) (hm : n ≤ 1000000) (hI : InI l)
    (h : ∀ p1 n1 c1 w', OwnI w' w.heap.size p1 n1 c1 (editL o x.1 (insI p x (lastE o x.1 l) (anyE o x.1 l)) l) → Ext w w' → R (.returned (.tuple #[.slice p1 n1 c1, .int .i64 (lastE o x.1 l).2.1, .bool (anyE o x.1 l)])) w') :
    Calls Tryz.prog 35 #[.int .u8 o, .int .u8 p, .slice q n c, agI x] w R := by
  refine sh35_ok _ _ _ _ _ _ _ _ ?_
  unfold sh35
  refine ⟨?_⟩
  have e0 := ext_alloc w (.cells #[.int .i64 x.1, .int .i64 x.2.1, .int .u64 x.2.2] 33)
  have hx := blk_alloc w #[.int .i64 x.1, .int .i64 x.2.1, .int .u64 x.2.2] 33
  generalize hb9 : w.heap.size = b9 at *
  generalize w.alloc (.cells #[.int .i64 x.1, .int .i64 x.2.1, .int .u64 x.2.2] 33) = w1 at *
  have hlt1 : b9 < w1.heap.size := hx.lt
  have ha1 : (ltF o x.1 l).length ≤ n := by rw [← hn]; exact List.length_filter_le _ _
  have ha2 : (gtF o x.1 l).length ≤ n := by rw [← hn]; exact List.length_filter_le _ _
  refine ⟨_, hx.cell (i := 0) (add_blk _ _) rfl, ?_⟩
  refine do_call Tryz.call17 (c_r24split hk (hl.ext e0) hn hm hI fun p1 n1 c1 p2 n2 c2 w2 T2 e2 => retS_ret ⟨_, _, _, _, _, _, _, _, _, _, rfl, ⟨?_⟩⟩)
  refine do_st3 (blk_alloc w2 _ _) fun w3 h3 g3 => ?_
  have e3 : Ext w2 w3 := (ext_alloc w2 _).st g3 (Nat.le_refl _)
  have E3 := (e0.trans e2).trans e3
  have hx3 := hx.ext (e2.trans e3)
  have T3 := T2.ext e3
  have hn1 := ownI_len T3.1
  have hn2 := ownI_len T3.2.1
  have hne : b9 ≠ w2.heap.size := by have := e2.size; omega
  intro K30
  have hK30 : ∀ w29, Ext w w29 → Cs w29 p1 (its (ltF o x.1 l)) → Cs w29 p2 (its (gtF o x.1 l)) →
      Blk w29 b9 #[.int .i64 (insI p x (lastE o x.1 l) (anyE o x.1 l)).1.1, .int .i64 (insI p x (lastE o x.1 l) (anyE o x.1 l)).1.2.1, .int .u64 (insI p x (lastE o x.1 l) (anyE o x.1 l)).1.2.2] 33 →
      Blk w29 w2.heap.size #[.int .i64 (lastE o x.1 l).1, .int .i64 (lastE o x.1 l).2.1, .int .u64 (lastE o x.1 l).2.2] 33 → K30 w29 := by
    intro w29 E29 hc1 hc2 hy hl29
    refine do_appL (ownI_nil w29 w29.heap.size) hc1 hn1 (by omega) (Nat.le_refl _) fun pa ca w30 h30 e30 => retS_ret ⟨_, _, _, rfl, ?_⟩
    have E30 := e30 w29 (ext_refl _) (Nat.le_refl _)
    refine ⟨_, (hy.ext E30).cell (i := 0) (add_blk _ _) rfl, _, (hy.ext E30).cell (i := 1) (add_blk _ _) rfl, _, (hy.ext E30).cell (i := 2) (add_blk _ _) rfl, ?_⟩
    refine do_app1I h30 (by omega) E30.size fun pb cb w31 h31 e31 _ _ => ⟨_, _, _, rfl, ?_⟩
    have E31 := e31 w29 E30 (Nat.le_refl _)
    have d := ext_drew w31
    have E31' := E31.trans d
    refine ⟨⟨fun w' => Ext w29 w', E31', _, fun w' e => (hl29.ext e).cell (i := 1) (add_blk _ _) rfl, ?_⟩⟩
    refine do_appL (d.row h31) (hc2.ext E31') hn2 (by omega) E31'.size fun pc cc w32 h32 e32 => retS_ret ⟨_, _, _, rfl, ?_⟩
    have E32 := e32 w29 E31' (Nat.le_refl _)
    have h32 : OwnI w32 w29.heap.size pc _ cc (editL o x.1 (insI p x (lastE o x.1 l) (anyE o x.1 l)) l) := h32
    refine ⟨E32, h _ _ _ _ (rowI_to h32 (ext_refl _) ?_) (E29.trans E32)⟩
    have := E29.size
    omega
  cases ha : anyE o x.1 l with
  | false =>
    rw [ha] at hK30
    exact ifB_f rfl (hK30 w3 E3 (ownI_cs T3.1) (ownI_cs T3.2.1) hx3 h3)
  | true =>
    rw [ha] at hK30
    have d := ext_drew w3
    refine ifB_t rfl ⟨⟨fun w' => Blk w' w2.heap.size _ _ ∧ Blk w' b9 _ _, ⟨h3.ext d, hx3.ext d⟩, _, fun w' e => e.1.cell (i := 0) (add_blk _ _) rfl, _, fun w' e => e.1.cell (i := 1) (add_blk _ _) rfl, _, fun w' e => e.2.cell (i := 1) (add_blk _ _) rfl, _, fun w' e => e.1.cell (i := 2) (add_blk _ _) rfl, ?_⟩⟩
    refine do_call Tryz.call75 (c_rcomb (retS_ret ⟨_, rfl, ⟨h3.ext d, hx3.ext d⟩, ?_⟩))
    refine do_st3 (hx3.ext d) fun w4 h4 g4 => ?_
    have T4 := T3.ext d
    exact hK30 w4 ((E3.trans d).st g4 (by omega)) (ownI_cs (ownI_at T4.1 g4 hlt1)) (ownI_cs (ownI_at T4.2.1 g4 hlt1)) h4 ((h3.ext d).grown g4 (ne_some (Ne.symm hne)))
set_option maxRecDepth 20000 in
theorem c_r26delete {o key : Int} {l : List It} {q : Option Addr} {n c : Nat} (hk : In key) {w : World} {R : Ending → World → Prop} (hl : Cs w q (its l)) (hn : l.length = n) (hm : n ≤ 1000000) (hI : InI l)
    (h : ∀ p1 n1 c1 w', OwnI w' w.heap.size p1 n1 c1 (editL o key (delI (lastE o key l) (anyE o key l)) l) → Ext w w' → R (.returned (.tuple #[.slice p1 n1 c1, .int .i64 (lastE o key l).2.1, .bool (anyE o key l)])) w') :
    Calls Tryz.prog 37 #[.int .u8 o, .slice q n c, .int .i64 key] w R := by
  refine sh37_ok _ _ _ _ _ ?_
  unfold sh37
  have ha1 : (ltF o key l).length ≤ n := by rw [← hn]; exact List.length_filter_le _ _
  have ha2 : (gtF o key l).length ≤ n := by rw [← hn]; exact List.length_filter_le _ _
  refine do_call Tryz.call17 (c_r24split hk hl hn hm hI fun p1 n1 c1 p2 n2 c2 w2 T2 e2 => retS_ret ⟨_, _, _, _, _, _, _, _, _, _, rfl, ⟨?_⟩⟩)
  refine do_st3 (blk_alloc w2 _ _) fun w3 h3 g3 => ?_
  have e3 : Ext w2 w3 := (ext_alloc w2 _).st g3 (Nat.le_refl _)
  have E3 := e2.trans e3
  have T3 := T2.ext e3
  have hn1 := ownI_len T3.1
  have hn2 := ownI_len T3.2.1
  refine do_appL (ownI_nil w3 w3.heap.size) (ownI_cs T3.1) hn1 (by omega) (Nat.le_refl _) fun pa ca w4 h4 e4 => retS_ret ⟨_, _, _, rfl, ?_⟩
  have E4 := e4 w3 (ext_refl _) (Nat.le_refl _)
  have d := ext_drew w4
  have E4' := E4.trans d
  refine ⟨⟨fun w' => Ext w3 w', E4', _, fun w' e => (h3.ext e).cell (i := 1) (add_blk _ _) rfl, ?_⟩⟩
  refine do_appL (d.row h4) ((ownI_cs T3.2.1).ext E4') hn2 (by omega) E4'.size fun pc cc w5 h5 e5 => retS_ret ⟨_, _, _, rfl, ?_⟩
  have E5 := e5 w3 E4' (Nat.le_refl _)
  refine ⟨E5, h _ _ _ _ (rowI_to (l := editL o key (delI (lastE o key l) (anyE o key l)) l) ?_ (ext_refl _) E3.size) (E3.trans E5)⟩
  have e : editL o key (delI (lastE o key l) (anyE o key l)) l = [] ++ ltF o key l ++ gtF o key l := by simp [editL, delI]
  rw [e]; exact h5
set_option maxRecDepth 20000 in
theorem c_r26set {o key v : Int} {l : List It} {q : Option Addr} {n c : Nat} (hk : In key) {w : World} {R : Ending → World → Prop} (hl : Cs w q (its l)) (hn : l.length = n) (hm : n ≤ 1000000) (hI : InI l)
    (h : ∀ p1 n1 c1 w', OwnI w' w.heap.size p1 n1 c1 (editL o key (setI v (lastE o key l) (anyE o key l)) l) → Ext w w' → R (.returned (.tuple #[.slice p1 n1 c1, .bool (anyE o key l)])) w') :
    Calls Tryz.prog 39 #[.int .u8 o, .slice q n c, .int .i64 key, .int .i64 v] w R := by
  refine sh39_ok _ _ _ _ _ _ ?_
  unfold sh39
  have ha1 : (ltF o key l).length ≤ n := by rw [← hn]; exact List.length_filter_le _ _
  have ha2 : (gtF o key l).length ≤ n := by rw [← hn]; exact List.length_filter_le _ _
  refine do_call Tryz.call17 (c_r24split hk hl hn hm hI fun p1 n1 c1 p2 n2 c2 w2 T2 e2 => retS_ret ⟨_, _, _, _, _, _, _, _, _, _, rfl, ⟨?_⟩⟩)
  refine do_st3 (blk_alloc w2 _ _) fun w3 h3 g3 => ?_
  have e3 : Ext w2 w3 := (ext_alloc w2 _).st g3 (Nat.le_refl _)
  have E3 := e2.trans e3
  have T3 := T2.ext e3
  have hn1 := ownI_len T3.1
  have hn2 := ownI_len T3.2.1
  refine do_appL (ownI_nil w3 w3.heap.size) (ownI_cs T3.1) hn1 (by omega) (Nat.le_refl _) fun pa ca w4 h4 e4 => retS_ret ⟨_, _, _, rfl, ?_⟩
  have E4 := e4 w3 (ext_refl _) (Nat.le_refl _)
  intro K33
  cases ha : anyE o key l with
  | false =>
    rw [ha] at h
    refine ifB_f rfl ?_
    refine do_appL h4 ((ownI_cs T3.2.1).ext E4) hn2 (by omega) E4.size fun pc cc w5 h5 e5 => retS_ret ⟨_, _, _, rfl, ?_⟩
    have E5 := e5 w3 E4 (Nat.le_refl _)
    have e : editL o key (setI v (lastE o key l) false) l = [] ++ ltF o key l ++ gtF o key l := by simp [editL, setI]
    rw [e] at h
    rw [ha]
    exact h pc _ cc w5 (rowI_to h5 (ext_refl _) E3.size) (E3.trans E5)
  | true =>
    rw [ha] at h
    refine ifB_t rfl ⟨_, (h3.ext E4).cell (i := 0) (add_blk _ _) rfl, _, (h3.ext E4).cell (i := 2) (add_blk _ _) rfl, ?_⟩
    refine do_app1I (x := ((lastE o key l).1, v, (lastE o key l).2.2)) h4 (by omega) E4.size fun pb cb w5 h5 e5 _ _ => ⟨_, _, _, rfl, ?_⟩
    have E5 := e5 w3 E4 (Nat.le_refl _)
    refine do_appL h5 ((ownI_cs T3.2.1).ext E5) hn2 (by omega) E5.size fun pc cc w6 h6 e6 => retS_ret ⟨_, _, _, rfl, ?_⟩
    have E6 := e6 w3 E5 (Nat.le_refl _)
    rw [ha]
    exact h pc _ cc w6 (rowI_to (l := editL o key (setI v (lastE o key l) true) l) h6 (ext_refl _) E3.size) (E3.trans E6)
/-! ### the chapter's examples -/
theorem tot_its (c : Int) : ∀ t : Tr, totT t = ((itsC c t).map (·.2.1)).sum
  | .nil => rfl
  | .node l k v g r => by
    rw [itsC_node, List.map_append, List.map_cons, List.sum_append, List.sum_cons, ← tot_its c l, ← tot_its c r, itC_val]
    show totT l + v + totT r = totT l + (v + totT r)
    omega
set_option maxRecDepth 20000 in
theorem c_alive26 {w : World} {R : Ending → World → Prop} (h : ∀ w', Ext w w' → R (.returned (.bool true)) w') : Calls Tryz.prog 33 #[] w R := by
  refine sh33_ok ?_
  unfold sh33
  refine do_call Tryz.call10 (c_l22of (fun h0 => by cases h0) fun _ b w1 e1 hbw hs1 => retS_ret ⟨_, _, rfl, ifB_f rfl ?_⟩)
  have hb : w.heap.size ≤ b := by omega
  have okn : OkM 2 .nil := .nil rfl
  have j := joinC_ok okn.1 okn.1 ((1, 10, 0) : It)
  have js := joinC_size okn.1 okn.1 ((1, 10, 0) : It)
  refine do_call Tryz.call51 (c_sjoin hs1 (l := .nil) rfl (r := .nil) rfl okn.1 okn.1 (by simp only [Tr.size, BIG]; omega) fun q w2 g2 hs2 h2 => retS_ret ⟨_, rfl, ?_⟩)
  have E2 := Ext.gs e1 g2 hb
  generalize joinC 2 .nil (1, 10, 0) .nil = T at *
  have hit : itsC 2 T = [(1, 10, 0)] := j.2
  have hsz : T.size = 1 := js
  have hasc : asc 1 (itsC 2 T) := by rw [hit]; decide
  have hinK : InK T := (inK_its (c := 2)).2 (by rw [hit]; intro x hx; simp at hx; subst hx; exact ⟨by decide, by decide⟩)
  have okT : OkP 2 T := j.1.1
  have S1 := splitC_ok (key := 1) okT hasc
  have S2 := splitC_ok (key := 2) okT hasc
  have q1 : (splitC 2 1 1 T).2.1 = some (1, 10, 0) := by
    have := S1.eq
    rw [hit, show eqF 1 1 [(1, 10, 0)] = [(1, 10, 0)] by decide] at this
    cases hx : (splitC 2 1 1 T).2.1 with
    | none => rw [hx] at this; cases this
    | some x => rw [hx] at this; simp at this; rw [this]
  have q2 : (splitC 2 1 2 T).2.1 = none := by
    have := S2.eq
    rw [hit, show eqF 1 2 [(1, 10, 0)] = [] by decide] at this
    cases hx : (splitC 2 1 2 T).2.1 with
    | none => rfl
    | some x => rw [hx] at this; cases this
  have i1 : In 1 := ⟨by decide, by decide⟩
  have i2 : In 2 := ⟨by decide, by decide⟩
  have hB : T.size + 8 ≤ BIG := by simp only [BIG]; omega
  refine do_call Tryz.call34 (c_insert (x := (1, 5, 0)) rfl (by decide) i1 hs2 h2 okT hinK hB fun qa w3 g3 hs3 ha => retS_ret ⟨_, _, _, _, rfl, ?_⟩)
  have h3 := h2.gs hs2 g3
  refine do_call Tryz.call34 (c_insert (x := (2, 5, 0)) rfl (by decide) i2 hs3 h3 okT hinK hB fun qb w4 g4 hs4 hbt => retS_ret ⟨_, _, _, _, rfl, ?_⟩)
  have h4 := h3.gs hs3 g4
  refine do_call Tryz.call36 (c_delete rfl i1 hs4 h4 okT hinK hB fun qc w5 g5 hs5 hc => retS_ret ⟨_, _, _, _, rfl, ?_⟩)
  refine do_call Tryz.call34 (c_insert_no (x := (2, 0, 0)) i2 (.inl (by decide)) fun w6 e6 => retS_ret ⟨_, _, _, _, rfl, ?_⟩)
  rw [q1] at ha hc
  rw [q2] at hbt
  have E3 := Ext.gs E2 g3 hb
  have E4 := Ext.gs E3 g4 hb
  have E5 := Ext.gs E4 g5 hb
  have ka := (editC_ok (key := 1) (y := insI 3 (1, 5, 0) (1, 10, 0) true) okT hasc).2
  have kb := (editC_ok (key := 2) (y := insI 3 (2, 5, 0) (0, 0, 0) false) okT hasc).2
  have kc := (editC_ok (key := 1) (y := delI (1, 10, 0) true) okT hasc).2
  rw [hit] at ka kb kc
  have ka : itsC 2 (editC 2 1 1 (insI 3 (1, 5, 0) (1, 10, 0) true) T) = [(1, 15, 0)] := ka.trans (by decide)
  have kb : itsC 2 (editC 2 1 2 (insI 3 (2, 5, 0) (0, 0, 0) false) T) = [(1, 10, 0), (2, 5, 0)] := kb.trans (by decide)
  have kc : itsC 2 (editC 2 1 1 (delI (1, 10, 0) true) T) = [] := kc.trans (by decide)
  have sa : (editC 2 1 1 (insI 3 (1, 5, 0) (1, 10, 0) true) T).sum = 15 := by rw [sum_tot, tot_its 2, ka]; decide
  have sb : (editC 2 1 2 (insI 3 (2, 5, 0) (0, 0, 0) false) T).size = 2 := by rw [← itsC_len 2, kb]; rfl
  have sc : (editC 2 1 1 (delI (1, 10, 0) true) T).size = 0 := by rw [← itsC_len 2, kc]; rfl
  have hc0 : qc = none := by
    have hc : IsN w5 qc (editC 2 1 1 (delI (1, 10, 0) true) T) := hc
    generalize editC 2 1 1 (delI (1, 10, 0) true) T = U at hc sc
    cases U with
    | nil => exact hc
    | node l k v g r => simp only [Tr.size] at sc; omega
  subst hc0
  intro K34
  have ha6 := ((ha.gs hs3 g4).gs hs4 g5).ext e6
  have hb6 := (hbt.gs hs4 g5).ext e6
  refine do_call Tryz.call30 (c_tsum ha6 fun w7 e7 => retS_ret ⟨_, rfl, ?_⟩)
  have sa' : (editC 2 1 1 (insI 3 (1, 5, 0) (itO (some (1, 10, 0))) true) T).sum = 15 := sa
  refine ifB_t (by rw [beq_iff_eq]; exact sa') ?_
  rw [q1]
  refine ifB_t rfl (ifB_t rfl (ifB_t rfl ?_))
  refine do_call Tryz.call29 (c_tsize (hb6.ext e7) fun w8 e8 => retS_ret ⟨_, rfl, ?_⟩)
  have sb' : (editC 2 1 2 (insI 3 (2, 5, 0) (itO none) false) T).size = 2 := sb
  refine ifB_t (by rw [beq_iff_eq]; show (((editC 2 1 2 (insI 3 (2, 5, 0) (itO none) false) T).size : Nat) : Int) = 2; rw [sb']; rfl) ?_
  rw [q2]
  exact ifB_t rfl (ifB_t rfl (ifB_t rfl (ifB_t rfl (ifB_t rfl (ifB_t rfl (ifB_t rfl (h _ ((E5.trans e6).trans (e7.trans e8)))))))))
set_option maxRecDepth 20000 in
theorem c_nothing26 {o p : Int} {w : World} {R : Ending → World → Prop} (h : ∀ w', Ext w w' → R (.returned (.bool true)) w') : Calls Tryz.prog 32 #[.int .u8 o, .int .u8 p] w R := by
  refine sh32_ok _ _ ?_
  unfold sh32
  refine do_call Tryz.call10 (c_l22of (fun h0 => by cases h0) fun _ b w1 e1 hbw hs1 => retS_ret ⟨_, _, rfl, ?_⟩)
  have hb : w.heap.size ≤ b := by omega
  have i1 : In 1 := ⟨by decide, by decide⟩
  refine do_call Tryz.call27 (c_new (l := .nil) (r := .nil) rfl rfl (by decide) fun bn w2 e2 h2 _ => retS_ret ⟨_, rfl, ?_⟩)
  have okT : OkP 1 (.node .nil 1 1 1 .nil) := .inl ⟨rfl, trivial, trivial, rfl, by decide, by decide⟩
  have hinK : InK (.node .nil 1 1 1 .nil) := ⟨trivial, i1, trivial⟩
  have hB : (Tr.node .nil 1 1 1 .nil).size + 8 ≤ BIG := by decide
  refine do_call Tryz.call34 (c_insert_no (x := (1, 0, 0)) i1 (.inr (.inl rfl)) fun w3 e3 => retS_ret ⟨_, _, _, _, rfl, ?_⟩)
  have e13 := e2.trans e3
  have hs3 := hs1.ext e13
  have h3 := h2.ext e3
  have E3 := e1.trans e13
  cases ho : isO o with
  | true =>
    cases hp : may p with
    | true =>
      refine do_call Tryz.call34 (c_insert (x := (1, 0, 0)) ho hp i1 hs3 h3 okT hinK hB fun qa w4 g4 hs4 _ => retS_ret ⟨_, _, _, _, rfl, ?_⟩)
      have h4 := h3.gs hs3 g4
      refine do_call Tryz.call36 (c_delete ho i1 hs4 h4 okT hinK hB fun qc w5 g5 hs5 _ => retS_ret ⟨_, _, _, _, rfl, ?_⟩)
      refine do_call Tryz.call38 (c_set_no i1 (.inl rfl) fun w6 e6 => retS_ret ⟨_, _, _, rfl, ?_⟩)
      have E6 := (Ext.gs (Ext.gs E3 g4 hb) g5 hb).trans e6
      intro K35
      refine ifB_f rfl (ifB_f rfl (ifB_f rfl (ifB_f rfl (ifB_f rfl (ifB_f rfl ?_)))))
      simp -zeta -zetaHave only [K35]
      refine ifB_f rfl ?_
      intro K37 K49
      refine do_call Tryz.call70 (c_ris (retS_ret ⟨_, rfl, ?_⟩))
      rw [ho]
      refine ifB_f rfl ?_
      simp -zeta -zetaHave only [K37]
      intro K40
      refine do_call Tryz.call70 (c_ris (retS_ret ⟨_, rfl, ?_⟩))
      rw [ho]
      refine ifB_t rfl (do_call Tryz.call31 (c_rmay (retS_ret ⟨_, rfl, ?_⟩)))
      rw [hp]
      exact ifB_t rfl (h _ E6)
    | false =>
      refine do_call Tryz.call34 (c_insert_no (x := (1, 0, 0)) i1 (.inl hp) fun w4 e4 => retS_ret ⟨_, _, _, _, rfl, ?_⟩)
      refine do_call Tryz.call36 (c_delete ho i1 (hs3.ext e4) (h3.ext e4) okT hinK hB fun qc w5 g5 hs5 _ => retS_ret ⟨_, _, _, _, rfl, ?_⟩)
      refine do_call Tryz.call38 (c_set_no i1 (.inl rfl) fun w6 e6 => retS_ret ⟨_, _, _, rfl, ?_⟩)
      have E6 := (Ext.gs (E3.trans e4) g5 hb).trans e6
      intro K35
      refine ifB_f rfl (ifB_f rfl (ifB_f rfl (ifB_f rfl (ifB_f rfl (ifB_f rfl ?_)))))
      simp -zeta -zetaHave only [K35]
      refine ifB_f rfl ?_
      intro K37 K49
      refine do_call Tryz.call70 (c_ris (retS_ret ⟨_, rfl, ?_⟩))
      rw [ho]
      refine ifB_f rfl ?_
      simp -zeta -zetaHave only [K37]
      intro K40
      refine do_call Tryz.call70 (c_ris (retS_ret ⟨_, rfl, ?_⟩))
      rw [ho]
      refine ifB_t rfl (do_call Tryz.call31 (c_rmay (retS_ret ⟨_, rfl, ?_⟩)))
      rw [hp]
      exact ifB_f rfl (ifB_t rfl (ifB_t rfl (ifB_t rfl (h _ E6))))
  | false =>
    refine do_call Tryz.call34 (c_insert_no (x := (1, 0, 0)) i1 (.inr (.inr ho)) fun w4 e4 => retS_ret ⟨_, _, _, _, rfl, ?_⟩)
    refine do_call Tryz.call36 (c_delete_no i1 (.inr ho) fun w5 e5 => retS_ret ⟨_, _, _, _, rfl, ?_⟩)
    refine do_call Tryz.call38 (c_set_no i1 (.inl rfl) fun w6 e6 => retS_ret ⟨_, _, _, rfl, ?_⟩)
    have E6 := ((E3.trans e4).trans e5).trans e6
    intro K35
    refine ifB_f rfl (ifB_f rfl (ifB_f rfl (ifB_f rfl (ifB_f rfl (ifB_f rfl ?_)))))
    simp -zeta -zetaHave only [K35]
    refine ifB_f rfl ?_
    intro K37 K49
    refine do_call Tryz.call70 (c_ris (retS_ret ⟨_, rfl, ?_⟩))
    rw [ho]
    refine ifB_t rfl (ifB_f rfl (ifB_f rfl (ifB_f rfl (ifB_f rfl ?_))))
    simp -zeta -zetaHave only [K37]
    intro K40
    refine do_call Tryz.call70 (c_ris (retS_ret ⟨_, rfl, ?_⟩))
    rw [ho]
    exact ifB_f rfl (ifB_t rfl (ifB_t rfl (ifB_t rfl (h _ E6))))
end Go.Proofs.YthgckfeocalbdaaGreat
