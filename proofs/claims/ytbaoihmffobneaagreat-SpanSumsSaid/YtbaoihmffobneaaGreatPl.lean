/-
  What the functions of node do, and those of joineryref09 and joinerylaw09 that make trees of beads.
-/
/-
  Parts, Make, Pairs, Height of beads; whether beads are a tree.
-/
/-
  What the functions of rank do.
-/
/-
  Ranks, Select, Many, and the document's Rank, Pairs, Select.
-/
/-
  Of, Node, Sort, Shape: rows and trees that the statements make.
-/
import Derived.Test.YtbaoihmffobneaaGreatPk
import Derived.Test.YtbaoihmffobneaaGreatPc

namespace Go.Proofs.YtbaoihmffobneaaGreat
open Go Go.Sh Go.RowKit

abbrev IsN (w : World) (p : Option Addr) (t : Tr) : Prop := IsT 171 w p t
set_option maxRecDepth 100000 in
theorem elB : ElT Tryz.prog 22 97 (.agg #[.int .i64 0, .int .i64 0, .int .i64 0, .int .i64 0, .int .u64 0, .bool false, .bool false]) 7 48 := ⟨Tryz.underlying22, ⟨_, Tryz.type97, by kernel_rfl, by kernel_rfl, by kernel_rfl⟩, rfl, by omega⟩
/-! ### Nodes -/
def keptV (t : Tr) : Value := .agg #[.int .i64 t.key, .int .i64 t.val, .int .i64 t.sum, .int .u64 t.tag, .int .i64 (t.size : Nat)]
theorem do_st5 {w : World} {b : Nat} {v0 v1 v2 v3 v4 x0 x1 x2 x3 x4 : Value} {t : TypeId} (h : Blk w b #[v0, v1, v2, v3, v4] t) {K : World → Prop} (k : ∀ w', Blk w' b #[x0, x1, x2, x3, x4] t → w.grownBy w' (some b) → K w') :
    doSt ((blk b).add 0) x0 w fun w1 => doSt ((blk b).add 1) x1 w1 fun w2 => doSt ((blk b).add 2) x2 w2 fun w3 => doSt ((blk b).add 3) x3 w3 fun w4 => doSt ((blk b).add 4) x4 w4 K := by
  refine do_st h (i := 0) (add_blk b 0) (by simp) fun w1 h1 g1 => ?_
  have k1 : Blk w1 b #[x0, v1, v2, v3, v4] t := h1
  have e1 := g1
  refine do_st k1 (i := 1) (add_blk b 1) (by simp) fun w2 h2 g2 => ?_
  have k2 : Blk w2 b #[x0, x1, v2, v3, v4] t := h2
  have e2 := grown_trans e1 g2
  refine do_st k2 (i := 2) (add_blk b 2) (by simp) fun w3 h3 g3 => ?_
  have k3 : Blk w3 b #[x0, x1, x2, v3, v4] t := h3
  have e3 := grown_trans e2 g3
  refine do_st k3 (i := 3) (add_blk b 3) (by simp) fun w4 h4 g4 => ?_
  have k4 : Blk w4 b #[x0, x1, x2, x3, v4] t := h4
  have e4 := grown_trans e3 g4
  refine do_st k4 (i := 4) (add_blk b 4) (by simp) fun w5 h5 g5 => ?_
  have k5 : Blk w5 b #[x0, x1, x2, x3, x4] t := h5
  have e5 := grown_trans e4 g5
  exact k _ k5 e5
theorem do_st7 {w : World} {b : Nat} {v0 v1 v2 v3 v4 v5 v6 x0 x1 x2 x3 x4 x5 x6 : Value} {t : TypeId} (h : Blk w b #[v0, v1, v2, v3, v4, v5, v6] t) {K : World → Prop} (k : ∀ w', Blk w' b #[x0, x1, x2, x3, x4, x5, x6] t → w.grownBy w' (some b) → K w') :
    doSt ((blk b).add 0) x0 w fun w1 => doSt ((blk b).add 1) x1 w1 fun w2 => doSt ((blk b).add 2) x2 w2 fun w3 => doSt ((blk b).add 3) x3 w3 fun w4 => doSt ((blk b).add 4) x4 w4 fun w5 => doSt ((blk b).add 5) x5 w5 fun w6 => doSt ((blk b).add 6) x6 w6 K := by
  refine do_st h (i := 0) (add_blk b 0) (by simp) fun w1 h1 g1 => ?_
  have k1 : Blk w1 b #[x0, v1, v2, v3, v4, v5, v6] t := h1
  have e1 := g1
  refine do_st k1 (i := 1) (add_blk b 1) (by simp) fun w2 h2 g2 => ?_
  have k2 : Blk w2 b #[x0, x1, v2, v3, v4, v5, v6] t := h2
  have e2 := grown_trans e1 g2
  refine do_st k2 (i := 2) (add_blk b 2) (by simp) fun w3 h3 g3 => ?_
  have k3 : Blk w3 b #[x0, x1, x2, v3, v4, v5, v6] t := h3
  have e3 := grown_trans e2 g3
  refine do_st k3 (i := 3) (add_blk b 3) (by simp) fun w4 h4 g4 => ?_
  have k4 : Blk w4 b #[x0, x1, x2, x3, v4, v5, v6] t := h4
  have e4 := grown_trans e3 g4
  refine do_st k4 (i := 4) (add_blk b 4) (by simp) fun w5 h5 g5 => ?_
  have k5 : Blk w5 b #[x0, x1, x2, x3, x4, v5, v6] t := h5
  have e5 := grown_trans e4 g5
  refine do_st k5 (i := 5) (add_blk b 5) (by simp) fun w6 h6 g6 => ?_
  have k6 : Blk w6 b #[x0, x1, x2, x3, x4, x5, v6] t := h6
  have e6 := grown_trans e5 g6
  refine do_st k6 (i := 6) (add_blk b 6) (by simp) fun w7 h7 g7 => ?_
  have k7 : Blk w7 b #[x0, x1, x2, x3, x4, x5, x6] t := h7
  have e7 := grown_trans e6 g7
  exact k _ k7 e7
theorem c_of {p : Option Addr} {t : Tr} {w : World} {R : Ending → World → Prop} (ht : IsN w p t) (h : ∀ w', Ext w w' → R (.returned (keptV t)) w') : Calls Tryz.prog 114 #[.pointer p] w R := by
  refine sh114_ok _ ?_
  unfold sh114
  refine ⟨?_⟩
  have e1 := ext_alloc w (.cells #[.int .i64 0, .int .i64 0, .int .i64 0, .int .u64 0, .int .i64 0] 169)
  have hb := blk_alloc w #[.int .i64 0, .int .i64 0, .int .i64 0, .int .u64 0, .int .i64 0] 169
  cases t with
  | nil =>
    obtain rfl : p = none := ht
    refine ifB_t rfl (do_st5 hb fun w2 h2 g2 => ⟨_, h2.cell (i := 0) (add_blk _ _) rfl, _, h2.cell (i := 1) (add_blk _ _) rfl, _, h2.cell (i := 2) (add_blk _ _) rfl, _, h2.cell (i := 3) (add_blk _ _) rfl, _, h2.cell (i := 4) (add_blk _ _) rfl, h _ (e1.st g2 (Nat.le_refl _))⟩)
  | node l k v g r =>
    obtain ⟨b, pl, pr, rfl, hn, _, _⟩ := ht
    have hn1 := hn.ext e1
    refine ifB_f rfl ⟨_, rfl, _, hn1.cell (i := 0) (by rw [add_zero', add_blk]) rfl, _, hn1.cell (i := 1) (by rw [add_zero', add_blk]) rfl, _, hn1.cell (i := 2) (by rw [add_zero', add_blk]) rfl, _, hn1.cell (i := 3) (by rw [add_zero', add_blk]) rfl, _, hn1.cell (i := 4) (by rw [add_zero', add_blk]) rfl, ?_⟩
    refine do_st5 hb fun w2 h2 g2 => ⟨_, h2.cell (i := 0) (add_blk _ _) rfl, _, h2.cell (i := 1) (add_blk _ _) rfl, _, h2.cell (i := 2) (add_blk _ _) rfl, _, h2.cell (i := 3) (add_blk _ _) rfl, _, h2.cell (i := 4) (add_blk _ _) rfl, h _ (e1.st g2 (Nat.le_refl _))⟩
theorem c_left0 {p : Option Addr} {t : Tr} {w0 w : World} {R : Ending → World → Prop} (ht : IsN w0 p t) (e : Ext w0 w) (h : ∀ q, IsN w0 q t.left → R (.returned (.pointer q)) w) : Calls Tryz.prog 108 #[.pointer p] w R := by
  refine sh108_ok _ ?_
  unfold sh108
  cases t with
  | nil => obtain rfl : p = none := ht; exact ifB_t rfl (h _ rfl)
  | node l k v g r =>
    obtain ⟨b, pl, pr, rfl, hn, hl, hr⟩ := ht
    exact ifB_f rfl ⟨_, rfl, _, (hn.ext e).cell (i := 5) (add_blk _ _) rfl, h _ hl⟩
theorem c_left {p : Option Addr} {t : Tr} {w : World} {R : Ending → World → Prop} (ht : IsN w p t) (h : ∀ q, IsN w q t.left → R (.returned (.pointer q)) w) : Calls Tryz.prog 108 #[.pointer p] w R := c_left0 ht (ext_refl w) h
theorem c_right0 {p : Option Addr} {t : Tr} {w0 w : World} {R : Ending → World → Prop} (ht : IsN w0 p t) (e : Ext w0 w) (h : ∀ q, IsN w0 q t.right → R (.returned (.pointer q)) w) : Calls Tryz.prog 109 #[.pointer p] w R := by
  refine sh109_ok _ ?_
  unfold sh109
  cases t with
  | nil => obtain rfl : p = none := ht; exact ifB_t rfl (h _ rfl)
  | node l k v g r =>
    obtain ⟨b, pl, pr, rfl, hn, hl, hr⟩ := ht
    exact ifB_f rfl ⟨_, rfl, _, (hn.ext e).cell (i := 6) (add_blk _ _) rfl, h _ hr⟩
theorem c_right {p : Option Addr} {t : Tr} {w : World} {R : Ending → World → Prop} (ht : IsN w p t) (h : ∀ q, IsN w q t.right → R (.returned (.pointer q)) w) : Calls Tryz.prog 109 #[.pointer p] w R := c_right0 ht (ext_refl w) h
theorem c_key {p : Option Addr} {t : Tr} {w : World} {R : Ending → World → Prop} (ht : IsN w p t) (h : ∀ w', Ext w w' → R (.returned (.int .i64 t.key)) w') : Calls Tryz.prog 107 #[.pointer p] w R := by
  refine sh107_ok _ ?_
  unfold sh107
  exact do_call Tryz.call114 (c_of ht fun w1 e1 => retS_ret ⟨_, _, _, _, _, rfl, h _ e1⟩)
theorem c_val {p : Option Addr} {t : Tr} {w : World} {R : Ending → World → Prop} (ht : IsN w p t) (h : ∀ w', Ext w w' → R (.returned (.int .i64 t.val)) w') : Calls Tryz.prog 165 #[.pointer p] w R := by
  refine sh165_ok _ ?_
  unfold sh165
  exact do_call Tryz.call114 (c_of ht fun w1 e1 => retS_ret ⟨_, _, _, _, _, rfl, h _ e1⟩)
theorem c_tag {p : Option Addr} {t : Tr} {w : World} {R : Ending → World → Prop} (ht : IsN w p t) (h : ∀ w', Ext w w' → R (.returned (.int .u64 t.tag)) w') : Calls Tryz.prog 166 #[.pointer p] w R := by
  refine sh166_ok _ ?_
  unfold sh166
  exact do_call Tryz.call114 (c_of ht fun w1 e1 => retS_ret ⟨_, _, _, _, _, rfl, h _ e1⟩)
theorem c_tsize {p : Option Addr} {t : Tr} {w : World} {R : Ending → World → Prop} (ht : IsN w p t) (h : ∀ w', Ext w w' → R (.returned (.int .i64 (t.size : Nat))) w') : Calls Tryz.prog 80 #[.pointer p] w R := by
  refine sh80_ok _ ?_
  unfold sh80
  exact do_call Tryz.call114 (c_of ht fun w1 e1 => retS_ret ⟨_, _, _, _, _, rfl, h _ e1⟩)
theorem c_tsum {p : Option Addr} {t : Tr} {w : World} {R : Ending → World → Prop} (ht : IsN w p t) (h : ∀ w', Ext w w' → R (.returned (.int .i64 t.sum)) w') : Calls Tryz.prog 88 #[.pointer p] w R := by
  refine sh88_ok _ ?_
  unfold sh88
  exact do_call Tryz.call114 (c_of ht fun w1 e1 => retS_ret ⟨_, _, _, _, _, rfl, h _ e1⟩)
theorem c_new {pl pr : Option Addr} {l r : Tr} {k v g : Int} {w : World} {R : Ending → World → Prop} (hl : IsN w pl l) (hr : IsN w pr r) (hs : l.size + 1 + r.size ≤ 4611686018427387903)
    (h : ∀ b w', Ext w w' → IsN w' (some (blk b)) (.node l k v g r) → w.heap.size ≤ b → R (.returned (.pointer (some (blk b)))) w') : Calls Tryz.prog 60 #[.pointer pl, .int .i64 k, .int .i64 v, .int .u64 g, .pointer pr] w R := by
  refine sh60_ok _ _ _ _ _ ?_
  unfold sh60
  refine do_call Tryz.call80 (c_tsize hl fun w1 e1 => retS_ret ⟨_, rfl, ?_⟩)
  refine do_call Tryz.call80 (c_tsize (hr.ext e1) fun w2 e2 => retS_ret ⟨_, rfl, ?_⟩)
  have E2 := e1.trans e2
  refine do_call Tryz.call88 (c_tsum (hl.ext E2) fun w3 e3 => retS_ret ⟨_, rfl, ?_⟩)
  have E3 := E2.trans e3
  refine do_call Tryz.call88 (c_tsum (hr.ext E3) fun w4 e4 => retS_ret ⟨_, rfl, ⟨?_⟩⟩)
  have E4 := E3.trans e4
  have e : IntKind.wrap .i64 (IntKind.wrap .i64 ((l.size : Int) + 1) + (r.size : Int)) = ((l.size + 1 + r.size : Nat) : Int) := by
    rw [wrap_of (x := (l.size : Int) + 1) (by omega) (by omega), wrap_of (by omega) (by omega)]; omega
  rw [e]
  have e5 := ext_alloc w4 (.cells #[.int .i64 k, .int .i64 v, .int .i64 (IntKind.wrap .i64 (IntKind.wrap .i64 (l.sum + v) + r.sum)), .int .u64 g, .int .i64 ((l.size + 1 + r.size : Nat) : Int), .pointer pl, .pointer pr] 171)
  exact h _ _ (E4.trans e5) ⟨_, pl, pr, rfl, blk_alloc w4 _ _, hl.ext (E4.trans e5), hr.ext (E4.trans e5)⟩ E4.size
/-! ### Beads -/
theorem c_ends {l : List Bd} {q : Option Addr} {n c : Nat} {w : World} (hl : Cs w q (bds l)) (hn : l.length = n) (hm : n ≤ 1000000000000) : ∀ (f d a : Nat) (R : Ending → World → Prop), f + d = 5001 → a ≤ n →
    R (.returned (.int .i64 (match parse f (l.drop a) with | some t => (t.size : Int) | none => -1))) w → Calls Tryz.prog 103 #[.slice q n c, .int .i64 (a : Nat), .int .i64 (d : Nat)] w R := by
  intro f
  induction f with
  | zero =>
    intro d a R hd ha hR
    refine sh103_ok _ _ _ _ _ ?_
    unfold sh103
    refine ifB_intro (fun _ => hR) fun _ => ?_
    exact ifB_t (decide_eq_true (by omega)) hR
  | succ f ih =>
    intro d a R hd ha hR
    refine sh103_ok _ _ _ _ _ ?_
    unfold sh103
    refine ifB_intro (fun hge => ?_) fun hlt => ?_
    · have hge : n ≤ a := by have := of_decide_eq_true hge; omega
      rw [List.drop_of_length_le (by omega)] at hR
      exact hR
    · have hlt : a < n := by have := of_decide_eq_false hlt; omega
      refine ifB_f (decide_eq_false (by omega)) ?_
      rw [List.drop_eq_getElem_cons (by omega)] at hR
      have e1 : IntKind.wrap .i64 ((a : Int) + 1) = ((a + 1 : Nat) : Int) := wrap_succ hlt (by omega)
      have e2 : IntKind.wrap .i64 ((d : Int) + 1) = ((d + 1 : Nat) : Int) := wrap_succ (n := 5001) (by omega) (by omega)
      obtain ⟨x, hx⟩ : ∃ x, x = l[a]'(by omega) := ⟨_, rfl⟩
      rw [← hx] at hR
      -- the right side, behind k beads
      have hright : ∀ (L : BT), cond x.left (parse f (l.drop (a + 1))) (some .nil) = some L → L.size ≤ n - (a + 1) →
          doIx q n 7 (a : Nat) (fun a15 => ∃ (x16 : Bool), World.cell? w (a15.add 6) = some (.bool x16) ∧ (ifB x16 (
            doCall Tryz.prog (.func (.func 103) #[] #[]) #[.slice q n c, .int .i64 (IntKind.wrap .i64 ((a : Int) + ((1 + L.size : Nat) : Int))), .int .i64 (IntKind.wrap .i64 ((d : Int) + 1))] w (retS (fun v18 w19 => ∃ (x17 : Int), v18 = (.int .i64 x17 : Value) ∧ (
              ifB (decide ((x17 : Int) < 0)) (R (.returned (.int .i64 (-1))) w19) (R (.returned (.int .i64 (IntKind.wrap .i64 (((1 + L.size : Nat) : Int) + x17)))) w19))) (fun ch w => Kfn R ch [] w))) (
            R (.returned (.int .i64 ((1 + L.size : Nat) : Int))) w))) := by
        intro L hL hLs
        refine ix_flat ecB_len (by omega) hl hn rfl hlt fun a0 r0 _ => ?_
        rw [← hx] at r0
        refine ⟨x.right, r0 6 _ rfl, ?_⟩
        have hL' : parse (f + 1) (x :: l.drop (a + 1)) = (cond x.right (parse f ((l.drop (a + 1)).drop L.size)) (some .nil)).bind fun r => some (.node x L r) := by
          simp only [parse]; rw [hL]; rfl
        rw [hL'] at hR
        refine ifB_intro (fun hrt => ?_) fun hrt => ?_
        · have e3 : IntKind.wrap .i64 ((a : Int) + ((1 + L.size : Nat) : Int)) = ((a + 1 + L.size : Nat) : Int) := by rw [wrap_of (by omega) (by omega)]; omega
          rw [e2, e3]
          refine do_call Tryz.call103 (ih (d + 1) (a + 1 + L.size) _ (by omega) (by omega) (retS_ret ⟨_, rfl, ?_⟩))
          rw [hrt, cond_true, List.drop_drop] at hR
          cases hp : parse f (l.drop (a + 1 + L.size)) with
          | none =>
            rw [hp] at hR
            exact ifB_t (by simp) hR
          | some r =>
            rw [hp] at hR
            have hps := (parse_some hp).2.2
            have hrl : L.size + 1 + r.size ≤ n := by
              have := congrArg List.length hps
              simp at this
              have : r.size = r.beads.length := rfl
              omega
            refine ifB_f (decide_eq_false (by simp)) ?_
            simp only [Option.bind_some, BT.size_node] at hR
            simp only
            rw [wrap_of (x := ((1 + L.size : Nat) : Int) + (r.size : Int)) (by omega) (by omega), ← Int.natCast_add]
            exact hR
        · rw [hrt, cond_false] at hR
          simp only [Option.bind_some, BT.size_node] at hR
          exact hR
      refine ix_flat ecB_len (by omega) hl hn rfl hlt fun a0 r0 _ => ?_
      rw [← hx] at r0
      refine ⟨x.left, r0 5 _ rfl, ?_⟩
      refine ifB_intro (fun hlf => ?_) fun hlf => ?_
      · rw [e1, e2]
        refine do_call Tryz.call103 (ih (d + 1) (a + 1) _ (by omega) (by omega) (retS_ret ⟨_, rfl, ?_⟩))
        cases hp : parse f (l.drop (a + 1)) with
        | none =>
          have hL' : parse (f + 1) (x :: l.drop (a + 1)) = none := by simp only [parse]; rw [hlf, cond_true, hp]; rfl
          rw [hL'] at hR
          exact ifB_t (by simp) hR
        | some L =>
          have hps := (parse_some hp).2.2
          have hLs : L.size ≤ n - (a + 1) := by
            have := congrArg List.length hps
            simp at this
            have : L.size = L.beads.length := rfl
            omega
          refine ifB_f (decide_eq_false (by simp)) ?_
          simp only
          rw [wrap_of (x := 1 + (L.size : Int)) (by omega) (by omega)]
          have := hright L (by rw [hlf, cond_true, hp]) hLs
          rw [e2] at this
          simp only [Int.natCast_add, Int.cast_ofNat_Int] at this
          exact this
      · have := hright .nil (by rw [hlf, cond_false]) (by simp [BT.size, BT.beads])
        simpa [BT.size, BT.beads] using this
end Go.Proofs.YtbaoihmffobneaaGreat

namespace Go.Proofs.YtbaoihmffobneaaGreat
open Go Go.Sh Go.RowKit

def bdV (x : Bd) : Value := .agg #[.int .i64 x.key, .int .i64 x.val, .int .i64 x.sum, .int .i64 x.size, .int .u64 x.tag, .bool x.left, .bool x.right]
set_option maxRecDepth 20000 in
theorem c_parts {x : Bd} {L Rt : BT} {q : Option Addr} {n c : Nat} {w : World} {R : Ending → World → Prop} (hl : Cs w q (bds (BT.node x L Rt).beads)) (hn : (BT.node x L Rt).size = n) (hnc : n ≤ c) (hw : (BT.node x L Rt).wf = true) (hm : n ≤ 5000)
    (h : ∀ p1 c1 p2 c2 w', Ext w w' → (∀ w'', Cs w'' q (bds (BT.node x L Rt).beads) → Cs w'' p1 (bds L.beads) ∧ Cs w'' p2 (bds Rt.beads)) → L.size ≤ c1 → Rt.size ≤ c2 → R (.returned (.tuple #[bdV x, .slice p1 L.size c1, .slice p2 Rt.size c2])) w') :
    Calls Tryz.prog 64 #[.slice q n c] w R := by
  refine sh64_ok _ _ _ ?_
  unfold sh64
  refine ⟨?_⟩
  obtain ⟨w1f, _, w2f, w3f⟩ := BT.wf_node hw
  have e1 := ext_alloc w (.cells #[.int .i64 0, .int .i64 0, .int .i64 0, .int .i64 0, .int .u64 0, .bool false, .bool false] 97)
  have hb := blk_alloc w #[.int .i64 0, .int .i64 0, .int .i64 0, .int .i64 0, .int .u64 0, .bool false, .bool false] 97
  generalize hb0 : w.heap.size = b at *
  generalize w.alloc (.cells #[.int .i64 0, .int .i64 0, .int .i64 0, .int .i64 0, .int .u64 0, .bool false, .bool false] 97) = w1 at *
  have hsz := BT.size_node x L Rt
  have hln : (BT.node x L Rt).beads.length = n := hn
  have hk : ∀ k : Int, k = (L.size : Int) → _ := fun k hk => by
    subst hk
    have ew : IntKind.wrap .i64 (1 + (L.size : Int)) = ((1 + L.size : Nat) : Int) := by rw [wrap_of (by omega) (by omega)]; omega
    refine (show doDr w1 (fun w10 => ∃ (C9 : World → Prop), C9 w10 ∧ (
      doIx q n 7 (0) (fun a11 => ∃ (x12 : Int), (∀ w, C9 w → World.cell? w (a11.add 0) = some (.int .i64 x12)) ∧ (
      ∃ (x13 : Int), (∀ w, C9 w → World.cell? w (a11.add 1) = some (.int .i64 x13)) ∧ (
      ∃ (x14 : Int), (∀ w, C9 w → World.cell? w (a11.add 2) = some (.int .i64 x14)) ∧ (
      ∃ (x15 : Int), (∀ w, C9 w → World.cell? w (a11.add 3) = some (.int .i64 x15)) ∧ (
      ∃ (x16 : Int), (∀ w, C9 w → World.cell? w (a11.add 4) = some (.int .u64 x16)) ∧ (
      ∃ (x17 : Bool), (∀ w, C9 w → World.cell? w (a11.add 5) = some (.bool x17)) ∧ (
      ∃ (x18 : Bool), (∀ w, C9 w → World.cell? w (a11.add 6) = some (.bool x18)) ∧ (
      doSl q c 7 (1) (IntKind.wrap .i64 (1 + (L.size : Int))) (fun p19 n20 c21 =>
      doSl q c 7 (IntKind.wrap .i64 (1 + (L.size : Int))) (((n : Nat) : Int)) (fun p22 n23 c24 =>
      doSt ((blk b).add 0) (.int .i64 x12) w10 (fun w25 => doSt ((blk b).add 1) (.int .i64 x13) w25 (fun w26 =>
      doSt ((blk b).add 2) (.int .i64 x14) w26 (fun w27 => doSt ((blk b).add 3) (.int .i64 x15) w27 (fun w28 =>
      doSt ((blk b).add 4) (.int .u64 x16) w28 (fun w29 => doSt ((blk b).add 5) (.bool x17) w29 (fun w30 =>
      doSt ((blk b).add 6) (.bool x18) w30 (fun w31 =>
      ∃ (x32 : Int), World.cell? w31 ((blk b).add 0) = some (.int .i64 x32) ∧ (
      ∃ (x33 : Int), World.cell? w31 ((blk b).add 1) = some (.int .i64 x33) ∧ (
      ∃ (x34 : Int), World.cell? w31 ((blk b).add 2) = some (.int .i64 x34) ∧ (
      ∃ (x35 : Int), World.cell? w31 ((blk b).add 3) = some (.int .i64 x35) ∧ (
      ∃ (x36 : Int), World.cell? w31 ((blk b).add 4) = some (.int .u64 x36) ∧ (
      ∃ (x37 : Bool), World.cell? w31 ((blk b).add 5) = some (.bool x37) ∧ (
      ∃ (x38 : Bool), World.cell? w31 ((blk b).add 6) = some (.bool x38) ∧ (
      R (.returned (.tuple #[.agg #[.int .i64 x32, .int .i64 x33, .int .i64 x34, .int .i64 x35, .int .u64 x36, .bool x37, .bool x38], .slice p19 n20 c21, .slice p22 n23 c24])) w31)))))))))))))))))))))))))) from ?_)
    refine ⟨⟨fun w' => Ext w w', e1.drew, ?_⟩⟩
    refine ix_flatC ecB_len (by omega) (C := fun w' => Ext w w') (fun w' e => hl.ext e) e1 hln (k := 0) rfl (by omega) fun a r => ?_
    refine ⟨_, fun w' e => r w' e 0 _ rfl, _, fun w' e => r w' e 1 _ rfl, _, fun w' e => r w' e 2 _ rfl, _, fun w' e => r w' e 3 _ rfl, _, fun w' e => r w' e 4 _ rfl, _, fun w' e => r w' e 5 _ rfl, _, fun w' e => r w' e 6 _ rfl, ?_⟩
    refine sl_flat ecB_len (by omega) hl hln hnc (a := 1) (b := 1 + L.size) rfl ew (by omega) (by omega) fun p1 hp1 => ?_
    refine sl_flat ecB_len (by omega) hl hln hnc (a := 1 + L.size) (b := n) ew rfl (by omega) (Nat.le_refl n) fun p2 hp2 => ?_
    refine do_st7 (w := w1.drew) hb fun w2 h2 g2 => ?_
    refine ⟨_, h2.cell (i := 0) (add_blk _ _) rfl, _, h2.cell (i := 1) (add_blk _ _) rfl, _, h2.cell (i := 2) (add_blk _ _) rfl, _, h2.cell (i := 3) (add_blk _ _) rfl, _, h2.cell (i := 4) (add_blk _ _) rfl, _, h2.cell (i := 5) (add_blk _ _) rfl, _, h2.cell (i := 6) (add_blk _ _) rfl, ?_⟩
    have hL1 : 1 + L.size - 1 = L.size := by omega
    have hR1 : n - (1 + L.size) = Rt.size := by omega
    rw [hL1, hR1]
    refine h p1 _ p2 _ w2 (e1.drew.st g2 (by omega)) (fun w'' hc => ⟨?_, ?_⟩) (by omega) (by omega)
    · have := hp1 w'' hc
      rw [show ((BT.node x L Rt).beads.take (1 + L.size)).drop 1 = L.beads by
        simp only [BT.beads]
        rw [show 1 + L.size = L.size + 1 by omega, List.take_succ_cons, List.drop_succ_cons, List.drop_zero, List.take_left]] at this
      exact this
    · have := hp2 w'' hc
      rw [show ((BT.node x L Rt).beads.take n).drop (1 + L.size) = Rt.beads by
        rw [List.take_of_length_le (by omega)]
        simp only [BT.beads]
        rw [show 1 + L.size = L.size + 1 by omega, List.drop_succ_cons, List.drop_left]] at this
      exact this
  refine ix_flat ecB_len (by omega) (hl.ext e1) hln (k := 0) rfl (by omega) fun a r _ => ?_
  refine ⟨x.left, r 5 _ rfl, ?_⟩
  refine ifB_intro (fun hlf => ?_) fun hlf => ?_
  · refine do_call Tryz.call103 (c_ends (hl.ext e1) hln (by omega) 5001 0 1 _ rfl (by omega) (retS_ret ⟨_, rfl, ?_⟩))
    have hp : parse 5001 ((BT.node x L Rt).beads.drop 1) = some L := by
      simp only [BT.beads, List.drop_succ_cons, List.drop_zero]
      exact parse_of _ (by rw [← w1f]; exact hlf) w2f (by have := L.depth_le; omega)
    rw [hp]
    exact hk _ rfl
  · have : L.size = 0 := by
      have := L.nn_iff
      rw [← w1f, hlf] at this
      simpa using this
    have h2 := hk _ rfl
    rw [show (L.size : Int) = 0 by rw [this]; rfl] at h2
    exact h2
theorem c_bmay {l : List Bd} {q : Option Addr} {n c : Nat} {w : World} {R : Ending → World → Prop} (hl : Cs w q (bds l)) (hn : l.length = n) (hm : n ≤ 1000000000000)
    (h : R (.returned (.bool (mayB l))) w) : Calls Tryz.prog 83 #[.slice q n c] w R := by
  refine sh83_ok _ _ _ ?_
  unfold sh83
  refine ifB_intro (fun h0 => ?_) fun h0 => ?_
  · have h0 : n = 0 := by simpa using h0
    have : l = [] := List.eq_nil_of_length_eq_zero (by omega)
    subst this
    exact h
  · have h0 : n ≠ 0 := by simpa using h0
    refine do_call Tryz.call103 (c_ends hl hn hm 5001 0 0 _ rfl (by omega) (retS_ret ⟨_, rfl, ?_⟩))
    have he : l.isEmpty = false := by cases l <;> simp_all
    rw [List.drop_zero]
    unfold mayB at h
    rw [he, Bool.false_or] at h
    cases hp : parse 5001 l with
    | none =>
      rw [hp] at h
      have : ((-1 : Int) == (n : Int)) = false := by simp
      simp only [this]
      exact h
    | some t =>
      rw [hp] at h
      have : ((t.size : Int) == (n : Int)) = (t.size == l.length) := by
        rw [hn, Bool.eq_iff_iff]; simp only [beq_iff_eq]; exact Int.ofNat_inj
      simp only [this]
      exact h
/-- beads of which a statement makes no tree -/
theorem c_long {l : List Bd} {q : Option Addr} {n c : Nat} {w : World} {R : Ending → World → Prop} (hl : Cs w q (bds l)) (hn : l.length = n)
    (h : ∀ b, (b = true ∨ (b = false ∧ n ≤ 400 ∧ ∃ t : BT, t.wf = true ∧ l = t.beads)) → R (.returned (.bool b)) w) : Calls Tryz.prog 35 #[.slice q n c] w R := by
  refine sh35_ok _ _ _ ?_
  unfold sh35
  refine ifB_intro (fun _ => h _ (.inl rfl)) fun hle => ?_
  have hle : n ≤ 400 := by have := of_decide_eq_false hle; omega
  refine do_call Tryz.call83 (c_bmay hl hn (by omega) (retS_ret ⟨_, rfl, h _ ?_⟩))
  cases hm : mayB l
  · exact .inl rfl
  · exact .inr ⟨rfl, hle, mayB_some hm⟩
set_option maxRecDepth 20000 in
theorem c_make : ∀ (t : BT) {q : Option Addr} {n c : Nat} {w : World} {R : Ending → World → Prop} (_hl : Cs w q (bds t.beads)) (_hn : t.size = n) (_hnc : n ≤ c) (_hw : t.wf = true) (_hm : n ≤ 5000)
    (_h : ∀ p w', Ext w w' → IsN w' p t.tr → R (.returned (.pointer p)) w'), Calls Tryz.prog 15 #[.slice q n c] w R
  | .nil, q, n, c, w, R, hl, hn, hnc, hw, hm, h => by
    refine sh15_ok _ _ _ ?_
    unfold sh15
    have : n = 0 := by rw [← hn]; rfl
    subst this
    exact ifB_t rfl (h _ _ (ext_refl w) rfl)
  | .node x L Rt, q, n, c, w, R, hl, hn, hnc, hw, hm, h => by
    refine sh15_ok _ _ _ ?_
    unfold sh15
    have hsz := BT.size_node x L Rt
    obtain ⟨_, _, w2f, w3f⟩ := BT.wf_node hw
    refine ifB_f (by simp; omega) ?_
    refine do_call Tryz.call64 (c_parts hl hn hnc hw hm fun p1 c1 p2 c2 w1 e1 hp h1 h2 => retS_ret ⟨_, _, _, _, _, _, _, _, _, _, _, _, _, rfl, ⟨?_⟩⟩)
    refine do_st7 (blk_alloc w1 _ _) fun w2 hb2 g2 => ?_
    have e2 : Ext w1 w2 := (ext_alloc w1 _).st g2 (Nat.le_refl _)
    have E2 := e1.trans e2
    have hcs := fun (w'' : World) (e : Ext w2 w'') => hp w'' (hl.ext (E2.trans e))
    refine ⟨⟨fun w' => Ext w2 w', ext_drew _, _, fun w' e => (hb2.ext e).cell (i := 0) (add_blk _ _) rfl, _, fun w' e => (hb2.ext e).cell (i := 1) (add_blk _ _) rfl, _, fun w' e => (hb2.ext e).cell (i := 4) (add_blk _ _) rfl, ?_⟩⟩
    refine do_call Tryz.call15 (c_make L (hcs _ (ext_drew _)).1 rfl h1 w2f (by omega) fun pl w3 e3 hL => retS_ret ⟨_, rfl, (ext_drew w2).trans e3, ?_⟩)
    have E3 := (ext_drew w2).trans e3
    refine do_call Tryz.call15 (c_make Rt (hcs _ E3).2 rfl h2 w3f (by omega) fun pr w4 e4 hR => retS_ret ⟨_, rfl, E3.trans e4, ?_⟩)
    have E4 := E3.trans e4
    refine do_call Tryz.call60 (c_new (hL.ext e4) hR (by rw [BT.tr_size, BT.tr_size]; omega) fun b w5 e5 hN _ => retS_ret ⟨_, rfl, h _ _ (E2.trans (E4.trans e5)) hN⟩)
end Go.Proofs.YtbaoihmffobneaaGreat

namespace Go.Proofs.YtbaoihmffobneaaGreat
open Go Go.Sh Go.RowKit

theorem cmpI_vals (o a b : Int) : cmpI o a b = -1 ∨ cmpI o a b = 0 ∨ cmpI o a b = 1 := by
  unfold cmpI; split
  · split
    · exact .inl rfl
    · split
      · exact .inr (.inr rfl)
      · exact .inr (.inl rfl)
  · exact .inr (.inl rfl)
/-- how many stand ahead of a key, on its way -/
def rankN (o key : Int) : Tr → Nat
  | .nil => 0
  | .node l k _ _ r => if cmpI o key k < 0 then rankN o key l else if cmpI o key k = 0 then l.size else l.size + 1 + rankN o key r
def hasN (o key : Int) : Tr → Bool
  | .nil => false
  | .node l k _ _ r => if cmpI o key k < 0 then hasN o key l else if cmpI o key k = 0 then true else hasN o key r
theorem rankN_le (o key : Int) (t : Tr) : rankN o key t ≤ t.size := by
  induction t with
  | nil => exact Nat.le_refl _
  | node l k v g r ihl ihr => simp only [rankN, Tr.size]; split <;> (try split) <;> omega
def rankR (o : Int) (t : Tr) (key : Int) : Nat := cond (isO o) (rankN o key t) 0
def hasK (o : Int) (t : Tr) (key : Int) : Bool := cond (isO o) (hasN o key t) false
/-- the size of the tree at a pointer -/
def szAt (v : Value) (w : World) : Nat := match v with
  | .pointer (some a) => (match w.cell? (a.add 4) with | some (.int _ n) => n.toNat | _ => 0)
  | _ => 0
theorem szAt_of {w : World} {p : Option Addr} {t : Tr} (h : IsN w p t) : szAt (.pointer p) w = t.size := by
  cases t with
  | nil => rw [show p = none from h]; rfl
  | node l k v g r =>
    obtain ⟨b, pl, pr, rfl, hb, _, _⟩ := h
    unfold szAt
    simp only
    rw [hb.cell (i := 4) (add_blk _ _) rfl]
    simp
abbrev AllK (t : Tr) : Prop := t.All fun x => In x.1
/-- What a way over nodes asks of yield. -/
structure WayTo (o key : Int) (w0 : World) (pt : Option Addr) (t : Tr) (bt bo bk : Nat) (y : Value) (St : Tr → World → Prop) (Fin : World → Prop) : Prop where
  blks : ∀ s w, St s w → Ext w0 w ∧ Blk w bt #[.pointer pt] 30 ∧ Blk w bo #[.int .u8 o] 5 ∧ Blk w bk #[.int .i64 key] 2
  ext : ∀ s w w', St s w → Ext w w' → St s w'
  yields : ∀ s p w, s.nn = true → AllK s → s.size ≤ t.size → IsN w0 p s → St s w → ∀ R' : Ending → World → Prop,
    (∀ w', (if cmpI o key s.key = 0 then Fin w' else St (s.next o key) w') → R' (.returned (.bool true)) w') → doCall Tryz.prog y #[.pointer p, .int .i64 (cmpI o key s.key)] w R'
  fext : ∀ w, Fin w → Ext w0 w
end Go.Proofs.YtbaoihmffobneaaGreat

namespace Go.Proofs.YtbaoihmffobneaaGreat
open Go Go.Sh Go.RowKit

set_option maxRecDepth 20000 in
theorem elN : ElT Tryz.prog 303 3 (.int .i64 0) 1 8 := ⟨Tryz.underlying303, ⟨_, Tryz.type3, by kernel_rfl, by kernel_rfl, by kernel_rfl⟩, rfl, by omega⟩
/-- the pair at a place -/
def selR (t : Tr) (n : Int) : Pr := if 0 ≤ n ∧ n < (t.size : Int) then t.pairs.getD n.toNat (0, 0) else (0, 0)
def selE (t : Tr) (n : Int) : Int := if 0 ≤ n ∧ n < (t.size : Int) then 0 else 320
theorem pairs_left {l r : Tr} {k v g : Int} {m : Nat} (h : m < l.size) : (Tr.node l k v g r).pairs.getD m (0, 0) = l.pairs.getD m (0, 0) := by
  have : m < l.pairs.length := by rw [Tr.pairs_length]; exact h
  simp only [Tr.pairs, List.getD_eq_getElem?_getD]
  rw [List.getElem?_append_left this]
theorem pairs_mid {l r : Tr} {k v g : Int} : (Tr.node l k v g r).pairs.getD l.size (0, 0) = (k, v) := by
  simp only [Tr.pairs, List.getD_eq_getElem?_getD]
  rw [List.getElem?_append_right (by rw [Tr.pairs_length]; exact Nat.le_refl _), Tr.pairs_length, Nat.sub_self]; rfl
theorem pairs_right {l r : Tr} {k v g : Int} {m : Nat} (h : l.size < m) : (Tr.node l k v g r).pairs.getD m (0, 0) = r.pairs.getD (m - l.size - 1) (0, 0) := by
  simp only [Tr.pairs, List.getD_eq_getElem?_getD]
  rw [List.getElem?_append_right (by rw [Tr.pairs_length]; omega), Tr.pairs_length]
  obtain ⟨d, hd⟩ : ∃ d, m - l.size = d + 1 := ⟨m - l.size - 1, by omega⟩
  rw [hd, List.getElem?_cons_succ, Nat.add_sub_cancel]
/-- the pairs at places, and the error -/
def manyR (t : Tr) (l : List Int) : List Pr := if l.all (fun n => selE t n == 0) then l.map (selR t) else []
def manyE (t : Tr) (l : List Int) : Int := if l.all (fun n => selE t n == 0) then 0 else 320
/-! ### The document's answers -/
set_option maxRecDepth 20000 in
theorem c_pairs : ∀ (t : BT) {q : Option Addr} {n c : Nat} {w : World} {R : Ending → World → Prop} (_hl : Cs w q (bds t.beads)) (_hn : t.size = n) (_hnc : n ≤ c) (_hw : t.wf = true) (_hm : n ≤ 5000)
    (_h : ∀ p n' c' w', OwnP w' w.heap.size p n' c' t.tr.pairs → Ext w w' → R (.returned (.slice p n' c')) w'), Calls Tryz.prog 85 #[.slice q n c] w R
  | .nil, q, n, c, w, R, hl, hn, hnc, hw, hm, h => by
    refine sh85_ok _ _ _ ?_
    unfold sh85
    have : n = 0 := by rw [← hn]; rfl
    subst this
    exact ifB_t rfl (h _ _ _ _ (ownP_nil _ _) (ext_refl w))
  | .node x L Rt, q, n, c, w, R, hl, hn, hnc, hw, hm, h => by
    refine sh85_ok _ _ _ ?_
    unfold sh85
    have hsz := BT.size_node x L Rt
    obtain ⟨_, _, w2f, w3f⟩ := BT.wf_node hw
    refine ifB_f (by simp; omega) ?_
    refine do_call Tryz.call64 (c_parts hl hn hnc hw hm fun p1 c1 p2 c2 w1 e1 hp h1 h2 => retS_ret ⟨_, _, _, _, _, _, _, _, _, _, _, _, _, rfl, ⟨?_⟩⟩)
    refine do_st7 (blk_alloc w1 _ _) fun w2 hb2 g2 => ?_
    have e2 : Ext w1 w2 := (ext_alloc w1 _).st g2 (Nat.le_refl _)
    have E2 := e1.trans e2
    have hcs := fun (w'' : World) (e : Ext w2 w'') => hp w'' (hl.ext (E2.trans e))
    have hLp : L.tr.pairs.length = L.size := by rw [Tr.pairs_length, BT.tr_size]
    have hRp : Rt.tr.pairs.length = Rt.size := by rw [Tr.pairs_length, BT.tr_size]
    -- what is right of it, behind what there is
    have hK : ∀ {out : Option Addr} {on oc : Nat} {w' : World}, Ext w w' → OwnP w' w.heap.size out on oc (L.tr.pairs ++ [(x.key, x.val)]) → (∀ w'', Ext w' w'' → Cs w'' p2 (bds Rt.beads)) →
        doCall Tryz.prog (.func (.func 85) #[] #[]) #[.slice p2 Rt.size c2] w' (retS (fun v36 w37 => ∃ (xp33 : Option Addr), ∃ (xn34 : Nat), ∃ (xc35 : Nat), v36 = (.slice xp33 xn34 xc35 : Value) ∧ (
          doGo Tryz.prog (.builtin .append #[63, 63] 63 #[false, false]) #[.slice out on oc, .slice xp33 xn34 xc35] w37 (retS (fun v41 w42 => ∃ (xp38 : Option Addr), ∃ (xn39 : Nat), ∃ (xc40 : Nat), v41 = (.slice xp38 xn39 xc40 : Value) ∧ (
          R (.returned (.slice xp38 xn39 xc40)) w42)) (fun ch w => Kfn R ch [] w)))) (fun ch w => Kfn R ch [] w)) := by
      intro out on oc w' E' ho' hR'
      refine do_call Tryz.call85 (c_pairs Rt (hR' _ (ext_refl _)) rfl h2 w3f (by omega) fun p5 n5 c5 w5 h5 e5 => retS_ret ⟨_, _, _, rfl, ?_⟩)
      have hon := ownP_len ho'
      have hn5 := ownP_len h5
      simp only [List.length_append, List.length_cons, List.length_nil] at hon
      have ho5 := row_to ho' e5 (Nat.le_refl _)
      refine do_app elP ho5 (ownP_cs h5) (by simp [hn5]) prs_one (by simp only [maxLen]; omega) (by omega) (Nat.le_trans E'.size e5.size) fun p6 c6 w6 h6 g6 => retS_ret ⟨_, _, _, rfl, ?_⟩
      refine h _ _ _ _ ?_ (ext_own ho5 (E'.trans e5) g6 (Nat.le_refl _))
      show w6.ownsRow _ _ _ _ _ (prs (L.tr.pairs ++ (x.key, x.val) :: Rt.tr.pairs))
      rw [show L.tr.pairs ++ (x.key, x.val) :: Rt.tr.pairs = (L.tr.pairs ++ [(x.key, x.val)]) ++ Rt.tr.pairs by simp, prs_append]
      exact h6
    refine ⟨⟨fun w' => Ext w2 w', ext_drew _, _, fun w' e => (hb2.ext e).cell (i := 0) (add_blk _ _) rfl, _, fun w' e => (hb2.ext e).cell (i := 1) (add_blk _ _) rfl, ?_, ?_⟩⟩
    · refine do_call Tryz.call85 (c_pairs L (hcs _ (ext_drew _)).1 rfl h1 w2f (by omega) fun p3 n3 c3 w3 h3 e3 => retS_ret ⟨_, _, _, rfl, (ext_drew w2).trans e3, ⟨?_⟩⟩)
      have e4 := ext_alloc w3 (.cells #[.int .i64 x.key, .int .i64 x.val] 76)
      have E3 := (ext_drew w2).trans e3
      refine ⟨E3.trans e4, ?_⟩
      have hn3 := ownP_len h3
      have ho4 := row_to h3 e4 (Nat.le_refl _)
      refine do_app elP ho4 (m := 1) (cs_alloc w3 _ _) (by simp) (by simp [Value.oneCell']) (by simp only [maxLen]; omega) (by omega) (Nat.le_trans e3.size e4.size) fun p5 c5 w5 h5 g5 => retS_ret ⟨_, _, _, rfl, ?_⟩
      have E5 : Ext w2 w5 := ext_own ho4 (E3.trans e4) g5 (Nat.le_refl _)
      refine ⟨E5, hK (E2.trans E5) ?_ fun w'' e => (hcs _ (E5.trans e)).2⟩
      show w5.ownsRow _ _ _ _ _ _
      rw [prs_append]
      exact row_mono h5 E2.size
    · refine ⟨?_⟩
      have e3 : Ext w2 (w2.drew.alloc (.cells #[.int .i64 x.key, .int .i64 x.val] 76)) := (ext_drew w2).alloc _
      have hx3 := blk_alloc w2.drew #[.int .i64 x.key, .int .i64 x.val] 76
      generalize w2.drew.alloc (.cells #[.int .i64 x.key, .int .i64 x.val] 76) = w3 at *
      refine ⟨e3, ?_⟩
      refine do_call Tryz.call85 (c_pairs L (hcs _ e3).1 rfl h1 w2f (by omega) fun p4 n4 c4 w4 h4 e4 => retS_ret ⟨_, _, _, rfl, e3.trans e4, ?_⟩)
      have E4 := e3.trans e4
      have hn4 := ownP_len h4
      have hx4 := hx3.ext e4
      refine do_app elP h4 (m := 1) (news := prs [(x.key, x.val)]) (q := some (blk w2.drew.heap.size)) (fun j v hj => ?_) (by simp) prs_one (by simp only [maxLen]; omega) (by omega) e4.size fun p5 c5 w5 h5 g5 => retS_ret ⟨_, _, _, rfl, ?_⟩
      · match j, hj with
        | 0, hj => cases hj; exact ⟨_, rfl, hx4.cell (add_blk _ _) rfl⟩
        | 1, hj => cases hj; exact ⟨_, rfl, hx4.cell (add_blk _ _) rfl⟩
        | j + 2, hj => simp at hj
      have E5 : Ext w2 w5 := ext_own h4 E4 g5 e3.size
      refine ⟨E5, hK (E2.trans E5) ?_ fun w'' e => (hcs _ (E5.trans e)).2⟩
      show w5.ownsRow _ _ _ _ _ _
      rw [prs_append]
      exact row_mono h5 (Nat.le_trans E2.size e3.size)
end Go.Proofs.YtbaoihmffobneaaGreat

namespace Go.Proofs.YtbaoihmffobneaaGreat
open Go Go.Sh Go.RowKit

abbrev OwnB (w : World) (base : Nat) (p : Option Addr) (n c : Nat) (l : List Bd) : Prop := w.ownsRow base 97 7 (.slice p n c) n (bds l)
theorem ownB_len {w : World} {base n c : Nat} {p : Option Addr} {l : List Bd} (h : OwnB w base p n c l) : l.length = n := by have := h.1; rw [bds_length] at this; omega
theorem ownB_cs {w : World} {base n c : Nat} {p : Option Addr} {l : List Bd} (h : OwnB w base p n c l) : Cs w p (bds l) := Cs.of_row h
theorem ownB_nil (w : World) (base : Nat) : OwnB w base none 0 0 [] := World.ownsRow_nil _ _ _ _
theorem rowB_to {w w' : World} {base base' n c : Nat} {p : Option Addr} {l : List Bd} (h : OwnB w base p n c l) (e : Ext w w') (hb : base' ≤ base) : OwnB w' base' p n c l := row_mono (e.row h) hb
theorem extB_own {a w w' : World} {base n c : Nat} {p : Option Addr} {l : List Bd} (h : OwnB w base p n c l) (e : Ext a w) (g : w.grownBy w' (Value.slice p n c).ownBlock) (hb : a.heap.size ≤ base) : Ext a w' :=
  e.grown g fun k hk => Nat.le_trans hb (World.ownsRow.lt h k hk).1
theorem c_r9sum {l : List Bd} {q : Option Addr} {n c : Nat} {w : World} {R : Ending → World → Prop} (hl : Cs w q (bds l)) (hn : l.length = n) (hm : n ≤ 1000000000000)
    (h : R (.returned (.int .i64 (sumV l))) w) : Calls Tryz.prog 78 #[.slice q n c] w R := by
  refine sh78_ok _ _ _ ?_
  unfold sh78
  refine ⟨fun vs w' => ∃ k : Nat, vs = [.int .i64 (sumV (l.take k)), .int .i64 k] ∧ k ≤ n ∧ w' = w, fun vs _ => n - (intOf (vs.getD 1 undef)).toNat, ⟨0, rfl, by omega, rfl⟩, ?_⟩
  rintro v i _ w2 ⟨k, hv, hkn, rfl⟩
  simp only [List.cons.injEq, Value.int.injEq, true_and, and_true] at hv
  obtain ⟨rfl, rfl⟩ := hv
  refine ifB_intro (fun hlt => ?_) fun hge => ?_
  · have hlt : k < n := by have := of_decide_eq_true hlt; omega
    refine ix_flat ecB_len (by omega) hl hn rfl hlt fun a r _ => ⟨_, r 1 _ rfl, ⟨k + 1, ?_, by omega, rfl⟩, ?_⟩
    · rw [wrap_succ hlt (by omega), show l.take (k + 1) = l.take k ++ [l[k]'(by omega)] from (List.take_append_getElem (by omega)).symm]
      simp only [sumV, List.foldl_append, List.foldl_cons, List.foldl_nil]
    · rw [wrap_succ hlt (by omega)]; simp [intOf]; omega
  · have hge : k = n := by have := of_decide_eq_false hge; omega
    subst hge
    rw [List.take_of_length_le (by omega)] at *
    exact h
theorem cs_bd {w : World} {b : Nat} {x : Bd} {t : TypeId} (h : Blk w b #[.int .i64 x.key, .int .i64 x.val, .int .i64 x.sum, .int .i64 x.size, .int .u64 x.tag, .bool x.left, .bool x.right] t) : Cs w (some (blk b)) (bds [x]) := fun i v hv => by
  refine ⟨_, rfl, ?_⟩
  rw [add_blk]
  match i, hv with
  | 0, hv => cases hv; exact h.cell rfl rfl
  | 1, hv => cases hv; exact h.cell rfl rfl
  | 2, hv => cases hv; exact h.cell rfl rfl
  | 3, hv => cases hv; exact h.cell rfl rfl
  | 4, hv => cases hv; exact h.cell rfl rfl
  | 5, hv => cases hv; exact h.cell rfl rfl
  | 6, hv => cases hv; exact h.cell rfl rfl
  | i + 7, hv => simp [ecB] at hv
/-- a bead alone is a row of one's own -/
theorem ownB_one {w : World} (x : Bd) : OwnB (w.alloc (.cells #[.int .i64 x.key, .int .i64 x.val, .int .i64 x.sum, .int .i64 x.size, .int .u64 x.tag, .bool x.left, .bool x.right] 97)) w.heap.size (some (blk w.heap.size)) 1 1 [x] :=
  World.ownsRow_lit (base := w.heap.size) (size := 7) (e := 97) w _ 1 (Nat.le_refl _) (by simp [maxLen]) (by simp)
set_option maxRecDepth 20000 in
theorem c_r9of : ∀ (t : BT) {q : Option Addr} {n c : Nat} {w : World} {R : Ending → World → Prop} (_hl : Cs w q (bds t.beads)) (_hn : t.size = n) (_hnc : n ≤ c) (_hw : t.wf = true) (_hm : n ≤ 5000)
    (_h : ∀ p n' c' w', OwnB w' w.heap.size p n' c' t.of.beads → Ext w w' → R (.returned (.slice p n' c')) w'), Calls Tryz.prog 27 #[.slice q n c] w R
  | .nil, q, n, c, w, R, hl, hn, hnc, hw, hm, h => by
    refine sh27_ok _ _ _ ?_
    unfold sh27
    have : n = 0 := by rw [← hn]; rfl
    subst this
    exact ifB_t rfl (h _ _ _ _ (ownB_nil _ _) (ext_refl w))
  | .node x L Rt, q, n, c, w, R, hl, hn, hnc, hw, hm, h => by
    refine sh27_ok _ _ _ ?_
    unfold sh27
    have hsz := BT.size_node x L Rt
    obtain ⟨_, _, w2f, w3f⟩ := BT.wf_node hw
    refine ifB_f (by simp; omega) ?_
    refine do_call Tryz.call64 (c_parts hl hn hnc hw hm fun p1 c1 p2 c2 w1 e1 hp h1 h2 => retS_ret ⟨_, _, _, _, _, _, _, _, _, _, _, _, _, rfl, ⟨?_⟩⟩)
    refine do_st7 (blk_alloc w1 _ _) fun w2 hb2 g2 => ?_
    have e2 : Ext w1 w2 := (ext_alloc w1 _).st g2 (Nat.le_refl _)
    have E2 := e1.trans e2
    have lb : w1.heap.size < w2.heap.size := hb2.lt
    refine do_st (i := 3) hb2 (by rw [add_zero', add_blk]) (by simp) fun w3 hb3 g3 => ?_
    have e3 : Ext w1 w3 := e2.st g3 (Nat.le_refl _)
    have E3 := e1.trans e3
    refine do_call Tryz.call78 (c_r9sum (hl.ext E3) (by exact hn) (by omega) (retS_ret ⟨_, rfl, ?_⟩))
    refine do_st (i := 2) hb3 (by rw [add_zero', add_blk]) (by simp) fun w4 hb4 g4 => ?_
    have e4 : Ext w1 w4 := e3.st g4 (Nat.le_refl _)
    have E4 := e1.trans e4
    obtain ⟨y, hy⟩ : ∃ y : Bd, y = { x with size := ((BT.node x L Rt).size : Nat), sum := sumV (BT.node x L Rt).beads } := ⟨_, rfl⟩
    have hb4 : Blk w4 w1.heap.size #[.int .i64 y.key, .int .i64 y.val, .int .i64 y.sum, .int .i64 y.size, .int .u64 y.tag, .bool y.left, .bool y.right] 97 := by rw [hy, hn]; exact hb4
    have hof : (BT.node x L Rt).of.beads = y :: (L.of.beads ++ Rt.of.beads) := by rw [hy]; rfl
    have hcs := fun (w'' : World) (e : Ext w4 w'') => hp w'' (hl.ext (E4.trans e))
    have hLs : L.of.beads.length = L.size := BT.of_size L
    have hRs : Rt.of.beads.length = Rt.size := BT.of_size Rt
    -- what is right of it, behind what there is
    have hK : ∀ {out : Option Addr} {on oc : Nat} {w' : World}, Ext w w' → OwnB w' w.heap.size out on oc (y :: L.of.beads) → (∀ w'', Ext w' w'' → Cs w'' p2 (bds Rt.beads)) →
        doCall Tryz.prog (.func (.func 27) #[] #[]) #[.slice p2 Rt.size c2] w' (retS (fun v36 w37 => ∃ (xp33 : Option Addr), ∃ (xn34 : Nat), ∃ (xc35 : Nat), v36 = (.slice xp33 xn34 xc35 : Value) ∧ (
          doGo Tryz.prog (.builtin .append #[22, 22] 22 #[false, false]) #[.slice out on oc, .slice xp33 xn34 xc35] w37 (retS (fun v41 w42 => ∃ (xp38 : Option Addr), ∃ (xn39 : Nat), ∃ (xc40 : Nat), v41 = (.slice xp38 xn39 xc40 : Value) ∧ (
          R (.returned (.slice xp38 xn39 xc40)) w42)) (fun ch w => Kfn R ch [] w)))) (fun ch w => Kfn R ch [] w)) := by
      intro out on oc w' E' ho' hR'
      refine do_call Tryz.call27 (c_r9of Rt (hR' _ (ext_refl _)) rfl h2 w3f (by omega) fun p5 n5 c5 w5 h5 e5 => retS_ret ⟨_, _, _, rfl, ?_⟩)
      have hon := ownB_len ho'
      have hn5 := ownB_len h5
      simp only [List.length_cons] at hon
      have ho5 := rowB_to ho' e5 (Nat.le_refl _)
      refine do_app elB ho5 (ownB_cs h5) (by rw [bds_length, hn5]) bds_one (by simp only [maxLen]; omega) (by omega) (Nat.le_trans E'.size e5.size) fun p6 c6 w6 h6 g6 => retS_ret ⟨_, _, _, rfl, ?_⟩
      refine h _ _ _ _ ?_ (extB_own ho5 (E'.trans e5) g6 (Nat.le_refl _))
      rw [hof]
      show w6.ownsRow _ _ _ _ _ (bds (y :: L.of.beads ++ Rt.of.beads))
      rw [bds_append]
      exact h6
    refine ⟨⟨fun w' => Ext w4 w', ext_drew _, _, fun w' e => (hb4.ext e).cell (i := 0) (add_blk _ _) rfl, _, fun w' e => (hb4.ext e).cell (i := 1) (add_blk _ _) rfl, _, fun w' e => (hb4.ext e).cell (i := 2) (add_blk _ _) rfl, _, fun w' e => (hb4.ext e).cell (i := 3) (add_blk _ _) rfl, _, fun w' e => (hb4.ext e).cell (i := 4) (add_blk _ _) rfl, _, fun w' e => (hb4.ext e).cell (i := 5) (add_blk _ _) rfl, _, fun w' e => (hb4.ext e).cell (i := 6) (add_blk _ _) rfl, ?_, ?_⟩⟩
    · refine ⟨?_⟩
      have ho5 := ownB_one (w := w4.drew) y
      have e5 : Ext w4 (w4.drew.alloc (.cells #[.int .i64 y.key, .int .i64 y.val, .int .i64 y.sum, .int .i64 y.size, .int .u64 y.tag, .bool y.left, .bool y.right] 97)) := (ext_drew w4).alloc _
      generalize w4.drew.alloc (.cells #[.int .i64 y.key, .int .i64 y.val, .int .i64 y.sum, .int .i64 y.size, .int .u64 y.tag, .bool y.left, .bool y.right] 97) = w5 at *
      refine do_call Tryz.call27 (c_r9of L (hcs _ e5).1 rfl h1 w2f (by omega) fun p6 n6 c6 w6 h6 e6 => retS_ret ⟨_, _, _, rfl, e5.trans e6, ?_⟩)
      have hn6 := ownB_len h6
      have ho6 := rowB_to ho5 e6 (Nat.le_refl _)
      refine do_app elB ho6 (ownB_cs h6) (by rw [bds_length, hn6]) bds_one (by simp only [maxLen]; omega) (by omega) (Nat.le_trans (Nat.le_of_eq rfl) (e5.trans e6).size) fun p7 c7 w7 h7 g7 => retS_ret ⟨_, _, _, rfl, ?_⟩
      have E7 : Ext w4 w7 := extB_own ho6 (e5.trans e6) g7 (Nat.le_refl _)
      refine ⟨E7, hK (E4.trans E7) ?_ fun w'' e => (hcs _ (E7.trans e)).2⟩
      show w7.ownsRow _ _ _ _ _ (bds ([y] ++ L.of.beads))
      rw [bds_append]
      exact row_mono h7 E4.size
    · refine do_call Tryz.call27 (c_r9of L (hcs _ (ext_drew _)).1 rfl h1 w2f (by omega) fun p6 n6 c6 w6 h6 e6 => retS_ret ⟨_, _, _, rfl, (ext_drew w4).trans e6, ⟨?_⟩⟩)
      have hn6 := ownB_len h6
      have e46 := (ext_drew w4).trans e6
      have ho7 := ownB_one (w := w6) y
      have e7 := ext_alloc w6 (.cells #[.int .i64 y.key, .int .i64 y.val, .int .i64 y.sum, .int .i64 y.size, .int .u64 y.tag, .bool y.left, .bool y.right] 97)
      refine do_app elB ho7 ((ownB_cs h6).ext e7) (by rw [bds_length, hn6]) bds_one (by simp only [maxLen]; omega) (by omega) e7.size fun p8 c8 w8 h8 g8 => retS_ret ⟨_, _, _, rfl, ?_⟩
      have E8 : Ext w4 w8 := extB_own ho7 (e46.trans e7) g8 e46.size
      refine ⟨E8, hK (E4.trans E8) ?_ fun w'' e => (hcs _ (E8.trans e)).2⟩
      show w8.ownsRow _ _ _ _ _ (bds ([y] ++ L.of.beads))
      rw [bds_append]
      exact row_mono h8 (Nat.le_trans E4.size e46.size)
/-- the root that Node makes -/
def rootB (L Rt : BT) (k v g : Int) : BT := .node ⟨k, v, 0, 0, g, L.nn, Rt.nn⟩ L Rt
theorem rootB_wf {L Rt : BT} {k v g : Int} (h1 : L.wf = true) (h2 : Rt.wf = true) : (rootB L Rt k v g).wf = true := by simp [rootB, BT.wf, h1, h2]
/-! ### Sort: the row of pairs -/
def sortL (o p : Int) (l : List Pr) : List Pr := l.foldl (fun r x => putR o p r x) []
theorem sortL_snoc (o p : Int) (l : List Pr) (x : Pr) : sortL o p (l ++ [x]) = putR o p (sortL o p l) x := by simp [sortL]
theorem sortL_take {o p : Int} {l : List Pr} {k : Nat} (h : k < l.length) : sortL o p (l.take (k + 1)) = putR o p (sortL o p (l.take k)) l[k] := by
  rw [← List.take_append_getElem h, sortL_snoc]
theorem snoc_ind {α : Type} {P : List α → Prop} (h0 : P []) (h1 : ∀ l x, P l → P (l ++ [x])) (l : List α) : P l := by
  have : ∀ k, k ≤ l.length → P (l.take k) := fun k => by
    induction k with
    | zero => intro _; exact h0
    | succ k ih => intro hk; rw [← List.take_append_getElem (show k < l.length by omega)]; exact h1 _ _ (ih (by omega))
  have := this l.length (Nat.le_refl _)
  rwa [List.take_length] at this
theorem sortL_may {o p : Int} {l : List Pr} (ho : isO o = true) (hp : may p = true) (hI : InP l) : mayR o (sortL o p l) = true ∧ InP (sortL o p l) ∧ (sortL o p l).length ≤ l.length := by
  revert hI
  induction l using snoc_ind with
  | h0 => intro _; exact ⟨by simp [sortL, mayR, ho, chain], (by intro x hx; cases hx), Nat.le_refl _⟩
  | h1 l x ih =>
    intro hI
    obtain ⟨h1, h2, h3⟩ := ih fun y hy => hI y (List.mem_append_left _ hy)
    have hx := hI x (by simp)
    rw [sortL_snoc]
    refine ⟨put_may h1 hp h2 hx.1, put_in h1 hp h2 hx, ?_⟩
    rw [put_len h1 hp]
    simp only [List.length_append, List.length_cons, List.length_nil]
    split <;> omega
set_option maxRecDepth 20000 in
theorem c_r5sort {o p : Int} {l : List Pr} {q : Option Addr} {n c : Nat} {w : World} {R : Ending → World → Prop} (hl : Cs w q (prs l)) (hn : l.length = n) (hm : n ≤ 1000000000000 - 1) (hI : InP l)
    (h : ∀ p' n' c' w', OwnP w' w.heap.size p' n' c' (cond (isO o && may p) (sortL o p l) []) → Ext w w' → R (.returned (.tuple #[.slice p' n' c', .int .i64 (cond (isO o && may p) 0 2)])) w') : Calls Tryz.prog 93 #[.int .u8 o, .int .u8 p, .slice q n c] w R := by
  refine sh93_ok _ _ _ _ _ ?_
  unfold sh93
  refine do_call Tryz.call42 (c_ris (retS_ret ⟨_, rfl, ?_⟩))
  cases ho : isO o
  · have hr := h none 0 0 w
    rw [ho] at hr
    exact ifB_t rfl (hr (ownP_nil _ _) (ext_refl w))
  refine ifB_f rfl (do_call Tryz.call11 (c_rmay (retS_ret ⟨_, rfl, ?_⟩)))
  cases hp : may p
  · have hr := h none 0 0 w
    rw [ho, hp] at hr
    exact ifB_t rfl (hr (ownP_nil _ _) (ext_refl w))
  refine ifB_f rfl ?_
  rw [ho, hp] at h
  refine ⟨fun vs w' => ∃ (k n' c' : Nat) (p' : Option Addr), vs = [.slice p' n' c', .int .i64 k] ∧ k ≤ n ∧ Ext w w' ∧ OwnP w' w.heap.size p' n' c' (sortL o p (l.take k)), fun vs _ => n - (intOf (vs.getD 1 undef)).toNat, ⟨0, 0, 0, none, rfl, by omega, ext_refl w, ownP_nil _ _⟩, ?_⟩
  rintro p1 n1 c1 i1 _ w1 ⟨k, n', c', p', hv, hkn, E, ho1⟩
  simp only [List.cons.injEq, Value.slice.injEq, Value.int.injEq, true_and, and_true] at hv
  obtain ⟨⟨rfl, rfl, rfl⟩, rfl⟩ := hv
  refine ifB_intro (fun hlt => ?_) fun hge => ?_
  · have hlt : k < n := by have := of_decide_eq_true hlt; omega
    obtain ⟨m1, m2, m3⟩ := sortL_may (p := p) ho hp (fun x (hx : x ∈ l.take k) => hI x (List.mem_of_mem_take hx))
    have hl1 := ownP_len ho1
    rw [List.length_take] at m3
    refine ix_pr (hl.ext E) hn rfl hlt fun a r1 r2 _ => ⟨_, r1, _, r2, ?_⟩
    refine do_call Tryz.call130 (c_r4put (x := l[k]'(by omega)) (ownP_cs ho1) hl1 (row_cap ho1) (by omega) m2 (hI _ (List.getElem_mem _)).1 fun p2 n2 c2 w2 h2 e2 => retS_ret ⟨_, _, _, _, rfl, ?_⟩)
    refine ⟨⟨k + 1, n2, c2, p2, by rw [wrap_succ hlt (by omega)], by omega, E.trans e2, ?_⟩, ?_⟩
    · rw [sortL_take (by omega)]; exact row_mono h2 E.size
    · rw [wrap_succ hlt (by omega)]; simp [intOf]; omega
  · have hge : k = n := by have := of_decide_eq_false hge; omega
    subst hge
    rw [List.take_of_length_le (by omega)] at ho1
    exact h _ _ _ _ ho1 E
/-! ### Shape -/
end Go.Proofs.YtbaoihmffobneaaGreat
