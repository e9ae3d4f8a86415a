/-
  What the functions of node do, and those of joineryref09 and joinerylaw09 that make trees of beads.
-/
/-
  Parts, Make, Pairs, Height of beads; whether beads are a tree.
-/
/-
  What the functions of rank do.
-/
/-
  What is parted, cut off, and joined, of any scheme. Plain.
-/
/-
  sync.Once, atomic.Uint64, of one goroutine: after the kit's worked example (Lazy).
-/
/-
  sync.Once: doSlow, Do. After the kit's worked example (Lazy).
-/
/-
  avl, avljoin: what a join makes.
-/
import Derived.Test.YtlddfgfmkapoiaaGreatZ14
import Derived.Test.YtlddfgfmkapoiaaGreatZ04
import Derived.Test.YtlddfgfmkapoiaaGreatZ13
import Derived.Tactics
import Derived.Tactics2
import Derived.Defers
import Derived.Laws.Pointers
import Derived.Laws.LoneSync
import Derived.RegionTactic
import Derived.RegionCalls
import Derived.ChangeAlike
import Derived.Laws.NewBlocks

namespace Go.Proofs.YtlddfgfmkapoiaaGreat
open Go Go.Sh Go.RowKit

abbrev IsN (w : World) (p : Option Addr) (t : Tr) : Prop := IsT 249 w p t
set_option maxRecDepth 100000 in
theorem elB : ElT Tryz.prog 57 150 (.agg #[.int .i64 0, .int .i64 0, .int .i64 0, .int .i64 0, .int .u64 0, .bool false, .bool false]) 7 48 := ⟨Tryz.underlying57, ⟨_, Tryz.type150, by kernel_rfl, by kernel_rfl, by kernel_rfl⟩, rfl, by omega⟩
/-! ### Nodes -/
def keptV (t : Tr) : Value := .agg #[.int .i64 t.key, .int .i64 t.val, .int .i64 t.sum, .int .u64 t.tag, .int .i64 (t.size : Nat)]
theorem do_st5 {w : World} {b : Nat} {v0 v1 v2 v3 v4 x0 x1 x2 x3 x4 : Value} {t : TypeId} (h : Blk w b #[v0, v1, v2, v3, v4] t) {K : World → Prop} (k : ∀ w', Blk w' b #[x0, x1, x2, x3, x4] t → w.grownBy w' (some b) → K w') :
    doSt ((blk b).add 0) x0 w fun w1 => doSt ((blk b).add 1) x1 w1 fun w2 => doSt ((blk b).add 2) x2 w2 fun w3 => doSt ((blk b).add 3) x3 w3 fun w4 => doSt ((blk b).add 4) x4 w4 K := by
  refine do_st h (i := 0) (add_blk b 0) (by simp) fun w1 h1 g1 => ?_
  have k1 : Blk w1 b #[x0, v1, v2, v3, v4] t := h1
  have e1 := g1
  refine do_st k1 (i := 1) (add_blk b 1) (by simp) fun w2 h2 g2 => ?_
  have k2 : Blk w2 b #[x0, x1, v2, v3, v4] t := h2
  have e2 := grown_trans e1 g2
  refine do_st k2 (i := 2) (add_blk b 2) (by simp) fun w3 h3 g3 => ?_
  have k3 : Blk w3 b #[x0, x1, x2, v3, v4] t := h3
  have e3 := grown_trans e2 g3
  refine do_st k3 (i := 3) (add_blk b 3) (by simp) fun w4 h4 g4 => ?_
  have k4 : Blk w4 b #[x0, x1, x2, x3, v4] t := h4
  have e4 := grown_trans e3 g4
  refine do_st k4 (i := 4) (add_blk b 4) (by simp) fun w5 h5 g5 => ?_
  have k5 : Blk w5 b #[x0, x1, x2, x3, x4] t := h5
  have e5 := grown_trans e4 g5
  exact k _ k5 e5
theorem do_st7 {w : World} {b : Nat} {v0 v1 v2 v3 v4 v5 v6 x0 x1 x2 x3 x4 x5 x6 : Value} {t : TypeId} (h : Blk w b #[v0, v1, v2, v3, v4, v5, v6] t) {K : World → Prop} (k : ∀ w', Blk w' b #[x0, x1, x2, x3, x4, x5, x6] t → w.grownBy w' (some b) → K w') :
    doSt ((blk b).add 0) x0 w fun w1 => doSt ((blk b).add 1) x1 w1 fun w2 => doSt ((blk b).add 2) x2 w2 fun w3 => doSt ((blk b).add 3) x3 w3 fun w4 => doSt ((blk b).add 4) x4 w4 fun w5 => doSt ((blk b).add 5) x5 w5 fun w6 => doSt ((blk b).add 6) x6 w6 K := by
  refine do_st h (i := 0) (add_blk b 0) (by simp) fun w1 h1 g1 => ?_
  have k1 : Blk w1 b #[x0, v1, v2, v3, v4, v5, v6] t := h1
  have e1 := g1
  refine do_st k1 (i := 1) (add_blk b 1) (by simp) fun w2 h2 g2 => ?_
  have k2 : Blk w2 b #[x0, x1, v2, v3, v4, v5, v6] t := h2
  have e2 := grown_trans e1 g2
  refine do_st k2 (i := 2) (add_blk b 2) (by simp) fun w3 h3 g3 => ?_
  have k3 : Blk w3 b #[x0, x1, x2, v3, v4, v5, v6] t := h3
  have e3 := grown_trans e2 g3
  refine do_st k3 (i := 3) (add_blk b 3) (by simp) fun w4 h4 g4 => ?_
  have k4 : Blk w4 b #[x0, x1, x2, x3, v4, v5, v6] t := h4
  have e4 := grown_trans e3 g4
  refine do_st k4 (i := 4) (add_blk b 4) (by simp) fun w5 h5 g5 => ?_
  have k5 : Blk w5 b #[x0, x1, x2, x3, x4, v5, v6] t := h5
  have e5 := grown_trans e4 g5
  refine do_st k5 (i := 5) (add_blk b 5) (by simp) fun w6 h6 g6 => ?_
  have k6 : Blk w6 b #[x0, x1, x2, x3, x4, x5, v6] t := h6
  have e6 := grown_trans e5 g6
  refine do_st k6 (i := 6) (add_blk b 6) (by simp) fun w7 h7 g7 => ?_
  have k7 : Blk w7 b #[x0, x1, x2, x3, x4, x5, x6] t := h7
  have e7 := grown_trans e6 g7
  exact k _ k7 e7
theorem c_of {p : Option Addr} {t : Tr} {w : World} {R : Ending → World → Prop} (ht : IsN w p t) (h : ∀ w', Ext w w' → R (.returned (keptV t)) w') : Calls Tryz.prog 166 #[.pointer p] w R := by
  refine sh166_ok _ ?_
  unfold sh166
  refine ⟨?_⟩
  have e1 := ext_alloc w (.cells #[.int .i64 0, .int .i64 0, .int .i64 0, .int .u64 0, .int .i64 0] 205)
  have hb := blk_alloc w #[.int .i64 0, .int .i64 0, .int .i64 0, .int .u64 0, .int .i64 0] 205
  cases t with
  | nil =>
    obtain rfl : p = none := ht
    refine ifB_t rfl (do_st5 hb fun w2 h2 g2 => ⟨_, h2.cell (i := 0) (add_blk _ _) rfl, _, h2.cell (i := 1) (add_blk _ _) rfl, _, h2.cell (i := 2) (add_blk _ _) rfl, _, h2.cell (i := 3) (add_blk _ _) rfl, _, h2.cell (i := 4) (add_blk _ _) rfl, h _ (e1.st g2 (Nat.le_refl _))⟩)
  | node l k v g r =>
    obtain ⟨b, pl, pr, rfl, hn, _, _⟩ := ht
    have hn1 := hn.ext e1
    refine ifB_f rfl ⟨_, rfl, _, hn1.cell (i := 0) (by rw [add_zero', add_blk]) rfl, _, hn1.cell (i := 1) (by rw [add_zero', add_blk]) rfl, _, hn1.cell (i := 2) (by rw [add_zero', add_blk]) rfl, _, hn1.cell (i := 3) (by rw [add_zero', add_blk]) rfl, _, hn1.cell (i := 4) (by rw [add_zero', add_blk]) rfl, ?_⟩
    refine do_st5 hb fun w2 h2 g2 => ⟨_, h2.cell (i := 0) (add_blk _ _) rfl, _, h2.cell (i := 1) (add_blk _ _) rfl, _, h2.cell (i := 2) (add_blk _ _) rfl, _, h2.cell (i := 3) (add_blk _ _) rfl, _, h2.cell (i := 4) (add_blk _ _) rfl, h _ (e1.st g2 (Nat.le_refl _))⟩
theorem c_left0 {p : Option Addr} {t : Tr} {w0 w : World} {R : Ending → World → Prop} (ht : IsN w0 p t) (e : Ext w0 w) (h : ∀ q, IsN w0 q t.left → R (.returned (.pointer q)) w) : Calls Tryz.prog 123 #[.pointer p] w R := by
  refine sh123_ok _ ?_
  unfold sh123
  cases t with
  | nil => obtain rfl : p = none := ht; exact ifB_t rfl (h _ rfl)
  | node l k v g r =>
    obtain ⟨b, pl, pr, rfl, hn, hl, hr⟩ := ht
    exact ifB_f rfl ⟨_, rfl, _, (hn.ext e).cell (i := 5) (add_blk _ _) rfl, h _ hl⟩
theorem c_left {p : Option Addr} {t : Tr} {w : World} {R : Ending → World → Prop} (ht : IsN w p t) (h : ∀ q, IsN w q t.left → R (.returned (.pointer q)) w) : Calls Tryz.prog 123 #[.pointer p] w R := c_left0 ht (ext_refl w) h
theorem c_right0 {p : Option Addr} {t : Tr} {w0 w : World} {R : Ending → World → Prop} (ht : IsN w0 p t) (e : Ext w0 w) (h : ∀ q, IsN w0 q t.right → R (.returned (.pointer q)) w) : Calls Tryz.prog 125 #[.pointer p] w R := by
  refine sh125_ok _ ?_
  unfold sh125
  cases t with
  | nil => obtain rfl : p = none := ht; exact ifB_t rfl (h _ rfl)
  | node l k v g r =>
    obtain ⟨b, pl, pr, rfl, hn, hl, hr⟩ := ht
    exact ifB_f rfl ⟨_, rfl, _, (hn.ext e).cell (i := 6) (add_blk _ _) rfl, h _ hr⟩
theorem c_right {p : Option Addr} {t : Tr} {w : World} {R : Ending → World → Prop} (ht : IsN w p t) (h : ∀ q, IsN w q t.right → R (.returned (.pointer q)) w) : Calls Tryz.prog 125 #[.pointer p] w R := c_right0 ht (ext_refl w) h
theorem c_key {p : Option Addr} {t : Tr} {w : World} {R : Ending → World → Prop} (ht : IsN w p t) (h : ∀ w', Ext w w' → R (.returned (.int .i64 t.key)) w') : Calls Tryz.prog 108 #[.pointer p] w R := by
  refine sh108_ok _ ?_
  unfold sh108
  exact do_call Tryz.call166 (c_of ht fun w1 e1 => retS_ret ⟨_, _, _, _, _, rfl, h _ e1⟩)
theorem c_val {p : Option Addr} {t : Tr} {w : World} {R : Ending → World → Prop} (ht : IsN w p t) (h : ∀ w', Ext w w' → R (.returned (.int .i64 t.val)) w') : Calls Tryz.prog 126 #[.pointer p] w R := by
  refine sh126_ok _ ?_
  unfold sh126
  exact do_call Tryz.call166 (c_of ht fun w1 e1 => retS_ret ⟨_, _, _, _, _, rfl, h _ e1⟩)
theorem c_tag {p : Option Addr} {t : Tr} {w : World} {R : Ending → World → Prop} (ht : IsN w p t) (h : ∀ w', Ext w w' → R (.returned (.int .u64 t.tag)) w') : Calls Tryz.prog 196 #[.pointer p] w R := by
  refine sh196_ok _ ?_
  unfold sh196
  exact do_call Tryz.call166 (c_of ht fun w1 e1 => retS_ret ⟨_, _, _, _, _, rfl, h _ e1⟩)
theorem c_tsize {p : Option Addr} {t : Tr} {w : World} {R : Ending → World → Prop} (ht : IsN w p t) (h : ∀ w', Ext w w' → R (.returned (.int .i64 (t.size : Nat))) w') : Calls Tryz.prog 91 #[.pointer p] w R := by
  refine sh91_ok _ ?_
  unfold sh91
  exact do_call Tryz.call166 (c_of ht fun w1 e1 => retS_ret ⟨_, _, _, _, _, rfl, h _ e1⟩)
theorem c_tsum {p : Option Addr} {t : Tr} {w : World} {R : Ending → World → Prop} (ht : IsN w p t) (h : ∀ w', Ext w w' → R (.returned (.int .i64 t.sum)) w') : Calls Tryz.prog 107 #[.pointer p] w R := by
  refine sh107_ok _ ?_
  unfold sh107
  exact do_call Tryz.call166 (c_of ht fun w1 e1 => retS_ret ⟨_, _, _, _, _, rfl, h _ e1⟩)
theorem c_new {pl pr : Option Addr} {l r : Tr} {k v g : Int} {w : World} {R : Ending → World → Prop} (hl : IsN w pl l) (hr : IsN w pr r) (hs : l.size + 1 + r.size ≤ 4611686018427387903)
    (h : ∀ b w', Ext w w' → IsN w' (some (blk b)) (.node l k v g r) → w.heap.size ≤ b → R (.returned (.pointer (some (blk b)))) w') : Calls Tryz.prog 105 #[.pointer pl, .int .i64 k, .int .i64 v, .int .u64 g, .pointer pr] w R := by
  refine sh105_ok _ _ _ _ _ ?_
  unfold sh105
  refine do_call Tryz.call91 (c_tsize hl fun w1 e1 => retS_ret ⟨_, rfl, ?_⟩)
  refine do_call Tryz.call91 (c_tsize (hr.ext e1) fun w2 e2 => retS_ret ⟨_, rfl, ?_⟩)
  have E2 := e1.trans e2
  refine do_call Tryz.call107 (c_tsum (hl.ext E2) fun w3 e3 => retS_ret ⟨_, rfl, ?_⟩)
  have E3 := E2.trans e3
  refine do_call Tryz.call107 (c_tsum (hr.ext E3) fun w4 e4 => retS_ret ⟨_, rfl, ⟨?_⟩⟩)
  have E4 := E3.trans e4
  have e : IntKind.wrap .i64 (IntKind.wrap .i64 ((l.size : Int) + 1) + (r.size : Int)) = ((l.size + 1 + r.size : Nat) : Int) := by
    rw [wrap_of (x := (l.size : Int) + 1) (by omega) (by omega), wrap_of (by omega) (by omega)]; omega
  rw [e]
  have e5 := ext_alloc w4 (.cells #[.int .i64 k, .int .i64 v, .int .i64 (IntKind.wrap .i64 (IntKind.wrap .i64 (l.sum + v) + r.sum)), .int .u64 g, .int .i64 ((l.size + 1 + r.size : Nat) : Int), .pointer pl, .pointer pr] 249)
  exact h _ _ (E4.trans e5) ⟨_, pl, pr, rfl, blk_alloc w4 _ _, hl.ext (E4.trans e5), hr.ext (E4.trans e5)⟩ E4.size
/-! ### Beads -/
theorem c_ends {l : List Bd} {q : Option Addr} {n c : Nat} {w : World} (hl : Cs w q (bds l)) (hn : l.length = n) (hm : n ≤ 1000000000000) : ∀ (f d a : Nat) (R : Ending → World → Prop), f + d = 5001 → a ≤ n →
    R (.returned (.int .i64 (match parse f (l.drop a) with | some t => (t.size : Int) | none => -1))) w → Calls Tryz.prog 189 #[.slice q n c, .int .i64 (a : Nat), .int .i64 (d : Nat)] w R := by
  intro f
  induction f with
  | zero =>
    intro d a R hd ha hR
    refine sh189_ok _ _ _ _ _ ?_
    unfold sh189
    refine ifB_intro (fun _ => hR) fun _ => ?_
    exact ifB_t (decide_eq_true (by omega)) hR
  | succ f ih =>
    intro d a R hd ha hR
    refine sh189_ok _ _ _ _ _ ?_
    unfold sh189
    refine ifB_intro (fun hge => ?_) fun hlt => ?_
    · have hge : n ≤ a := by have := of_decide_eq_true hge; omega
      rw [List.drop_of_length_le (by omega)] at hR
      exact hR
    · have hlt : a < n := by have := of_decide_eq_false hlt; omega
      refine ifB_f (decide_eq_false (by omega)) ?_
      rw [List.drop_eq_getElem_cons (by omega)] at hR
      have e1 : IntKind.wrap .i64 ((a : Int) + 1) = ((a + 1 : Nat) : Int) := wrap_succ hlt (by omega)
      have e2 : IntKind.wrap .i64 ((d : Int) + 1) = ((d + 1 : Nat) : Int) := wrap_succ (n := 5001) (by omega) (by omega)
      obtain ⟨x, hx⟩ : ∃ x, x = l[a]'(by omega) := ⟨_, rfl⟩
      rw [← hx] at hR
      -- the right side, behind k beads
      have hright : ∀ (L : BT), cond x.left (parse f (l.drop (a + 1))) (some .nil) = some L → L.size ≤ n - (a + 1) →
          doIx q n 7 (a : Nat) (fun a15 => ∃ (x16 : Bool), World.cell? w (a15.add 6) = some (.bool x16) ∧ (ifB x16 (
            doCall Tryz.prog (.func (.func 189) #[] #[]) #[.slice q n c, .int .i64 (IntKind.wrap .i64 ((a : Int) + ((1 + L.size : Nat) : Int))), .int .i64 (IntKind.wrap .i64 ((d : Int) + 1))] w (retS (fun v18 w19 => ∃ (x17 : Int), v18 = (.int .i64 x17 : Value) ∧ (
              ifB (decide ((x17 : Int) < 0)) (R (.returned (.int .i64 (-1))) w19) (R (.returned (.int .i64 (IntKind.wrap .i64 (((1 + L.size : Nat) : Int) + x17)))) w19))) (fun ch w => Kfn R ch [] w))) (
            R (.returned (.int .i64 ((1 + L.size : Nat) : Int))) w))) := by
        intro L hL hLs
        refine ix_flat ecB_len (by omega) hl hn rfl hlt fun a0 r0 _ => ?_
        rw [← hx] at r0
        refine ⟨x.right, r0 6 _ rfl, ?_⟩
        have hL' : parse (f + 1) (x :: l.drop (a + 1)) = (cond x.right (parse f ((l.drop (a + 1)).drop L.size)) (some .nil)).bind fun r => some (.node x L r) := by
          simp only [parse]; rw [hL]; rfl
        rw [hL'] at hR
        refine ifB_intro (fun hrt => ?_) fun hrt => ?_
        · have e3 : IntKind.wrap .i64 ((a : Int) + ((1 + L.size : Nat) : Int)) = ((a + 1 + L.size : Nat) : Int) := by rw [wrap_of (by omega) (by omega)]; omega
          rw [e2, e3]
          refine do_call Tryz.call189 (ih (d + 1) (a + 1 + L.size) _ (by omega) (by omega) (retS_ret ⟨_, rfl, ?_⟩))
          rw [hrt, cond_true, List.drop_drop] at hR
          cases hp : parse f (l.drop (a + 1 + L.size)) with
          | none =>
            rw [hp] at hR
            exact ifB_t (by simp) hR
          | some r =>
            rw [hp] at hR
            have hps := (parse_some hp).2.2
            have hrl : L.size + 1 + r.size ≤ n := by
              have := congrArg List.length hps
              simp at this
              have : r.size = r.beads.length := rfl
              omega
            refine ifB_f (decide_eq_false (by simp)) ?_
            simp only [Option.bind_some, BT.size_node] at hR
            simp only
            rw [wrap_of (x := ((1 + L.size : Nat) : Int) + (r.size : Int)) (by omega) (by omega), ← Int.natCast_add]
            exact hR
        · rw [hrt, cond_false] at hR
          simp only [Option.bind_some, BT.size_node] at hR
          exact hR
      refine ix_flat ecB_len (by omega) hl hn rfl hlt fun a0 r0 _ => ?_
      rw [← hx] at r0
      refine ⟨x.left, r0 5 _ rfl, ?_⟩
      refine ifB_intro (fun hlf => ?_) fun hlf => ?_
      · rw [e1, e2]
        refine do_call Tryz.call189 (ih (d + 1) (a + 1) _ (by omega) (by omega) (retS_ret ⟨_, rfl, ?_⟩))
        cases hp : parse f (l.drop (a + 1)) with
        | none =>
          have hL' : parse (f + 1) (x :: l.drop (a + 1)) = none := by simp only [parse]; rw [hlf, cond_true, hp]; rfl
          rw [hL'] at hR
          exact ifB_t (by simp) hR
        | some L =>
          have hps := (parse_some hp).2.2
          have hLs : L.size ≤ n - (a + 1) := by
            have := congrArg List.length hps
            simp at this
            have : L.size = L.beads.length := rfl
            omega
          refine ifB_f (decide_eq_false (by simp)) ?_
          simp only
          rw [wrap_of (x := 1 + (L.size : Int)) (by omega) (by omega)]
          have := hright L (by rw [hlf, cond_true, hp]) hLs
          rw [e2] at this
          simp only [Int.natCast_add, Int.cast_ofNat_Int] at this
          exact this
      · have := hright .nil (by rw [hlf, cond_false]) (by simp [BT.size, BT.beads])
        simpa [BT.size, BT.beads] using this
end Go.Proofs.YtlddfgfmkapoiaaGreat

namespace Go.Proofs.YtlddfgfmkapoiaaGreat
open Go Go.Sh Go.RowKit

def bdV (x : Bd) : Value := .agg #[.int .i64 x.key, .int .i64 x.val, .int .i64 x.sum, .int .i64 x.size, .int .u64 x.tag, .bool x.left, .bool x.right]
set_option maxRecDepth 20000 in
theorem c_parts {x : Bd} {L Rt : BT} {q : Option Addr} {n c : Nat} {w : World} {R : Ending → World → Prop} (hl : Cs w q (bds (BT.node x L Rt).beads)) (hn : (BT.node x L Rt).size = n) (hnc : n ≤ c) (hw : (BT.node x L Rt).wf = true) (hm : n ≤ 5000)
    (h : ∀ p1 c1 p2 c2 w', Ext w w' → (∀ w'', Cs w'' q (bds (BT.node x L Rt).beads) → Cs w'' p1 (bds L.beads) ∧ Cs w'' p2 (bds Rt.beads)) → L.size ≤ c1 → Rt.size ≤ c2 → R (.returned (.tuple #[bdV x, .slice p1 L.size c1, .slice p2 Rt.size c2])) w') :
    Calls Tryz.prog 109 #[.slice q n c] w R := by
  refine sh109_ok _ _ _ ?_
  unfold sh109
  refine ⟨?_⟩
  obtain ⟨w1f, _, w2f, w3f⟩ := BT.wf_node hw
  have e1 := ext_alloc w (.cells #[.int .i64 0, .int .i64 0, .int .i64 0, .int .i64 0, .int .u64 0, .bool false, .bool false] 150)
  have hb := blk_alloc w #[.int .i64 0, .int .i64 0, .int .i64 0, .int .i64 0, .int .u64 0, .bool false, .bool false] 150
  generalize hb0 : w.heap.size = b at *
  generalize w.alloc (.cells #[.int .i64 0, .int .i64 0, .int .i64 0, .int .i64 0, .int .u64 0, .bool false, .bool false] 150) = w1 at *
  have hsz := BT.size_node x L Rt
  have hln : (BT.node x L Rt).beads.length = n := hn
  have hk : ∀ k : Int, k = (L.size : Int) → _ := fun k hk => by
    subst hk
    have ew : IntKind.wrap .i64 (1 + (L.size : Int)) = ((1 + L.size : Nat) : Int) := by rw [wrap_of (by omega) (by omega)]; omega
    refine (show doDr w1 (fun w10 => ∃ (C9 : World → Prop), C9 w10 ∧ (
      doIx q n 7 (0) (fun a11 => ∃ (x12 : Int), (∀ w, C9 w → World.cell? w (a11.add 0) = some (.int .i64 x12)) ∧ (
      ∃ (x13 : Int), (∀ w, C9 w → World.cell? w (a11.add 1) = some (.int .i64 x13)) ∧ (
      ∃ (x14 : Int), (∀ w, C9 w → World.cell? w (a11.add 2) = some (.int .i64 x14)) ∧ (
      ∃ (x15 : Int), (∀ w, C9 w → World.cell? w (a11.add 3) = some (.int .i64 x15)) ∧ (
      ∃ (x16 : Int), (∀ w, C9 w → World.cell? w (a11.add 4) = some (.int .u64 x16)) ∧ (
      ∃ (x17 : Bool), (∀ w, C9 w → World.cell? w (a11.add 5) = some (.bool x17)) ∧ (
      ∃ (x18 : Bool), (∀ w, C9 w → World.cell? w (a11.add 6) = some (.bool x18)) ∧ (
      doSl q c 7 (1) (IntKind.wrap .i64 (1 + (L.size : Int))) (fun p19 n20 c21 =>
      doSl q c 7 (IntKind.wrap .i64 (1 + (L.size : Int))) (((n : Nat) : Int)) (fun p22 n23 c24 =>
      doSt ((blk b).add 0) (.int .i64 x12) w10 (fun w25 => doSt ((blk b).add 1) (.int .i64 x13) w25 (fun w26 =>
      doSt ((blk b).add 2) (.int .i64 x14) w26 (fun w27 => doSt ((blk b).add 3) (.int .i64 x15) w27 (fun w28 =>
      doSt ((blk b).add 4) (.int .u64 x16) w28 (fun w29 => doSt ((blk b).add 5) (.bool x17) w29 (fun w30 =>
      doSt ((blk b).add 6) (.bool x18) w30 (fun w31 =>
      ∃ (x32 : Int), World.cell? w31 ((blk b).add 0) = some (.int .i64 x32) ∧ (
      ∃ (x33 : Int), World.cell? w31 ((blk b).add 1) = some (.int .i64 x33) ∧ (
      ∃ (x34 : Int), World.cell? w31 ((blk b).add 2) = some (.int .i64 x34) ∧ (
      ∃ (x35 : Int), World.cell? w31 ((blk b).add 3) = some (.int .i64 x35) ∧ (
      ∃ (x36 : Int), World.cell? w31 ((blk b).add 4) = some (.int .u64 x36) ∧ (
      ∃ (x37 : Bool), World.cell? w31 ((blk b).add 5) = some (.bool x37) ∧ (
      ∃ (x38 : Bool), World.cell? w31 ((blk b).add 6) = some (.bool x38) ∧ (
      R (.returned (.tuple #[.agg #[.int .i64 x32, .int .i64 x33, .int .i64 x34, .int .i64 x35, .int .u64 x36, .bool x37, .bool x38], .slice p19 n20 c21, .slice p22 n23 c24])) w31)))))))))))))))))))))))))) from ?_)
    refine ⟨⟨fun w' => Ext w w', e1.drew, ?_⟩⟩
    refine ix_flatC ecB_len (by omega) (C := fun w' => Ext w w') (fun w' e => hl.ext e) e1 hln (k := 0) rfl (by omega) fun a r => ?_
    refine ⟨_, fun w' e => r w' e 0 _ rfl, _, fun w' e => r w' e 1 _ rfl, _, fun w' e => r w' e 2 _ rfl, _, fun w' e => r w' e 3 _ rfl, _, fun w' e => r w' e 4 _ rfl, _, fun w' e => r w' e 5 _ rfl, _, fun w' e => r w' e 6 _ rfl, ?_⟩
    refine sl_flat ecB_len (by omega) hl hln hnc (a := 1) (b := 1 + L.size) rfl ew (by omega) (by omega) fun p1 hp1 => ?_
    refine sl_flat ecB_len (by omega) hl hln hnc (a := 1 + L.size) (b := n) ew rfl (by omega) (Nat.le_refl n) fun p2 hp2 => ?_
    refine do_st7 (w := w1.drew) hb fun w2 h2 g2 => ?_
    refine ⟨_, h2.cell (i := 0) (add_blk _ _) rfl, _, h2.cell (i := 1) (add_blk _ _) rfl, _, h2.cell (i := 2) (add_blk _ _) rfl, _, h2.cell (i := 3) (add_blk _ _) rfl, _, h2.cell (i := 4) (add_blk _ _) rfl, _, h2.cell (i := 5) (add_blk _ _) rfl, _, h2.cell (i := 6) (add_blk _ _) rfl, ?_⟩
    have hL1 : 1 + L.size - 1 = L.size := by omega
    have hR1 : n - (1 + L.size) = Rt.size := by omega
    rw [hL1, hR1]
    refine h p1 _ p2 _ w2 (e1.drew.st g2 (by omega)) (fun w'' hc => ⟨?_, ?_⟩) (by omega) (by omega)
    · have := hp1 w'' hc
      rw [show ((BT.node x L Rt).beads.take (1 + L.size)).drop 1 = L.beads by
        simp only [BT.beads]
        rw [show 1 + L.size = L.size + 1 by omega, List.take_succ_cons, List.drop_succ_cons, List.drop_zero, List.take_left]] at this
      exact this
    · have := hp2 w'' hc
      rw [show ((BT.node x L Rt).beads.take n).drop (1 + L.size) = Rt.beads by
        rw [List.take_of_length_le (by omega)]
        simp only [BT.beads]
        rw [show 1 + L.size = L.size + 1 by omega, List.drop_succ_cons, List.drop_left]] at this
      exact this
  refine ix_flat ecB_len (by omega) (hl.ext e1) hln (k := 0) rfl (by omega) fun a r _ => ?_
  refine ⟨x.left, r 5 _ rfl, ?_⟩
  refine ifB_intro (fun hlf => ?_) fun hlf => ?_
  · refine do_call Tryz.call189 (c_ends (hl.ext e1) hln (by omega) 5001 0 1 _ rfl (by omega) (retS_ret ⟨_, rfl, ?_⟩))
    have hp : parse 5001 ((BT.node x L Rt).beads.drop 1) = some L := by
      simp only [BT.beads, List.drop_succ_cons, List.drop_zero]
      exact parse_of _ (by rw [← w1f]; exact hlf) w2f (by have := L.depth_le; omega)
    rw [hp]
    exact hk _ rfl
  · have : L.size = 0 := by
      have := L.nn_iff
      rw [← w1f, hlf] at this
      simpa using this
    have h2 := hk _ rfl
    rw [show (L.size : Int) = 0 by rw [this]; rfl] at h2
    exact h2
end Go.Proofs.YtlddfgfmkapoiaaGreat

namespace Go.Proofs.YtlddfgfmkapoiaaGreat
open Go Go.Sh Go.RowKit

end Go.Proofs.YtlddfgfmkapoiaaGreat

namespace Go.Proofs.YtlddfgfmkapoiaaGreat
open Go Go.Sh

abbrev It := Int × Int × Int
def itC (c : Int) (x : It) : It := if c = 4 then x else (x.1, x.2.1, 0)
def itsC (c : Int) (t : Tr) : List It := (itT t).map (itC c)
theorem itC_key (c : Int) (x : It) : (itC c x).1 = x.1 := by unfold itC; split <;> rfl
theorem itC_val (c : Int) (x : It) : (itC c x).2.1 = x.2.1 := by unfold itC; split <;> rfl
theorem itC_itC (c : Int) (x : It) : itC c (itC c x) = itC c x := by unfold itC; split <;> rfl
theorem itsC_nil (c : Int) : itsC c .nil = [] := rfl
theorem itsC_node (c : Int) (l r : Tr) (k v g : Int) : itsC c (.node l k v g r) = itsC c l ++ itC c (k, v, g) :: itsC c r := by simp [itsC, itT]
theorem items_len (t : Tr) : (itT t).length = t.size := by
  induction t with
  | nil => rfl
  | node l k v g r ihl ihr => simp [itT, Tr.size, ihl, ihr]; omega
theorem itsC_len (c : Int) (t : Tr) : (itsC c t).length = t.size := by simp [itsC, items_len]
theorem itsC_pairs {c : Int} (h : c ≠ 4) (t : Tr) : itsC c t = t.pairs.map fun p => (p.1, p.2, 0) := by
  rw [items_pairs]
  unfold itsC itC
  simp [h]
def OkP (c : Int) (t : Tr) : Prop := (c = 1 ∧ Avl t) ∨ (c = 2 ∧ Rb t) ∨ (c = 3 ∧ Wb t) ∨ (c = 4 ∧ Tp t)
def OkM (c : Int) (t : Tr) : Prop := OkP c t ∧ (c = 2 → redR t = false)
def isS (c : Int) : Bool := decide (1 ≤ c ∧ c ≤ 4)
theorem isS_iff {c : Int} : isS c = true ↔ c = 1 ∨ c = 2 ∨ c = 3 ∨ c = 4 := by
  unfold isS; rw [decide_eq_true_iff]; omega
theorem OkP.nil {c : Int} (h : isS c = true) : OkP c .nil := by
  rcases isS_iff.1 h with rfl | rfl | rfl | rfl
  · exact .inl ⟨rfl, trivial⟩
  · exact .inr (.inl ⟨rfl, trivial⟩)
  · exact .inr (.inr (.inl ⟨rfl, trivial⟩))
  · exact .inr (.inr (.inr ⟨rfl, trivial⟩))
theorem OkM.nil {c : Int} (h : isS c = true) : OkM c .nil := ⟨.nil h, fun _ => rfl⟩
theorem OkP.s {c : Int} {t : Tr} (h : OkP c t) : isS c = true := by
  rw [isS_iff]
  rcases h with h | h | h | h
  · exact .inl h.1
  · exact .inr (.inl h.1)
  · exact .inr (.inr (.inl h.1))
  · exact .inr (.inr (.inr h.1))
theorem OkP.sides {c : Int} {l r : Tr} {k v g : Int} (h : OkP c (.node l k v g r)) : OkP c l ∧ OkP c r := by
  rcases h with ⟨e, h⟩ | ⟨e, h⟩ | ⟨e, h⟩ | ⟨e, h⟩
  · exact ⟨.inl ⟨e, h.1⟩, .inl ⟨e, h.2.1⟩⟩
  · exact ⟨.inr (.inl ⟨e, h.1⟩), .inr (.inl ⟨e, h.2.1⟩)⟩
  · exact ⟨.inr (.inr (.inl ⟨e, h.1⟩)), .inr (.inr (.inl ⟨e, h.2.1⟩))⟩
  · exact ⟨.inr (.inr (.inr ⟨e, h.1⟩)), .inr (.inr (.inr ⟨e, h.2.1⟩))⟩
def joinC (c : Int) (l : Tr) (x : It) (r : Tr) : Tr :=
  if c = 1 then joinA l x.1 x.2.1 r else if c = 2 then joinR l x.1 x.2.1 r else if c = 3 then joinW l x.1 x.2.1 r else joinT (l.size + r.size) l x.1 x.2.1 x.2.2 r
theorem joinC_ok {c : Int} {l r : Tr} (hl : OkP c l) (hr : OkP c r) (x : It) : OkM c (joinC c l x r) ∧ itsC c (joinC c l x r) = itsC c l ++ itC c x :: itsC c r := by
  obtain ⟨k, v, g⟩ := x
  rcases hl with ⟨rfl, hl⟩ | ⟨rfl, hl⟩ | ⟨rfl, hl⟩ | ⟨rfl, hl⟩
  · have hr : Avl r := by simpa [OkP] using hr
    have := joinA_ok hl hr k v
    refine ⟨⟨.inl ⟨rfl, this.1⟩, by simp⟩, ?_⟩
    have e := this.2
    rw [itsC_pairs (by decide), itsC_pairs (by decide), itsC_pairs (by decide)]
    show (joinA l k v r).pairs.map _ = _
    rw [e]; simp [itC]
  · have hr : Rb r := by simpa [OkP] using hr
    have := joinR_ok hl hr k v
    refine ⟨⟨.inr (.inl ⟨rfl, this.1⟩), fun _ => this.2.1⟩, ?_⟩
    have e := this.2.2
    rw [itsC_pairs (by decide), itsC_pairs (by decide), itsC_pairs (by decide)]
    show (joinR l k v r).pairs.map _ = _
    rw [e]; simp [itC]
  · have hr : Wb r := by simpa [OkP] using hr
    have := joinW_ok hl hr k v
    refine ⟨⟨.inr (.inr (.inl ⟨rfl, this.1⟩)), by simp⟩, ?_⟩
    have e := this.2
    rw [itsC_pairs (by decide), itsC_pairs (by decide), itsC_pairs (by decide)]
    show (joinW l k v r).pairs.map _ = _
    rw [e]; simp [itC]
  · have hr : Tp r := by simpa [OkP] using hr
    have := joinT_ok (l.size + r.size) k v g (Nat.le_refl _) hl hr
    refine ⟨⟨.inr (.inr (.inr ⟨rfl, this.tp⟩)), by simp⟩, ?_⟩
    show (itT (joinT (l.size + r.size) l k v g r)).map _ = _
    rw [this.items]; simp [itsC]
theorem joinC_size {c : Int} {l r : Tr} (hl : OkP c l) (hr : OkP c r) (x : It) : (joinC c l x r).size = l.size + 1 + r.size := by
  have := congrArg List.length (joinC_ok hl hr x).2
  simp only [itsC_len, List.length_append, List.length_cons] at this
  omega
def wholeC (c : Int) (t : Tr) : Tr := if c = 2 then blkR t else t
theorem wholeC_ok {c : Int} {t : Tr} (h : OkP c t) : OkM c (wholeC c t) ∧ itsC c (wholeC c t) = itsC c t := by
  unfold wholeC
  split
  · rename_i e; subst e
    have h : Rb t := by simpa [OkP] using h
    have := blkR_ok h
    refine ⟨⟨.inr (.inl ⟨rfl, this.1⟩), fun _ => this.2.1⟩, ?_⟩
    rw [itsC_pairs (by decide), itsC_pairs (by decide), blkR_pairs]
  · rename_i e
    exact ⟨⟨h, fun e' => absurd e' e⟩, rfl⟩
theorem wholeC_size {c : Int} {t : Tr} (h : OkP c t) : (wholeC c t).size = t.size := by
  rw [← itsC_len c, ← itsC_len c t, (wholeC_ok h).2]
/-! ### parted -/
def rootC (c : Int) (t : Tr) : It := if t.nn then itC c (t.key, t.val, t.tag) else (0, 0, 0)
def splitC (c o key : Int) : Tr → Tr × Option It × Tr
  | .nil => (.nil, none, .nil)
  | .node l k v g r =>
    if cmpI o k key < 0 then (joinC c l (itC c (k, v, g)) (splitC c o key r).1, (splitC c o key r).2.1, (splitC c o key r).2.2)
    else if 0 < cmpI o k key then ((splitC c o key l).1, (splitC c o key l).2.1, joinC c (splitC c o key l).2.2 (itC c (k, v, g)) r)
    else (wholeC c l, some (itC c (k, v, g)), wholeC c r)
abbrev asc (o : Int) (l : List It) : Prop := (l.map (·.1)).Pairwise (ltO o)
def ltF (o key : Int) (l : List It) : List It := l.filter fun x => decide (cmpI o x.1 key < 0)
def eqF (o key : Int) (l : List It) : List It := l.filter fun x => decide (cmpI o x.1 key = 0)
def gtF (o key : Int) (l : List It) : List It := l.filter fun x => decide (0 < cmpI o x.1 key)
theorem cmpI_eqr {o a b c : Int} (h1 : cmpI o a b < 0) (h2 : cmpI o b c = 0) : cmpI o a c < 0 := by
  unfold cmpI at *
  split at h1
  · rename_i h
    rw [if_pos h] at h2 ⊢
    split at h1
    · split at h2
      · omega
      · split at h2
        · omega
        · rw [if_pos (by omega)]; omega
    · split at h1 <;> omega
  · omega
theorem cmpI_eql {o a b c : Int} (h1 : cmpI o a b < 0) (h2 : cmpI o a c = 0) : 0 < cmpI o b c := by
  unfold cmpI at *
  split at h1
  · rename_i h
    rw [if_pos h] at h2 ⊢
    split at h1
    · split at h2
      · omega
      · split at h2
        · omega
        · rw [if_neg (by omega), if_pos (by omega)]; omega
    · split at h1 <;> omega
  · omega
theorem asc_node {o c : Int} {l r : Tr} {k v g : Int} (h : asc o (itsC c (.node l k v g r))) : asc o (itsC c l) ∧ asc o (itsC c r) ∧ (∀ x ∈ itsC c l, cmpI o x.1 k < 0) ∧ (∀ x ∈ itsC c r, cmpI o k x.1 < 0) := by
  rw [itsC_node] at h
  unfold asc at h ⊢
  simp only [List.map_append, List.map_cons, List.pairwise_append, List.pairwise_cons, itC_key, List.mem_map, List.mem_cons] at h
  refine ⟨h.1, h.2.1.2, fun x hx => h.2.2 _ ⟨x, hx, rfl⟩ _ (.inl rfl), fun x hx => h.2.1.1 _ ⟨x, hx, rfl⟩⟩
theorem filt_all {p : It → Bool} {l : List It} (h : ∀ x ∈ l, p x = true) : l.filter p = l := List.filter_eq_self.2 h
theorem filt_no {p : It → Bool} {l : List It} (h : ∀ x ∈ l, p x = false) : l.filter p = [] := List.filter_eq_nil_iff.2 fun x hx => by simp [h x hx]
structure SplitOk (c o key : Int) (l : List It) (s : Tr × Option It × Tr) : Prop where
  okl : OkM c s.1
  okr : OkM c s.2.2
  lt : itsC c s.1 = ltF o key l
  eq : s.2.1.toList = eqF o key l
  gt : itsC c s.2.2 = gtF o key l
theorem splitC_ok {c o key : Int} : ∀ {t : Tr}, OkP c t → asc o (itsC c t) → SplitOk c o key (itsC c t) (splitC c o key t)
  | .nil, h, _ => ⟨.nil h.s, .nil h.s, rfl, rfl, rfl⟩
  | .node l k v g r, h, ha => by
    obtain ⟨hl, hr⟩ := h.sides
    obtain ⟨al, ar, bl, br⟩ := asc_node ha
    have IL := splitC_ok (key := key) hl al
    have IR := splitC_ok (key := key) hr ar
    unfold splitC
    split
    · rename_i h1
      have j := joinC_ok hl IR.okl.1 (itC c (k, v, g))
      have e1 : ∀ x ∈ itsC c l, cmpI o x.1 key < 0 := fun x hx => cmpI_trans (bl x hx) h1
      refine ⟨j.1, IR.okr, ?_, ?_, ?_⟩
      · rw [j.2, IR.lt, itsC_node, itC_itC]
        unfold ltF
        rw [List.filter_append, List.filter_cons, filt_all (l := itsC c l) (fun x hx => decide_eq_true (e1 x hx)), itC_key, if_pos (decide_eq_true h1)]
      · rw [IR.eq, itsC_node]
        unfold eqF
        rw [List.filter_append, List.filter_cons, filt_no (l := itsC c l) (fun x hx => decide_eq_false (by have := e1 x hx; omega)), itC_key, if_neg (by simp; omega)]; rfl
      · rw [IR.gt, itsC_node]
        unfold gtF
        rw [List.filter_append, List.filter_cons, filt_no (l := itsC c l) (fun x hx => decide_eq_false (by have := e1 x hx; omega)), itC_key, if_neg (by simp; omega)]; rfl
    · rename_i h1
      split
      · rename_i h2
        have j := joinC_ok IL.okr.1 hr (itC c (k, v, g))
        have e1 : ∀ x ∈ itsC c r, 0 < cmpI o x.1 key := fun x hx => cmpI_neg (cmpI_trans (cmpI_pos h2) (br x hx))
        refine ⟨IL.okl, j.1, ?_, ?_, ?_⟩
        · rw [IL.lt, itsC_node]
          unfold ltF
          rw [List.filter_append, List.filter_cons, filt_no (l := itsC c r) (fun x hx => decide_eq_false (by have := e1 x hx; omega)), itC_key, if_neg (by simp; omega)]; simp
        · rw [IL.eq, itsC_node]
          unfold eqF
          rw [List.filter_append, List.filter_cons, filt_no (l := itsC c r) (fun x hx => decide_eq_false (by have := e1 x hx; omega)), itC_key, if_neg (by simp; omega)]; simp
        · rw [j.2, IL.gt, itsC_node, itC_itC]
          unfold gtF
          rw [List.filter_append, List.filter_cons, filt_all (l := itsC c r) (fun x hx => decide_eq_true (e1 x hx)), itC_key, if_pos (decide_eq_true h2)]
      · rename_i h2
        have h0 : cmpI o k key = 0 := by omega
        have e1 : ∀ x ∈ itsC c l, cmpI o x.1 key < 0 := fun x hx => cmpI_eqr (bl x hx) h0
        have e2 : ∀ x ∈ itsC c r, 0 < cmpI o x.1 key := fun x hx => cmpI_eql (br x hx) h0
        have wl := wholeC_ok hl
        have wr := wholeC_ok hr
        refine ⟨wl.1, wr.1, ?_, ?_, ?_⟩
        · rw [wl.2, itsC_node]
          unfold ltF
          rw [List.filter_append, List.filter_cons, filt_all (l := itsC c l) (fun x hx => decide_eq_true (e1 x hx)), filt_no (l := itsC c r) (fun x hx => decide_eq_false (by have := e2 x hx; omega)), itC_key, if_neg (by simp; omega)]; simp
        · rw [itsC_node]
          unfold eqF
          rw [List.filter_append, List.filter_cons, filt_no (l := itsC c l) (fun x hx => decide_eq_false (by have := e1 x hx; omega)), filt_no (l := itsC c r) (fun x hx => decide_eq_false (by have := e2 x hx; omega)), itC_key, if_pos (decide_eq_true h0)]; rfl
        · rw [wr.2, itsC_node]
          unfold gtF
          rw [List.filter_append, List.filter_cons, filt_no (l := itsC c l) (fun x hx => decide_eq_false (by have := e1 x hx; omega)), filt_all (l := itsC c r) (fun x hx => decide_eq_true (e2 x hx)), itC_key, if_neg (by simp; omega)]; rfl
/-! ### cut off, and two made into one -/
end Go.Proofs.YtlddfgfmkapoiaaGreat

namespace Go.Proofs.YtlddfgfmkapoiaaGreat
open Go Go.Sh

theorem o_disable (w : World) : (callFunc 353 #[]).run Tryz.prog w = .ok (.value (.tuple #[])) w := run_call_mark0 Tryz.func353 (by kernel_rfl) (by kernel_rfl) (by kernel_rfl) .disable (by kernel_rfl) w
theorem o_enable (w : World) : (callFunc 355 #[]).run Tryz.prog w = .ok (.value (.tuple #[])) w := run_call_mark0 Tryz.func355 (by kernel_rfl) (by kernel_rfl) (by kernel_rfl) .enable (by kernel_rfl) w
theorem o_acquire (a : Addr) (w : World) : (callFunc 356 #[.pointer (some a)]).run Tryz.prog w = .ok (.value (.tuple #[])) w := run_call_marked Tryz.func356 (by kernel_rfl) (by kernel_rfl) (by kernel_rfl) .acquire (by kernel_rfl) a w
theorem o_releaseMerge (a : Addr) (w : World) : (callFunc 358 #[.pointer (some a)]).run Tryz.prog w = .ok (.value (.tuple #[])) w := run_call_marked Tryz.func358 (by kernel_rfl) (by kernel_rfl) (by kernel_rfl) .releaseMerge (by kernel_rfl) a w
set_option maxRecDepth 100000 in
set_option maxHeartbeats 1600000 in
/-- the store, as a deferred call -/
theorem o_store (a : Addr) (x : Value) (u : FrameMode) (w : World) (hc : w.cell? a = some x) (hz : w.frozen? a = false) :
    CallsD Tryz.prog 338 #[.pointer (some a), .bool true] u w fun e u' w' => u' = u ∧ (e = .returned (.tuple #[]) ∧ w' = w.drew.setCell a (.int .u32 1)) := by
  have hc' : w.drew.cell? a = some x := by go_simp
  have hz' : w.drew.frozen? a = false := by go_simp
  have hst := run_call_store (P := Tryz.prog) Tryz.func350 (by kernel_rfl) (by kernel_rfl) (by kernel_rfl) (by kernel_rfl) (k := .u32) (y := 1) hc' hz'
  go_enter_d Tryz.func338, Tryz.ntmps338
  go_wp2
  go_region_calls
  all_goals (go_end0; exact ⟨rfl, rfl⟩)
set_option maxRecDepth 100000 in
set_option maxHeartbeats 1600000 in
/-- the unlock, as a deferred call -/
theorem o_unlock (a : Addr) (u : FrameMode) (w : World) (hc : w.cell? a = some (.int .i32 1)) (hz : w.frozen? a = false) :
    CallsD Tryz.prog 337 #[.pointer (some a)] u w fun e u' w' => u' = u ∧ (e = .returned (.tuple #[]) ∧ w' = w.setCell a (.int .i32 0)) := by
  have hd := o_disable
  have he := o_enable
  have hr := o_releaseMerge
  have hadd := run_call_add (P := Tryz.prog) Tryz.func359 (by kernel_rfl) (by kernel_rfl) (by kernel_rfl) .i32 (by kernel_rfl) (y := -1) (s := 0) hc hz (by simp [go_sem]; rfl)
  have hcv := run_convert_to_unsafe (P := Tryz.prog) (src := 382) (dst := 386) Tryz.underlying382 Tryz.underlying386 (by kernel_rfl) hc
  go_enter_d Tryz.func337, Tryz.ntmps337
  go_wp2
  go_end0
  go_wp2
  go_end0
  exact ⟨rfl, rfl⟩
set_option maxRecDepth 100000 in
set_option maxHeartbeats 1600000 in
theorem o_lock (a : Addr) (w : World) (hc : w.cell? a = some (.int .i32 0)) (hz : w.frozen? a = false) :
    Calls Tryz.prog 336 #[.pointer (some a)] w fun e w' => e = .returned (.tuple #[]) ∧ w' = w.setCell a (.int .i32 1) := by
  have hd := o_disable
  have he := o_enable
  have ha := o_acquire
  have hcas := run_call_cas_hit (P := Tryz.prog) Tryz.func354 (by kernel_rfl) (by kernel_rfl) (by kernel_rfl) .i32 (by kernel_rfl) (y := 1) hc hz
  have hc' : (w.setCell a (.int .i32 1)).cell? a = some (.int .i32 1) := World.cell?_setCell_same w a _ hc
  have hcv := run_convert_to_unsafe (P := Tryz.prog) (src := 382) (dst := 386) Tryz.underlying382 Tryz.underlying386 (by kernel_rfl) hc'
  go_enter Tryz.func336, Tryz.ntmps336
  go_wp2
  first | go_end0 | (simp only [Exit.inBlock, Exit.then]; refine bodyPost_ret (results_none rfl _ _ _) rfl ?_) | refine bodyPost_ret (results_none rfl _ _ _) rfl ?_
  go_wp2
  go_end0
  exact ⟨rfl, rfl⟩
end Go.Proofs.YtlddfgfmkapoiaaGreat

namespace Go.Proofs.YtlddfgfmkapoiaaGreat
open Go Go.Sh

/-- what the function that is done once finds, and leaves -/
structure OnceQ (b off : Nat) (w : World) : Prop where
  c0 : w.cell? ⟨b, off, none⟩ = some (.int .u32 0)
  c1 : w.cell? ⟨b, off + 1, none⟩ = some (.int .i32 1)
  f0 : w.frozen? ⟨b, off, none⟩ = false
  f1 : w.frozen? ⟨b, off + 1, none⟩ = false
set_option maxRecDepth 100000 in
set_option maxHeartbeats 1600000 in
theorem o_slow (b off : Nat) (pl : Addr) (w : World) (Q : World → Prop)
    (h0 : w.cell? ⟨b, off, none⟩ = some (.int .u32 0)) (h1 : w.cell? ⟨b, off + 1, none⟩ = some (.int .i32 0)) (_f0 : w.frozen? ⟨b, off, none⟩ = false) (f1 : w.frozen? ⟨b, off + 1, none⟩ = false)
    (hf : Calls Tryz.prog 245 #[.pointer (some pl)] (w.setCell ⟨b, off + 1, none⟩ (.int .i32 1)) fun e w2 => e = .returned (.tuple #[]) ∧ Q w2) (hQ : ∀ w2, Q w2 → OnceQ b off w2) :
    Calls Tryz.prog 304 #[.pointer (some ⟨b, off, none⟩), .func (.func 245) #[] #[.pointer (some pl)]] w fun e w' => e = .returned (.tuple #[]) ∧
      ∃ w2, Q w2 ∧ w' = (w2.drew.setCell ⟨b, off, none⟩ (.int .u32 1)).setCell ⟨b, off + 1, none⟩ (.int .i32 0) := by
  have hl := run_call_load (P := Tryz.prog) Tryz.func335 (by kernel_rfl) (by kernel_rfl) (by kernel_rfl) .u32 (by kernel_rfl) (w := w.setCell ⟨b, off + 1, none⟩ (.int .i32 1)) (a := ⟨b, off, none⟩) (x := 0) ((World.cell?_setCell_other _ ⟨b, off + 1, none⟩ ⟨b, off, none⟩ _ (by simp)).trans h0)
  have hnot : ∀ (x : Bool) (w : World), (Op.unary .not (.bool x)).run Tryz.prog w = .ok (.bool (!x)) w := fun _ _ => rfl
  go_enter_defers Tryz.func304, Tryz.ntmps304
  go_wp2_with (first | (go_at_call 336; refine (o_lock ⟨b, off + 1, none⟩ _ (by go_simp) (by go_simp)).mono ?_; rintro e w' ⟨rfl, rfl⟩) | (go_at_call 245; refine hf.mono ?_; rintro e w2 ⟨rfl, hw2⟩) | (go_at_call 303; go_in))
  obtain ⟨q0, q1, g0, g1⟩ := hQ w2 hw2
  show Leaves _ _ _ _ _ _ _
  refine leaves_cons (f := 338) (args := #[.pointer (some ⟨b, off, none⟩), .bool true]) (by simp) (by simp [go_sem]) ?_
  refine (o_store ⟨b, off, none⟩ (.int .u32 0) .returning _ q0 g0).mono ?_
  rintro e u' w'' ⟨rfl, rfl, rfl⟩
  refine leaves_cons (f := 337) (args := #[.pointer (some ⟨b, off + 1, none⟩)]) (by simp [settle]) (by simp [go_sem]) ?_
  refine (o_unlock ⟨b, off + 1, none⟩ _ _ ?_ (by simp [g1])).mono ?_
  · refine (World.cell?_setCell_other _ ⟨b, off, none⟩ ⟨b, off + 1, none⟩ _ (by simp)).trans ?_
    rw [World.cell?_drew]
    exact q1
  rintro e u' w'' ⟨rfl, rfl, rfl⟩
  simp [Leaves, settle, results, Tryz.results304]
  exact ⟨w2, hw2, rfl⟩
set_option maxRecDepth 100000 in
set_option maxHeartbeats 1600000 in
/-- not yet done -/
theorem o_first (b off : Nat) (pl : Addr) (w : World) (Q : World → Prop)
    (h0 : w.cell? ⟨b, off, none⟩ = some (.int .u32 0)) (h1 : w.cell? ⟨b, off + 1, none⟩ = some (.int .i32 0)) (f0 : w.frozen? ⟨b, off, none⟩ = false) (f1 : w.frozen? ⟨b, off + 1, none⟩ = false)
    (hf : Calls Tryz.prog 245 #[.pointer (some pl)] (w.setCell ⟨b, off + 1, none⟩ (.int .i32 1)) fun e w2 => e = .returned (.tuple #[]) ∧ Q w2) (hQ : ∀ w2, Q w2 → OnceQ b off w2) :
    Calls Tryz.prog 244 #[.pointer (some ⟨b, off, none⟩), .func (.func 245) #[] #[.pointer (some pl)]] w fun e w' => e = .returned (.tuple #[]) ∧
      ∃ w2, Q w2 ∧ w' = (w2.drew.setCell ⟨b, off, none⟩ (.int .u32 1)).setCell ⟨b, off + 1, none⟩ (.int .i32 0) := by
  have hl := run_call_load (P := Tryz.prog) Tryz.func335 (by kernel_rfl) (by kernel_rfl) (by kernel_rfl) .u32 (by kernel_rfl) h0
  have hnot : ∀ (x : Bool) (w : World), (Op.unary .not (.bool x)).run Tryz.prog w = .ok (.bool (!x)) w := fun _ _ => rfl
  go_enter Tryz.func244, Tryz.ntmps244
  go_wp2_with (first | (go_at_call 304; refine (o_slow b off pl _ Q h0 h1 f0 f1 hf hQ).mono ?_; rintro e w' ⟨rfl, w2, hw2, rfl⟩) | (go_at_call 303; go_in))
  go_end0
  exact ⟨rfl, w2, hw2, rfl⟩
set_option maxRecDepth 100000 in
set_option maxHeartbeats 1600000 in
/-- done already -/
theorem o_done (a : Addr) (fv : Value) (w : World) (h0 : w.cell? a = some (.int .u32 1)) :
    Calls Tryz.prog 244 #[.pointer (some a), fv] w fun e w' => e = .returned (.tuple #[]) ∧ w' = w := by
  have hl := run_call_load (P := Tryz.prog) Tryz.func335 (by kernel_rfl) (by kernel_rfl) (by kernel_rfl) .u32 (by kernel_rfl) h0
  have hnot : ∀ (x : Bool) (w : World), (Op.unary .not (.bool x)).run Tryz.prog w = .ok (.bool (!x)) w := fun _ _ => rfl
  go_enter Tryz.func244, Tryz.ntmps244
  go_wp2
  go_end0
  exact ⟨rfl, rfl⟩
/-- the count of joins -/
theorem o_add {a : Addr} {x : Int} {w : World} {R : Ending → World → Prop} (hc : w.cell? a = some (.int .u64 x)) (hz : w.frozen? a = false) (h : R (.returned (.int .u64 (IntKind.wrap .u64 (x + 1)))) (w.setCell a (.int .u64 (IntKind.wrap .u64 (x + 1))))) :
    doCall Tryz.prog (.func (.func 243) #[] #[]) #[.pointer (some a), .int .u64 1] w R := by
  refine ⟨?_⟩
  have hadd := run_call_add (P := Tryz.prog) Tryz.func243 (by kernel_rfl) (by kernel_rfl) (by kernel_rfl) .u64 (by kernel_rfl) (y := 1) (s := IntKind.wrap .u64 (x + 1)) hc hz (by simp [go_sem])
  have e : (invoke (.fn (.func 243) #[]) (#[] ++ #[.pointer (some a), .int .u64 1])).run Tryz.prog w = .ok (.value (.int .u64 (IntKind.wrap .u64 (x + 1)))) (w.setCell a (.int .u64 (IntKind.wrap .u64 (x + 1)))) := by
    simp only [invoke]
    simpa using hadd
  unfold callV goV
  simp only [e]
  exact h
end Go.Proofs.YtlddfgfmkapoiaaGreat

namespace Go.Proofs.YtlddfgfmkapoiaaGreat
open Go Go.Sh Go.RowKit

theorem do_maxk {P : Program} {ts : Array TypeId} {ty : TypeId} {bs : Array Bool} {kk : IntKind} {a b : Int} {w : World} {R : Ending → World → Prop} (h : R (.returned (.int kk (max a b))) w) :
    doGo P (.builtin .max ts ty bs) #[.int kk a, .int kk b] w R := by
  refine ⟨?_⟩
  unfold goV
  have e : max a b = (if b > a then b else a) := by omega
  have hr : (Builtin.max_ ts ty #[.int kk a, .int kk b]).run P w = .ok (.int kk (max a b)) w := by rw [e]; simp [Builtin.max_, Builtin.max2]
  simp only [invoke, builtin, Sem.run_bind, hr, Result.andThen_ok, Sem.run_pure]
  exact h
theorem do_mink {P : Program} {ts : Array TypeId} {ty : TypeId} {bs : Array Bool} {kk : IntKind} {a b : Int} {w : World} {R : Ending → World → Prop} (h : R (.returned (.int kk (min a b))) w) :
    doGo P (.builtin .min ts ty bs) #[.int kk a, .int kk b] w R := by
  refine ⟨?_⟩
  unfold goV
  have e : min a b = (if b < a then b else a) := by omega
  have hr : (Builtin.min_ ts ty #[.int kk a, .int kk b]).run P w = .ok (.int kk (min a b)) w := by rw [e]; simp [Builtin.min_, Builtin.min2]
  simp only [invoke, builtin, Sem.run_bind, hr, Result.andThen_ok, Sem.run_pure]
  exact h
theorem wrapU_of {x : Int} (h1 : 0 ≤ x) (h2 : x < 18446744073709551616) : IntKind.wrap .u64 x = x := by
  simp only [IntKind.wrap, IntKind.signed, IntKind.bits]
  simp
  omega
abbrev BIG : Nat := 1000000000000
theorem c_arank {p : Option Addr} {t : Tr} {w : World} {R : Ending → World → Prop} (ht : IsN w p t) (h1 : 0 ≤ t.tag) (h2 : t.tag ≤ BIG) (h : ∀ w', Ext w w' → R (.returned (.int .i64 t.tag)) w') : Calls Tryz.prog 221 #[.pointer p] w R := by
  refine sh221_ok _ ?_
  unfold sh221
  refine do_call Tryz.call196 (c_tag ht fun w1 e1 => retS_ret ⟨_, rfl, ?_⟩)
  rw [wrap_of (by omega) (by simp only [BIG] at h2; omega)]
  exact h _ e1
theorem c_amake {pl pr : Option Addr} {l r : Tr} {k v : Int} {w : World} {R : Ending → World → Prop} (hl : IsN w pl l) (hr : IsN w pr r) (hs : l.size + 1 + r.size ≤ BIG) (t1 : 0 ≤ l.tag ∧ l.tag ≤ BIG) (t2 : 0 ≤ r.tag ∧ r.tag ≤ BIG)
    (h : ∀ q w', Ext w w' → IsN w' q (mkA l k v r) → R (.returned (.pointer q)) w') : Calls Tryz.prog 265 #[.pointer pl, .int .i64 k, .int .i64 v, .pointer pr] w R := by
  refine sh265_ok _ _ _ _ ?_
  unfold sh265
  simp only [BIG] at hs t1 t2
  refine do_call Tryz.call196 (c_tag hl fun w1 e1 => retS_ret ⟨_, rfl, ?_⟩)
  refine do_call Tryz.call196 (c_tag (hr.ext e1) fun w2 e2 => retS_ret ⟨_, rfl, ?_⟩)
  have E2 := e1.trans e2
  refine do_maxk (retS_ret ⟨_, rfl, ?_⟩)
  rw [wrapU_of (by omega) (by omega)]
  exact do_call Tryz.call105 (c_new (hl.ext E2) (hr.ext E2) (by omega) fun b w3 e3 h3 _ => retS_ret ⟨_, rfl, h _ _ (E2.trans e3) h3⟩)
/-! ### sides -/
def inF (s : Bool) : Nat := cond s 123 125
def outF (s : Bool) : Nat := cond s 125 123
def mkFA (s : Bool) : Nat := cond s 309 312
theorem do_in (s : Bool) {p : Option Addr} {t : Tr} {w : World} {R : Ending → World → Prop} (ht : IsN w p t) (h : ∀ q, IsN w q (inS s t) → R (.returned (.pointer q)) w) : doCall Tryz.prog (.func (.func (inF s)) #[] #[]) #[.pointer p] w R := by
  cases s
  · exact do_call Tryz.call125 (c_right ht h)
  · exact do_call Tryz.call123 (c_left ht h)
theorem do_out (s : Bool) {p : Option Addr} {t : Tr} {w : World} {R : Ending → World → Prop} (ht : IsN w p t) (h : ∀ q, IsN w q (outS s t) → R (.returned (.pointer q)) w) : doCall Tryz.prog (.func (.func (outF s)) #[] #[]) #[.pointer p] w R := by
  cases s
  · exact do_call Tryz.call123 (c_left ht h)
  · exact do_call Tryz.call125 (c_right ht h)
theorem do_mkA (s : Bool) {pi pp po : Option Addr} {i o pr : Tr} {w : World} {R : Ending → World → Prop} (hi : IsN w pi i) (hp : IsN w pp pr) (ho : IsN w po o) (hs : i.size + 1 + o.size ≤ BIG) (t1 : 0 ≤ i.tag ∧ i.tag ≤ BIG) (t2 : 0 ≤ o.tag ∧ o.tag ≤ BIG)
    (h : ∀ q w', Ext w w' → IsN w' q (mkAS s i pr.key pr.val o) → R (.returned (.pointer q)) w') : doCall Tryz.prog (.func (.func (mkFA s)) #[] #[]) #[.pointer pi, .pointer pp, .pointer po] w R := by
  cases s
  · refine do_call Tryz.call312 (sh312_ok _ _ _ ?_)
    unfold sh312
    refine do_call Tryz.call108 (c_key hp fun w1 e1 => retS_ret ⟨_, rfl, ?_⟩)
    refine do_call Tryz.call126 (c_val (hp.ext e1) fun w2 e2 => retS_ret ⟨_, rfl, ?_⟩)
    have E2 := e1.trans e2
    exact do_call Tryz.call265 (c_amake (ho.ext E2) (hi.ext E2) (by omega) t2 t1 fun q w3 e3 h3 => retS_ret ⟨_, rfl, h _ _ (E2.trans e3) h3⟩)
  · refine do_call Tryz.call309 (sh309_ok _ _ _ ?_)
    unfold sh309
    refine do_call Tryz.call108 (c_key hp fun w1 e1 => retS_ret ⟨_, rfl, ?_⟩)
    refine do_call Tryz.call126 (c_val (hp.ext e1) fun w2 e2 => retS_ret ⟨_, rfl, ?_⟩)
    have E2 := e1.trans e2
    exact do_call Tryz.call265 (c_amake (hi.ext E2) (ho.ext E2) hs t1 t2 fun q w3 e3 h3 => retS_ret ⟨_, rfl, h _ _ (E2.trans e3) h3⟩)
abbrev sideA (s : Bool) : Value := .agg #[.func (.func (inF s)) #[] #[], .func (.func (outF s)) #[] #[], .func (.func (mkFA s)) #[] #[]]
abbrev sideAc (s : Bool) : Array Value := #[.func (.func (inF s)) #[] #[], .func (.func (outF s)) #[] #[], .func (.func (mkFA s)) #[] #[]]
theorem do_st3 {w : World} {b : Nat} {v0 v1 v2 x0 x1 x2 : Value} {t : TypeId} (h : Blk w b #[v0, v1, v2] t) {K : World → Prop} (k : ∀ w', Blk w' b #[x0, x1, x2] t → w.grownBy w' (some b) → K w') :
    doSt ((blk b).add 0) x0 w fun w1 => doSt ((blk b).add 1) x1 w1 fun w2 => doSt ((blk b).add 2) x2 w2 K := by
  refine do_st h (i := 0) (add_blk b 0) (by simp) fun w1 h1 g1 => ?_
  have k1 : Blk w1 b #[x0, v1, v2] t := h1
  refine do_st k1 (i := 1) (add_blk b 1) (by simp) fun w2 h2 g2 => ?_
  have k2 : Blk w2 b #[x0, x1, v2] t := h2
  refine do_st k2 (i := 2) (add_blk b 2) (by simp) fun w3 h3 g3 => ?_
  exact k _ h3 (grown_trans (grown_trans g1 g2) g3)
theorem c_aside (s : Bool) {w : World} {R : Ending → World → Prop} (h : ∀ w', Ext w w' → R (.returned (sideA s)) w') : doCall Tryz.prog (.func (.func (cond s 266 268)) #[] #[]) #[] w R := by
  cases s
  · refine do_call Tryz.call268 (sh268_ok ?_)
    unfold sh268
    refine ⟨do_st3 (blk_alloc w _ _) fun w1 h1 g1 => ?_⟩
    exact ⟨_, _, _, h1.cell (i := 0) (add_blk _ _) rfl, _, _, _, h1.cell (i := 1) (add_blk _ _) rfl, _, _, _, h1.cell (i := 2) (add_blk _ _) rfl, h _ ((ext_alloc w _).st g1 (Nat.le_refl _))⟩
  · refine do_call Tryz.call266 (sh266_ok ?_)
    unfold sh266
    refine ⟨do_st3 (blk_alloc w _ _) fun w1 h1 g1 => ?_⟩
    exact ⟨_, _, _, h1.cell (i := 0) (add_blk _ _) rfl, _, _, _, h1.cell (i := 1) (add_blk _ _) rfl, _, _, _, h1.cell (i := 2) (add_blk _ _) rfl, h _ ((ext_alloc w _).st g1 (Nat.le_refl _))⟩
/-- heights that are not too large -/
abbrev Tg (t : Tr) : Prop := 0 ≤ t.tag ∧ t.tag ≤ BIG
theorem mkAS_size (s : Bool) (i o : Tr) (k v : Int) : (mkAS s i k v o).size = i.size + 1 + o.size := by cases s <;> simp [mkAS, mkA, Tr.size] <;> omega
theorem c_inward (s : Bool) {p : Option Addr} {t : Tr} {w : World} {R : Ending → World → Prop} (ht : IsN w p t) (hs : (inS s t).size + 1 + ((inS s (outS s t)).size + 1 + (outS s (outS s t)).size) + 1 ≤ BIG)
    (t1 : Tg (inS s t)) (t2 : Tg (inS s (outS s t))) (t3 : Tg (outS s (outS s t))) (t4 : max (inS s t).tag (inS s (outS s t)).tag + 1 ≤ BIG)
    (h : ∀ q w', Ext w w' → IsN w' q (inwardA s t) → R (.returned (.pointer q)) w') : Calls Tryz.prog 310 #[sideA s, .pointer p] w R := by
  refine sh310_ok _ _ _ _ _ _ _ _ _ _ ?_
  unfold sh310
  refine ⟨?_⟩
  have e1 := ext_alloc w (.cells (sideAc s) 331)
  have hb := blk_alloc w (sideAc s) 331
  generalize w.alloc (.cells (sideAc s) 331) = w1 at *
  refine ⟨_, _, _, hb.cell (i := 1) (add_blk _ _) rfl, do_out s (ht.ext e1) fun qu hu => retS_ret ⟨_, rfl, ?_⟩⟩
  refine ⟨⟨fun w' => Ext w1 w', ext_drew _, _, _, _, fun w' e => (hb.ext e).cell (i := 2) (add_blk _ _) rfl, _, _, _, fun w' e => (hb.ext e).cell (i := 2) (add_blk _ _) rfl, _, _, _, fun w' e => (hb.ext e).cell (i := 0) (add_blk _ _) rfl, _, _, _, fun w' e => (hb.ext e).cell (i := 0) (add_blk _ _) rfl, _, _, _, fun w' e => (hb.ext e).cell (i := 1) (add_blk _ _) rfl, ?_⟩⟩
  have d := ext_drew w1
  refine do_in s ((ht.ext e1).ext d) fun q1 h1 => retS_ret ⟨_, rfl, d, ?_⟩
  refine do_in s (hu.ext d) fun q2 h2 => retS_ret ⟨_, rfl, d, ?_⟩
  refine do_mkA s h1 ((ht.ext e1).ext d) h2 (by omega) t1 t2 fun q3 w3 e3 h3 => retS_ret ⟨_, rfl, d.trans e3, ?_⟩
  have E3 := d.trans e3
  refine do_out s (hu.ext E3) fun q4 h4 => retS_ret ⟨_, rfl, E3, ?_⟩
  refine do_mkA s h3 (hu.ext E3) h4 (by rw [mkAS_size]; omega) (by rw [mkAS_tag]; have := t1.1; omega) t3 fun q5 w5 e5 h5 => retS_ret ⟨_, rfl, E3.trans e5, h _ _ ((e1.trans E3).trans e5) h5⟩
theorem c_outward (s : Bool) {p : Option Addr} {t : Tr} {w : World} {R : Ending → World → Prop} (ht : IsN w p t) (hs : (outS s t).size + 1 + ((outS s (inS s t)).size + 1 + (inS s (inS s t)).size) + 1 ≤ BIG)
    (t1 : Tg (outS s t)) (t2 : Tg (outS s (inS s t))) (t3 : Tg (inS s (inS s t))) (t4 : max (outS s (inS s t)).tag (outS s t).tag + 1 ≤ BIG)
    (h : ∀ q w', Ext w w' → IsN w' q (outwardA s t) → R (.returned (.pointer q)) w') : Calls Tryz.prog 311 #[sideA s, .pointer p] w R := by
  refine sh311_ok _ _ _ _ _ _ _ _ _ _ ?_
  unfold sh311
  refine ⟨?_⟩
  have e1 := ext_alloc w (.cells (sideAc s) 331)
  have hb := blk_alloc w (sideAc s) 331
  generalize w.alloc (.cells (sideAc s) 331) = w1 at *
  refine ⟨_, _, _, hb.cell (i := 0) (add_blk _ _) rfl, do_in s (ht.ext e1) fun qu hu => retS_ret ⟨_, rfl, ?_⟩⟩
  refine ⟨⟨fun w' => Ext w1 w', ext_drew _, _, _, _, fun w' e => (hb.ext e).cell (i := 2) (add_blk _ _) rfl, _, _, _, fun w' e => (hb.ext e).cell (i := 0) (add_blk _ _) rfl, _, _, _, fun w' e => (hb.ext e).cell (i := 2) (add_blk _ _) rfl, _, _, _, fun w' e => (hb.ext e).cell (i := 1) (add_blk _ _) rfl, _, _, _, fun w' e => (hb.ext e).cell (i := 1) (add_blk _ _) rfl, ?_⟩⟩
  have d := ext_drew w1
  refine do_in s (hu.ext d) fun q1 h1 => retS_ret ⟨_, rfl, d, ?_⟩
  refine do_out s (hu.ext d) fun q2 h2 => retS_ret ⟨_, rfl, d, ?_⟩
  refine do_out s ((ht.ext e1).ext d) fun q3 h3 => retS_ret ⟨_, rfl, d, ?_⟩
  refine do_mkA s h2 ((ht.ext e1).ext d) h3 (by omega) t2 t1 fun q4 w4 e4 h4 => retS_ret ⟨_, rfl, d.trans e4, ?_⟩
  have E4 := d.trans e4
  refine do_mkA s (h1.ext e4) (hu.ext E4) h4 (by rw [mkAS_size]; omega) t3 (by rw [mkAS_tag]; have := t1.1; omega) fun q5 w5 e5 h5 => retS_ret ⟨_, rfl, E4.trans e5, h _ _ ((e1.trans E4).trans e5) h5⟩
end Go.Proofs.YtlddfgfmkapoiaaGreat

