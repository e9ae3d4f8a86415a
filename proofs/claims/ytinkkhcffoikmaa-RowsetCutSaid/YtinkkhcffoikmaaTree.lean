/-
  What the functions of node do, and those of joineryref09 and joinerylaw09 that make trees of beads.
-/
import Derived.Test.YtinkkhcffoikmaaRow4
import Derived.Test.YtinkkhcffoikmaaTr
namespace Go.Proofs.Ytinkkhcffoikmaa
open Go Go.Sh Go.RowKit

abbrev IsN (w : World) (p : Option Addr) (t : Tr) : Prop := IsT 133 w p t
set_option maxRecDepth 100000 in
theorem elB : ElT Try.prog 22 88 (.agg #[.int .i64 0, .int .i64 0, .int .i64 0, .int .i64 0, .int .u64 0, .bool false, .bool false]) 7 48 := ⟨Try.underlying22, ⟨_, Try.type88, by kernel_rfl, by kernel_rfl, by kernel_rfl⟩, rfl, by omega⟩
/-! ### Nodes -/
def keptV (t : Tr) : Value := .agg #[.int .i64 t.key, .int .i64 t.val, .int .i64 t.sum, .int .u64 t.tag, .int .i64 (t.size : Nat)]
theorem do_st5 {w : World} {b : Nat} {v0 v1 v2 v3 v4 x0 x1 x2 x3 x4 : Value} {t : TypeId} (h : Blk w b #[v0, v1, v2, v3, v4] t) {K : World → Prop} (k : ∀ w', Blk w' b #[x0, x1, x2, x3, x4] t → w.grownBy w' (some b) → K w') :
    doSt ((blk b).add 0) x0 w fun w1 => doSt ((blk b).add 1) x1 w1 fun w2 => doSt ((blk b).add 2) x2 w2 fun w3 => doSt ((blk b).add 3) x3 w3 fun w4 => doSt ((blk b).add 4) x4 w4 K := by
  refine do_st h (i := 0) (add_blk b 0) (by simp) fun w1 h1 g1 => ?_
  have k1 : Blk w1 b #[x0, v1, v2, v3, v4] t := h1
  have e1 := g1
  refine do_st k1 (i := 1) (add_blk b 1) (by simp) fun w2 h2 g2 => ?_
  have k2 : Blk w2 b #[x0, x1, v2, v3, v4] t := h2
  have e2 := grown_trans e1 g2
  refine do_st k2 (i := 2) (add_blk b 2) (by simp) fun w3 h3 g3 => ?_
  have k3 : Blk w3 b #[x0, x1, x2, v3, v4] t := h3
  have e3 := grown_trans e2 g3
  refine do_st k3 (i := 3) (add_blk b 3) (by simp) fun w4 h4 g4 => ?_
  have k4 : Blk w4 b #[x0, x1, x2, x3, v4] t := h4
  have e4 := grown_trans e3 g4
  refine do_st k4 (i := 4) (add_blk b 4) (by simp) fun w5 h5 g5 => ?_
  have k5 : Blk w5 b #[x0, x1, x2, x3, x4] t := h5
  have e5 := grown_trans e4 g5
  exact k _ k5 e5
theorem do_st7 {w : World} {b : Nat} {v0 v1 v2 v3 v4 v5 v6 x0 x1 x2 x3 x4 x5 x6 : Value} {t : TypeId} (h : Blk w b #[v0, v1, v2, v3, v4, v5, v6] t) {K : World → Prop} (k : ∀ w', Blk w' b #[x0, x1, x2, x3, x4, x5, x6] t → w.grownBy w' (some b) → K w') :
    doSt ((blk b).add 0) x0 w fun w1 => doSt ((blk b).add 1) x1 w1 fun w2 => doSt ((blk b).add 2) x2 w2 fun w3 => doSt ((blk b).add 3) x3 w3 fun w4 => doSt ((blk b).add 4) x4 w4 fun w5 => doSt ((blk b).add 5) x5 w5 fun w6 => doSt ((blk b).add 6) x6 w6 K := by
  refine do_st h (i := 0) (add_blk b 0) (by simp) fun w1 h1 g1 => ?_
  have k1 : Blk w1 b #[x0, v1, v2, v3, v4, v5, v6] t := h1
  have e1 := g1
  refine do_st k1 (i := 1) (add_blk b 1) (by simp) fun w2 h2 g2 => ?_
  have k2 : Blk w2 b #[x0, x1, v2, v3, v4, v5, v6] t := h2
  have e2 := grown_trans e1 g2
  refine do_st k2 (i := 2) (add_blk b 2) (by simp) fun w3 h3 g3 => ?_
  have k3 : Blk w3 b #[x0, x1, x2, v3, v4, v5, v6] t := h3
  have e3 := grown_trans e2 g3
  refine do_st k3 (i := 3) (add_blk b 3) (by simp) fun w4 h4 g4 => ?_
  have k4 : Blk w4 b #[x0, x1, x2, x3, v4, v5, v6] t := h4
  have e4 := grown_trans e3 g4
  refine do_st k4 (i := 4) (add_blk b 4) (by simp) fun w5 h5 g5 => ?_
  have k5 : Blk w5 b #[x0, x1, x2, x3, x4, v5, v6] t := h5
  have e5 := grown_trans e4 g5
  refine do_st k5 (i := 5) (add_blk b 5) (by simp) fun w6 h6 g6 => ?_
  have k6 : Blk w6 b #[x0, x1, x2, x3, x4, x5, v6] t := h6
  have e6 := grown_trans e5 g6
  refine do_st k6 (i := 6) (add_blk b 6) (by simp) fun w7 h7 g7 => ?_
  have k7 : Blk w7 b #[x0, x1, x2, x3, x4, x5, x6] t := h7
  have e7 := grown_trans e6 g7
  exact k _ k7 e7
theorem c_of {p : Option Addr} {t : Tr} {w : World} {R : Ending → World → Prop} (ht : IsN w p t) (h : ∀ w', Ext w w' → R (.returned (keptV t)) w') : Calls Try.prog 113 #[.pointer p] w R := by
  refine sh113_ok _ ?_
  unfold sh113
  refine ⟨?_⟩
  have e1 := ext_alloc w (.cells #[.int .i64 0, .int .i64 0, .int .i64 0, .int .u64 0, .int .i64 0] 131)
  have hb := blk_alloc w #[.int .i64 0, .int .i64 0, .int .i64 0, .int .u64 0, .int .i64 0] 131
  cases t with
  | nil =>
    obtain rfl : p = none := ht
    refine ifB_t rfl (do_st5 hb fun w2 h2 g2 => ⟨_, h2.cell (i := 0) (add_blk _ _) rfl, _, h2.cell (i := 1) (add_blk _ _) rfl, _, h2.cell (i := 2) (add_blk _ _) rfl, _, h2.cell (i := 3) (add_blk _ _) rfl, _, h2.cell (i := 4) (add_blk _ _) rfl, h _ (e1.st g2 (Nat.le_refl _))⟩)
  | node l k v g r =>
    obtain ⟨b, pl, pr, rfl, hn, _, _⟩ := ht
    have hn1 := hn.ext e1
    refine ifB_f rfl ⟨_, rfl, _, hn1.cell (i := 0) (by rw [add_zero', add_blk]) rfl, _, hn1.cell (i := 1) (by rw [add_zero', add_blk]) rfl, _, hn1.cell (i := 2) (by rw [add_zero', add_blk]) rfl, _, hn1.cell (i := 3) (by rw [add_zero', add_blk]) rfl, _, hn1.cell (i := 4) (by rw [add_zero', add_blk]) rfl, ?_⟩
    refine do_st5 hb fun w2 h2 g2 => ⟨_, h2.cell (i := 0) (add_blk _ _) rfl, _, h2.cell (i := 1) (add_blk _ _) rfl, _, h2.cell (i := 2) (add_blk _ _) rfl, _, h2.cell (i := 3) (add_blk _ _) rfl, _, h2.cell (i := 4) (add_blk _ _) rfl, h _ (e1.st g2 (Nat.le_refl _))⟩
theorem c_left0 {p : Option Addr} {t : Tr} {w0 w : World} {R : Ending → World → Prop} (ht : IsN w0 p t) (e : Ext w0 w) (h : ∀ q, IsN w0 q t.left → R (.returned (.pointer q)) w) : Calls Try.prog 73 #[.pointer p] w R := by
  refine sh73_ok _ ?_
  unfold sh73
  cases t with
  | nil => obtain rfl : p = none := ht; exact ifB_t rfl (h _ rfl)
  | node l k v g r =>
    obtain ⟨b, pl, pr, rfl, hn, hl, hr⟩ := ht
    exact ifB_f rfl ⟨_, rfl, _, (hn.ext e).cell (i := 5) (add_blk _ _) rfl, h _ hl⟩
theorem c_left {p : Option Addr} {t : Tr} {w : World} {R : Ending → World → Prop} (ht : IsN w p t) (h : ∀ q, IsN w q t.left → R (.returned (.pointer q)) w) : Calls Try.prog 73 #[.pointer p] w R := c_left0 ht (ext_refl w) h
theorem c_right0 {p : Option Addr} {t : Tr} {w0 w : World} {R : Ending → World → Prop} (ht : IsN w0 p t) (e : Ext w0 w) (h : ∀ q, IsN w0 q t.right → R (.returned (.pointer q)) w) : Calls Try.prog 78 #[.pointer p] w R := by
  refine sh78_ok _ ?_
  unfold sh78
  cases t with
  | nil => obtain rfl : p = none := ht; exact ifB_t rfl (h _ rfl)
  | node l k v g r =>
    obtain ⟨b, pl, pr, rfl, hn, hl, hr⟩ := ht
    exact ifB_f rfl ⟨_, rfl, _, (hn.ext e).cell (i := 6) (add_blk _ _) rfl, h _ hr⟩
theorem c_right {p : Option Addr} {t : Tr} {w : World} {R : Ending → World → Prop} (ht : IsN w p t) (h : ∀ q, IsN w q t.right → R (.returned (.pointer q)) w) : Calls Try.prog 78 #[.pointer p] w R := c_right0 ht (ext_refl w) h
theorem c_key {p : Option Addr} {t : Tr} {w : World} {R : Ending → World → Prop} (ht : IsN w p t) (h : ∀ w', Ext w w' → R (.returned (.int .i64 t.key)) w') : Calls Try.prog 76 #[.pointer p] w R := by
  refine sh76_ok _ ?_
  unfold sh76
  exact do_call Try.call113 (c_of ht fun w1 e1 => retS_ret ⟨_, _, _, _, _, rfl, h _ e1⟩)
theorem c_val {p : Option Addr} {t : Tr} {w : World} {R : Ending → World → Prop} (ht : IsN w p t) (h : ∀ w', Ext w w' → R (.returned (.int .i64 t.val)) w') : Calls Try.prog 77 #[.pointer p] w R := by
  refine sh77_ok _ ?_
  unfold sh77
  exact do_call Try.call113 (c_of ht fun w1 e1 => retS_ret ⟨_, _, _, _, _, rfl, h _ e1⟩)
theorem c_tsize {p : Option Addr} {t : Tr} {w : World} {R : Ending → World → Prop} (ht : IsN w p t) (h : ∀ w', Ext w w' → R (.returned (.int .i64 (t.size : Nat))) w') : Calls Try.prog 74 #[.pointer p] w R := by
  refine sh74_ok _ ?_
  unfold sh74
  exact do_call Try.call113 (c_of ht fun w1 e1 => retS_ret ⟨_, _, _, _, _, rfl, h _ e1⟩)
theorem c_tsum {p : Option Addr} {t : Tr} {w : World} {R : Ending → World → Prop} (ht : IsN w p t) (h : ∀ w', Ext w w' → R (.returned (.int .i64 t.sum)) w') : Calls Try.prog 109 #[.pointer p] w R := by
  refine sh109_ok _ ?_
  unfold sh109
  exact do_call Try.call113 (c_of ht fun w1 e1 => retS_ret ⟨_, _, _, _, _, rfl, h _ e1⟩)
theorem c_new {pl pr : Option Addr} {l r : Tr} {k v g : Int} {w : World} {R : Ending → World → Prop} (hl : IsN w pl l) (hr : IsN w pr r) (hs : l.size + 1 + r.size ≤ 4611686018427387903)
    (h : ∀ b w', Ext w w' → IsN w' (some (blk b)) (.node l k v g r) → w.heap.size ≤ b → R (.returned (.pointer (some (blk b)))) w') : Calls Try.prog 69 #[.pointer pl, .int .i64 k, .int .i64 v, .int .u64 g, .pointer pr] w R := by
  refine sh69_ok _ _ _ _ _ ?_
  unfold sh69
  refine do_call Try.call74 (c_tsize hl fun w1 e1 => retS_ret ⟨_, rfl, ?_⟩)
  refine do_call Try.call74 (c_tsize (hr.ext e1) fun w2 e2 => retS_ret ⟨_, rfl, ?_⟩)
  have E2 := e1.trans e2
  refine do_call Try.call109 (c_tsum (hl.ext E2) fun w3 e3 => retS_ret ⟨_, rfl, ?_⟩)
  have E3 := E2.trans e3
  refine do_call Try.call109 (c_tsum (hr.ext E3) fun w4 e4 => retS_ret ⟨_, rfl, ⟨?_⟩⟩)
  have E4 := E3.trans e4
  have e : IntKind.wrap .i64 (IntKind.wrap .i64 ((l.size : Int) + 1) + (r.size : Int)) = ((l.size + 1 + r.size : Nat) : Int) := by
    rw [wrap_of (x := (l.size : Int) + 1) (by omega) (by omega), wrap_of (by omega) (by omega)]; omega
  rw [e]
  have e5 := ext_alloc w4 (.cells #[.int .i64 k, .int .i64 v, .int .i64 (IntKind.wrap .i64 (IntKind.wrap .i64 (l.sum + v) + r.sum)), .int .u64 g, .int .i64 ((l.size + 1 + r.size : Nat) : Int), .pointer pl, .pointer pr] 133)
  exact h _ _ (E4.trans e5) ⟨_, pl, pr, rfl, blk_alloc w4 _ _, hl.ext (E4.trans e5), hr.ext (E4.trans e5)⟩ E4.size
/-! ### Beads -/
theorem c_ends {l : List Bd} {q : Option Addr} {n c : Nat} {w : World} (hl : Cs w q (bds l)) (hn : l.length = n) (hm : n ≤ 1000000000000) : ∀ (f d a : Nat) (R : Ending → World → Prop), f + d = 5001 → a ≤ n →
    R (.returned (.int .i64 (match parse f (l.drop a) with | some t => (t.size : Int) | none => -1))) w → Calls Try.prog 108 #[.slice q n c, .int .i64 (a : Nat), .int .i64 (d : Nat)] w R := by
  intro f
  induction f with
  | zero =>
    intro d a R hd ha hR
    refine sh108_ok _ _ _ _ _ ?_
    unfold sh108
    refine ifB_intro (fun _ => hR) fun _ => ?_
    exact ifB_t (decide_eq_true (by omega)) hR
  | succ f ih =>
    intro d a R hd ha hR
    refine sh108_ok _ _ _ _ _ ?_
    unfold sh108
    refine ifB_intro (fun hge => ?_) fun hlt => ?_
    · have hge : n ≤ a := by have := of_decide_eq_true hge; omega
      rw [List.drop_of_length_le (by omega)] at hR
      exact hR
    · have hlt : a < n := by have := of_decide_eq_false hlt; omega
      refine ifB_f (decide_eq_false (by omega)) ?_
      rw [List.drop_eq_getElem_cons (by omega)] at hR
      have e1 : IntKind.wrap .i64 ((a : Int) + 1) = ((a + 1 : Nat) : Int) := wrap_succ hlt (by omega)
      have e2 : IntKind.wrap .i64 ((d : Int) + 1) = ((d + 1 : Nat) : Int) := wrap_succ (n := 5001) (by omega) (by omega)
      obtain ⟨x, hx⟩ : ∃ x, x = l[a]'(by omega) := ⟨_, rfl⟩
      rw [← hx] at hR
      -- the right side, behind k beads
      have hright : ∀ (L : BT), cond x.left (parse f (l.drop (a + 1))) (some .nil) = some L → L.size ≤ n - (a + 1) →
          doIx q n 7 (a : Nat) (fun a15 => ∃ (x16 : Bool), World.cell? w (a15.add 6) = some (.bool x16) ∧ (ifB x16 (
            doCall Try.prog (.func (.func 108) #[] #[]) #[.slice q n c, .int .i64 (IntKind.wrap .i64 ((a : Int) + ((1 + L.size : Nat) : Int))), .int .i64 (IntKind.wrap .i64 ((d : Int) + 1))] w (retS (fun v18 w19 => ∃ (x17 : Int), v18 = (.int .i64 x17 : Value) ∧ (
              ifB (decide ((x17 : Int) < 0)) (R (.returned (.int .i64 (-1))) w19) (R (.returned (.int .i64 (IntKind.wrap .i64 (((1 + L.size : Nat) : Int) + x17)))) w19))) (fun ch w => Kfn R ch [] w))) (
            R (.returned (.int .i64 ((1 + L.size : Nat) : Int))) w))) := by
        intro L hL hLs
        refine ix_flat ecB_len (by omega) hl hn rfl hlt fun a0 r0 _ => ?_
        rw [← hx] at r0
        refine ⟨x.right, r0 6 _ rfl, ?_⟩
        have hL' : parse (f + 1) (x :: l.drop (a + 1)) = (cond x.right (parse f ((l.drop (a + 1)).drop L.size)) (some .nil)).bind fun r => some (.node x L r) := by
          simp only [parse]; rw [hL]; rfl
        rw [hL'] at hR
        refine ifB_intro (fun hrt => ?_) fun hrt => ?_
        · have e3 : IntKind.wrap .i64 ((a : Int) + ((1 + L.size : Nat) : Int)) = ((a + 1 + L.size : Nat) : Int) := by rw [wrap_of (by omega) (by omega)]; omega
          rw [e2, e3]
          refine do_call Try.call108 (ih (d + 1) (a + 1 + L.size) _ (by omega) (by omega) (retS_ret ⟨_, rfl, ?_⟩))
          rw [hrt, cond_true, List.drop_drop] at hR
          cases hp : parse f (l.drop (a + 1 + L.size)) with
          | none =>
            rw [hp] at hR
            exact ifB_t (by simp) hR
          | some r =>
            rw [hp] at hR
            have hps := (parse_some hp).2.2
            have hrl : L.size + 1 + r.size ≤ n := by
              have := congrArg List.length hps
              simp at this
              have : r.size = r.beads.length := rfl
              omega
            refine ifB_f (decide_eq_false (by simp)) ?_
            simp only [Option.bind_some, BT.size_node] at hR
            simp only
            rw [wrap_of (x := ((1 + L.size : Nat) : Int) + (r.size : Int)) (by omega) (by omega), ← Int.natCast_add]
            exact hR
        · rw [hrt, cond_false] at hR
          simp only [Option.bind_some, BT.size_node] at hR
          exact hR
      refine ix_flat ecB_len (by omega) hl hn rfl hlt fun a0 r0 _ => ?_
      rw [← hx] at r0
      refine ⟨x.left, r0 5 _ rfl, ?_⟩
      refine ifB_intro (fun hlf => ?_) fun hlf => ?_
      · rw [e1, e2]
        refine do_call Try.call108 (ih (d + 1) (a + 1) _ (by omega) (by omega) (retS_ret ⟨_, rfl, ?_⟩))
        cases hp : parse f (l.drop (a + 1)) with
        | none =>
          have hL' : parse (f + 1) (x :: l.drop (a + 1)) = none := by simp only [parse]; rw [hlf, cond_true, hp]; rfl
          rw [hL'] at hR
          exact ifB_t (by simp) hR
        | some L =>
          have hps := (parse_some hp).2.2
          have hLs : L.size ≤ n - (a + 1) := by
            have := congrArg List.length hps
            simp at this
            have : L.size = L.beads.length := rfl
            omega
          refine ifB_f (decide_eq_false (by simp)) ?_
          simp only
          rw [wrap_of (x := 1 + (L.size : Int)) (by omega) (by omega)]
          have := hright L (by rw [hlf, cond_true, hp]) hLs
          rw [e2] at this
          simp only [Int.natCast_add, Int.cast_ofNat_Int] at this
          exact this
      · have := hright .nil (by rw [hlf, cond_false]) (by simp [BT.size, BT.beads])
        simpa [BT.size, BT.beads] using this
end Go.Proofs.Ytinkkhcffoikmaa
