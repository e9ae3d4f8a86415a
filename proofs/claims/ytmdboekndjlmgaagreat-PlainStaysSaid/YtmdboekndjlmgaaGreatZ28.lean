/-
  The methods of a book of versions: split, drops.
-/
import Derived.Test.YtmdboekndjlmgaaGreatZ27

set_option maxRecDepth 100000
set_option maxHeartbeats 6400000
namespace Go.Proofs.YtmdboekndjlmgaaGreat
open Go Go.Sh Go.RowKit

theorem m_split {P : Nat → Prop} {bb : Nat} {o : Int} {L : Rows} {x : POp} {a c : List Pr} {pv kv va vc : Value} {w : World} {R : EW} (A : Arg P bb o L x a c pv kv va vc w) 
    (h : ∀ v w', RepAt w.heap.size bb w' v (madeP (wasP o a x.key) L [cutA o a x.key, cutB o a x.key]).1 → BookN P w' bb o (madeP (wasP o a x.key) L [cutA o a x.key, cutB o a x.key]).2 → Chg (BkOwn bb) (fun _ => False) w w' → R (.returned v) w') : Calls Tryz.prog 80 #[.pointer (some (blk bb)), opV x pv kv, va, vc] w R := by
  have Ap := A.rp
  have Ak := A.rk
  have Aa := A.ra
  have Ac := A.rc
  obtain ⟨pp, pc, rfl, hp1, hp2, hp3⟩ := Ap
  obtain ⟨kp, kc, rfl, hk1, hk2, hk3⟩ := Ak
  obtain ⟨qa, ca, rfl, ha1, ha2, ha3⟩ := Aa
  obtain ⟨qc, cc, rfl, hc1, hc2, hc3⟩ := Ac
  have za := A.za
  have zc := A.zc
  have zp := A.zp
  have zk := A.zk
  refine sh80_ok _ _ _ _ _ _ _ _ _ _ _ _ _ _ _ _ _ _ _ _ _ _ _ _ _ _ ?_
  unfold sh80
  refine mid0 x (.slice pp x.pairs.length pc) (.slice kp x.keys.length kc) A.B fun xb rb w2 M => ?_
  have M := M.ext (ext_drew w2)
  refine ⟨⟨Cls bb o xb x _ _, M.cls, _, rfl, o, fun w' h => h.1, _, fun w' h => h.2.cell (i := 3) rfl rfl, ?_⟩⟩
  have ha := ha2.ext M.E
  have hc := hc2.ext M.E
  have l2 : xb < w2.heap.size ∧ rb < w2.heap.size ∧ w2.heap.size ≤ w2.drew.heap.size := ⟨by have := M.X.lt; simpa using this, by have := M.Y.lt; simpa using this, (ext_drew w2).size⟩
  refine do_call Tryz.call115 (c_cutF ha rfl ha1 (by omega) A.Ia A.inx.key fun p1 n1 c1 p2 n2 c2 w3 g1 g2 g3 g4 g5 g6 e3 b1 b2 => retS_ret ⟨_, _, _, _, _, _, _, _, rfl, ?_⟩)
  have M3 := M.ext e3
  refine ⟨_, M3.X.cell (i := 0) rfl rfl, _, M3.X.cell (i := 1) rfl rfl, _, M3.X.cell (i := 2) rfl rfl, _, M3.X.cell (i := 3) rfl rfl, _, M3.X.cell (i := 4) rfl rfl, _, M3.X.cell (i := 5) rfl rfl, _, M3.X.cell (i := 6) rfl rfl, _, M3.X.cell (i := 7) rfl rfl, _, M3.X.cell (i := 8) rfl rfl, _, M3.X.cell (i := 9) rfl rfl, _, M3.X.cell (i := 10) rfl rfl, _, M3.X.cell (i := 11) rfl rfl, _, M3.X.cell (i := 12) rfl rfl, _, _, _, M3.X.cell (i := 13) rfl rfl, _, _, _, M3.X.cell (i := 14) rfl rfl, ?_⟩
  refine do_call Tryz.call99 (c_was M3.B A.inx.key (ha.ext e3) A.Ia A.za fun w4 e4 => retS_ret ⟨_, _, _, _, _, _, _, _, _, _, _, rfl, ?_⟩)
  have M4 := M3.ext e4
  have lX := M.X.lt
  have lY := M.Y.lt
  have hi : ∀ k, w2.drew.heap.size ≤ k → ¬ BkOwn bb w4 k := fun k hk hb => by have := M.B.lt ((M.B.own_ext (e3.trans e4) k).1 hb); omega
  have hbb : bb < w2.drew.heap.size := M.B.lt (.inl rfl)
  have e4s := e4.size
  subst g2 g5
  refine M4.made A.B A.zL (ls := [cutA o a x.key, cutB o a x.key]) (r := wasP o a x.key) (by simp) rfl rfl rfl (fun i l hl => ?_) h
  match i, hl with
  | 0, hl =>
    obtain rfl : cutA o a x.key = l := by simpa using hl
    exact ⟨_, rfl, ⟨p1, c1, rfl, g3, g1.ext e4, fun d hd _ => ⟨hi _ (b1 d hd).1, by have := (b1 d hd).1; omega, by have := (b1 d hd).2; omega⟩⟩, fun d n c e _ => by injection e with e1; have := (b1 d e1).1; have := M.E.size; exact ⟨A.hP _ (by omega), by omega, by omega⟩⟩
  | 1, hl =>
    obtain rfl : cutB o a x.key = l := by simpa using hl
    exact ⟨_, rfl, ⟨p2, c2, rfl, g6, g4.ext e4, fun d hd _ => ⟨hi _ (b2 d hd).1, by have := (b2 d hd).1; omega, by have := (b2 d hd).2; omega⟩⟩, fun d n c e _ => by injection e with e1; have := (b2 d e1).1; have := M.E.size; exact ⟨A.hP _ (by omega), by omega, by omega⟩⟩
  | i + 2, hl => simp at hl
theorem m_drops {P : Nat → Prop} {bb : Nat} {o : Int} {L : Rows} {x : POp} {a c : List Pr} {pv kv va vc : Value} {w : World} {R : EW} (A : Arg P bb o L x a c pv kv va vc w) (HO : isO o = true)
    (h : ∀ v w', RepAt w.heap.size bb w' v (countP L (setL o 1 wL a (srtP o 1 (x.keys.map fun k => (k, 0))))).1 → BookN P w' bb o (countP L (setL o 1 wL a (srtP o 1 (x.keys.map fun k => (k, 0))))).2 → Chg (BkOwn bb) (fun _ => False) w w' → R (.returned v) w') : Calls Tryz.prog 73 #[.pointer (some (blk bb)), opV x pv kv, va, vc] w R := by
  have Ap := A.rp
  have Ak := A.rk
  have Aa := A.ra
  have Ac := A.rc
  obtain ⟨pp, pc, rfl, hp1, hp2, hp3⟩ := Ap
  obtain ⟨kp, kc, rfl, hk1, hk2, hk3⟩ := Ak
  obtain ⟨qa, ca, rfl, ha1, ha2, ha3⟩ := Aa
  obtain ⟨qc, cc, rfl, hc1, hc2, hc3⟩ := Ac
  have za := A.za
  have zc := A.zc
  have zp := A.zp
  have zk := A.zk
  refine sh73_ok _ _ _ _ _ _ _ _ _ _ _ _ _ _ _ _ _ _ _ _ _ _ _ _ _ _ ?_
  unfold sh73
  refine mid0 x (.slice pp x.pairs.length pc) (.slice kp x.keys.length kc) A.B fun xb rb w2 M => ?_
  refine ⟨_, _, _, M.X.cell (i := 14) rfl rfl, ?_⟩
  have hks := hk2.ext M.E
  refine ⟨fun vs w' => ∃ (k : Nat) (p : OA) (c : Nat), vs = [.slice p k c, .int .i64 (k : Int)] ∧ k ≤ x.keys.length ∧ OwnP w' w2.heap.size p k c ((x.keys.take k).map fun k => (k, 0)) ∧ Ext w2 w',
    fun vs _ => match vs with | [_, .int _ i] => x.keys.length - i.toNat | _ => 0, ⟨0, none, 0, rfl, Nat.zero_le _, World.ownsRow_nil _ _ _ _, ext_refl _⟩, ?_⟩
  rintro p k c3 i_ _ w3 ⟨k0, p0, c0, hv, hk, ho, E3⟩
  simp only [List.cons.injEq, Value.int.injEq, Value.slice.injEq, true_and, and_true] at hv
  obtain ⟨⟨rfl, rfl, rfl⟩, rfl⟩ := hv
  refine ifB_intro (fun z => ?_) fun z => ?_
  · have z : k < x.keys.length := by have := of_decide_eq_true z; omega
    refine ix_int (hks.ext E3) rfl (by omega) (by omega) fun a1 _ r1 => ⟨_, r1, ⟨?_⟩⟩
    have eg : x.keys.getD (k : Int).toNat 0 = x.keys[k] := by rw [Int.toNat_natCast, List.getD_eq_getElem?_getD, List.getElem?_eq_getElem z]; rfl
    rw [eg]
    have e5 := ext_alloc w3 (.cells #[.int .i64 x.keys[k], .int .i64 0] 63)
    have hx5 := cs_alloc w3 #[.int .i64 x.keys[k], .int .i64 0] 63
    have ho5 := e5.row ho
    have E5 := E3.trans e5
    generalize w3.alloc (.cells #[.int .i64 x.keys[k], .int .i64 0] 63) = w5 at *
    refine do_append elPo ho5 (m := 1) hx5 (by simp) (by simp [Value.oneCell']) (by simp only [maxLen]; omega) (by omega) E5.size fun p' c' w' h1 g => retS_ret ⟨_, _, _, rfl, ?_⟩
    rw [wrap_succ z (by omega)]
    refine ⟨⟨k + 1, p', c', rfl, by omega, ?_, E5.grown g fun b hb => (ho5.lt b hb).1⟩, ?_⟩
    · rw [← List.take_append_getElem z, List.map_append]
      show World.ownsRow w' _ _ _ _ _ (prs (_ ++ _))
      rw [prs_append]
      exact h1
    · show x.keys.length - ((k + 1 : Nat) : Int).toNat < x.keys.length - (k : Int).toNat
      omega
  · have z : k = x.keys.length := by have := of_decide_eq_false z; omega
    subst z
    rw [List.take_of_length_le (Nat.le_refl _)] at ho
    have M3 := M.ext E3
    have hI : InP (x.keys.map fun k => (k, 0)) := fun y hy => by
      obtain ⟨k, hk, rfl⟩ := List.mem_map.1 hy
      exact ⟨A.inx.keys k hk, by unfold In; omega⟩
    refine ⟨_, rfl, o, M3.B.ord, do_call Tryz.call106 (c_rsort (ownP_cs ho) (ownP_len ho) (by omega) hI fun ps ns cs w4 hs e4 => retS_ret ⟨_, _, _, _, rfl, ?_⟩)⟩
    have M4 := M3.ext e4
    have sp := srtP_ok (o := o) (p := 1) (l := x.keys.map fun k => (k, 0)) HO hI
    have ns0 := ownP_len hs
    have hm : a.length + ns ≤ 1000000 := by
      have h4 := sp.2.2.2
      unfold srtP at h4
      rw [List.length_map] at h4
      omega
    refine ⟨_, rfl, o, M4.B.ord, do_call Tryz.call109 (c_le (ha2.ext M4.E) rfl ha1 (ownP_cs hs) ns0 (row_cap hs) hm A.Ia sp.2.1 fun p n c3 w5 ho5 e5 => retS_ret ⟨_, _, _, _, rfl, do_call Tryz.call105 (M4.count' A.B A.hP A.zL ho5 e5 h)⟩)⟩
end Go.Proofs.YtmdboekndjlmgaaGreat

namespace Go.Proofs.YtmdboekndjlmgaaGreat
open Go Go.Sh Go.RowKit

theorem c_there {P : Nat → Prop} {bb : Nat} {o m : Int} {L : Rows} {w : World} {R : EW} (hB : BookN P w bb o L) (h : R (.returned (.bool (thereL L m))) w) : Calls Tryz.prog 26 #[.pointer (some (blk bb)), .int .i64 m] w R := by
  refine sh26_ok _ _ ?_
  unfold sh26
  obtain ⟨p, c, vs, hb, _⟩ := hB.ex
  intro K5
  refine ifB_intro (fun z => ?_) fun z => ?_
  · have z : 0 ≤ m := by have := of_decide_eq_true z; omega
    refine ⟨_, rfl, _, _, _, hb.cell (i := 1) rfl rfl, ?_⟩
    have e : thereL L m = decide (m < (L.length : Int)) := by
      unfold thereL
      rw [decide_eq_decide]
      omega
    rw [e] at h
    exact h
  · have z : ¬ 0 ≤ m := by have := of_decide_eq_false z; omega
    have e : thereL L m = false := by unfold thereL; exact decide_eq_false (by omega)
    rw [e] at h
    exact h
def pe1 (bb : Nat) : MapEntry := { key := .int .u8 1, val := .agg #[.int .i64 1, .bool true, .bool false, .bool false, .func (.func 59) #[.pointer (some (blk bb))] #[]], born := 0 }
def pe2 (bb : Nat) : MapEntry := { key := .int .u8 2, val := .agg #[.int .i64 1, .bool true, .bool false, .bool false, .func (.func 60) #[.pointer (some (blk bb))] #[]], born := 1 }
def pe3 (bb : Nat) : MapEntry := { key := .int .u8 3, val := .agg #[.int .i64 0, .bool true, .bool false, .bool false, .func (.func 61) #[.pointer (some (blk bb))] #[]], born := 2 }
def pe4 (bb : Nat) : MapEntry := { key := .int .u8 4, val := .agg #[.int .i64 0, .bool true, .bool false, .bool false, .func (.func 62) #[.pointer (some (blk bb))] #[]], born := 3 }
def pe5 (bb : Nat) : MapEntry := { key := .int .u8 5, val := .agg #[.int .i64 0, .bool true, .bool false, .bool false, .func (.func 63) #[.pointer (some (blk bb))] #[]], born := 4 }
def pe6 (bb : Nat) : MapEntry := { key := .int .u8 6, val := .agg #[.int .i64 0, .bool true, .bool false, .bool false, .func (.func 64) #[.pointer (some (blk bb))] #[]], born := 5 }
def pe7 (bb : Nat) : MapEntry := { key := .int .u8 7, val := .agg #[.int .i64 0, .bool true, .bool false, .bool false, .func (.func 65) #[.pointer (some (blk bb))] #[]], born := 6 }
def pe8 (bb : Nat) : MapEntry := { key := .int .u8 8, val := .agg #[.int .i64 1, .bool false, .bool false, .bool false, .func (.func 66) #[.pointer (some (blk bb))] #[]], born := 7 }
def pe9 (bb : Nat) : MapEntry := { key := .int .u8 9, val := .agg #[.int .i64 1, .bool true, .bool true, .bool false, .func (.func 67) #[.pointer (some (blk bb))] #[]], born := 8 }
def pe10 (bb : Nat) : MapEntry := { key := .int .u8 10, val := .agg #[.int .i64 1, .bool true, .bool true, .bool false, .func (.func 68) #[.pointer (some (blk bb))] #[]], born := 9 }
def pe11 (bb : Nat) : MapEntry := { key := .int .u8 11, val := .agg #[.int .i64 1, .bool true, .bool true, .bool false, .func (.func 69) #[.pointer (some (blk bb))] #[]], born := 10 }
def pe12 (bb : Nat) : MapEntry := { key := .int .u8 12, val := .agg #[.int .i64 1, .bool true, .bool true, .bool false, .func (.func 70) #[.pointer (some (blk bb))] #[]], born := 11 }
def pe13 (bb : Nat) : MapEntry := { key := .int .u8 13, val := .agg #[.int .i64 1, .bool true, .bool false, .bool false, .func (.func 71) #[.pointer (some (blk bb))] #[]], born := 12 }
def pe14 (bb : Nat) : MapEntry := { key := .int .u8 14, val := .agg #[.int .i64 1, .bool true, .bool false, .bool false, .func (.func 72) #[.pointer (some (blk bb))] #[]], born := 13 }
def pe15 (bb : Nat) : MapEntry := { key := .int .u8 15, val := .agg #[.int .i64 1, .bool true, .bool false, .bool false, .func (.func 73) #[.pointer (some (blk bb))] #[]], born := 14 }
def pe16 (bb : Nat) : MapEntry := { key := .int .u8 16, val := .agg #[.int .i64 0, .bool true, .bool false, .bool false, .func (.func 74) #[.pointer (some (blk bb))] #[]], born := 15 }
def pe17 (bb : Nat) : MapEntry := { key := .int .u8 17, val := .agg #[.int .i64 0, .bool true, .bool false, .bool false, .func (.func 75) #[.pointer (some (blk bb))] #[]], born := 16 }
def pe18 (bb : Nat) : MapEntry := { key := .int .u8 18, val := .agg #[.int .i64 1, .bool true, .bool false, .bool true, .func (.func 76) #[.pointer (some (blk bb))] #[]], born := 17 }
def pe19 (bb : Nat) : MapEntry := { key := .int .u8 19, val := .agg #[.int .i64 0, .bool true, .bool false, .bool true, .func (.func 77) #[.pointer (some (blk bb))] #[]], born := 18 }
def pe20 (bb : Nat) : MapEntry := { key := .int .u8 20, val := .agg #[.int .i64 0, .bool true, .bool false, .bool true, .func (.func 78) #[.pointer (some (blk bb))] #[]], born := 19 }
def pe21 (bb : Nat) : MapEntry := { key := .int .u8 21, val := .agg #[.int .i64 0, .bool true, .bool false, .bool false, .func (.func 79) #[.pointer (some (blk bb))] #[]], born := 20 }
def pe22 (bb : Nat) : MapEntry := { key := .int .u8 22, val := .agg #[.int .i64 2, .bool true, .bool false, .bool false, .func (.func 80) #[.pointer (some (blk bb))] #[]], born := 21 }
def planEs (bb : Nat) : Array MapEntry := #[pe1 bb, pe2 bb, pe3 bb, pe4 bb, pe5 bb, pe6 bb, pe7 bb, pe8 bb, pe9 bb, pe10 bb, pe11 bb, pe12 bb, pe13 bb, pe14 bb, pe15 bb, pe16 bb, pe17 bb, pe18 bb, pe19 bb, pe20 bb, pe21 bb, pe22 bb]
theorem c_pkinds {bb : Nat} {w : World} {R : EW} (h : ∀ m w', Ext w w' → w'.heap[m]? = some (.map (planEs bb) 22) → w.heap.size ≤ m → R (.returned (.map (some m))) w') : Calls Tryz.prog 28 #[.pointer (some (blk bb))] w R := by
  refine sh28_ok _ ?_
  unfold sh28
  refine ⟨?_⟩
  refine do_mu_new Tryz.underlying74 Tryz.underlying5 (heap_alloc_new w _) (by rfl) (by rfl) fun w1 h1 g1 => ?_
  have h1 : w1.heap[w.heap.size]? = some (.map #[pe1 bb] 1) := h1
  refine do_mu_new Tryz.underlying74 Tryz.underlying5 h1 (by rfl) (by rfl) fun w2 h2 g2 => ?_
  have h2 : w2.heap[w.heap.size]? = some (.map #[pe1 bb, pe2 bb] 2) := h2
  refine do_mu_new Tryz.underlying74 Tryz.underlying5 h2 (by rfl) (by rfl) fun w3 h3 g3 => ?_
  have h3 : w3.heap[w.heap.size]? = some (.map #[pe1 bb, pe2 bb, pe3 bb] 3) := h3
  refine do_mu_new Tryz.underlying74 Tryz.underlying5 h3 (by rfl) (by rfl) fun w4 h4 g4 => ?_
  have h4 : w4.heap[w.heap.size]? = some (.map #[pe1 bb, pe2 bb, pe3 bb, pe4 bb] 4) := h4
  refine do_mu_new Tryz.underlying74 Tryz.underlying5 h4 (by rfl) (by rfl) fun w5 h5 g5 => ?_
  have h5 : w5.heap[w.heap.size]? = some (.map #[pe1 bb, pe2 bb, pe3 bb, pe4 bb, pe5 bb] 5) := h5
  refine do_mu_new Tryz.underlying74 Tryz.underlying5 h5 (by rfl) (by rfl) fun w6 h6 g6 => ?_
  have h6 : w6.heap[w.heap.size]? = some (.map #[pe1 bb, pe2 bb, pe3 bb, pe4 bb, pe5 bb, pe6 bb] 6) := h6
  refine do_mu_new Tryz.underlying74 Tryz.underlying5 h6 (by rfl) (by rfl) fun w7 h7 g7 => ?_
  have h7 : w7.heap[w.heap.size]? = some (.map #[pe1 bb, pe2 bb, pe3 bb, pe4 bb, pe5 bb, pe6 bb, pe7 bb] 7) := h7
  refine do_mu_new Tryz.underlying74 Tryz.underlying5 h7 (by rfl) (by rfl) fun w8 h8 g8 => ?_
  have h8 : w8.heap[w.heap.size]? = some (.map #[pe1 bb, pe2 bb, pe3 bb, pe4 bb, pe5 bb, pe6 bb, pe7 bb, pe8 bb] 8) := h8
  refine do_mu_new Tryz.underlying74 Tryz.underlying5 h8 (by rfl) (by rfl) fun w9 h9 g9 => ?_
  have h9 : w9.heap[w.heap.size]? = some (.map #[pe1 bb, pe2 bb, pe3 bb, pe4 bb, pe5 bb, pe6 bb, pe7 bb, pe8 bb, pe9 bb] 9) := h9
  refine do_mu_new Tryz.underlying74 Tryz.underlying5 h9 (by rfl) (by rfl) fun w10 h10 g10 => ?_
  have h10 : w10.heap[w.heap.size]? = some (.map #[pe1 bb, pe2 bb, pe3 bb, pe4 bb, pe5 bb, pe6 bb, pe7 bb, pe8 bb, pe9 bb, pe10 bb] 10) := h10
  refine do_mu_new Tryz.underlying74 Tryz.underlying5 h10 (by rfl) (by rfl) fun w11 h11 g11 => ?_
  have h11 : w11.heap[w.heap.size]? = some (.map #[pe1 bb, pe2 bb, pe3 bb, pe4 bb, pe5 bb, pe6 bb, pe7 bb, pe8 bb, pe9 bb, pe10 bb, pe11 bb] 11) := h11
  refine do_mu_new Tryz.underlying74 Tryz.underlying5 h11 (by rfl) (by rfl) fun w12 h12 g12 => ?_
  have h12 : w12.heap[w.heap.size]? = some (.map #[pe1 bb, pe2 bb, pe3 bb, pe4 bb, pe5 bb, pe6 bb, pe7 bb, pe8 bb, pe9 bb, pe10 bb, pe11 bb, pe12 bb] 12) := h12
  refine do_mu_new Tryz.underlying74 Tryz.underlying5 h12 (by rfl) (by rfl) fun w13 h13 g13 => ?_
  have h13 : w13.heap[w.heap.size]? = some (.map #[pe1 bb, pe2 bb, pe3 bb, pe4 bb, pe5 bb, pe6 bb, pe7 bb, pe8 bb, pe9 bb, pe10 bb, pe11 bb, pe12 bb, pe13 bb] 13) := h13
  refine do_mu_new Tryz.underlying74 Tryz.underlying5 h13 (by rfl) (by rfl) fun w14 h14 g14 => ?_
  have h14 : w14.heap[w.heap.size]? = some (.map #[pe1 bb, pe2 bb, pe3 bb, pe4 bb, pe5 bb, pe6 bb, pe7 bb, pe8 bb, pe9 bb, pe10 bb, pe11 bb, pe12 bb, pe13 bb, pe14 bb] 14) := h14
  refine do_mu_new Tryz.underlying74 Tryz.underlying5 h14 (by rfl) (by rfl) fun w15 h15 g15 => ?_
  have h15 : w15.heap[w.heap.size]? = some (.map #[pe1 bb, pe2 bb, pe3 bb, pe4 bb, pe5 bb, pe6 bb, pe7 bb, pe8 bb, pe9 bb, pe10 bb, pe11 bb, pe12 bb, pe13 bb, pe14 bb, pe15 bb] 15) := h15
  refine do_mu_new Tryz.underlying74 Tryz.underlying5 h15 (by rfl) (by rfl) fun w16 h16 g16 => ?_
  have h16 : w16.heap[w.heap.size]? = some (.map #[pe1 bb, pe2 bb, pe3 bb, pe4 bb, pe5 bb, pe6 bb, pe7 bb, pe8 bb, pe9 bb, pe10 bb, pe11 bb, pe12 bb, pe13 bb, pe14 bb, pe15 bb, pe16 bb] 16) := h16
  refine do_mu_new Tryz.underlying74 Tryz.underlying5 h16 (by rfl) (by rfl) fun w17 h17 g17 => ?_
  have h17 : w17.heap[w.heap.size]? = some (.map #[pe1 bb, pe2 bb, pe3 bb, pe4 bb, pe5 bb, pe6 bb, pe7 bb, pe8 bb, pe9 bb, pe10 bb, pe11 bb, pe12 bb, pe13 bb, pe14 bb, pe15 bb, pe16 bb, pe17 bb] 17) := h17
  refine do_mu_new Tryz.underlying74 Tryz.underlying5 h17 (by rfl) (by rfl) fun w18 h18 g18 => ?_
  have h18 : w18.heap[w.heap.size]? = some (.map #[pe1 bb, pe2 bb, pe3 bb, pe4 bb, pe5 bb, pe6 bb, pe7 bb, pe8 bb, pe9 bb, pe10 bb, pe11 bb, pe12 bb, pe13 bb, pe14 bb, pe15 bb, pe16 bb, pe17 bb, pe18 bb] 18) := h18
  refine do_mu_new Tryz.underlying74 Tryz.underlying5 h18 (by rfl) (by rfl) fun w19 h19 g19 => ?_
  have h19 : w19.heap[w.heap.size]? = some (.map #[pe1 bb, pe2 bb, pe3 bb, pe4 bb, pe5 bb, pe6 bb, pe7 bb, pe8 bb, pe9 bb, pe10 bb, pe11 bb, pe12 bb, pe13 bb, pe14 bb, pe15 bb, pe16 bb, pe17 bb, pe18 bb, pe19 bb] 19) := h19
  refine do_mu_new Tryz.underlying74 Tryz.underlying5 h19 (by rfl) (by rfl) fun w20 h20 g20 => ?_
  have h20 : w20.heap[w.heap.size]? = some (.map #[pe1 bb, pe2 bb, pe3 bb, pe4 bb, pe5 bb, pe6 bb, pe7 bb, pe8 bb, pe9 bb, pe10 bb, pe11 bb, pe12 bb, pe13 bb, pe14 bb, pe15 bb, pe16 bb, pe17 bb, pe18 bb, pe19 bb, pe20 bb] 20) := h20
  refine do_mu_new Tryz.underlying74 Tryz.underlying5 h20 (by rfl) (by rfl) fun w21 h21 g21 => ?_
  have h21 : w21.heap[w.heap.size]? = some (.map #[pe1 bb, pe2 bb, pe3 bb, pe4 bb, pe5 bb, pe6 bb, pe7 bb, pe8 bb, pe9 bb, pe10 bb, pe11 bb, pe12 bb, pe13 bb, pe14 bb, pe15 bb, pe16 bb, pe17 bb, pe18 bb, pe19 bb, pe20 bb, pe21 bb] 21) := h21
  refine do_mu_new Tryz.underlying74 Tryz.underlying5 h21 (by rfl) (by rfl) fun w22 h22 g22 => ?_
  have h22 : w22.heap[w.heap.size]? = some (.map #[pe1 bb, pe2 bb, pe3 bb, pe4 bb, pe5 bb, pe6 bb, pe7 bb, pe8 bb, pe9 bb, pe10 bb, pe11 bb, pe12 bb, pe13 bb, pe14 bb, pe15 bb, pe16 bb, pe17 bb, pe18 bb, pe19 bb, pe20 bb, pe21 bb, pe22 bb] 22) := h22
  have e := ext_alloc w (.map #[] 0)
  exact h _ _ ((((((((((((((((((((((e.st g1 (Nat.le_refl _)).st g2 (Nat.le_refl _)).st g3 (Nat.le_refl _)).st g4 (Nat.le_refl _)).st g5 (Nat.le_refl _)).st g6 (Nat.le_refl _)).st g7 (Nat.le_refl _)).st g8 (Nat.le_refl _)).st g9 (Nat.le_refl _)).st g10 (Nat.le_refl _)).st g11 (Nat.le_refl _)).st g12 (Nat.le_refl _)).st g13 (Nat.le_refl _)).st g14 (Nat.le_refl _)).st g15 (Nat.le_refl _)).st g16 (Nat.le_refl _)).st g17 (Nat.le_refl _)).st g18 (Nat.le_refl _)).st g19 (Nat.le_refl _)).st g20 (Nat.le_refl _)).st g21 (Nat.le_refl _)).st g22 (Nat.le_refl _)) h22 (Nat.le_refl _)
theorem do_bound {P : Program} {k : Nat} {first cap ars bs : Array Value} {w : World} {R : EW} (he : ∀ ars w, (callFunc k ars).run P w = .ok (.enter k ars) w) (hb : first ++ ars ++ cap = bs) (h : Calls P k bs w R) :
    doCall P (.func (.func k) first cap) ars w R := ⟨callV_func he (by subst hb; exact h)⟩
def kV (bb : Nat) (d : Int) (f : Nat) : Value := .agg #[.int .i64 (mkN d : Nat), .bool (kA d), .bool (kB d), .bool (kS d), .func (.func f) #[.pointer (some (blk bb))] #[]]
def Does (bb : Nat) (d : Int) (f : Nat) : Prop := ∀ (P : Nat → Prop) (o : Int) (L : Rows) (x : POp) (a c : List Pr) (pv kv va vc : Value) (w : World) (R : EW), Arg P bb o L x a c pv kv va vc w → x.op = d → isO o = true → (d = 17 → 0 ≤ x.n ∧ x.n < a.length) →
  (∀ v w', RepAt w.heap.size bb w' v (actP o L x a c).1 → BookN P w' bb o (actP o L x a c).2 → Chg (BkOwn bb) (fun _ => False) w w' → R (.returned v) w') → doCall Tryz.prog (.func (.func f) #[.pointer (some (blk bb))] #[]) #[opV x pv kv, va, vc] w R
theorem find_plan {bb : Nat} {d : Int} (hd : 1 ≤ d ∧ d ≤ 22) : ∃ i f, Instr.findNow (.int .u8) (.int .u8 d) (planEs bb).toList 0 = some (some (i, kV bb d f)) ∧ Does bb d f := by
  have hc : d = 1 ∨ d = 2 ∨ d = 3 ∨ d = 4 ∨ d = 5 ∨ d = 6 ∨ d = 7 ∨ d = 8 ∨ d = 9 ∨ d = 10 ∨ d = 11 ∨ d = 12 ∨ d = 13 ∨ d = 14 ∨ d = 15 ∨ d = 16 ∨ d = 17 ∨ d = 18 ∨ d = 19 ∨ d = 20 ∨ d = 21 ∨ d = 22 := by omega
  rcases hc with rfl | rfl | rfl | rfl | rfl | rfl | rfl | rfl | rfl | rfl | rfl | rfl | rfl | rfl | rfl | rfl | rfl | rfl | rfl | rfl | rfl | rfl
  · refine ⟨0, 59, rfl, fun P o L x a c pv kv va vc w R A hop ho hn h => ?_⟩
    simp only [actP, hop] at h
    exact do_bound Tryz.call59 (by rfl) (m_insert A h)
  · refine ⟨1, 60, rfl, fun P o L x a c pv kv va vc w R A hop ho hn h => ?_⟩
    simp only [actP, hop] at h
    exact do_bound Tryz.call60 (by rfl) (m_delete A h)
  · refine ⟨2, 61, rfl, fun P o L x a c pv kv va vc w R A hop ho hn h => ?_⟩
    simp only [actP, hop] at h
    exact do_bound Tryz.call61 (by rfl) (m_get A h)
  · refine ⟨3, 62, rfl, fun P o L x a c pv kv va vc w R A hop ho hn h => ?_⟩
    simp only [actP, hop] at h
    exact do_bound Tryz.call62 (by rfl) (m_min A h)
  · refine ⟨4, 63, rfl, fun P o L x a c pv kv va vc w R A hop ho hn h => ?_⟩
    simp only [actP, hop] at h
    exact do_bound Tryz.call63 (by rfl) (m_max A h)
  · refine ⟨5, 64, rfl, fun P o L x a c pv kv va vc w R A hop ho hn h => ?_⟩
    simp only [actP, hop] at h
    exact do_bound Tryz.call64 (by rfl) (m_floor A h)
  · refine ⟨6, 65, rfl, fun P o L x a c pv kv va vc w R A hop ho hn h => ?_⟩
    simp only [actP, hop] at h
    exact do_bound Tryz.call65 (by rfl) (m_ceil A h)
  · refine ⟨7, 66, rfl, fun P o L x a c pv kv va vc w R A hop ho hn h => ?_⟩
    simp only [actP, hop] at h
    exact do_bound Tryz.call66 (by rfl) (m_build A h)
  · refine ⟨8, 67, rfl, fun P o L x a c pv kv va vc w R A hop ho hn h => ?_⟩
    simp only [actP, hop] at h
    exact do_bound Tryz.call67 (by rfl) (m_union A h)
  · refine ⟨9, 68, rfl, fun P o L x a c pv kv va vc w R A hop ho hn h => ?_⟩
    simp only [actP, hop] at h
    exact do_bound Tryz.call68 (by rfl) (m_meet A h)
  · refine ⟨10, 69, rfl, fun P o L x a c pv kv va vc w R A hop ho hn h => ?_⟩
    simp only [actP, hop] at h
    exact do_bound Tryz.call69 (by rfl) (m_less A h)
  · refine ⟨11, 70, rfl, fun P o L x a c pv kv va vc w R A hop ho hn h => ?_⟩
    simp only [actP, hop] at h
    exact do_bound Tryz.call70 (by rfl) (m_apart A h)
  · refine ⟨12, 71, rfl, fun P o L x a c pv kv va vc w R A hop ho hn h => ?_⟩
    simp only [actP, hop] at h
    exact do_bound Tryz.call71 (by rfl) (m_keep A h)
  · refine ⟨13, 72, rfl, fun P o L x a c pv kv va vc w R A hop ho hn h => ?_⟩
    simp only [actP, hop] at h
    exact do_bound Tryz.call72 (by rfl) (m_puts A ho h)
  · refine ⟨14, 73, rfl, fun P o L x a c pv kv va vc w R A hop ho hn h => ?_⟩
    simp only [actP, hop] at h
    exact do_bound Tryz.call73 (by rfl) (m_drops A ho h)
  · refine ⟨15, 74, rfl, fun P o L x a c pv kv va vc w R A hop ho hn h => ?_⟩
    simp only [actP, hop] at h
    exact do_bound Tryz.call74 (by rfl) (m_rank A h)
  · refine ⟨16, 75, rfl, fun P o L x a c pv kv va vc w R A hop ho hn h => ?_⟩
    simp only [actP, hop] at h
    exact do_bound Tryz.call75 (by rfl) (m_pick A (hn rfl) h)
  · refine ⟨17, 76, rfl, fun P o L x a c pv kv va vc w R A hop ho hn h => ?_⟩
    simp only [actP, hop] at h
    exact do_bound Tryz.call76 (by rfl) (m_span A h)
  · refine ⟨18, 77, rfl, fun P o L x a c pv kv va vc w R A hop ho hn h => ?_⟩
    simp only [actP, hop] at h
    exact do_bound Tryz.call77 (by rfl) (m_count A h)
  · refine ⟨19, 78, rfl, fun P o L x a c pv kv va vc w R A hop ho hn h => ?_⟩
    simp only [actP, hop] at h
    exact do_bound Tryz.call78 (by rfl) (m_sum A h)
  · refine ⟨20, 79, rfl, fun P o L x a c pv kv va vc w R A hop ho hn h => ?_⟩
    simp only [actP, hop] at h
    exact do_bound Tryz.call79 (by rfl) (m_list A h)
  · refine ⟨21, 80, rfl, fun P o L x a c pv kv va vc w R A hop ho hn h => ?_⟩
    simp only [actP, hop] at h
    exact do_bound Tryz.call80 (by rfl) (m_split A h)
theorem find_plan_none {bb : Nat} {d : Int} (hd : ¬ (1 ≤ d ∧ d ≤ 22)) : Instr.findNow (.int .u8) (.int .u8 d) (planEs bb).toList 0 = some none := by
  have hn : ∀ i : Int, 1 ≤ i → i ≤ 22 → (d == i) = false := fun i h1 h2 => by simp; omega
  simp [planEs, pe1, pe2, pe3, pe4, pe5, pe6, pe7, pe8, pe9, pe10, pe11, pe12, pe13, pe14, pe15, pe16, pe17, pe18, pe19, pe20, pe21, pe22, Instr.findNow, Instr.sameNow, hn]
end Go.Proofs.YtmdboekndjlmgaaGreat

namespace Go.Proofs.YtmdboekndjlmgaaGreat
open Go Go.Sh Go.RowKit

theorem BookN.ix {P : Nat → Prop} {w : World} {bb : Nat} {o m : Int} {L : Rows} (hB : BookN P w bb o L) : ∃ p c, Blk w bb #[.int .u8 o, .slice p L.length c] 70 ∧ (thereL L m = true → ∃ (a : Addr) (q : OA) (d : Nat), p = some a ∧ 0 ≤ m ∧ m < (L.length : Int) ∧
    w.cell? (a.add (m.toNat * 1)) = some (.slice q (atL L m).length d) ∧ RowAt (BkOwn bb) bb w (.slice q (atL L m).length d) (atL L m).length (prs (atL L m)) ∧ BlkIn P (.slice q (atL L m).length d)) := by
  obtain ⟨p, c, vs, hb, hr, hv⟩ := hB.ex
  refine ⟨p, c, hb, fun ht => ?_⟩
  have hm : 0 ≤ m ∧ m < (L.length : Int) := of_decide_eq_true ht
  have hi : m.toNat < L.length := by omega
  have ea : L[m.toNat]? = some (atL L m) := by
    unfold atL
    rw [List.getD_eq_getElem?_getD, List.getElem?_eq_getElem hi]
    rfl
  obtain ⟨v, h1, h2, h3⟩ := hv _ _ ea
  obtain ⟨a, ha, hc⟩ := Cs.of_row hr.1 _ _ h1
  obtain ⟨q, d, rfl, g⟩ := h2
  exact ⟨a, q, d, ha, hm.1, hm.2, by rw [Nat.mul_one]; exact hc, ⟨q, d, rfl, g⟩, h3⟩
theorem oprd_of {own : World → Nat → Prop} {bb : Nat} {w : World} {x : POp} {pv kv : Value} (hp : RowAt own bb w pv x.pairs.length (prs x.pairs)) (hk : RowAt own bb w kv x.keys.length (ints x.keys)) : OpRd w x pv kv := by
  obtain ⟨p, c, e1, h1, h2, h3⟩ := hp
  obtain ⟨q, d, e2, g1, g2, g3⟩ := hk
  exact ⟨⟨p, c, e1, h1, h2, fun a ha hz => (h3 a ha hz).2.2⟩, ⟨q, d, e2, g1, g2, fun a ha hz => (g3 a ha hz).2.2⟩⟩
theorem mayO_op {x : POp} (h : mayO x = true) : 1 ≤ x.op ∧ x.op ≤ 22 := (mayO_iff.1 h).op
theorem c_pwrong0 {P : Nat → Prop} {bb : Nat} {o : Int} {L : Rows} {x : POp} {pv kv : Value} {w : World} {R : EW} (hB : BookN P w bb o L) (hx : InO x) (hO : OpRd w x pv kv) (zp : x.pairs.length ≤ 5000) (zk : x.keys.length ≤ 5000) (hd : ¬ (1 ≤ x.op ∧ x.op ≤ 22))
    (h : ∀ w', Ext w w' → R (.returned (.int .i64 (wrongP o L x))) w') :
    Calls Tryz.prog 29 #[.pointer (some (blk bb)), opV x pv kv, .agg #[.int .i64 0, .bool false, .bool false, .bool false, .nilFunc]] w R := by
  have hO0 := hO
  obtain ⟨pp, pc, rfl, hp1, hp2, hp3⟩ := hO0.p
  obtain ⟨kp, kc, rfl, hk1, hk2, hk3⟩ := hO0.k
  refine sh29n_ok _ _ _ _ _ _ _ _ _ _ _ _ _ _ _ _ _ _ _ _ _ _ _ _ ?_
  unfold sh29n
  refine ⟨⟨?_⟩⟩
  have e1 := ext_alloc w (.cells (opCells x (.slice pp x.pairs.length pc) (.slice kp x.keys.length kc)) 30)
  have X1 : OpAt _ _ x (.slice pp x.pairs.length pc) (.slice kp x.keys.length kc) := blk_alloc w (opCells x (.slice pp x.pairs.length pc) (.slice kp x.keys.length kc)) 30
  change OpAt (w.alloc (.cells #[_, _, _, _, _, _, _, _, _, _, _, _, _, _, _] 30)) _ _ _ _ at X1
  have e2 := ext_alloc (w.alloc (.cells (opCells x (.slice pp x.pairs.length pc) (.slice kp x.keys.length kc)) 30)) (.cells #[.int .i64 0, .bool false, .bool false, .bool false, .nilFunc] 73)
  have X2 := X1.ext e2
  have E2 := e1.trans e2
  have hm : mayO x = false := by
    cases hm : mayO x with
    | false => rfl
    | true => exact absurd (mayO_op hm) hd
  intro K33
  refine ⟨_, X2.cell (i := 0) rfl rfl, _, X2.cell (i := 1) rfl rfl, _, X2.cell (i := 2) rfl rfl, _, X2.cell (i := 3) rfl rfl, _, X2.cell (i := 4) rfl rfl, _, X2.cell (i := 5) rfl rfl, _, X2.cell (i := 6) rfl rfl, _, X2.cell (i := 7) rfl rfl, _, X2.cell (i := 8) rfl rfl, _, X2.cell (i := 9) rfl rfl, _, X2.cell (i := 10) rfl rfl, _, X2.cell (i := 11) rfl rfl, _, X2.cell (i := 12) rfl rfl, _, _, _, X2.cell (i := 13) rfl rfl, _, _, _, X2.cell (i := 14) rfl rfl, do_call Tryz.call81 (c_check hx (hO.ext E2) zp zk fun w3 e3 => retS_ret ⟨_, rfl, ?_⟩)⟩
  rw [if_neg (by rw [hm]; decide)]
  have hw : wrongP o L x = 2 := by unfold wrongP; rw [if_pos hm]
  have := h w3 (E2.trans e3)
  rw [hw] at this
  exact ifB_t rfl this
theorem c_pwrong {P : Nat → Prop} {bb f : Nat} {o : Int} {L : Rows} {x : POp} {pv kv : Value} {w : World} {R : EW} (hB : BookN P w bb o L) (zL : L.length ≤ 5000) (hx : InO x) (hO : OpRd w x pv kv) (zp : x.pairs.length ≤ 5000) (zk : x.keys.length ≤ 5000)
    (h : ∀ w', Ext w w' → R (.returned (.int .i64 (wrongP o L x))) w') :
    Calls Tryz.prog 29 #[.pointer (some (blk bb)), opV x pv kv, kV bb x.op f] w R := by
  have hO0 := hO
  obtain ⟨pp, pc, rfl, hp1, hp2, hp3⟩ := hO0.p
  obtain ⟨kp, kc, rfl, hk1, hk2, hk3⟩ := hO0.k
  refine sh29_ok _ _ _ _ _ _ _ _ _ _ _ _ _ _ _ _ _ _ _ _ _ _ _ _ _ _ _ ?_
  unfold sh29
  refine ⟨⟨?_⟩⟩
  have e1 := ext_alloc w (.cells (opCells x (.slice pp x.pairs.length pc) (.slice kp x.keys.length kc)) 30)
  have X1 : OpAt _ _ x (.slice pp x.pairs.length pc) (.slice kp x.keys.length kc) := blk_alloc w (opCells x (.slice pp x.pairs.length pc) (.slice kp x.keys.length kc)) 30
  change OpAt (w.alloc (.cells #[_, _, _, _, _, _, _, _, _, _, _, _, _, _, _] 30)) _ _ _ _ at X1
  change Ext w (w.alloc (.cells #[_, _, _, _, _, _, _, _, _, _, _, _, _, _, _] 30)) at e1
  generalize w.alloc (.cells #[_, _, _, _, _, _, _, _, _, _, _, _, _, _, _] 30) = w1 at *
  have e2 := ext_alloc w1 (.cells #[.int .i64 (mkN x.op : Nat), .bool (kA x.op), .bool (kB x.op), .bool (kS x.op), .func (.func f) #[.pointer (some (blk bb))] #[]] 73)
  have Kb := blk_alloc w1 #[.int .i64 (mkN x.op : Nat), .bool (kA x.op), .bool (kB x.op), .bool (kS x.op), .func (.func f) #[.pointer (some (blk bb))] #[]] 73
  have X2 := X1.ext e2
  have E2 := e1.trans e2
  generalize w1.alloc (.cells #[.int .i64 (mkN x.op : Nat), .bool (kA x.op), .bool (kB x.op), .bool (kS x.op), .func (.func f) #[.pointer (some (blk bb))] #[]] 73) = w2 at *
  generalize hxb : w.heap.size = xb at *
  generalize hkb : w1.heap.size = kb at *
  intro K33
  refine ⟨_, X2.cell (i := 0) rfl rfl, _, X2.cell (i := 1) rfl rfl, _, X2.cell (i := 2) rfl rfl, _, X2.cell (i := 3) rfl rfl, _, X2.cell (i := 4) rfl rfl, _, X2.cell (i := 5) rfl rfl, _, X2.cell (i := 6) rfl rfl, _, X2.cell (i := 7) rfl rfl, _, X2.cell (i := 8) rfl rfl, _, X2.cell (i := 9) rfl rfl, _, X2.cell (i := 10) rfl rfl, _, X2.cell (i := 11) rfl rfl, _, X2.cell (i := 12) rfl rfl, _, _, _, X2.cell (i := 13) rfl rfl, _, _, _, X2.cell (i := 14) rfl rfl, do_call Tryz.call81 (c_check hx (hO.ext E2) zp zk fun w3 e3 => retS_ret ⟨_, rfl, ?_⟩)⟩
  cases hm : mayO x with
  | false =>
    rw [if_neg (by decide)]
    have hw : wrongP o L x = 2 := by unfold wrongP; rw [if_pos hm]
    have := h w3 (E2.trans e3)
    rw [hw] at this
    exact ifB_t rfl this
  | true =>
  rw [if_pos rfl]
  refine ifB_f rfl ?_
  have E3 := E2.trans e3
  have hw : wrongP o L x = if (kA x.op && !thereL L x.a) = true ∨ (kB x.op && !thereL L x.b) = true then 3 else if 4096 < L.length + mkN x.op then 4 else if x.op = 17 ∧ (x.n < 0 ∨ ((atL L x.a).length : Int) ≤ x.n) then 320 else if kS x.op = true ∧ cmpI o x.hi x.lo < 0 then 330 else 0 := by
    unfold wrongP; rw [if_neg (by rw [hm]; decide)]
  rw [hw] at h
  have X3 := X2.ext e3
  have Kb3 := Kb.ext e3
  have B3 := hB.ext E3
  intro K58 K98
  have hmk : mkN x.op ≤ 2 := by unfold mkN; split <;> (try split) <;> omega
  have h3 : ∀ w', Ext w3 w' → ((kA x.op && !thereL L x.a) = true ∨ (kB x.op && !thereL L x.b) = true) → R (.returned (.int .i64 3)) w' := fun w' e hh => by
    have := h w' (E3.trans e)
    rw [if_pos hh] at this
    exact this
  have h58 : ∀ w' (e : Ext w3 w') (bv : Bool), (kA x.op && !thereL L x.a) = false → bv = (kB x.op && !thereL L x.b) → K58 bv w' := fun w4 e4 bv hA hb => by
    cases bv with
    | true =>
      simp -zeta -zetaHave only [K58]
      exact ifB_t rfl (h3 w4 e4 (.inr hb.symm))
    | false =>
    simp -zeta -zetaHave only [K58]
    refine ifB_f rfl ⟨?_⟩
    have E4 := e4.trans (ext_drew w4)
    obtain ⟨p, c, hb4, hix⟩ := (B3.ext E4).ix (m := x.a)
    have X4 := X3.ext E4
    have Kb4 := Kb3.ext E4
    have hr : ∀ w', Ext w4.drew w' → R (.returned (.int .i64 (if 4096 < L.length + mkN x.op then 4 else if x.op = 17 ∧ (x.n < 0 ∨ ((atL L x.a).length : Int) ≤ x.n) then 320 else if kS x.op = true ∧ cmpI o x.hi x.lo < 0 then 330 else 0))) w' := fun w' e => by
      have := h w' (E3.trans (E4.trans e))
      rw [if_neg (by rw [hA, ← hb]; decide)] at this
      exact this
    generalize w4.drew = w5 at *
    refine ⟨fun w' => Ext w5 w', ext_refl _, _, rfl, _, _, _, fun w' e' => (hb4.ext e').cell (i := 1) rfl rfl, _, fun w' e' => (Kb4.ext e').cell (i := 0) rfl rfl, ?_⟩
    rw [wrap_of (by omega) (by omega)]
    refine ifB_intro (fun z => ?_) fun z => ?_
    · have z : 4096 < L.length + mkN x.op := by have := of_decide_eq_true z; omega
      have := hr w5 (ext_refl _)
      rw [if_pos z] at this
      exact this
    · have z : ¬ 4096 < L.length + mkN x.op := by have := of_decide_eq_false z; omega
      rw [if_neg z] at hr
      intro K68
      have h68 : ∀ w' (e : Ext w5 w') (bv : Bool), bv = decide (x.op = 17 ∧ (x.n < 0 ∨ ((atL L x.a).length : Int) ≤ x.n)) → K68 bv w' := fun w6 e6 bv hb => by
        cases bv with
        | true =>
          simp -zeta -zetaHave only [K68]
          have := hr w6 e6
          rw [if_pos (of_decide_eq_true hb.symm)] at this
          exact ifB_t rfl this
        | false =>
        simp -zeta -zetaHave only [K68]
        rw [if_neg (of_decide_eq_false hb.symm)] at hr
        refine ifB_f rfl ?_
        intro K71
        refine ⟨?_⟩
        have E6 := e6.trans (ext_drew w6)
        generalize w6.drew = w7 at *
        refine ⟨fun w' => Ext w7 w', ext_refl _, _, fun w' e' => ((Kb4.ext E6).ext e').cell (i := 3) rfl rfl, ?_⟩
        refine ifB_intro (fun z => ?_) fun z => ?_
        · refine ⟨_, rfl, o, fun w' e' => ((hb4.ext E6).ext e').cell (i := 0) rfl rfl, _, fun w' e' => ((X4.ext E6).ext e').cell (i := 6) rfl rfl, _, fun w' e' => ((X4.ext E6).ext e').cell (i := 5) rfl rfl, ?_⟩
          refine do_call Tryz.call54 (c_compare hx.hi hx.lo fun w8 e8 => retS_ret ⟨_, rfl, e8, ?_⟩)
          have := hr w8 (E6.trans e8)
          cases hc : decide (cmpI o x.hi x.lo < 0) with
          | true =>
            rw [if_pos ⟨z, of_decide_eq_true hc⟩] at this
            simp -zeta -zetaHave only [K71]
            exact ifB_t rfl this
          | false =>
            rw [if_neg (fun hh => of_decide_eq_false hc hh.2)] at this
            simp -zeta -zetaHave only [K71]
            exact ifB_f rfl this
        · have := hr w7 E6
          rw [if_neg (fun hh => by rw [hh.1] at z; cases z)] at this
          exact this
      refine ⟨?_⟩
      have d5 := ext_drew w5
      generalize w5.drew = w6 at *
      refine ⟨fun w' => Ext w6 w', ext_refl _, _, fun w' e' => ((X4.ext d5).ext e').cell (i := 0) rfl rfl, ?_⟩
      refine ifB_intro (fun h17 => ?_) fun h17 => ?_
      · have h17 : x.op = 17 := by simpa using h17
        refine ⟨_, fun w' e' => ((X4.ext d5).ext e').cell (i := 7) rfl rfl, ?_⟩
        refine ifB_intro (fun hn => ?_) fun hn => ?_
        · have hn : x.n < 0 := of_decide_eq_true hn
          have := hr w6 d5
          rw [if_pos ⟨h17, .inl hn⟩] at this
          exact this
        · have hn : ¬ x.n < 0 := of_decide_eq_false hn
          have ht : thereL L x.a = true := by
            have : kA x.op = true := by rw [h17]; rfl
            rw [this] at hA
            simpa using hA
          obtain ⟨a, q, d, ha, hm0, hm1, hcell, hrow, _⟩ := hix ht
          refine ⟨_, fun w' e' => ((X4.ext d5).ext e').cell (i := 7) rfl rfl, _, rfl, _, _, _, fun w' e' => ((hb4.ext d5).ext e').cell (i := 1) rfl rfl, _, fun w' e' => ((X4.ext d5).ext e').cell (i := 1) rfl rfl, a, ha, hm0, hm1, _, _, _, fun w' e' => (d5.trans e').cell hcell, ?_⟩
          refine h68 _ d5 _ ?_
          rw [decide_eq_decide]
          constructor
          · intro hh; exact ⟨h17, .inr hh⟩
          · rintro ⟨_, hh | hh⟩
            · exact absurd hh hn
            · exact hh
      · have h17 : ¬ x.op = 17 := by simpa using h17
        exact h68 _ d5 false (decide_eq_false fun hh => h17 hh.1).symm
  have hB58 : ∀ w' (e : Ext w3 w'), (kA x.op && !thereL L x.a) = false → ∃ (y : Bool), World.cell? w' ((blk kb).add 2) = some (.bool y) ∧ (ifB y (∃ (z : Int), World.cell? w' ((blk xb).add 2) = some (.int .i64 z) ∧ (doCall Tryz.prog (.func (.func 26) #[] #[]) #[.pointer (some (blk bb)), .int .i64 z] w' (retS (fun v w => ∃ (u : Bool), v = (.bool u : Value) ∧ (K58 (!u) w)) (fun ch w => Kfn R ch [] w)))) (K58 false w')) := fun w4 e4 hA => by
    refine ⟨_, (Kb3.ext e4).cell (i := 2) rfl rfl, ifB_intro (fun z => ?_) fun z => ?_⟩
    · refine ⟨_, (X3.ext e4).cell (i := 2) rfl rfl, do_call Tryz.call26 (c_there (B3.ext e4) (retS_ret ⟨_, rfl, h58 w4 e4 _ hA ?_⟩))⟩
      rw [z, Bool.true_and]
    · refine h58 w4 e4 _ hA ?_
      rw [z, Bool.false_and]
  refine ⟨_, Kb3.cell (i := 1) rfl rfl, ifB_intro (fun z => ?_) fun z => ?_⟩
  · refine ⟨_, X3.cell (i := 1) rfl rfl, do_call Tryz.call26 (c_there B3 (retS_ret ⟨_, rfl, ?_⟩))⟩
    cases ht : thereL L x.a with
    | false =>
      simp -zeta -zetaHave only [K98]
      exact ifB_t rfl (h3 w3 (ext_refl _) (.inl (by rw [z, ht]; rfl)))
    | true =>
      simp -zeta -zetaHave only [K98]
      exact ifB_f rfl (hB58 w3 (ext_refl _) (by rw [z, ht]; rfl))
  · exact hB58 w3 (ext_refl _) (by rw [z]; rfl)
end Go.Proofs.YtmdboekndjlmgaaGreat

namespace Go.Proofs.YtmdboekndjlmgaaGreat
open Go Go.Sh Go.RowKit

theorem may_a {x : POp} (h : mayO x = true) (hk : kA x.op = false) : x.a = 0 := by
  have M := mayO_iff.1 h
  have ho := M.op
  have h8 : x.op = 8 := by
    have := of_decide_eq_false hk
    omega
  have := M.masked .a (by rw [h8]; decide)
  simpa [agree, POp.zero, eq_comm] using this
theorem may_b {x : POp} (h : mayO x = true) (hk : kB x.op = false) : x.b = 0 := by
  have M := mayO_iff.1 h
  have ho := M.op
  have hc : x.op = 1 ∨ x.op = 2 ∨ x.op = 3 ∨ x.op = 4 ∨ x.op = 5 ∨ x.op = 6 ∨ x.op = 7 ∨ x.op = 8 ∨ x.op = 13 ∨ x.op = 14 ∨ x.op = 15 ∨ x.op = 16 ∨ x.op = 17 ∨ x.op = 18 ∨ x.op = 19 ∨ x.op = 20 ∨ x.op = 21 ∨ x.op = 22 := by
    have := of_decide_eq_false hk
    omega
  have := M.masked .b (by rcases hc with e | e | e | e | e | e | e | e | e | e | e | e | e | e | e | e | e | e <;> rw [e] <;> decide)
  simpa [agree, POp.zero, eq_comm] using this
theorem wrong_zero {o : Int} {L : Rows} {x : POp} (h : wrongP o L x = 0) (hL : 0 < L.length) : mayO x = true ∧ thereL L x.a = true ∧ thereL L x.b = true ∧ (x.op = 17 → 0 ≤ x.n ∧ x.n < ((atL L x.a).length : Int)) ∧ L.length + mkN x.op ≤ 4096 := by
  unfold wrongP at h
  by_cases hm : mayO x = false
  · rw [if_pos hm] at h; cases h
  rw [if_neg hm] at h
  have hm : mayO x = true := by cases h : mayO x with
    | true => rfl
    | false => exact absurd h hm
  by_cases h3 : (kA x.op && !thereL L x.a) = true ∨ (kB x.op && !thereL L x.b) = true
  · rw [if_pos h3] at h; cases h
  rw [if_neg h3] at h
  by_cases h4 : 4096 < L.length + mkN x.op
  · rw [if_pos h4] at h; cases h
  rw [if_neg h4] at h
  by_cases h5 : x.op = 17 ∧ (x.n < 0 ∨ ((atL L x.a).length : Int) ≤ x.n)
  · rw [if_pos h5] at h; cases h
  have t0 : thereL L 0 = true := decide_eq_true ⟨Int.le_refl _, by omega⟩
  refine ⟨hm, ?_, ?_, fun hop => ?_, by omega⟩
  · cases ha : kA x.op with
    | false => rw [may_a hm ha]; exact t0
    | true =>
      cases ht : thereL L x.a with
      | true => rfl
      | false => exact absurd (.inl (by rw [ha, ht]; rfl)) h3
  · cases ha : kB x.op with
    | false => rw [may_b hm ha]; exact t0
    | true =>
      cases ht : thereL L x.b with
      | true => rfl
      | false => exact absurd (.inr (by rw [ha, ht]; rfl)) h3
  · constructor
    · have : ¬ x.n < 0 := fun hh => h5 ⟨hop, .inl hh⟩
      omega
    · have : ¬ ((atL L x.a).length : Int) ≤ x.n := fun hh => h5 ⟨hop, .inr hh⟩
      omega
theorem c_pdo {P : Nat → Prop} {bb : Nat} {o : Int} {L : Rows} {x : POp} {pv kv : Value} {w : World} {R : EW} (ho : isO o = true) (hB : BookN P w bb o L) (hP : ∀ k, w.heap.size ≤ k → P k) (hL : 0 < L.length) (zL : L.length ≤ 4500) (hI : ∀ m, InP (atL L m)) (hz : ∀ m, (atL L m).length ≤ 5000) (hx : InO x)
    (rp : RowAt (BkOwn bb) bb w pv x.pairs.length (prs x.pairs)) (rk : RowAt (BkOwn bb) bb w kv x.keys.length (ints x.keys)) (zp : x.pairs.length ≤ 5000) (zk : x.keys.length ≤ 5000)
    (h : ∀ v w', RepAt w.heap.size bb w' v (doP o L x).1 → BookN P w' bb o (doP o L x).2 → Chg (BkOwn bb) (fun _ => False) w w' → R (.returned v) w') :
    Calls Tryz.prog 12 #[.pointer (some (blk bb)), opV x pv kv] w R := by
  have rp0 := rp
  have rk0 := rk
  obtain ⟨pp, pc, rfl, hp1, hp2, hp3⟩ := rp0
  obtain ⟨kp, kc, rfl, hk1, hk2, hk3⟩ := rk0
  refine sh12_ok _ _ _ _ _ _ _ _ _ _ _ _ _ _ _ _ _ _ _ _ ?_
  unfold sh12
  refine mid0 x (.slice pp x.pairs.length pc) (.slice kp x.keys.length kc) hB fun xb rb w2 M => ?_
  have B0 := hB
  refine ifB_f rfl ?_
  intro K45
  have h45 : ∀ (w4 : World) (kb : Nat) (kv : Value) (w3 : World), Ext w2 w4 → w2.heap.size ≤ kb → kb < w4.heap.size →
      ((∃ f, Blk w4 kb #[.int .i64 (mkN x.op : Nat), .bool (kA x.op), .bool (kB x.op), .bool (kS x.op), .func (.func f) #[.pointer (some (blk bb))] #[]] 73 ∧ Does bb x.op f) ∨ (¬ (1 ≤ x.op ∧ x.op ≤ 22) ∧ Blk w4 kb #[.int .i64 0, .bool false, .bool false, .bool false, .nilFunc] 73)) → K45 (blk kb) w4 := fun w4 kb kv w3 e4 hkb hkb2 hK => by
    simp -zeta -zetaHave only [K45]
    intro K48
    have M4 := M.ext e4
    have h48 : ∀ w', Ext w4 w' → K48 (wrongP o L x) w' := fun w5 e5 => by
      have M5 := M4.ext e5
      simp -zeta -zetaHave only [K48]
      refine ifB_intro (fun hne => ?_) fun heq => ?_
      · have hne : ¬ wrongP o L x = 0 := by simpa using hne
        have ed : doP o L x = ({ Rep.zero with err := wrongP o L x }, L) := by unfold doP; rw [if_neg hne]
        rw [ed] at h
        exact ep7 M5.Y fun w' g => M5.done B0 (v := rep0 { Rep.zero with err := wrongP o L x }) (repAt0 rfl rfl) g h
      · have heq : wrongP o L x = 0 := by simpa using heq
        have ed : doP o L x = actP o L x (atL L x.a) (atL L x.b) := by unfold doP; rw [if_pos heq]
        rw [ed] at h
        obtain ⟨hm, hta, htb, hn17, h4096⟩ := wrong_zero heq hL
        intro K68
        refine ⟨?_⟩
        have e6 := ext_drew w5
        have M6 := M5.ext e6
        have E6 := (e5.trans e6)
        generalize w5.drew = w6 at *
        rcases hK with ⟨f, hKb, hdo⟩ | ⟨hno, _⟩
        · have hKb6 := hKb.ext E6
          obtain ⟨p, c, hb6, hia⟩ := M6.B.ix (m := x.a)
          obtain ⟨p', c', hb6', hib⟩ := M6.B.ix (m := x.b)
          obtain ⟨a, qa, da, ha, ha0, ha1, hca, hra, hpa⟩ := hia hta
          obtain ⟨b, qb, db, hbe, hb0, hb1, hcb, hrb, hpb⟩ := hib htb
          have rp6 := rp.ext' hB M6.E
          have rk6 := rk.ext' hB M6.E
          have lX := M6.X.lt
          have lY := M6.Y.lt
          refine ⟨fun w' => Ext w6 w', ext_refl _, .inl ⟨_, _, _, fun w' e' => (hKb6.ext e').cell (i := 4) rfl rfl, _, fun w' e' => (M6.X.ext e').cell (i := 0) rfl rfl, _, fun w' e' => (M6.X.ext e').cell (i := 1) rfl rfl, _, fun w' e' => (M6.X.ext e').cell (i := 2) rfl rfl, _, fun w' e' => (M6.X.ext e').cell (i := 3) rfl rfl, _, fun w' e' => (M6.X.ext e').cell (i := 4) rfl rfl, _, fun w' e' => (M6.X.ext e').cell (i := 5) rfl rfl, _, fun w' e' => (M6.X.ext e').cell (i := 6) rfl rfl, _, fun w' e' => (M6.X.ext e').cell (i := 7) rfl rfl, _, fun w' e' => (M6.X.ext e').cell (i := 8) rfl rfl, _, fun w' e' => (M6.X.ext e').cell (i := 9) rfl rfl, _, fun w' e' => (M6.X.ext e').cell (i := 10) rfl rfl, _, fun w' e' => (M6.X.ext e').cell (i := 11) rfl rfl, _, fun w' e' => (M6.X.ext e').cell (i := 12) rfl rfl, _, _, _, fun w' e' => (M6.X.ext e').cell (i := 13) rfl rfl, _, _, _, fun w' e' => (M6.X.ext e').cell (i := 14) rfl rfl, _, rfl, _, _, _, fun w' e' => (hb6.ext e').cell (i := 1) rfl rfl, _, fun w' e' => (M6.X.ext e').cell (i := 1) rfl rfl, a, ha, ha0, ha1, _, _, _, fun w' e' => e'.cell hca, _, rfl, _, _, _, fun w' e' => (hb6'.ext e').cell (i := 1) rfl rfl, _, fun w' e' => (M6.X.ext e').cell (i := 2) rfl rfl, b, hbe, hb0, hb1, _, _, _, fun w' e' => e'.cell hcb, ?_⟩⟩
          refine hdo (fun k => P k ∧ k ≠ xb ∧ k ≠ rb) o L x (atL L x.a) (atL L x.b) (.slice pp x.pairs.length pc) (.slice kp x.keys.length kc) _ _ w6 _ ⟨M6.B, fun k hk => ⟨hP k (Nat.le_trans M6.E.size hk), by omega, by omega⟩, zL, hx, rp6, rk6, zp, zk, hra, hrb, hI _, hI _, hz _, hz _⟩ rfl ho hn17 fun v w7 hR hB7 hC7 => retS_ret ?_
          exact rep_end' hR hB7 ((B0.chg M6.E).trans hC7) (hC7.blk M6.Y M6.ny fun h => h) lY M6.lr (fun hp => hp.2.2 rfl) (hC7.out _ lY M6.ny) fun v w' r b k => h v w' (r.mono M6.lr) (b.up fun _ h => h.1) k
        · exact absurd (mayO_op hm) hno
    have hO4 : OpRd w4 x (.slice pp x.pairs.length pc) (.slice kp x.keys.length kc) := (oprd_of rp rk).ext M4.E
    refine ⟨_, M4.X.cell (i := 0) rfl rfl, _, M4.X.cell (i := 1) rfl rfl, _, M4.X.cell (i := 2) rfl rfl, _, M4.X.cell (i := 3) rfl rfl, _, M4.X.cell (i := 4) rfl rfl, _, M4.X.cell (i := 5) rfl rfl, _, M4.X.cell (i := 6) rfl rfl, _, M4.X.cell (i := 7) rfl rfl, _, M4.X.cell (i := 8) rfl rfl, _, M4.X.cell (i := 9) rfl rfl, _, M4.X.cell (i := 10) rfl rfl, _, M4.X.cell (i := 11) rfl rfl, _, M4.X.cell (i := 12) rfl rfl, _, _, _, M4.X.cell (i := 13) rfl rfl, _, _, _, M4.X.cell (i := 14) rfl rfl, ?_⟩
    rcases hK with ⟨f, hKb, hdo⟩ | ⟨hno, hKb⟩
    · exact ⟨_, hKb.cell (i := 0) rfl rfl, _, hKb.cell (i := 1) rfl rfl, _, hKb.cell (i := 2) rfl rfl, _, hKb.cell (i := 3) rfl rfl, .inl ⟨_, _, _, hKb.cell (i := 4) rfl rfl, do_call Tryz.call29 (c_pwrong M4.B (by omega) hx hO4 zp zk fun w5 e5 => retS_ret ⟨_, rfl, h48 w5 e5⟩)⟩⟩
    · exact ⟨_, hKb.cell (i := 0) rfl rfl, _, hKb.cell (i := 1) rfl rfl, _, hKb.cell (i := 2) rfl rfl, _, hKb.cell (i := 3) rfl rfl, .inr ⟨hKb.cell (i := 4) rfl rfl, do_call Tryz.call29 (c_pwrong0 M4.B hx hO4 zp zk hno fun w5 e5 => retS_ret ⟨_, rfl, h48 w5 e5⟩)⟩⟩
  refine ⟨?_⟩
  have d2 := ext_drew w2
  have M2 := M.ext d2
  have d2s := d2.size
  have hhit : ∀ (v0 : World) (kb f : Nat), Blk v0 kb #[.int .i64 0, .bool false, .bool false, .bool false, .nilFunc] 73 → Ext w2.drew v0 → w2.drew.heap.size ≤ kb → Does bb x.op f → (doSt ((blk kb).add 0) (.int .i64 (mkN x.op : Nat)) v0 fun u1 => doSt ((blk kb).add 1) (.bool (kA x.op)) u1 fun u2 => doSt ((blk kb).add 2) (.bool (kB x.op)) u2 fun u3 => doSt ((blk kb).add 3) (.bool (kS x.op)) u3 fun u4 => doSt ((blk kb).add 4) (.func (.func f) #[.pointer (some (blk bb))] #[]) u4 fun u5 => K45 (blk kb) u5) := fun v0 kb f K0 E lk hdo => by
    refine do_st K0 (i := 0) rfl (by simp) fun v1 K1 k1 => ?_
    have K1 : Blk v1 kb #[.int .i64 (mkN x.op : Nat), .bool false, .bool false, .bool false, .nilFunc] 73 := K1
    refine do_st K1 (i := 1) rfl (by simp) fun v2 K2 k2 => ?_
    have K2 : Blk v2 kb #[.int .i64 (mkN x.op : Nat), .bool (kA x.op), .bool false, .bool false, .nilFunc] 73 := K2
    refine do_st K2 (i := 2) rfl (by simp) fun v3 K3 k3 => ?_
    have K3 : Blk v3 kb #[.int .i64 (mkN x.op : Nat), .bool (kA x.op), .bool (kB x.op), .bool false, .nilFunc] 73 := K3
    refine do_st K3 (i := 3) rfl (by simp) fun v4 K4 k4 => ?_
    have K4 : Blk v4 kb #[.int .i64 (mkN x.op : Nat), .bool (kA x.op), .bool (kB x.op), .bool (kS x.op), .nilFunc] 73 := K4
    refine do_st K4 (i := 4) rfl (by simp) fun v5 K5 k5 => ?_
    have K5 : Blk v5 kb #[.int .i64 (mkN x.op : Nat), .bool (kA x.op), .bool (kB x.op), .bool (kS x.op), .func (.func f) #[.pointer (some (blk bb))] #[]] 73 := K5
    exact h45 v5 kb .nilFunc w2 (d2.trans (((((E.st k1 lk).st k2 lk).st k3 lk).st k4 lk).st k5 lk)) (Nat.le_trans d2s lk) K5.lt (.inl ⟨f, K5, hdo⟩)
  have hmiss : ∀ (v0 : World) (kb : Nat), Blk v0 kb #[.int .i64 0, .bool false, .bool false, .bool false, .nilFunc] 73 → Ext w2.drew v0 → w2.drew.heap.size ≤ kb → ¬ (1 ≤ x.op ∧ x.op ≤ 22) → (doSt ((blk kb).add 0) (.int .i64 0) v0 fun u1 => doSt ((blk kb).add 1) (.bool false) u1 fun u2 => doSt ((blk kb).add 2) (.bool false) u2 fun u3 => doSt ((blk kb).add 3) (.bool false) u3 fun u4 => doSt ((blk kb).add 4) (.nilFunc) u4 fun u5 => K45 (blk kb) u5) := fun v0 kb K0 E lk hd => by
    refine do_st K0 (i := 0) rfl (by simp) fun v1 K1 k1 => ?_
    have K1 : Blk v1 kb #[.int .i64 0, .bool false, .bool false, .bool false, .nilFunc] 73 := K1
    refine do_st K1 (i := 1) rfl (by simp) fun v2 K2 k2 => ?_
    have K2 : Blk v2 kb #[.int .i64 0, .bool false, .bool false, .bool false, .nilFunc] 73 := K2
    refine do_st K2 (i := 2) rfl (by simp) fun v3 K3 k3 => ?_
    have K3 : Blk v3 kb #[.int .i64 0, .bool false, .bool false, .bool false, .nilFunc] 73 := K3
    refine do_st K3 (i := 3) rfl (by simp) fun v4 K4 k4 => ?_
    have K4 : Blk v4 kb #[.int .i64 0, .bool false, .bool false, .bool false, .nilFunc] 73 := K4
    refine do_st K4 (i := 4) rfl (by simp) fun v5 K5 k5 => ?_
    have K5 : Blk v5 kb #[.int .i64 0, .bool false, .bool false, .bool false, .nilFunc] 73 := K5
    exact h45 v5 kb .nilFunc w2 (d2.trans (((((E.st k1 lk).st k2 lk).st k3 lk).st k4 lk).st k5 lk)) (Nat.le_trans d2s lk) K5.lt (.inr ⟨hd, K5⟩)
  have hlk : ∀ (v : World) (m : Nat) (S : Value → Prop), v.heap[m]? = some (.map (planEs bb) 22) → (∀ f, Does bb x.op f → S (kV bb x.op f)) → (¬ (1 ≤ x.op ∧ x.op ≤ 22) → S (.agg #[.int .i64 0, .bool false, .bool false, .bool false, .nilFunc])) → doLk Tryz.prog 74 (.map (some m)) (.int .u8 x.op) false v S := fun v m S hm h1 h2 => by
    by_cases hd : 1 ≤ x.op ∧ x.op ≤ 22
    · obtain ⟨i, f, hf, hdo⟩ := find_plan (bb := bb) hd
      exact do_lk1_hit Tryz.underlying74 Tryz.underlying5 hm (by rfl) hf (h1 f hdo)
    · exact do_lk1_miss Tryz.underlying74 Tryz.underlying5 hm (by rfl) (find_plan_none hd) (z := .agg #[.int .i64 0, .bool false, .bool false, .bool false, .nilFunc]) (by kernel_rfl) (h2 hd)
  refine ⟨fun w' => Ext w2.drew w', ext_refl _, _, fun w' e' => (M2.X.ext e').cell (i := 0) rfl rfl, ?_, ?_⟩
  · refine do_call Tryz.call28 (c_pkinds fun m w3 e3 hm hml => retS_ret ⟨_, rfl, e3, ?_, ?_⟩)
    · refine hlk w3 m _ hm (fun f hdo => .inl ⟨_, _, _, _, _, _, _, rfl, ⟨?_⟩⟩) (fun hd => .inr ⟨rfl, ⟨?_⟩⟩)
      · exact ⟨e3.trans (ext_alloc _ _), hhit _ _ f (blk_alloc w3 _ _) (e3.trans (ext_alloc _ _)) e3.size hdo⟩
      · exact ⟨e3.trans (ext_alloc _ _), hmiss _ _ (blk_alloc w3 _ _) (e3.trans (ext_alloc _ _)) e3.size hd⟩
    · refine ⟨⟨e3.trans (ext_alloc _ _), ?_⟩⟩
      have e4 := ext_alloc w3 (.cells #[.int .i64 0, .bool false, .bool false, .bool false, .nilFunc] 73)
      refine hlk _ m _ ((e4.block m (Array.getElem?_eq_some_iff.1 hm).1).trans hm) (fun f hdo => .inl ⟨_, _, _, _, _, _, _, rfl, ?_⟩) (fun hd => .inr ⟨rfl, ?_⟩)
      · exact hhit _ _ f (blk_alloc w3 _ _) (e3.trans e4) e3.size hdo
      · exact hmiss _ _ (blk_alloc w3 _ _) (e3.trans e4) e3.size hd
  · refine ⟨⟨ext_alloc _ _, ?_⟩⟩
    have e4 := ext_alloc w2.drew (.cells #[.int .i64 0, .bool false, .bool false, .bool false, .nilFunc] 73)
    refine do_call Tryz.call28 (c_pkinds fun m w3 e3 hm hml => retS_ret ⟨_, rfl, e4.trans e3, ?_⟩)
    refine hlk w3 m _ hm (fun f hdo => .inl ⟨_, _, _, _, _, _, _, rfl, ?_⟩) (fun hd => .inr ⟨rfl, ?_⟩)
    · exact hhit _ _ f ((blk_alloc w2.drew _ _).ext e3) (e4.trans e3) (Nat.le_refl _) hdo
    · exact hmiss _ _ ((blk_alloc w2.drew _ _).ext e3) (e4.trans e3) (Nat.le_refl _) hd
end Go.Proofs.YtmdboekndjlmgaaGreat

namespace Go.Proofs.YtmdboekndjlmgaaGreat
open Go Go.Sh Go.RowKit

theorem c_plen {P : Nat → Prop} {bb : Nat} {o : Int} {L : Rows} {w : World} {R : EW} (hB : BookN P w bb o L) (h : R (.returned (.int .i64 L.length)) w) : Calls Tryz.prog 14 #[.pointer (some (blk bb))] w R := by
  refine sh14_ok _ ?_
  unfold sh14
  obtain ⟨p, c, vs, hb, _⟩ := hB.ex
  exact ifB_f rfl ⟨_, rfl, _, _, _, hb.cell (i := 1) rfl rfl, h⟩
theorem c_prow {P : Nat → Prop} {bb : Nat} {o m : Int} {L : Rows} {w : World} {R : EW} (hB : BookN P w bb o L) (hz : (atL L m).length ≤ 5000) (h0 : thereL L m = false → R (.returned (.tuple #[.slice none 0 0, .bool false])) w)
    (h1 : ∀ p n c w', thereL L m = true → OwnP w' w.heap.size p n c (atL L m) → Ext w w' → R (.returned (.tuple #[.slice p n c, .bool true])) w') : Calls Tryz.prog 11 #[.pointer (some (blk bb)), .int .i64 m] w R := by
  refine sh11_ok _ _ ?_
  unfold sh11
  intro K5
  refine ifB_f rfl (do_call Tryz.call26 (c_there hB (retS_ret ⟨_, rfl, ?_⟩)))
  cases ht : thereL L m with
  | false =>
    simp -zeta -zetaHave only [K5]
    exact ifB_t rfl (h0 ht)
  | true =>
    obtain ⟨p, c, hb, hix⟩ := hB.ix (m := m)
    obtain ⟨a, q, d, ha, hm0, hm1, hcell, ⟨q', d', e, hn, hcs, hq⟩, _⟩ := hix ht
    injection e with e1 e2 e3
    subst e1 e3
    simp -zeta -zetaHave only [K5]
    refine ifB_f rfl ⟨_, rfl, _, _, _, hb.cell (i := 1) rfl rfl, a, ha, hm0, hm1, _, _, _, hcell, ?_⟩
    exact do_call Tryz.call27 (c_clone hcs rfl (by omega) fun p c w' g e => retS_ret ⟨_, _, _, rfl, h1 _ _ _ _ ht g e⟩)
theorem c_pnew {o : Int} {w : World} {R : EW} (h0 : ∀ w', Ext w w' → isO o = false → R (.returned (.tuple #[.pointer none, .int .i64 2])) w')
    (h1 : ∀ bb w', isO o = true → BookAt w' bb o [[]] → Ext w w' → (∀ k, BkOwn bb w' k → w.heap.size ≤ k) → R (.returned (.tuple #[.pointer (some (blk bb)), .int .i64 0])) w') : Calls Tryz.prog 16 #[.int .u8 o] w R := by
  refine sh16_ok _ ?_
  unfold sh16
  refine do_call Tryz.call30 (c_name fun w1 e1 => retS_ret ⟨_, rfl, ?_⟩)
  rw [name_empty]
  cases ho : isO o with
  | false => exact ifB_t rfl (h0 _ e1 ho)
  | true =>
  refine ifB_f rfl ?_
  obtain ⟨i, hi, hz, hsz, hby⟩ := elV.hi
  obtain ⟨w2, hr, hro, hg⟩ := run_makeSlice_full (P := Tryz.prog) (w := w1) w1.heap.size 55 22 i _ 1 elV.ht hi hz hsz .i64 .i64 1 (by omega) (by rw [hby]; omega) (by simp [maxLen]) (Nat.le_refl _)
  refine ⟨_, _, _, w2, hr, ⟨?_⟩⟩
  have e2 : Ext w1 w2 := (ext_refl w1).grown hg (by intro k hk; cases hk)
  have em : (madeCells (Value.slice none 0 0).cells (1 * 1)).toList = [.slice none 0 0] := by first | kernel_rfl | simp [madeCells, Value.cells]
  rw [em] at hro
  have hlt := hro.lt w1.heap.size rfl
  have e3 := ext_alloc w2 (.cells #[.int .u8 o, .slice (some ⟨w1.heap.size, 0, none⟩) 1 1] 70)
  have hb := blk_alloc w2 #[.int .u8 o, .slice (some ⟨w1.heap.size, 0, none⟩) 1 1] 70
  have ho3 := e3.row hro
  generalize w2.alloc (.cells #[.int .u8 o, .slice (some ⟨w1.heap.size, 0, none⟩) 1 1] 70) = w3 at *
  have e1s := e1.size
  have E := (e1.trans e2).trans e3
  refine h1 _ w3 ho ⟨_, _, [.slice none 0 0], hb, ⟨⟨ho3.1, ?_⟩, fun e => by have e : w1.heap.size = w2.heap.size := Option.some.inj e; omega⟩, fun i l hl => ?_⟩ E fun k hk => ?_
  · rcases ho3.2 with ⟨hv, _⟩ | ⟨g, cap, cur, hv, hb0, hgg, rest⟩
    · cases hv
    · exact .inr ⟨g, cap, cur, hv, Nat.zero_le _, hgg, rest⟩
  · match i, hl with
    | 0, hl =>
      obtain rfl : [] = l := by simpa using hl
      exact ⟨_, rfl, rowAt_nil _ _ _, fun a n c e _ => by cases e⟩
    | i + 1, hl => simp at hl
  · rcases (bk_own hb k).1 hk with rfl | hk
    · omega
    · have hk : w1.heap.size = k := Option.some.inj hk
      omega
end Go.Proofs.YtmdboekndjlmgaaGreat

