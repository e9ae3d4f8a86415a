/-
  The methods of a book of versions.
-/
import Derived.Test.YtmdboekndjlmgaaGreatZ26

set_option maxRecDepth 100000
set_option maxHeartbeats 6400000
namespace Go.Proofs.YtmdboekndjlmgaaGreat
open Go Go.Sh Go.RowKit

structure Arg (P : Nat → Prop) (bb : Nat) (o : Int) (L : Rows) (x : POp) (a c : List Pr) (pv kv va vc : Value) (w : World) : Prop where
  B : BookN P w bb o L
  hP : ∀ k, w.heap.size ≤ k → P k
  zL : L.length ≤ 4500
  inx : InO x
  rp : RowAt (BkOwn bb) bb w pv x.pairs.length (prs x.pairs)
  rk : RowAt (BkOwn bb) bb w kv x.keys.length (ints x.keys)
  zp : x.pairs.length ≤ 5000
  zk : x.keys.length ≤ 5000
  ra : RowAt (BkOwn bb) bb w va a.length (prs a)
  rc : RowAt (BkOwn bb) bb w vc c.length (prs c)
  Ia : InP a
  Ic : InP c
  za : a.length ≤ 5000
  zc : c.length ≤ 5000
structure Mid (P : Nat → Prop) (bb : Nat) (o : Int) (L : Rows) (x : POp) (pv kv : Value) (w0 : World) (xb rb : Nat) (w : World) : Prop where
  B : BookN (fun k => P k ∧ k ≠ xb ∧ k ≠ rb) w bb o L
  X : OpAt w xb x pv kv
  Y : Blk w rb #[.int .i64 0, .bool false, .int .i64 0, .int .i64 0, .int .i64 0, .slice none 0 0, .slice none 0 0] 34
  E : Ext w0 w
  lx : w0.heap.size ≤ xb
  lr : w0.heap.size ≤ rb
  ne : xb ≠ rb
  nx : ¬ BkOwn bb w xb
  ny : ¬ BkOwn bb w rb
theorem Mid.ext {P : Nat → Prop} {bb : Nat} {o : Int} {L : Rows} {x : POp} {pv kv : Value} {w0 w : World} {xb rb : Nat} {w' : World} (M : Mid P bb o L x pv kv w0 xb rb w) (e : Ext w w') : Mid P bb o L x pv kv w0 xb rb w' :=
  ⟨M.B.ext e, M.X.ext e, M.Y.ext e, M.E.trans e, M.lx, M.lr, M.ne, fun h => M.nx ((M.B.own_ext e _).1 h), fun h => M.ny ((M.B.own_ext e _).1 h)⟩
theorem mid0 {P : Nat → Prop} {bb : Nat} {o : Int} {L : Rows} (x : POp) (pv kv : Value) {w : World} {K : Nat → Nat → World → Prop} (hB : BookN P w bb o L) (h : ∀ xb rb w', Mid P bb o L x pv kv w xb rb w' → K xb rb w') :
    doAl (.cells (opCells x pv kv) 30) w (fun b1 w1 => doAl (.cells #[.int .i64 0, .bool false, .int .i64 0, .int .i64 0, .int .i64 0, .slice none 0 0, .slice none 0 0] 34) w1 (fun b2 w2 => K b1 b2 w2)) := by
  refine ⟨⟨?_⟩⟩
  have e1 := ext_alloc w (.cells (opCells x pv kv) 30)
  have X1 : OpAt _ _ x pv kv := blk_alloc w (opCells x pv kv) 30
  generalize w.alloc (.cells (opCells x pv kv) 30) = w1 at *
  have e2 := ext_alloc w1 (.cells #[.int .i64 0, .bool false, .int .i64 0, .int .i64 0, .int .i64 0, .slice none 0 0, .slice none 0 0] 34)
  have Y2 := blk_alloc w1 #[.int .i64 0, .bool false, .int .i64 0, .int .i64 0, .int .i64 0, .slice none 0 0, .slice none 0 0] 34
  generalize w1.alloc (.cells #[.int .i64 0, .bool false, .int .i64 0, .int .i64 0, .int .i64 0, .slice none 0 0, .slice none 0 0] 34) = w2 at *
  have l1 := X1.lt
  have E2 := e1.trans e2
  have own := hB.own_ext E2
  exact h _ _ _ ⟨(hB.top.up fun k hk => ⟨hk.1, by have := hk.2; omega, by have := hk.2; omega⟩).ext E2, X1.ext e2, Y2, E2, Nat.le_refl _, e1.size, by omega, fun hk => by have := hB.lt ((own _).1 hk); omega, fun hk => by have := hB.lt ((own _).1 hk); omega⟩
def Cls (bb : Nat) (o : Int) (xb : Nat) (x : POp) (pv kv : Value) (w : World) : Prop := w.cell? ⟨bb, 0, none⟩ = some (.int .u8 o) ∧ OpAt w xb x pv kv
theorem Mid.cls {P : Nat → Prop} {bb : Nat} {o : Int} {L : Rows} {x : POp} {pv kv : Value} {w0 w : World} {xb rb : Nat} (M : Mid P bb o L x pv kv w0 xb rb w) : Cls bb o xb x pv kv w := ⟨M.B.ord, M.X⟩
theorem Mid.done {P : Nat → Prop} {bb : Nat} {o : Int} {L : Rows} {x : POp} {pv kv : Value} {w0 w : World} {xb rb : Nat} {v : Value} {r : Rep} {R : EW} (M : Mid P bb o L x pv kv w0 xb rb w) (B0 : BookN P w0 bb o L) (hR : RepAt (rb + 1) bb w v r) {w' : World} (g : w.grownBy w' (some rb))
    (h : ∀ v w', RepAt w0.heap.size bb w' v r → BookN P w' bb o L → Chg (BkOwn bb) (fun _ => False) w0 w' → R (.returned v) w') : R (.returned v) w' := by
  have B := M.B.st g fun k hk => by cases hk; exact ⟨fun hp => hp.2.2 rfl, M.ny⟩
  have lr := M.lr
  exact h _ _ ((hR.st g (by omega) fun k hk => (B.2 k).1 hk).mono (by omega)) (B.1.up fun _ h => h.1) (chg_hi (B0.chg M.E) g (fun k hk => by cases hk; exact lr) fun k hk => (B.2 k).1 hk)
theorem Mid.read {P : Nat → Prop} {bb : Nat} {o : Int} {L : Rows} {x : POp} {pv kv : Value} {w0 w : World} {xb rb : Nat} {v : Value} {r : Rep} {R : EW} {C : World → Prop} (M : Mid P bb o L x pv kv w0 xb rb w) (B0 : BookN P w0 bb o L) (hR : RepAt (rb + 1) bb w v r) (hc : C w)
    (h : ∀ v w', RepAt w0.heap.size bb w' v r → BookN P w' bb o L → Chg (BkOwn bb) (fun _ => False) w0 w' → R (.returned v) w') : ∃ (x0 : Int), ∃ (x1 : Bool), ∃ (x2 : Int), ∃ (x3 : Int), ∃ (x4 : Int), ∃ (p5 : OA), ∃ (n5 : Nat), ∃ (c5 : Nat), ∃ (p6 : OA), ∃ (n6 : Nat), ∃ (c6 : Nat), v = (.agg #[.int .i64 x0, .bool x1, .int .i64 x2, .int .i64 x3, .int .i64 x4, .slice p5 n5 c5, .slice p6 n6 c6] : Value) ∧ (C w ∧ (doSt ((blk rb).add 0) (.int .i64 x0) w fun w1 => doSt ((blk rb).add 1) (.bool x1) w1 fun w2 => doSt ((blk rb).add 2) (.int .i64 x2) w2 fun w3 => doSt ((blk rb).add 3) (.int .i64 x3) w3 fun w4 => doSt ((blk rb).add 4) (.int .i64 x4) w4 fun w5 => doSt ((blk rb).add 5) (.slice p5 n5 c5) w5 fun w6 => doSt ((blk rb).add 6) (.slice p6 n6 c6) w6 fun w7 => ∃ (y0 : Int), w7.cell? ((blk rb).add 0) = some (.int .i64 y0) ∧ (∃ (y1 : Bool), w7.cell? ((blk rb).add 1) = some (.bool y1) ∧ (∃ (y2 : Int), w7.cell? ((blk rb).add 2) = some (.int .i64 y2) ∧ (∃ (y3 : Int), w7.cell? ((blk rb).add 3) = some (.int .i64 y3) ∧ (∃ (y4 : Int), w7.cell? ((blk rb).add 4) = some (.int .i64 y4) ∧ (∃ (q5 : OA), ∃ (m5 : Nat), ∃ (d5 : Nat), w7.cell? ((blk rb).add 5) = some (.slice q5 m5 d5) ∧ (∃ (q6 : OA), ∃ (m6 : Nat), ∃ (d6 : Nat), w7.cell? ((blk rb).add 6) = some (.slice q6 m6 d6) ∧ (R (.returned (.agg #[.int .i64 y0, .bool y1, .int .i64 y2, .int .i64 y3, .int .i64 y4, .slice q5 m5 d5, .slice q6 m6 d6])) w7))))))))) :=
  rep_end hR M.B (B0.chg M.E) M.Y (by omega) M.lr (fun hp => hp.2.2 rfl) M.ny hc fun v w' r b k => h v w' (r.mono M.lr) (b.up fun _ h => h.1) k
theorem Mid.read' {P : Nat → Prop} {bb : Nat} {o : Int} {L : Rows} {x : POp} {pv kv : Value} {w0 w : World} {xb rb : Nat} {v : Value} {r : Rep} {R : EW} (M : Mid P bb o L x pv kv w0 xb rb w) (B0 : BookN P w0 bb o L) (hR : RepAt (rb + 1) bb w v r)
    (h : ∀ v w', RepAt w0.heap.size bb w' v r → BookN P w' bb o L → Chg (BkOwn bb) (fun _ => False) w0 w' → R (.returned v) w') : ∃ (x0 : Int), ∃ (x1 : Bool), ∃ (x2 : Int), ∃ (x3 : Int), ∃ (x4 : Int), ∃ (p5 : OA), ∃ (n5 : Nat), ∃ (c5 : Nat), ∃ (p6 : OA), ∃ (n6 : Nat), ∃ (c6 : Nat), v = (.agg #[.int .i64 x0, .bool x1, .int .i64 x2, .int .i64 x3, .int .i64 x4, .slice p5 n5 c5, .slice p6 n6 c6] : Value) ∧ (doSt ((blk rb).add 0) (.int .i64 x0) w fun w1 => doSt ((blk rb).add 1) (.bool x1) w1 fun w2 => doSt ((blk rb).add 2) (.int .i64 x2) w2 fun w3 => doSt ((blk rb).add 3) (.int .i64 x3) w3 fun w4 => doSt ((blk rb).add 4) (.int .i64 x4) w4 fun w5 => doSt ((blk rb).add 5) (.slice p5 n5 c5) w5 fun w6 => doSt ((blk rb).add 6) (.slice p6 n6 c6) w6 fun w7 => ∃ (y0 : Int), w7.cell? ((blk rb).add 0) = some (.int .i64 y0) ∧ (∃ (y1 : Bool), w7.cell? ((blk rb).add 1) = some (.bool y1) ∧ (∃ (y2 : Int), w7.cell? ((blk rb).add 2) = some (.int .i64 y2) ∧ (∃ (y3 : Int), w7.cell? ((blk rb).add 3) = some (.int .i64 y3) ∧ (∃ (y4 : Int), w7.cell? ((blk rb).add 4) = some (.int .i64 y4) ∧ (∃ (q5 : OA), ∃ (m5 : Nat), ∃ (d5 : Nat), w7.cell? ((blk rb).add 5) = some (.slice q5 m5 d5) ∧ (∃ (q6 : OA), ∃ (m6 : Nat), ∃ (d6 : Nat), w7.cell? ((blk rb).add 6) = some (.slice q6 m6 d6) ∧ (R (.returned (.agg #[.int .i64 y0, .bool y1, .int .i64 y2, .int .i64 y3, .int .i64 y4, .slice q5 m5 d5, .slice q6 m6 d6])) w7)))))))) :=
  rep_end' hR M.B (B0.chg M.E) M.Y (by omega) M.lr (fun hp => hp.2.2 rfl) M.ny fun v w' r b k => h v w' (r.mono M.lr) (b.up fun _ h => h.1) k
section
variable {P : Nat → Prop} {bb : Nat} {o : Int} {L : Rows} {x : POp} {pv kv : Value} {w0 w : World} {xb rb : Nat} {w' : World} {p : OA} {n c : Nat} {l : List Pr} {e' : Int} {R : EW} {Kp : List PanicEntry → World → Prop}
theorem Mid.count {C : World → Prop} (M : Mid P bb o L x pv kv w0 xb rb w) (B0 : BookN P w0 bb o L) (hP : ∀ k, w0.heap.size ≤ k → P k) (zL : L.length ≤ 4500) (ho : OwnP w' w.heap.size p n c l) (e : Ext w w') (hc : ∀ w'', Cls bb o xb x pv kv w'' → C w'')
    (h : ∀ v w', RepAt w0.heap.size bb w' v (countP L l).1 → BookN P w' bb o (countP L l).2 → Chg (BkOwn bb) (fun _ => False) w0 w' → R (.returned v) w') :
    Calls Tryz.prog 105 #[.pointer (some (blk bb)), .slice p n c, .int .i64 e'] w' (retS (fun v w => ∃ (x0 : Int), ∃ (x1 : Bool), ∃ (x2 : Int), ∃ (x3 : Int), ∃ (x4 : Int), ∃ (p5 : OA), ∃ (n5 : Nat), ∃ (c5 : Nat), ∃ (p6 : OA), ∃ (n6 : Nat), ∃ (c6 : Nat), v = (.agg #[.int .i64 x0, .bool x1, .int .i64 x2, .int .i64 x3, .int .i64 x4, .slice p5 n5 c5, .slice p6 n6 c6] : Value) ∧ (C w ∧ (doSt ((blk rb).add 0) (.int .i64 x0) w fun w1 => doSt ((blk rb).add 1) (.bool x1) w1 fun w2 => doSt ((blk rb).add 2) (.int .i64 x2) w2 fun w3 => doSt ((blk rb).add 3) (.int .i64 x3) w3 fun w4 => doSt ((blk rb).add 4) (.int .i64 x4) w4 fun w5 => doSt ((blk rb).add 5) (.slice p5 n5 c5) w5 fun w6 => doSt ((blk rb).add 6) (.slice p6 n6 c6) w6 fun w7 => ∃ (y0 : Int), w7.cell? ((blk rb).add 0) = some (.int .i64 y0) ∧ (∃ (y1 : Bool), w7.cell? ((blk rb).add 1) = some (.bool y1) ∧ (∃ (y2 : Int), w7.cell? ((blk rb).add 2) = some (.int .i64 y2) ∧ (∃ (y3 : Int), w7.cell? ((blk rb).add 3) = some (.int .i64 y3) ∧ (∃ (y4 : Int), w7.cell? ((blk rb).add 4) = some (.int .i64 y4) ∧ (∃ (q5 : OA), ∃ (m5 : Nat), ∃ (d5 : Nat), w7.cell? ((blk rb).add 5) = some (.slice q5 m5 d5) ∧ (∃ (q6 : OA), ∃ (m6 : Nat), ∃ (d6 : Nat), w7.cell? ((blk rb).add 6) = some (.slice q6 m6 d6) ∧ (R (.returned (.agg #[.int .i64 y0, .bool y1, .int .i64 y2, .int .i64 y3, .int .i64 y4, .slice q5 m5 d5, .slice q6 m6 d6])) w7)))))))))) Kp) := by
  have M' := M.ext e
  obtain rfl : l.length = n := ownP_len ho
  have lX := M.X.lt
  have lY := M.Y.lt
  refine c_counted M'.B zL (RowAt.own_row ho (fun k hk => .inl (M.B.lt ((M.B.own_ext e k).1 hk))) (M.B.lt (.inl rfl))) (fun a n c e _ => by injection e with e1; have := (row_lt ho e1).1; have := M.E.size; exact ⟨hP _ (by omega), by omega, by omega⟩) fun v w3 hR hB3 hC3 => retS_ret ?_
  exact rep_end hR hB3 ((B0.chg M'.E).trans hC3) (hC3.blk M'.Y M'.ny fun h => h) M'.Y.lt M.lr (fun hp => hp.2.2 rfl) (hC3.out _ M'.Y.lt M'.ny) (hc _ ⟨hB3.ord, hC3.blk M'.X M'.nx fun h => h⟩) fun v w' r b k => h v w' (r.mono M.lr) (b.up fun _ h => h.1) k
theorem Mid.count' (M : Mid P bb o L x pv kv w0 xb rb w) (B0 : BookN P w0 bb o L) (hP : ∀ k, w0.heap.size ≤ k → P k) (zL : L.length ≤ 4500) (ho : OwnP w' w.heap.size p n c l) (e : Ext w w')
    (h : ∀ v w', RepAt w0.heap.size bb w' v (countP L l).1 → BookN P w' bb o (countP L l).2 → Chg (BkOwn bb) (fun _ => False) w0 w' → R (.returned v) w') :
    Calls Tryz.prog 105 #[.pointer (some (blk bb)), .slice p n c, .int .i64 e'] w' (retS (fun v w => ∃ (x0 : Int), ∃ (x1 : Bool), ∃ (x2 : Int), ∃ (x3 : Int), ∃ (x4 : Int), ∃ (p5 : OA), ∃ (n5 : Nat), ∃ (c5 : Nat), ∃ (p6 : OA), ∃ (n6 : Nat), ∃ (c6 : Nat), v = (.agg #[.int .i64 x0, .bool x1, .int .i64 x2, .int .i64 x3, .int .i64 x4, .slice p5 n5 c5, .slice p6 n6 c6] : Value) ∧ (doSt ((blk rb).add 0) (.int .i64 x0) w fun w1 => doSt ((blk rb).add 1) (.bool x1) w1 fun w2 => doSt ((blk rb).add 2) (.int .i64 x2) w2 fun w3 => doSt ((blk rb).add 3) (.int .i64 x3) w3 fun w4 => doSt ((blk rb).add 4) (.int .i64 x4) w4 fun w5 => doSt ((blk rb).add 5) (.slice p5 n5 c5) w5 fun w6 => doSt ((blk rb).add 6) (.slice p6 n6 c6) w6 fun w7 => ∃ (y0 : Int), w7.cell? ((blk rb).add 0) = some (.int .i64 y0) ∧ (∃ (y1 : Bool), w7.cell? ((blk rb).add 1) = some (.bool y1) ∧ (∃ (y2 : Int), w7.cell? ((blk rb).add 2) = some (.int .i64 y2) ∧ (∃ (y3 : Int), w7.cell? ((blk rb).add 3) = some (.int .i64 y3) ∧ (∃ (y4 : Int), w7.cell? ((blk rb).add 4) = some (.int .i64 y4) ∧ (∃ (q5 : OA), ∃ (m5 : Nat), ∃ (d5 : Nat), w7.cell? ((blk rb).add 5) = some (.slice q5 m5 d5) ∧ (∃ (q6 : OA), ∃ (m6 : Nat), ∃ (d6 : Nat), w7.cell? ((blk rb).add 6) = some (.slice q6 m6 d6) ∧ (R (.returned (.agg #[.int .i64 y0, .bool y1, .int .i64 y2, .int .i64 y3, .int .i64 y4, .slice q5 m5 d5, .slice q6 m6 d6])) w7))))))))) Kp) :=
  (M.count (C := fun _ => True) (Kp := Kp) B0 hP zL ho e (fun _ _ => trivial) h).mono fun en w hr => by
    cases en with
    | returned v =>
      obtain ⟨x0, x1, x2, x3, x4, p5, n5, c5, p6, n6, c6, e, _, k⟩ := hr
      exact ⟨x0, x1, x2, x3, x4, p5, n5, c5, p6, n6, c6, e, k⟩
    | _ => exact hr
end
theorem c_found {k v : Int} {is : Bool} {w : World} {R : EW} (h : ∀ w', Ext w w' → R (.returned (rep0 (foundP (k, v) is))) w') : Calls Tryz.prog 102 #[agP (k, v), .bool is] w R := by
  refine sh102_ok _ _ _ ?_
  unfold sh102
  refine ⟨⟨?_⟩⟩
  have e1 := ext_alloc w (.cells #[.int .i64 k, .int .i64 v] 63)
  have X1 := blk_alloc w #[.int .i64 k, .int .i64 v] 63
  generalize w.alloc (.cells #[.int .i64 k, .int .i64 v] 63) = w1 at *
  have e2 := ext_alloc w1 (.cells #[.int .i64 0, .bool false, .int .i64 0, .int .i64 0, .int .i64 0, .slice none 0 0, .slice none 0 0] 34)
  have Y2 := blk_alloc w1 #[.int .i64 0, .bool false, .int .i64 0, .int .i64 0, .int .i64 0, .slice none 0 0, .slice none 0 0] 34
  generalize w1.alloc (.cells #[.int .i64 0, .bool false, .int .i64 0, .int .i64 0, .int .i64 0, .slice none 0 0, .slice none 0 0] 34) = w2 at *
  have X2 := X1.ext e2
  have E2 := e1.trans e2
  cases is with
  | false => exact ifB_t rfl (ep7 Y2 fun w' g => h w' (E2.st g e1.size))
  | true => exact ifB_f rfl ⟨_, X2.cell (i := 0) rfl rfl, _, X2.cell (i := 1) rfl rfl, ep7 Y2 fun w' g => h w' (E2.st g e1.size)⟩
theorem m_build {P : Nat → Prop} {bb : Nat} {o : Int} {L : Rows} {x : POp} {a c : List Pr} {pv kv va vc : Value} {w : World} {R : EW} (A : Arg P bb o L x a c pv kv va vc w) 
    (h : ∀ v w', RepAt w.heap.size bb w' v (countP L (srtP o x.pol x.pairs)).1 → BookN P w' bb o (countP L (srtP o x.pol x.pairs)).2 → Chg (BkOwn bb) (fun _ => False) w w' → R (.returned v) w') : Calls Tryz.prog 66 #[.pointer (some (blk bb)), opV x pv kv, va, vc] w R := by
  have Ap := A.rp
  have Ak := A.rk
  have Aa := A.ra
  have Ac := A.rc
  obtain ⟨pp, pc, rfl, hp1, hp2, hp3⟩ := Ap
  obtain ⟨kp, kc, rfl, hk1, hk2, hk3⟩ := Ak
  obtain ⟨qa, ca, rfl, ha1, ha2, ha3⟩ := Aa
  obtain ⟨qc, cc, rfl, hc1, hc2, hc3⟩ := Ac
  have za := A.za
  have zc := A.zc
  have zp := A.zp
  have zk := A.zk
  refine sh66_ok _ _ _ _ _ _ _ _ _ _ _ _ _ _ _ _ _ _ _ _ _ _ _ _ _ _ ?_
  unfold sh66
  refine mid0 x (.slice pp x.pairs.length pc) (.slice kp x.keys.length kc) A.B fun xb rb w2 M => ?_
  have M := M.ext (ext_drew w2)
  refine ⟨⟨Cls bb o xb x _ _, M.cls, _, rfl, o, fun w' h => h.1, _, fun w' h => h.2.cell (i := 8) rfl rfl, _, _, _, fun w' h => h.2.cell (i := 13) rfl rfl, ?_⟩⟩
  have ha := ha2.ext M.E
  have hc := hc2.ext M.E
  refine do_call Tryz.call106 (c_rsort (hp2.ext M.E) rfl (by omega) A.inx.pairs fun p n c3 w3 ho e3 => retS_ret ⟨_, _, _, _, rfl, do_call Tryz.call105 (M.count A.B A.hP A.zL ho e3 (fun _ h => h) h)⟩)
theorem m_union {P : Nat → Prop} {bb : Nat} {o : Int} {L : Rows} {x : POp} {a c : List Pr} {pv kv va vc : Value} {w : World} {R : EW} (A : Arg P bb o L x a c pv kv va vc w) 
    (h : ∀ v w', RepAt w.heap.size bb w' v (countP L (setL o x.pol wU a c)).1 → BookN P w' bb o (countP L (setL o x.pol wU a c)).2 → Chg (BkOwn bb) (fun _ => False) w w' → R (.returned v) w') : Calls Tryz.prog 67 #[.pointer (some (blk bb)), opV x pv kv, va, vc] w R := by
  have Ap := A.rp
  have Ak := A.rk
  have Aa := A.ra
  have Ac := A.rc
  obtain ⟨pp, pc, rfl, hp1, hp2, hp3⟩ := Ap
  obtain ⟨kp, kc, rfl, hk1, hk2, hk3⟩ := Ak
  obtain ⟨qa, ca, rfl, ha1, ha2, ha3⟩ := Aa
  obtain ⟨qc, cc, rfl, hc1, hc2, hc3⟩ := Ac
  have za := A.za
  have zc := A.zc
  have zp := A.zp
  have zk := A.zk
  refine sh67_ok _ _ _ _ _ _ _ _ _ _ _ _ _ _ _ _ _ _ _ _ _ _ _ _ _ _ ?_
  unfold sh67
  refine mid0 x (.slice pp x.pairs.length pc) (.slice kp x.keys.length kc) A.B fun xb rb w2 M => ?_
  have M := M.ext (ext_drew w2)
  refine ⟨⟨Cls bb o xb x _ _, M.cls, _, rfl, o, fun w' h => h.1, _, fun w' h => h.2.cell (i := 8) rfl rfl, ?_⟩⟩
  have ha := ha2.ext M.E
  have hc := hc2.ext M.E
  refine do_call Tryz.call107 (c_un ha rfl ha1 hc rfl hc1 (by omega) A.Ia A.Ic fun p n c3 w3 ho e3 => retS_ret ⟨_, _, _, _, rfl, do_call Tryz.call105 (M.count A.B A.hP A.zL ho e3 (fun _ h => h) h)⟩)
theorem m_meet {P : Nat → Prop} {bb : Nat} {o : Int} {L : Rows} {x : POp} {a c : List Pr} {pv kv va vc : Value} {w : World} {R : EW} (A : Arg P bb o L x a c pv kv va vc w) 
    (h : ∀ v w', RepAt w.heap.size bb w' v (countP L (setL o x.pol wM a c)).1 → BookN P w' bb o (countP L (setL o x.pol wM a c)).2 → Chg (BkOwn bb) (fun _ => False) w w' → R (.returned v) w') : Calls Tryz.prog 68 #[.pointer (some (blk bb)), opV x pv kv, va, vc] w R := by
  have Ap := A.rp
  have Ak := A.rk
  have Aa := A.ra
  have Ac := A.rc
  obtain ⟨pp, pc, rfl, hp1, hp2, hp3⟩ := Ap
  obtain ⟨kp, kc, rfl, hk1, hk2, hk3⟩ := Ak
  obtain ⟨qa, ca, rfl, ha1, ha2, ha3⟩ := Aa
  obtain ⟨qc, cc, rfl, hc1, hc2, hc3⟩ := Ac
  have za := A.za
  have zc := A.zc
  have zp := A.zp
  have zk := A.zk
  refine sh68_ok _ _ _ _ _ _ _ _ _ _ _ _ _ _ _ _ _ _ _ _ _ _ _ _ _ _ ?_
  unfold sh68
  refine mid0 x (.slice pp x.pairs.length pc) (.slice kp x.keys.length kc) A.B fun xb rb w2 M => ?_
  have M := M.ext (ext_drew w2)
  refine ⟨⟨Cls bb o xb x _ _, M.cls, _, rfl, o, fun w' h => h.1, _, fun w' h => h.2.cell (i := 8) rfl rfl, ?_⟩⟩
  have ha := ha2.ext M.E
  have hc := hc2.ext M.E
  refine do_call Tryz.call108 (c_me ha rfl ha1 hc rfl hc1 (by omega) A.Ia A.Ic fun p n c3 w3 ho e3 => retS_ret ⟨_, _, _, _, rfl, do_call Tryz.call105 (M.count A.B A.hP A.zL ho e3 (fun _ h => h) h)⟩)
theorem m_less {P : Nat → Prop} {bb : Nat} {o : Int} {L : Rows} {x : POp} {a c : List Pr} {pv kv va vc : Value} {w : World} {R : EW} (A : Arg P bb o L x a c pv kv va vc w) 
    (h : ∀ v w', RepAt w.heap.size bb w' v (countP L (setL o 1 wL a c)).1 → BookN P w' bb o (countP L (setL o 1 wL a c)).2 → Chg (BkOwn bb) (fun _ => False) w w' → R (.returned v) w') : Calls Tryz.prog 69 #[.pointer (some (blk bb)), opV x pv kv, va, vc] w R := by
  have Ap := A.rp
  have Ak := A.rk
  have Aa := A.ra
  have Ac := A.rc
  obtain ⟨pp, pc, rfl, hp1, hp2, hp3⟩ := Ap
  obtain ⟨kp, kc, rfl, hk1, hk2, hk3⟩ := Ak
  obtain ⟨qa, ca, rfl, ha1, ha2, ha3⟩ := Aa
  obtain ⟨qc, cc, rfl, hc1, hc2, hc3⟩ := Ac
  have za := A.za
  have zc := A.zc
  have zp := A.zp
  have zk := A.zk
  refine sh69_ok _ _ _ _ _ _ _ _ _ _ _ _ _ _ _ _ _ _ _ _ _ _ _ _ _ _ ?_
  unfold sh69
  refine mid0 x (.slice pp x.pairs.length pc) (.slice kp x.keys.length kc) A.B fun xb rb w2 M => ?_
  refine ⟨_, rfl, o, M.B.ord, ?_⟩
  have ha := ha2.ext M.E
  have hc := hc2.ext M.E
  refine do_call Tryz.call109 (c_le ha rfl ha1 hc rfl hc1 (by omega) A.Ia A.Ic fun p n c3 w3 ho e3 => retS_ret ⟨_, _, _, _, rfl, do_call Tryz.call105 (M.count' A.B A.hP A.zL ho e3 h)⟩)
theorem m_apart {P : Nat → Prop} {bb : Nat} {o : Int} {L : Rows} {x : POp} {a c : List Pr} {pv kv va vc : Value} {w : World} {R : EW} (A : Arg P bb o L x a c pv kv va vc w) 
    (h : ∀ v w', RepAt w.heap.size bb w' v (countP L (setL o 1 wA a c)).1 → BookN P w' bb o (countP L (setL o 1 wA a c)).2 → Chg (BkOwn bb) (fun _ => False) w w' → R (.returned v) w') : Calls Tryz.prog 70 #[.pointer (some (blk bb)), opV x pv kv, va, vc] w R := by
  have Ap := A.rp
  have Ak := A.rk
  have Aa := A.ra
  have Ac := A.rc
  obtain ⟨pp, pc, rfl, hp1, hp2, hp3⟩ := Ap
  obtain ⟨kp, kc, rfl, hk1, hk2, hk3⟩ := Ak
  obtain ⟨qa, ca, rfl, ha1, ha2, ha3⟩ := Aa
  obtain ⟨qc, cc, rfl, hc1, hc2, hc3⟩ := Ac
  have za := A.za
  have zc := A.zc
  have zp := A.zp
  have zk := A.zk
  refine sh70_ok _ _ _ _ _ _ _ _ _ _ _ _ _ _ _ _ _ _ _ _ _ _ _ _ _ _ ?_
  unfold sh70
  refine mid0 x (.slice pp x.pairs.length pc) (.slice kp x.keys.length kc) A.B fun xb rb w2 M => ?_
  refine ⟨_, rfl, o, M.B.ord, ?_⟩
  have ha := ha2.ext M.E
  have hc := hc2.ext M.E
  refine do_call Tryz.call110 (c_ap ha rfl ha1 hc rfl hc1 (by omega) A.Ia A.Ic fun p n c3 w3 ho e3 => retS_ret ⟨_, _, _, _, rfl, do_call Tryz.call105 (M.count' A.B A.hP A.zL ho e3 h)⟩)
theorem m_span {P : Nat → Prop} {bb : Nat} {o : Int} {L : Rows} {x : POp} {a c : List Pr} {pv kv va vc : Value} {w : World} {R : EW} (A : Arg P bb o L x a c pv kv va vc w) 
    (h : ∀ v w', RepAt w.heap.size bb w' v (countP L (rngP o a x.lo x.hi)).1 → BookN P w' bb o (countP L (rngP o a x.lo x.hi)).2 → Chg (BkOwn bb) (fun _ => False) w w' → R (.returned v) w') : Calls Tryz.prog 76 #[.pointer (some (blk bb)), opV x pv kv, va, vc] w R := by
  have Ap := A.rp
  have Ak := A.rk
  have Aa := A.ra
  have Ac := A.rc
  obtain ⟨pp, pc, rfl, hp1, hp2, hp3⟩ := Ap
  obtain ⟨kp, kc, rfl, hk1, hk2, hk3⟩ := Ak
  obtain ⟨qa, ca, rfl, ha1, ha2, ha3⟩ := Aa
  obtain ⟨qc, cc, rfl, hc1, hc2, hc3⟩ := Ac
  have za := A.za
  have zc := A.zc
  have zp := A.zp
  have zk := A.zk
  refine sh76_ok _ _ _ _ _ _ _ _ _ _ _ _ _ _ _ _ _ _ _ _ _ _ _ _ _ _ ?_
  unfold sh76
  refine mid0 x (.slice pp x.pairs.length pc) (.slice kp x.keys.length kc) A.B fun xb rb w2 M => ?_
  have M := M.ext (ext_drew w2)
  refine ⟨⟨Cls bb o xb x _ _, M.cls, _, rfl, o, fun w' h => h.1, _, fun w' h => h.2.cell (i := 5) rfl rfl, _, fun w' h => h.2.cell (i := 6) rfl rfl, ?_⟩⟩
  have ha := ha2.ext M.E
  have hc := hc2.ext M.E
  refine do_call Tryz.call113 (c_range A.inx.lo A.inx.hi ha rfl ha1 (by omega) A.Ia fun p n c3 w3 ho e3 => retS_ret ⟨_, _, _, _, rfl, do_call Tryz.call105 (M.count A.B A.hP A.zL ho e3 (fun _ h => h) h)⟩)
theorem m_keep {P : Nat → Prop} {bb : Nat} {o : Int} {L : Rows} {x : POp} {a c : List Pr} {pv kv va vc : Value} {w : World} {R : EW} (A : Arg P bb o L x a c pv kv va vc w) 
    (h : ∀ v w', RepAt w.heap.size bb w' v (countP L (keepP x.pk x.pa x.pb x.pnot a)).1 → BookN P w' bb o (countP L (keepP x.pk x.pa x.pb x.pnot a)).2 → Chg (BkOwn bb) (fun _ => False) w w' → R (.returned v) w') : Calls Tryz.prog 71 #[.pointer (some (blk bb)), opV x pv kv, va, vc] w R := by
  have Ap := A.rp
  have Ak := A.rk
  have Aa := A.ra
  have Ac := A.rc
  obtain ⟨pp, pc, rfl, hp1, hp2, hp3⟩ := Ap
  obtain ⟨kp, kc, rfl, hk1, hk2, hk3⟩ := Ak
  obtain ⟨qa, ca, rfl, ha1, ha2, ha3⟩ := Aa
  obtain ⟨qc, cc, rfl, hc1, hc2, hc3⟩ := Ac
  have za := A.za
  have zc := A.zc
  have zp := A.zp
  have zk := A.zk
  refine sh71_ok _ _ _ _ _ _ _ _ _ _ _ _ _ _ _ _ _ _ _ _ _ _ _ _ _ _ ?_
  unfold sh71
  refine mid0 x (.slice pp x.pairs.length pc) (.slice kp x.keys.length kc) A.B fun xb rb w2 M => ?_
  refine ⟨_, M.X.cell (i := 9) rfl rfl, _, M.X.cell (i := 10) rfl rfl, _, M.X.cell (i := 11) rfl rfl, _, M.X.cell (i := 12) rfl rfl, ?_⟩
  have ha := ha2.ext M.E
  refine do_call Tryz.call111 (c_skeep A.inx.pa A.inx.pb ha rfl (by omega) A.Ia fun p n c3 w3 ho e3 => retS_ret ⟨_, _, _, _, rfl, do_call Tryz.call105 (M.count' A.B A.hP A.zL ho e3 h)⟩)
theorem m_puts {P : Nat → Prop} {bb : Nat} {o : Int} {L : Rows} {x : POp} {a c : List Pr} {pv kv va vc : Value} {w : World} {R : EW} (A : Arg P bb o L x a c pv kv va vc w) (HO : isO o = true)
    (h : ∀ v w', RepAt w.heap.size bb w' v (countP L (setL o x.pol wU a (srtP o x.pol x.pairs))).1 → BookN P w' bb o (countP L (setL o x.pol wU a (srtP o x.pol x.pairs))).2 → Chg (BkOwn bb) (fun _ => False) w w' → R (.returned v) w') : Calls Tryz.prog 72 #[.pointer (some (blk bb)), opV x pv kv, va, vc] w R := by
  have Ap := A.rp
  have Ak := A.rk
  have Aa := A.ra
  have Ac := A.rc
  obtain ⟨pp, pc, rfl, hp1, hp2, hp3⟩ := Ap
  obtain ⟨kp, kc, rfl, hk1, hk2, hk3⟩ := Ak
  obtain ⟨qa, ca, rfl, ha1, ha2, ha3⟩ := Aa
  obtain ⟨qc, cc, rfl, hc1, hc2, hc3⟩ := Ac
  have za := A.za
  have zc := A.zc
  have zp := A.zp
  have zk := A.zk
  refine sh72_ok _ _ _ _ _ _ _ _ _ _ _ _ _ _ _ _ _ _ _ _ _ _ _ _ _ _ ?_
  unfold sh72
  refine mid0 x (.slice pp x.pairs.length pc) (.slice kp x.keys.length kc) A.B fun xb rb w2 M => ?_
  have M := M.ext (ext_drew w2)
  refine ⟨⟨Cls bb o xb x _ _, M.cls, _, rfl, o, fun w' h => h.1, _, fun w' h => h.2.cell (i := 8) rfl rfl, _, _, _, fun w' h => h.2.cell (i := 13) rfl rfl, ?_⟩⟩
  have ha := ha2.ext M.E
  have hc := hc2.ext M.E
  refine do_call Tryz.call106 (c_rsort (hp2.ext M.E) rfl (by omega) A.inx.pairs fun ps ns cs w3 hs e3 => retS_ret ⟨_, _, _, _, rfl, ?_⟩)
  have M3 := M.ext (e3.drew)
  have hs' := (ext_drew w3).row hs
  have ns0 := ownP_len hs
  have sp := srtP_ok (o := o) (p := x.pol) (l := x.pairs) HO A.inx.pairs
  refine ⟨⟨Cls bb o xb x _ _, M3.cls, _, rfl, o, fun w' h => h.1, _, fun w' h => h.2.cell (i := 8) rfl rfl, ?_⟩⟩
  refine do_call Tryz.call107 (c_un (ha.ext e3.drew) rfl ha1 (ownP_cs hs') ns0 (row_cap hs) (by have h4 := sp.2.2.2; unfold srtP at h4; omega) A.Ia sp.2.1 fun p n c3 w3 ho e3 => retS_ret ⟨_, _, _, _, rfl, do_call Tryz.call105 (M3.count A.B A.hP A.zL ho e3 (fun _ h => h) h)⟩)
theorem m_get {P : Nat → Prop} {bb : Nat} {o : Int} {L : Rows} {x : POp} {a c : List Pr} {pv kv va vc : Value} {w : World} {R : EW} (A : Arg P bb o L x a c pv kv va vc w) 
    (h : ∀ v w', RepAt w.heap.size bb w' v (((foundP (x.key, getR o a x.key) (hasR o a x.key), L) : Rep × Rows)).1 → BookN P w' bb o (((foundP (x.key, getR o a x.key) (hasR o a x.key), L) : Rep × Rows)).2 → Chg (BkOwn bb) (fun _ => False) w w' → R (.returned v) w') : Calls Tryz.prog 61 #[.pointer (some (blk bb)), opV x pv kv, va, vc] w R := by
  have Ap := A.rp
  have Ak := A.rk
  have Aa := A.ra
  have Ac := A.rc
  obtain ⟨pp, pc, rfl, hp1, hp2, hp3⟩ := Ap
  obtain ⟨kp, kc, rfl, hk1, hk2, hk3⟩ := Ak
  obtain ⟨qa, ca, rfl, ha1, ha2, ha3⟩ := Aa
  obtain ⟨qc, cc, rfl, hc1, hc2, hc3⟩ := Ac
  have za := A.za
  have zc := A.zc
  have zp := A.zp
  have zk := A.zk
  refine sh61_ok _ _ _ _ _ _ _ _ _ _ _ _ _ _ _ _ _ _ _ _ _ _ _ _ _ _ ?_
  unfold sh61
  refine mid0 x (.slice pp x.pairs.length pc) (.slice kp x.keys.length kc) A.B fun xb rb w2 M => ?_
  have M := M.ext (ext_drew w2)
  refine ⟨⟨Cls bb o xb x _ _, M.cls, _, rfl, o, fun w' h => h.1, _, fun w' h => h.2.cell (i := 3) rfl rfl, ?_⟩⟩
  have ha := ha2.ext M.E
  have hc := hc2.ext M.E
  refine do_call Tryz.call101 (c_rowget ha rfl (by omega) A.Ia A.inx.key fun w3 e3 => retS_ret ⟨_, _, rfl, ?_⟩)
  have M3 := M.ext e3
  refine ⟨_, M3.X.cell (i := 3) rfl rfl, ?_⟩
  refine do_call Tryz.call102 (c_found fun w4 e4 => retS_ret ?_)
  have M4 := M3.ext e4
  exact M4.read' A.B (repAt0 (by unfold foundP; split <;> rfl) (by unfold foundP; split <;> rfl)) h
theorem m_floor {P : Nat → Prop} {bb : Nat} {o : Int} {L : Rows} {x : POp} {a c : List Pr} {pv kv va vc : Value} {w : World} {R : EW} (A : Arg P bb o L x a c pv kv va vc w) 
    (h : ∀ v w', RepAt w.heap.size bb w' v (((foundP (floorR o a x.key) (isFloorR o a x.key), L) : Rep × Rows)).1 → BookN P w' bb o (((foundP (floorR o a x.key) (isFloorR o a x.key), L) : Rep × Rows)).2 → Chg (BkOwn bb) (fun _ => False) w w' → R (.returned v) w') : Calls Tryz.prog 64 #[.pointer (some (blk bb)), opV x pv kv, va, vc] w R := by
  have Ap := A.rp
  have Ak := A.rk
  have Aa := A.ra
  have Ac := A.rc
  obtain ⟨pp, pc, rfl, hp1, hp2, hp3⟩ := Ap
  obtain ⟨kp, kc, rfl, hk1, hk2, hk3⟩ := Ak
  obtain ⟨qa, ca, rfl, ha1, ha2, ha3⟩ := Aa
  obtain ⟨qc, cc, rfl, hc1, hc2, hc3⟩ := Ac
  have za := A.za
  have zc := A.zc
  have zp := A.zp
  have zk := A.zk
  refine sh64_ok _ _ _ _ _ _ _ _ _ _ _ _ _ _ _ _ _ _ _ _ _ _ _ _ _ _ ?_
  unfold sh64
  refine mid0 x (.slice pp x.pairs.length pc) (.slice kp x.keys.length kc) A.B fun xb rb w2 M => ?_
  have M := M.ext (ext_drew w2)
  refine ⟨⟨Cls bb o xb x _ _, M.cls, _, rfl, o, fun w' h => h.1, _, fun w' h => h.2.cell (i := 3) rfl rfl, ?_⟩⟩
  have ha := ha2.ext M.E
  have hc := hc2.ext M.E
  refine do_call Tryz.call103 (c_rowfloor ha rfl (by omega) A.Ia A.inx.key fun w3 e3 => retS_ret ⟨_, _, _, rfl, ?_⟩)
  have M3 := M.ext e3
  refine do_call Tryz.call102 (c_found fun w4 e4 => retS_ret ?_)
  have M4 := M3.ext e4
  exact M4.read (C := Cls bb o xb x _ _) A.B (repAt0 (by unfold foundP; split <;> rfl) (by unfold foundP; split <;> rfl)) M4.cls h
theorem m_ceil {P : Nat → Prop} {bb : Nat} {o : Int} {L : Rows} {x : POp} {a c : List Pr} {pv kv va vc : Value} {w : World} {R : EW} (A : Arg P bb o L x a c pv kv va vc w) 
    (h : ∀ v w', RepAt w.heap.size bb w' v (((foundP (ceilR o a x.key) (isCeilR o a x.key), L) : Rep × Rows)).1 → BookN P w' bb o (((foundP (ceilR o a x.key) (isCeilR o a x.key), L) : Rep × Rows)).2 → Chg (BkOwn bb) (fun _ => False) w w' → R (.returned v) w') : Calls Tryz.prog 65 #[.pointer (some (blk bb)), opV x pv kv, va, vc] w R := by
  have Ap := A.rp
  have Ak := A.rk
  have Aa := A.ra
  have Ac := A.rc
  obtain ⟨pp, pc, rfl, hp1, hp2, hp3⟩ := Ap
  obtain ⟨kp, kc, rfl, hk1, hk2, hk3⟩ := Ak
  obtain ⟨qa, ca, rfl, ha1, ha2, ha3⟩ := Aa
  obtain ⟨qc, cc, rfl, hc1, hc2, hc3⟩ := Ac
  have za := A.za
  have zc := A.zc
  have zp := A.zp
  have zk := A.zk
  refine sh65_ok _ _ _ _ _ _ _ _ _ _ _ _ _ _ _ _ _ _ _ _ _ _ _ _ _ _ ?_
  unfold sh65
  refine mid0 x (.slice pp x.pairs.length pc) (.slice kp x.keys.length kc) A.B fun xb rb w2 M => ?_
  have M := M.ext (ext_drew w2)
  refine ⟨⟨Cls bb o xb x _ _, M.cls, _, rfl, o, fun w' h => h.1, _, fun w' h => h.2.cell (i := 3) rfl rfl, ?_⟩⟩
  have ha := ha2.ext M.E
  have hc := hc2.ext M.E
  refine do_call Tryz.call104 (c_rowceil ha rfl (by omega) A.Ia A.inx.key fun w3 e3 => retS_ret ⟨_, _, _, rfl, ?_⟩)
  have M3 := M.ext e3
  refine do_call Tryz.call102 (c_found fun w4 e4 => retS_ret ?_)
  have M4 := M3.ext e4
  exact M4.read (C := Cls bb o xb x _ _) A.B (repAt0 (by unfold foundP; split <;> rfl) (by unfold foundP; split <;> rfl)) M4.cls h
end Go.Proofs.YtmdboekndjlmgaaGreat

namespace Go.Proofs.YtmdboekndjlmgaaGreat
open Go Go.Sh Go.RowKit

theorem c_was {P : Nat → Prop} {bb : Nat} {o : Int} {L : Rows} {x : POp} {a : List Pr} {pp kp qa : OA} {np pc nk kc ca : Nat} {w : World} {R : EW} (hB : BookN P w bb o L) (hk : In x.key) (ha2 : Cs w qa (prs a)) (Ia : InP a) (za : a.length ≤ 5000)
    (h : ∀ w', Ext w w' → R (.returned (rep0 (wasP o a x.key))) w') : Calls Tryz.prog 99 #[.pointer (some (blk bb)), opV x (.slice pp np pc) (.slice kp nk kc), .slice qa a.length ca] w R := by
  refine sh99_ok _ _ _ _ _ _ _ _ _ _ _ _ _ _ _ _ _ _ _ _ _ _ _ ?_
  unfold sh99
  refine mid0 (P := fun _ => True) x (.slice pp np pc) (.slice kp nk kc) (hB.up fun _ _ => trivial) fun xb rb w2 M => ?_
  have M := M.ext (ext_drew w2)
  refine ⟨⟨Cls bb o xb x _ _, M.cls, _, rfl, o, fun w' h => h.1, _, fun w' h => h.2.cell (i := 3) rfl rfl, ?_⟩⟩
  refine do_call Tryz.call101 (c_rowget (ha2.ext M.E) rfl (by omega) Ia hk fun w3 e3 => retS_ret ⟨_, _, rfl, ?_⟩)
  have M3 := M.ext e3
  refine do_st M3.Y (i := 3) rfl (by simp) fun w4 Y4 g4 => ?_
  have Y4 : Blk w4 rb #[.int .i64 0, .bool false, .int .i64 0, .int .i64 (getR o a x.key), .int .i64 0, .slice none 0 0, .slice none 0 0] 34 := Y4
  refine do_st Y4 (i := 1) rfl (by simp) fun w5 Y5 g5 => ?_
  have Y5 : Blk w5 rb #[.int .i64 0, .bool (hasR o a x.key), .int .i64 0, .int .i64 (getR o a x.key), .int .i64 0, .slice none 0 0, .slice none 0 0] 34 := Y5
  refine ⟨_, Y5.cell (i := 0) rfl rfl, _, Y5.cell (i := 1) rfl rfl, _, Y5.cell (i := 2) rfl rfl, _, Y5.cell (i := 3) rfl rfl, _, Y5.cell (i := 4) rfl rfl, _, _, _, Y5.cell (i := 5) rfl rfl, _, _, _, Y5.cell (i := 6) rfl rfl, ep7 Y5 fun w6 g6 => ?_⟩
  exact h w6 (M3.E.st (grown_trans (grown_trans g4 g5) g6) M.lr)
section
variable {P : Nat → Prop} {bb : Nat} {o : Int} {L : Rows} {x : POp} {pv kv : Value} {w0 w : World} {xb rb : Nat} {R : EW} {Kp : List PanicEntry → World → Prop}
theorem Mid.made {ls : Rows} {r : Rep} {vs : Array Value} {n : Nat} (M : Mid P bb o L x pv kv w0 xb rb w) (B0 : BookN P w0 bb o L) (zL : L.length ≤ 4500) (hls : ls.length ≤ 4) (hn : ls.length = n) (hnew : r.new = []) (hpr : r.pairs = [])
    (hvs : ∀ (i : Nat) (l : List Pr), ls[i]? = some l → ∃ v, vs.toList[i]? = some v ∧ RowAt (BkOwn bb) bb w v l.length (prs l) ∧ BlkIn (fun k => P k ∧ k ≠ xb ∧ k ≠ rb) v)
    (h : ∀ v w', RepAt w0.heap.size bb w' v (madeP r L ls).1 → BookN P w' bb o (madeP r L ls).2 → Chg (BkOwn bb) (fun _ => False) w0 w' → R (.returned v) w') :
    doAl (.cells vs 22) w (fun b1 w1 => doCall Tryz.prog (.func (.func 98) #[] #[]) #[.pointer (some (blk bb)), rep0 r, .slice (some (blk b1)) n n] w1 (retS (fun v w => ∃ (x0 : Int), ∃ (x1 : Bool), ∃ (x2 : Int), ∃ (x3 : Int), ∃ (x4 : Int), ∃ (p5 : OA), ∃ (n5 : Nat), ∃ (c5 : Nat), ∃ (p6 : OA), ∃ (n6 : Nat), ∃ (c6 : Nat), v = (.agg #[.int .i64 x0, .bool x1, .int .i64 x2, .int .i64 x3, .int .i64 x4, .slice p5 n5 c5, .slice p6 n6 c6] : Value) ∧ (doSt ((blk rb).add 0) (.int .i64 x0) w fun w1 => doSt ((blk rb).add 1) (.bool x1) w1 fun w2 => doSt ((blk rb).add 2) (.int .i64 x2) w2 fun w3 => doSt ((blk rb).add 3) (.int .i64 x3) w3 fun w4 => doSt ((blk rb).add 4) (.int .i64 x4) w4 fun w5 => doSt ((blk rb).add 5) (.slice p5 n5 c5) w5 fun w6 => doSt ((blk rb).add 6) (.slice p6 n6 c6) w6 fun w7 => ∃ (y0 : Int), w7.cell? ((blk rb).add 0) = some (.int .i64 y0) ∧ (∃ (y1 : Bool), w7.cell? ((blk rb).add 1) = some (.bool y1) ∧ (∃ (y2 : Int), w7.cell? ((blk rb).add 2) = some (.int .i64 y2) ∧ (∃ (y3 : Int), w7.cell? ((blk rb).add 3) = some (.int .i64 y3) ∧ (∃ (y4 : Int), w7.cell? ((blk rb).add 4) = some (.int .i64 y4) ∧ (∃ (q5 : OA), ∃ (m5 : Nat), ∃ (d5 : Nat), w7.cell? ((blk rb).add 5) = some (.slice q5 m5 d5) ∧ (∃ (q6 : OA), ∃ (m6 : Nat), ∃ (d6 : Nat), w7.cell? ((blk rb).add 6) = some (.slice q6 m6 d6) ∧ (R (.returned (.agg #[.int .i64 y0, .bool y1, .int .i64 y2, .int .i64 y3, .int .i64 y4, .slice q5 m5 d5, .slice q6 m6 d6])) w7))))))))) Kp)) := by
  refine ⟨?_⟩
  have e1 := ext_alloc w (.cells vs 22)
  have hx1 := cs_alloc w vs 22
  have lz : (w.alloc (.cells vs 22)).heap.size = w.heap.size + 1 := by simp
  generalize w.alloc (.cells vs 22) = w1 at *
  have M' := M.ext e1
  have own1 := M.B.own_ext e1
  refine do_call Tryz.call98 (c_made M'.B zL hls hn hx1 (fun a ha => ?_) (fun i l hl => ?_) hnew hpr fun v w3 hR hB3 hC3 => retS_ret ?_)
  · cases ha
    exact ⟨fun hk => by have := M.B.lt ((own1 _).1 hk); simp only [blk] at *; omega, by simp only [blk] at *; omega⟩
  · obtain ⟨v, h1, h2, h3⟩ := hvs i l hl
    exact ⟨v, h1, h2.ext' M.B e1, h3⟩
  · exact rep_end' hR hB3 ((B0.chg M'.E).trans hC3) (hC3.blk M'.Y M'.ny fun h => h) M'.Y.lt M.lr (fun hp => hp.2.2 rfl) (hC3.out _ M'.Y.lt M'.ny) fun v w' r b k => h v w' (r.mono M.lr) (b.up fun _ h => h.1) k
end
theorem m_insert {P : Nat → Prop} {bb : Nat} {o : Int} {L : Rows} {x : POp} {a c : List Pr} {pv kv va vc : Value} {w : World} {R : EW} (A : Arg P bb o L x a c pv kv va vc w) 
    (h : ∀ v w', RepAt w.heap.size bb w' v (madeP (wasP o a x.key) L [putR o x.pol a (x.key, x.val)]).1 → BookN P w' bb o (madeP (wasP o a x.key) L [putR o x.pol a (x.key, x.val)]).2 → Chg (BkOwn bb) (fun _ => False) w w' → R (.returned v) w') : Calls Tryz.prog 59 #[.pointer (some (blk bb)), opV x pv kv, va, vc] w R := by
  have Ap := A.rp
  have Ak := A.rk
  have Aa := A.ra
  have Ac := A.rc
  obtain ⟨pp, pc, rfl, hp1, hp2, hp3⟩ := Ap
  obtain ⟨kp, kc, rfl, hk1, hk2, hk3⟩ := Ak
  obtain ⟨qa, ca, rfl, ha1, ha2, ha3⟩ := Aa
  obtain ⟨qc, cc, rfl, hc1, hc2, hc3⟩ := Ac
  have za := A.za
  have zc := A.zc
  have zp := A.zp
  have zk := A.zk
  refine sh59_ok _ _ _ _ _ _ _ _ _ _ _ _ _ _ _ _ _ _ _ _ _ _ _ _ _ _ ?_
  unfold sh59
  refine mid0 x (.slice pp x.pairs.length pc) (.slice kp x.keys.length kc) A.B fun xb rb w2 M => ?_
  have M := M.ext (ext_drew w2)
  refine ⟨⟨Cls bb o xb x _ _, M.cls, _, rfl, o, fun w' h => h.1, _, fun w' h => h.2.cell (i := 8) rfl rfl, _, fun w' h => h.2.cell (i := 3) rfl rfl, _, fun w' h => h.2.cell (i := 4) rfl rfl, ?_⟩⟩
  have ha := ha2.ext M.E
  have hc := hc2.ext M.E
  refine do_call Tryz.call97 (c_put ha rfl (by omega) A.Ia (x := (x.key, x.val)) A.inx.key fun p n c3 w3 ho e3 => retS_ret ⟨_, _, _, _, rfl, ?_⟩)
  have M3 := M.ext e3
  refine ⟨M3.cls, _, M3.X.cell (i := 0) rfl rfl, _, M3.X.cell (i := 1) rfl rfl, _, M3.X.cell (i := 2) rfl rfl, _, M3.X.cell (i := 3) rfl rfl, _, M3.X.cell (i := 4) rfl rfl, _, M3.X.cell (i := 5) rfl rfl, _, M3.X.cell (i := 6) rfl rfl, _, M3.X.cell (i := 7) rfl rfl, _, M3.X.cell (i := 8) rfl rfl, _, M3.X.cell (i := 9) rfl rfl, _, M3.X.cell (i := 10) rfl rfl, _, M3.X.cell (i := 11) rfl rfl, _, M3.X.cell (i := 12) rfl rfl, _, _, _, M3.X.cell (i := 13) rfl rfl, _, _, _, M3.X.cell (i := 14) rfl rfl, ?_⟩
  refine do_call Tryz.call99 (c_was M3.B A.inx.key (ha.ext e3) A.Ia A.za fun w4 e4 => retS_ret ⟨_, _, _, _, _, _, _, _, _, _, _, rfl, ?_⟩)
  have M4 := M3.ext e4
  have lX := M.X.lt
  have lY := M.Y.lt
  obtain rfl : (putR o x.pol a (x.key, x.val)).length = n := ownP_len ho
  refine M4.made A.B A.zL (ls := [putR o x.pol a (x.key, x.val)]) (r := wasP o a x.key) (by simp) rfl rfl rfl (fun i l hl => ?_) h
  cases i with
  | zero =>
    obtain rfl : putR o x.pol a (x.key, x.val) = l := by simpa using hl
    refine ⟨_, rfl, RowAt.ext' (RowAt.own_row ho (fun k hk => .inl (M.B.lt ((M.B.own_ext e3 k).1 hk))) (M.B.lt (.inl rfl))) M3.B e4, fun a n c e _ => ?_⟩
    injection e with e1
    have := (row_lt ho e1).1
    have := M.E.size
    exact ⟨A.hP _ (by omega), by omega, by omega⟩
  | succ i => simp at hl
theorem m_delete {P : Nat → Prop} {bb : Nat} {o : Int} {L : Rows} {x : POp} {a c : List Pr} {pv kv va vc : Value} {w : World} {R : EW} (A : Arg P bb o L x a c pv kv va vc w) 
    (h : ∀ v w', RepAt w.heap.size bb w' v (madeP (wasP o a x.key) L [dropR o a x.key]).1 → BookN P w' bb o (madeP (wasP o a x.key) L [dropR o a x.key]).2 → Chg (BkOwn bb) (fun _ => False) w w' → R (.returned v) w') : Calls Tryz.prog 60 #[.pointer (some (blk bb)), opV x pv kv, va, vc] w R := by
  have Ap := A.rp
  have Ak := A.rk
  have Aa := A.ra
  have Ac := A.rc
  obtain ⟨pp, pc, rfl, hp1, hp2, hp3⟩ := Ap
  obtain ⟨kp, kc, rfl, hk1, hk2, hk3⟩ := Ak
  obtain ⟨qa, ca, rfl, ha1, ha2, ha3⟩ := Aa
  obtain ⟨qc, cc, rfl, hc1, hc2, hc3⟩ := Ac
  have za := A.za
  have zc := A.zc
  have zp := A.zp
  have zk := A.zk
  refine sh60_ok _ _ _ _ _ _ _ _ _ _ _ _ _ _ _ _ _ _ _ _ _ _ _ _ _ _ ?_
  unfold sh60
  refine mid0 x (.slice pp x.pairs.length pc) (.slice kp x.keys.length kc) A.B fun xb rb w2 M => ?_
  have M := M.ext (ext_drew w2)
  refine ⟨⟨Cls bb o xb x _ _, M.cls, _, rfl, o, fun w' h => h.1, _, fun w' h => h.2.cell (i := 3) rfl rfl, ?_⟩⟩
  have ha := ha2.ext M.E
  have hc := hc2.ext M.E
  refine do_call Tryz.call100 (c_drop ha rfl (by omega) A.Ia A.inx.key fun p n c3 w3 ho e3 => retS_ret ⟨_, _, _, _, rfl, ?_⟩)
  have M3 := M.ext e3
  refine ⟨_, M3.X.cell (i := 0) rfl rfl, _, M3.X.cell (i := 1) rfl rfl, _, M3.X.cell (i := 2) rfl rfl, _, M3.X.cell (i := 3) rfl rfl, _, M3.X.cell (i := 4) rfl rfl, _, M3.X.cell (i := 5) rfl rfl, _, M3.X.cell (i := 6) rfl rfl, _, M3.X.cell (i := 7) rfl rfl, _, M3.X.cell (i := 8) rfl rfl, _, M3.X.cell (i := 9) rfl rfl, _, M3.X.cell (i := 10) rfl rfl, _, M3.X.cell (i := 11) rfl rfl, _, M3.X.cell (i := 12) rfl rfl, _, _, _, M3.X.cell (i := 13) rfl rfl, _, _, _, M3.X.cell (i := 14) rfl rfl, ?_⟩
  refine do_call Tryz.call99 (c_was M3.B A.inx.key (ha.ext e3) A.Ia A.za fun w4 e4 => retS_ret ⟨_, _, _, _, _, _, _, _, _, _, _, rfl, ?_⟩)
  have M4 := M3.ext e4
  have lX := M.X.lt
  have lY := M.Y.lt
  obtain rfl : (dropR o a x.key).length = n := ownP_len ho
  refine M4.made A.B A.zL (ls := [dropR o a x.key]) (r := wasP o a x.key) (by simp) rfl rfl rfl (fun i l hl => ?_) h
  cases i with
  | zero =>
    obtain rfl : dropR o a x.key = l := by simpa using hl
    refine ⟨_, rfl, RowAt.ext' (RowAt.own_row ho (fun k hk => .inl (M.B.lt ((M.B.own_ext e3 k).1 hk))) (M.B.lt (.inl rfl))) M3.B e4, fun a n c e _ => ?_⟩
    injection e with e1
    have := (row_lt ho e1).1
    have := M.E.size
    exact ⟨A.hP _ (by omega), by omega, by omega⟩
  | succ i => simp at hl
theorem m_min {P : Nat → Prop} {bb : Nat} {o : Int} {L : Rows} {x : POp} {a c : List Pr} {pv kv va vc : Value} {w : World} {R : EW} (A : Arg P bb o L x a c pv kv va vc w) 
    (h : ∀ v w', RepAt w.heap.size bb w' v (((foundP (a.getD 0 (0, 0)) (decide (0 < a.length)), L) : Rep × Rows)).1 → BookN P w' bb o (((foundP (a.getD 0 (0, 0)) (decide (0 < a.length)), L) : Rep × Rows)).2 → Chg (BkOwn bb) (fun _ => False) w w' → R (.returned v) w') : Calls Tryz.prog 62 #[.pointer (some (blk bb)), opV x pv kv, va, vc] w R := by
  have Ap := A.rp
  have Ak := A.rk
  have Aa := A.ra
  have Ac := A.rc
  obtain ⟨pp, pc, rfl, hp1, hp2, hp3⟩ := Ap
  obtain ⟨kp, kc, rfl, hk1, hk2, hk3⟩ := Ak
  obtain ⟨qa, ca, rfl, ha1, ha2, ha3⟩ := Aa
  obtain ⟨qc, cc, rfl, hc1, hc2, hc3⟩ := Ac
  have za := A.za
  have zc := A.zc
  have zp := A.zp
  have zk := A.zk
  refine sh62_ok _ _ _ _ _ _ _ _ _ _ _ _ _ _ _ _ _ _ _ _ _ _ _ _ _ _ ?_
  unfold sh62
  refine mid0 x (.slice pp x.pairs.length pc) (.slice kp x.keys.length kc) A.B fun xb rb w2 M => ?_
  have ha := ha2.ext M.E
  refine ifB_intro (fun z => ?_) fun z => ?_
  · have z : a.length = 0 := by have := of_decide_eq_true (p := ((a.length : Nat) : Int) = 0) (by simpa using z); omega
    have e0 : foundP (a.getD 0 (0, 0)) (decide (0 < a.length)) = Rep.zero := by simp [foundP, z]
    rw [e0] at h
    exact ep7 M.Y fun w' g => M.done A.B (v := rep0 Rep.zero) (repAt0 rfl rfl) g h
  · have z : 0 < a.length := by
      rcases Nat.eq_zero_or_pos a.length with hz | hz
      · rw [hz] at z; simp at z
      · exact hz
    have hk : 0 < a.length := by omega
    have eg : a.getD (0) (0, 0) = a[0] := by rw [List.getD_eq_getElem?_getD, List.getElem?_eq_getElem hk]; rfl
    rw [eg, decide_eq_true z] at h
    refine ix_pr ha rfl (k := 0) rfl hk fun a1 r1 r2 _ => ⟨_, r1, _, r2, ?_⟩
    refine do_call Tryz.call102 (c_found (is := true) fun w4 e4 => retS_ret ?_)
    exact (M.ext e4).read' A.B (repAt0 rfl rfl) h
theorem m_max {P : Nat → Prop} {bb : Nat} {o : Int} {L : Rows} {x : POp} {a c : List Pr} {pv kv va vc : Value} {w : World} {R : EW} (A : Arg P bb o L x a c pv kv va vc w) 
    (h : ∀ v w', RepAt w.heap.size bb w' v (((foundP (a.getD (a.length - 1) (0, 0)) (decide (0 < a.length)), L) : Rep × Rows)).1 → BookN P w' bb o (((foundP (a.getD (a.length - 1) (0, 0)) (decide (0 < a.length)), L) : Rep × Rows)).2 → Chg (BkOwn bb) (fun _ => False) w w' → R (.returned v) w') : Calls Tryz.prog 63 #[.pointer (some (blk bb)), opV x pv kv, va, vc] w R := by
  have Ap := A.rp
  have Ak := A.rk
  have Aa := A.ra
  have Ac := A.rc
  obtain ⟨pp, pc, rfl, hp1, hp2, hp3⟩ := Ap
  obtain ⟨kp, kc, rfl, hk1, hk2, hk3⟩ := Ak
  obtain ⟨qa, ca, rfl, ha1, ha2, ha3⟩ := Aa
  obtain ⟨qc, cc, rfl, hc1, hc2, hc3⟩ := Ac
  have za := A.za
  have zc := A.zc
  have zp := A.zp
  have zk := A.zk
  refine sh63_ok _ _ _ _ _ _ _ _ _ _ _ _ _ _ _ _ _ _ _ _ _ _ _ _ _ _ ?_
  unfold sh63
  refine mid0 x (.slice pp x.pairs.length pc) (.slice kp x.keys.length kc) A.B fun xb rb w2 M => ?_
  have ha := ha2.ext M.E
  refine ifB_intro (fun z => ?_) fun z => ?_
  · have z : a.length = 0 := by have := of_decide_eq_true (p := ((a.length : Nat) : Int) = 0) (by simpa using z); omega
    have e0 : foundP (a.getD (a.length - 1) (0, 0)) (decide (0 < a.length)) = Rep.zero := by simp [foundP, z]
    rw [e0] at h
    exact ep7 M.Y fun w' g => M.done A.B (v := rep0 Rep.zero) (repAt0 rfl rfl) g h
  · have z : 0 < a.length := by
      rcases Nat.eq_zero_or_pos a.length with hz | hz
      · rw [hz] at z; simp at z
      · exact hz
    have hk : (a.length - 1) < a.length := by omega
    have eg : a.getD ((a.length - 1)) (0, 0) = a[(a.length - 1)] := by rw [List.getD_eq_getElem?_getD, List.getElem?_eq_getElem hk]; rfl
    rw [eg, decide_eq_true z] at h
    refine ix_pr ha rfl (k := (a.length - 1)) (by rw [wrap_of (by omega) (by omega)]; omega) hk fun a1 r1 r2 _ => ⟨_, r1, _, r2, ?_⟩
    refine do_call Tryz.call102 (c_found (is := true) fun w4 e4 => retS_ret ?_)
    exact (M.ext e4).read' A.B (repAt0 rfl rfl) h
theorem m_pick {P : Nat → Prop} {bb : Nat} {o : Int} {L : Rows} {x : POp} {a c : List Pr} {pv kv va vc : Value} {w : World} {R : EW} (A : Arg P bb o L x a c pv kv va vc w) (HN : 0 ≤ x.n ∧ x.n < a.length)
    (h : ∀ v w', RepAt w.heap.size bb w' v (((foundP (a.getD x.n.toNat (0, 0)) true, L) : Rep × Rows)).1 → BookN P w' bb o (((foundP (a.getD x.n.toNat (0, 0)) true, L) : Rep × Rows)).2 → Chg (BkOwn bb) (fun _ => False) w w' → R (.returned v) w') : Calls Tryz.prog 75 #[.pointer (some (blk bb)), opV x pv kv, va, vc] w R := by
  have Ap := A.rp
  have Ak := A.rk
  have Aa := A.ra
  have Ac := A.rc
  obtain ⟨pp, pc, rfl, hp1, hp2, hp3⟩ := Ap
  obtain ⟨kp, kc, rfl, hk1, hk2, hk3⟩ := Ak
  obtain ⟨qa, ca, rfl, ha1, ha2, ha3⟩ := Aa
  obtain ⟨qc, cc, rfl, hc1, hc2, hc3⟩ := Ac
  have za := A.za
  have zc := A.zc
  have zp := A.zp
  have zk := A.zk
  refine sh75_ok _ _ _ _ _ _ _ _ _ _ _ _ _ _ _ _ _ _ _ _ _ _ _ _ _ _ ?_
  unfold sh75
  refine mid0 x (.slice pp x.pairs.length pc) (.slice kp x.keys.length kc) A.B fun xb rb w2 M => ?_
  have ha := ha2.ext M.E
  refine ⟨_, M.X.cell (i := 7) rfl rfl, ?_⟩
  have hk : x.n.toNat < a.length := by omega
  have eg : a.getD x.n.toNat (0, 0) = a[x.n.toNat] := by rw [List.getD_eq_getElem?_getD, List.getElem?_eq_getElem hk]; rfl
  rw [eg] at h
  refine ix_pr ha rfl (k := x.n.toNat) (by omega) hk fun a1 r1 r2 _ => ⟨_, r1, _, r2, ?_⟩
  refine do_call Tryz.call102 (c_found (is := true) fun w4 e4 => retS_ret ?_)
  exact (M.ext e4).read' A.B (repAt0 rfl rfl) h
theorem m_rank {P : Nat → Prop} {bb : Nat} {o : Int} {L : Rows} {x : POp} {a c : List Pr} {pv kv va vc : Value} {w : World} {R : EW} (A : Arg P bb o L x a c pv kv va vc w) 
    (h : ∀ v w', RepAt w.heap.size bb w' v ((({ Rep.zero with is := hasR o a x.key, n := posR o a x.key }, L) : Rep × Rows)).1 → BookN P w' bb o ((({ Rep.zero with is := hasR o a x.key, n := posR o a x.key }, L) : Rep × Rows)).2 → Chg (BkOwn bb) (fun _ => False) w w' → R (.returned v) w') : Calls Tryz.prog 74 #[.pointer (some (blk bb)), opV x pv kv, va, vc] w R := by
  have Ap := A.rp
  have Ak := A.rk
  have Aa := A.ra
  have Ac := A.rc
  obtain ⟨pp, pc, rfl, hp1, hp2, hp3⟩ := Ap
  obtain ⟨kp, kc, rfl, hk1, hk2, hk3⟩ := Ak
  obtain ⟨qa, ca, rfl, ha1, ha2, ha3⟩ := Aa
  obtain ⟨qc, cc, rfl, hc1, hc2, hc3⟩ := Ac
  have za := A.za
  have zc := A.zc
  have zp := A.zp
  have zk := A.zk
  refine sh74_ok _ _ _ _ _ _ _ _ _ _ _ _ _ _ _ _ _ _ _ _ _ _ _ _ _ _ ?_
  unfold sh74
  refine mid0 x (.slice pp x.pairs.length pc) (.slice kp x.keys.length kc) A.B fun xb rb w2 M => ?_
  have M := M.ext (ext_drew w2)
  refine ⟨⟨Cls bb o xb x _ _, M.cls, _, rfl, o, fun w' h => h.1, _, fun w' h => h.2.cell (i := 3) rfl rfl, ?_⟩⟩
  have ha := ha2.ext M.E
  have hc := hc2.ext M.E
  refine do_call Tryz.call112 (c_rowfind ha rfl (by omega) A.Ia A.inx.key fun w3 e3 => retS_ret ⟨_, _, rfl, ?_⟩)
  have M3 := M.ext e3
  refine do_st M3.Y (i := 4) rfl (by simp) fun w4 Y4 g4 => ?_
  have Y4 : Blk w4 rb #[.int .i64 0, .bool false, .int .i64 0, .int .i64 0, .int .i64 (posR o a x.key : Nat), .slice none 0 0, .slice none 0 0] 34 := Y4
  refine do_st Y4 (i := 1) rfl (by simp) fun w5 Y5 g5 => ?_
  have Y5 : Blk w5 rb #[.int .i64 0, .bool (hasR o a x.key), .int .i64 0, .int .i64 0, .int .i64 (posR o a x.key : Nat), .slice none 0 0, .slice none 0 0] 34 := Y5
  refine ⟨_, Y5.cell (i := 0) rfl rfl, _, Y5.cell (i := 1) rfl rfl, _, Y5.cell (i := 2) rfl rfl, _, Y5.cell (i := 3) rfl rfl, _, Y5.cell (i := 4) rfl rfl, _, _, _, Y5.cell (i := 5) rfl rfl, _, _, _, Y5.cell (i := 6) rfl rfl, ep7 Y5 fun w6 g6 => ?_⟩
  exact M3.done A.B (v := rep0 { Rep.zero with is := hasR o a x.key, n := posR o a x.key }) (repAt0 rfl rfl) (grown_trans (grown_trans g4 g5) g6) h
theorem m_count {P : Nat → Prop} {bb : Nat} {o : Int} {L : Rows} {x : POp} {a c : List Pr} {pv kv va vc : Value} {w : World} {R : EW} (A : Arg P bb o L x a c pv kv va vc w) 
    (h : ∀ v w', RepAt w.heap.size bb w' v ((({ Rep.zero with n := (rngP o a x.lo x.hi).length }, L) : Rep × Rows)).1 → BookN P w' bb o ((({ Rep.zero with n := (rngP o a x.lo x.hi).length }, L) : Rep × Rows)).2 → Chg (BkOwn bb) (fun _ => False) w w' → R (.returned v) w') : Calls Tryz.prog 77 #[.pointer (some (blk bb)), opV x pv kv, va, vc] w R := by
  have Ap := A.rp
  have Ak := A.rk
  have Aa := A.ra
  have Ac := A.rc
  obtain ⟨pp, pc, rfl, hp1, hp2, hp3⟩ := Ap
  obtain ⟨kp, kc, rfl, hk1, hk2, hk3⟩ := Ak
  obtain ⟨qa, ca, rfl, ha1, ha2, ha3⟩ := Aa
  obtain ⟨qc, cc, rfl, hc1, hc2, hc3⟩ := Ac
  have za := A.za
  have zc := A.zc
  have zp := A.zp
  have zk := A.zk
  refine sh77_ok _ _ _ _ _ _ _ _ _ _ _ _ _ _ _ _ _ _ _ _ _ _ _ _ _ _ ?_
  unfold sh77
  refine mid0 x (.slice pp x.pairs.length pc) (.slice kp x.keys.length kc) A.B fun xb rb w2 M => ?_
  have M := M.ext (ext_drew w2)
  refine ⟨⟨Cls bb o xb x _ _, M.cls, _, rfl, o, fun w' h => h.1, _, fun w' h => h.2.cell (i := 5) rfl rfl, _, fun w' h => h.2.cell (i := 6) rfl rfl, ?_⟩⟩
  have ha := ha2.ext M.E
  have hc := hc2.ext M.E
  refine do_call Tryz.call113 (c_range A.inx.lo A.inx.hi ha rfl ha1 (by omega) A.Ia fun p n c3 w3 ho e3 => retS_ret ⟨_, _, _, _, rfl, ?_⟩)
  have M3 := M.ext e3
  obtain rfl : (rngP o a x.lo x.hi).length = n := ownP_len ho
  exact ep7 M3.Y fun w' g => M3.done A.B (v := rep0 { Rep.zero with n := (rngP o a x.lo x.hi).length }) (repAt0 rfl rfl) g h
theorem m_sum {P : Nat → Prop} {bb : Nat} {o : Int} {L : Rows} {x : POp} {a c : List Pr} {pv kv va vc : Value} {w : World} {R : EW} (A : Arg P bb o L x a c pv kv va vc w) 
    (h : ∀ v w', RepAt w.heap.size bb w' v ((({ Rep.zero with val := sumL ((rngP o a x.lo x.hi).map (·.2)) }, L) : Rep × Rows)).1 → BookN P w' bb o ((({ Rep.zero with val := sumL ((rngP o a x.lo x.hi).map (·.2)) }, L) : Rep × Rows)).2 → Chg (BkOwn bb) (fun _ => False) w w' → R (.returned v) w') : Calls Tryz.prog 78 #[.pointer (some (blk bb)), opV x pv kv, va, vc] w R := by
  have Ap := A.rp
  have Ak := A.rk
  have Aa := A.ra
  have Ac := A.rc
  obtain ⟨pp, pc, rfl, hp1, hp2, hp3⟩ := Ap
  obtain ⟨kp, kc, rfl, hk1, hk2, hk3⟩ := Ak
  obtain ⟨qa, ca, rfl, ha1, ha2, ha3⟩ := Aa
  obtain ⟨qc, cc, rfl, hc1, hc2, hc3⟩ := Ac
  have za := A.za
  have zc := A.zc
  have zp := A.zp
  have zk := A.zk
  refine sh78_ok _ _ _ _ _ _ _ _ _ _ _ _ _ _ _ _ _ _ _ _ _ _ _ _ _ _ ?_
  unfold sh78
  refine mid0 x (.slice pp x.pairs.length pc) (.slice kp x.keys.length kc) A.B fun xb rb w2 M => ?_
  have M := M.ext (ext_drew w2)
  refine ⟨⟨Cls bb o xb x _ _, M.cls, _, rfl, o, fun w' h => h.1, _, fun w' h => h.2.cell (i := 5) rfl rfl, _, fun w' h => h.2.cell (i := 6) rfl rfl, ?_⟩⟩
  have ha := ha2.ext M.E
  have hc := hc2.ext M.E
  refine do_call Tryz.call113 (c_range A.inx.lo A.inx.hi ha rfl ha1 (by omega) A.Ia fun p n c3 w3 ho e3 => retS_ret ⟨_, _, _, _, rfl, ?_⟩)
  have M3 := M.ext e3
  obtain rfl : (rngP o a x.lo x.hi).length = n := ownP_len ho
  have zr : (rngP o a x.lo x.hi).length ≤ 5000 := by have := setL_len o 1 (wR o x.lo x.hi) a []; unfold rngP; simp only [List.length_nil] at this; omega
  refine do_call Tryz.call114 (c_rowsum (l := rngP o a x.lo x.hi) (ownP_cs ho) rfl (by omega) fun w4 e4 => retS_ret ⟨_, rfl, ?_⟩)
  have M4 := M3.ext e4
  exact ep7 M4.Y fun w' g => M4.done A.B (v := rep0 { Rep.zero with val := sumL ((rngP o a x.lo x.hi).map (·.2)) }) (repAt0 rfl rfl) g h
theorem m_list {P : Nat → Prop} {bb : Nat} {o : Int} {L : Rows} {x : POp} {a c : List Pr} {pv kv va vc : Value} {w : World} {R : EW} (A : Arg P bb o L x a c pv kv va vc w) 
    (h : ∀ v w', RepAt w.heap.size bb w' v ((({ Rep.zero with n := a.length, pairs := a }, L) : Rep × Rows)).1 → BookN P w' bb o ((({ Rep.zero with n := a.length, pairs := a }, L) : Rep × Rows)).2 → Chg (BkOwn bb) (fun _ => False) w w' → R (.returned v) w') : Calls Tryz.prog 79 #[.pointer (some (blk bb)), opV x pv kv, va, vc] w R := by
  have Ap := A.rp
  have Ak := A.rk
  have Aa := A.ra
  have Ac := A.rc
  obtain ⟨pp, pc, rfl, hp1, hp2, hp3⟩ := Ap
  obtain ⟨kp, kc, rfl, hk1, hk2, hk3⟩ := Ak
  obtain ⟨qa, ca, rfl, ha1, ha2, ha3⟩ := Aa
  obtain ⟨qc, cc, rfl, hc1, hc2, hc3⟩ := Ac
  have za := A.za
  have zc := A.zc
  have zp := A.zp
  have zk := A.zk
  refine sh79_ok _ _ _ _ _ _ _ _ _ _ _ _ _ _ _ _ _ _ _ _ _ _ _ _ _ _ ?_
  unfold sh79
  refine mid0 x (.slice pp x.pairs.length pc) (.slice kp x.keys.length kc) A.B fun xb rb w2 M => ?_
  refine do_call Tryz.call27 (c_clone (ha2.ext M.E) rfl (by omega) fun p c3 w3 ho e3 => retS_ret ⟨_, _, _, rfl, ?_⟩)
  have M3 := M.ext e3
  have lY := M.Y.lt
  refine ep7 M3.Y fun w' g => M3.done A.B ⟨_, _, rfl, rowAt_nil _ _ _, RowAt.own_row ho (fun k hk => .inl (M.B.lt ((M.B.own_ext e3 k).1 hk))) (M.B.lt (.inl rfl)), fun a n c e => (by cases e), fun a' n c e => ?_⟩ g h
  injection e with e1
  have := (row_lt ho e1).1
  omega
end Go.Proofs.YtmdboekndjlmgaaGreat

