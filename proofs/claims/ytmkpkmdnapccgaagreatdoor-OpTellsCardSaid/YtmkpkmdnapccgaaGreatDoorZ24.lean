/-
  The arguments of ops: slices of structs with slices in them.
-/
import Derived.Test.YtmkpkmdnapccgaaGreatDoorZ23
import Derived.Test.YtmkpkmdnapccgaaGreatDoorZ19
import Derived.Test.YtmkpkmdnapccgaaGreatDoorZ04
import Derived.Test.YtmkpkmdnapccgaaGreatDoorProg
import Derived.Test.YtmkpkmdnapccgaaGreatDoorZ02
import Derived.Test.YtmkpkmdnapccgaaGreatDoorZ05
import Derived.Test.YtmkpkmdnapccgaaGreatDoorZ20
import Derived.Test.YtmkpkmdnapccgaaGreatDoorRows
import Derived.Shelf.Vars
import Derived.SizedLaws
import Derived.Stop.LaidErr
import Derived.MakeChecks

set_option maxRecDepth 100000
set_option maxHeartbeats 6400000
namespace Go.Proofs.YtmkpkmdnapccgaaGreatDoor
open Go Go.Sh Go.RowKit Go.ChangeShapes Go.WideShapes Go.Deep

variable {H : Type} {enc : TypeId × Value → H} {P : Program} {w : World} {base : Nat} {spare : Nat → Bool} {held : Bool}
def Is_op (w : World) (e : OpE) : Prop := InO e.1 ∧ OpRd w e.1 e.2.1 e.2.2 ∧ e.1.pairs.length ≤ 17592186044416 ∧ e.1.keys.length ≤ 17592186044416
def Is_ops (w : World) (q : OA) (len cap : Nat) (l : List OpE) : Prop := l.length = len ∧ Cs w q (l.flatMap opC) ∧ (∀ e ∈ l, Is_op w e) ∧ len ≤ cap ∧ cap ≤ maxLen ∧ (q = none → len = 0 ∧ cap = 0)
theorem nested_len {t e : TypeId} (ht : Tryz.prog.underlying t = some (.slice e)) {k : Nat} (hk : Tryz.prog.bytesOf e = k) (k8 : 8 ≤ k) {n : Nat} {c : Value} {y : DataW H × List MemPlace} (h : DataW.trod enc Tryz.prog w base spare held n t [c] = some y) (hw : ∀ m ∈ y.1.weights Tryz.prog t, m ≤ reachBytes) :
    ∃ qq nn cc, c = .slice qq nn cc ∧ nn ≤ 17592186044416 := by
  rcases DataW.trod_slice ht h with ⟨hcs, _⟩ | ⟨a, len', cap', elems, rest, n, _, hcs, hx, _, _, _, hlen, _⟩
  · simp at hcs; exact ⟨_, _, _, hcs, by omega⟩
  · simp at hcs
    refine ⟨_, _, _, hcs, ?_⟩
    rw [hx] at hw
    have g := hw ((elems.length + rest.length) * Tryz.prog.bytesOf e) (by simp [DataW.weights, ht])
    have er : reachBytes = 140737488351232 := rfl
    rw [hk, er] at g
    have g2 : len' * 8 ≤ (elems.length + rest.length) * k := Nat.mul_le_mul (by omega) k8
    omega
theorem rd_lt {w : World} {p : OA} {cs : List Value} (h : Cs w p cs) : ∀ d, p = some d → cs ≠ [] → d.block < w.heap.size := fun d hd hne => by
  match cs, hne with
  | v :: vs, _ =>
    obtain ⟨a, ha, hc⟩ := h 0 v rfl
    rw [hd] at ha
    cases ha
    have := World.block_lt_of_cell? _ _ hc
    rwa [add_block] at this
theorem op_dec {n : Nat} {cs : List Value} {y : DataW H × List MemPlace} (hy : DataW.trod enc Tryz.prog w base spare held n 37 cs = some y) (hw : ∀ m ∈ y.1.weights Tryz.prog 37, m ≤ reachBytes) : ∃ e : OpE, cs = opC e ∧ Is_op w e := by
  obtain ⟨xs, n', _, hx, hl, hlen, hf⟩ := DataW.trod_struct Tryz.underlying37 hy
  have hce : Tryz.prog.cellsOf 37 = 15 := by kernel_rfl
  have hc8 : Tryz.prog.cellsOf 5 = 1 := by kernel_rfl
  have hci : Tryz.prog.cellsOf 3 = 1 := by kernel_rfl
  have hc64 : Tryz.prog.cellsOf 2 = 1 := by kernel_rfl
  have hcp : Tryz.prog.cellsOf 34 = 1 := by kernel_rfl
  have hck : Tryz.prog.cellsOf 35 = 1 := by kernel_rfl
  have hcq : Tryz.prog.cellsOf 33 = 4 := by kernel_rfl
  rw [hce] at hl
  match cs, hl, xs, hlen with
  | [c0, c1, c2, c3, c4, c5, c6, c7, c8, c9, c10, c11, c12, c13, c14], _, [y0, y1, y2, y3, y4, y5, y6, y7, y8, y9, y10, y11], _ =>
    have h0 : DataW.trod enc Tryz.prog w base spare held n' 5 [c0] = some y0 := by simpa [hc8, hci, hc64, hcp, hck, hcq] using hf 0 _ rfl
    have h1 : DataW.trod enc Tryz.prog w base spare held n' 3 [c1] = some y1 := by simpa [hc8, hci, hc64, hcp, hck, hcq] using hf 1 _ rfl
    have h2 : DataW.trod enc Tryz.prog w base spare held n' 3 [c2] = some y2 := by simpa [hc8, hci, hc64, hcp, hck, hcq] using hf 2 _ rfl
    have h3 : DataW.trod enc Tryz.prog w base spare held n' 2 [c3] = some y3 := by simpa [hc8, hci, hc64, hcp, hck, hcq] using hf 3 _ rfl
    have h4 : DataW.trod enc Tryz.prog w base spare held n' 2 [c4] = some y4 := by simpa [hc8, hci, hc64, hcp, hck, hcq] using hf 4 _ rfl
    have h5 : DataW.trod enc Tryz.prog w base spare held n' 2 [c5] = some y5 := by simpa [hc8, hci, hc64, hcp, hck, hcq] using hf 5 _ rfl
    have h6 : DataW.trod enc Tryz.prog w base spare held n' 2 [c6] = some y6 := by simpa [hc8, hci, hc64, hcp, hck, hcq] using hf 6 _ rfl
    have h7 : DataW.trod enc Tryz.prog w base spare held n' 3 [c7] = some y7 := by simpa [hc8, hci, hc64, hcp, hck, hcq] using hf 7 _ rfl
    have h8 : DataW.trod enc Tryz.prog w base spare held n' 5 [c8] = some y8 := by simpa [hc8, hci, hc64, hcp, hck, hcq] using hf 8 _ rfl
    have h9 : DataW.trod enc Tryz.prog w base spare held n' 33 [c9, c10, c11, c12] = some y9 := by simpa [hc8, hci, hc64, hcp, hck, hcq] using hf 9 _ rfl
    have h10 : DataW.trod enc Tryz.prog w base spare held n' 34 [c13] = some y10 := by simpa [hc8, hci, hc64, hcp, hck, hcq] using hf 10 _ rfl
    have h11 : DataW.trod enc Tryz.prog w base spare held n' 35 [c14] = some y11 := by simpa [hc8, hci, hc64, hcp, hck, hcq] using hf 11 _ rfl
    obtain ⟨m0, e0, _, w0⟩ := DataW.trod_int Tryz.underlying5 h0
    obtain ⟨m1, e1, _, w1⟩ := DataW.trod_int Tryz.underlying3 h1
    obtain ⟨m2, e2, _, w2⟩ := DataW.trod_int Tryz.underlying3 h2
    obtain ⟨m3, e3, _, w3⟩ := DataW.trod_int Tryz.underlying2 h3
    obtain ⟨m4, e4, _, w4⟩ := DataW.trod_int Tryz.underlying2 h4
    obtain ⟨m5, e5, _, w5⟩ := DataW.trod_int Tryz.underlying2 h5
    obtain ⟨m6, e6, _, w6⟩ := DataW.trod_int Tryz.underlying2 h6
    obtain ⟨m7, e7, _, w7⟩ := DataW.trod_int Tryz.underlying3 h7
    obtain ⟨m8, e8, _, w8⟩ := DataW.trod_int Tryz.underlying5 h8
    obtain ⟨zs, n'', _, _, _, glen, gf⟩ := DataW.trod_struct Tryz.underlying33 h9
    match zs, glen with
    | [z0, z1, z2, z3], _ =>
      have g0 : DataW.trod enc Tryz.prog w base spare held n'' 5 [c9] = some z0 := by simpa [hc8] using gf 0 _ rfl
      have g1 : DataW.trod enc Tryz.prog w base spare held n'' 2 [c10] = some z1 := by simpa [hc64] using gf 1 _ rfl
      have g2 : DataW.trod enc Tryz.prog w base spare held n'' 2 [c11] = some z2 := by simpa [hc64] using gf 2 _ rfl
      have hcb : Tryz.prog.cellsOf 4 = 1 := by kernel_rfl
      have g3 : DataW.trod enc Tryz.prog w base spare held n'' 4 [c12] = some z3 := by simpa [hcb] using gf 3 _ rfl
      obtain ⟨m9, e9, _, w9⟩ := DataW.trod_int Tryz.underlying5 g0
      obtain ⟨m10, e10, _, w10⟩ := DataW.trod_int Tryz.underlying2 g1
      obtain ⟨m11, e11, _, w11⟩ := DataW.trod_int Tryz.underlying2 g2
      obtain ⟨b12, e12, _⟩ := DataW.trod_bool Tryz.underlying4 g3
      rw [hx] at hw
      simp only [DataW.weights, Tryz.underlying37, DataW.weightsEach, List.map_cons, List.map_nil, List.mem_append] at hw
      obtain ⟨qp, np, cp, ep, zp⟩ := nested_len Tryz.underlying34 (k := 16) (by kernel_rfl) (by omega) h10 fun m hm => hw m (.inr (.inr (.inr (.inr (.inr (.inr (.inr (.inr (.inr (.inr (.inl hm)))))))))))
      obtain ⟨qk, nk, ck, ek, zk⟩ := nested_len Tryz.underlying35 (k := 8) (by kernel_rfl) (by omega) h11 fun m hm => hw m (.inr (.inr (.inr (.inr (.inr (.inr (.inr (.inr (.inr (.inr (.inr (.inl hm))))))))))))
      simp only [List.cons.injEq, and_true] at e0 e1 e2 e3 e4 e5 e6 e7 e8 e9 e10 e11 e12
      subst e0 e1 e2 e3 e4 e5 e6 e7 e8 e9 e10 e11 e12 ep ek
      obtain ⟨lp, p1, p2, p3, p4, _, _⟩ := pairs_arg ⟨n', h10⟩
      obtain ⟨lk, k1, k2, k3, k4, _, _⟩ := ints_arg ⟨n', h11⟩
      subst p1 k1
      refine ⟨(⟨m0, m1, m2, m3, m4, m5, m6, m7, m8, m9, m10, m11, b12, lp, lk⟩, _, _), rfl, ⟨Go.Sh.u8_of w0, in64_of w1, in64_of w2, in64_of w3, in64_of w4, in64_of w5, in64_of w6, in64_of w7, Go.Sh.u8_of w8, Go.Sh.u8_of w9, in64_of w10, in64_of w11, p3, k3⟩, ⟨⟨qp, cp, rfl, p4, p2, rd_lt p2⟩, ⟨qk, ck, rfl, k4, k2, rd_lt k2⟩⟩, zp, zk⟩
theorem ops_arg {q : OA} {len cap : Nat} {d : DataW H} {p : List MemPlace} (h : DataW.Trod enc Tryz.prog w base spare held 22 (.slice q len cap) d p) {ts : List TypeId} {ds : List (DataW H)} (hz : (DataW.weightsEach Tryz.prog ts ds).all (· ≤ reachBytes) = true) {j : Nat} (ht : ts[j]? = some 22) (hd : ds[j]? = some d) : ∃ l, Is_ops w q len cap l :=
  arg_sliceZ (ec := opC) (Pr := Is_op w) (s := 15) (fun _ => rfl) Tryz.underlying22 (by kernel_rfl) (fun n cs y hy hw => op_dec hy hw) h fun m hm => by
    have := List.all_eq_true.1 hz _ (DataW.weights_mem_each ht hd m hm)
    simpa using this
end Go.Proofs.YtmkpkmdnapccgaaGreatDoor

namespace Go.Proofs.YtmkpkmdnapccgaaGreatDoor
open Go Go.Sh Go.RowKit

theorem elOp : ElT Tryz.prog 22 37 (.agg #[.int .u8 0, .int .i64 0, .int .i64 0, .int .i64 0, .int .i64 0, .int .i64 0, .int .i64 0, .int .i64 0, .int .u8 0, .int .u8 0, .int .i64 0, .int .i64 0, .bool false, .slice none 0 0, .slice none 0 0]) 15 152 := ⟨Tryz.underlying22, ⟨_, Tryz.type37, by kernel_rfl, by kernel_rfl, by kernel_rfl⟩, rfl, by omega⟩
structure OpOk (w : World) (r : Option Nat) (e : OpE) : Prop where
  p : ∃ a c, e.2.1 = .slice a e.1.pairs.length c ∧ e.1.pairs.length ≤ c ∧ Cs w a (prs e.1.pairs) ∧ ∀ d, a = some d → prs e.1.pairs ≠ [] → r ≠ some d.block
  k : ∃ a c, e.2.2 = .slice a e.1.keys.length c ∧ e.1.keys.length ≤ c ∧ Cs w a (ints e.1.keys) ∧ ∀ d, a = some d → ints e.1.keys ≠ [] → r ≠ some d.block
theorem OpOk.ext {w w' : World} {r : Option Nat} {e : OpE} (h : OpOk w r e) (E : Ext w w') : OpOk w' r e := by
  obtain ⟨a, c, h1, h2, h3, h4⟩ := h.p
  obtain ⟨b, d, g1, g2, g3, g4⟩ := h.k
  exact ⟨⟨a, c, h1, h2, h3.ext E, h4⟩, ⟨b, d, g1, g2, g3.ext E, g4⟩⟩
theorem cs_gr {w w' : World} {p : OA} {vs : List Value} {r : Option Nat} (h : Cs w p vs) (g : w.grownBy w' r) (hne : ∀ a, p = some a → vs ≠ [] → r ≠ some a.block) : Cs w' p vs := fun i v hv => by
  obtain ⟨a, ha, hc⟩ := h i v hv
  refine ⟨a, ha, ?_⟩
  rw [World.cell?_of_block (g.block _ (World.block_lt_of_cell? _ _ hc) fun e => hne a ha (by rintro rfl; simp at hv) (by rw [add_block] at e; exact e.symm))]
  exact hc
theorem OpOk.grow {w w' : World} {r r' : Option Nat} {e : OpE} (h : OpOk w r e) (g : w.grownBy w' r) (hr : ∀ b, r' = some b → r = some b ∨ w.heap.size ≤ b) : OpOk w' r' e := by
  obtain ⟨a, c, h1, h2, h3, h4⟩ := h.p
  obtain ⟨b, d, g1, g2, g3, g4⟩ := h.k
  have nx : ∀ {p : OA} {vs : List Value}, Cs w p vs → (∀ d, p = some d → vs ≠ [] → r ≠ some d.block) → ∀ d, p = some d → vs ≠ [] → r' ≠ some d.block := fun hc hn d hd hz he => by
    rcases hr _ he with hh | hh
    · exact hn d hd hz hh
    · have := rd_lt hc d hd hz; omega
  exact ⟨⟨a, c, h1, h2, cs_gr h3 g h4, nx h3 h4⟩, ⟨b, d, g1, g2, cs_gr g3 g g4, nx g3 g4⟩⟩
theorem OpOk.rd {w : World} {r : Option Nat} {e : OpE} (h : OpOk w r e) : OpRd w e.1 e.2.1 e.2.2 := by
  obtain ⟨a, c, h1, h2, h3, h4⟩ := h.p
  obtain ⟨b, d, g1, g2, g3, g4⟩ := h.k
  exact ⟨⟨a, c, h1, h2, h3, rd_lt h3⟩, ⟨b, d, g1, g2, g3, rd_lt g3⟩⟩
theorem own_nil {w w' : World} {p : OA} {n c e s : Nat} {xs : List Value} (h : w'.ownsRow w.heap.size e s (.slice p n c) n xs) {r : Option Nat} (hr : ∀ b, r = some b → b < w.heap.size) : ∀ d, p = some d → xs ≠ [] → r ≠ some d.block := fun d hd _ he => by
  have := (row_lt h hd).1
  have := hr _ he
  omega
theorem c_r37own {ops : List OpE} {lp : OA} {n lc : Nat} {w : World} {R : EW} (hl : Cs w lp (ops.flatMap opC)) (hn : ops.length = n) (hz : n ≤ 100) (hin : ∀ e ∈ ops, OpRd w e.1 e.2.1 e.2.2 ∧ e.1.pairs.length ≤ 5000 ∧ e.1.keys.length ≤ 5000)
    (h : ∀ p c (Fs : List OpE) w', Ext w w' → Fs.map (·.1) = ops.map (·.1) → Cs w' p (Fs.flatMap opC) → (∀ e ∈ Fs, OpRd w' e.1 e.2.1 e.2.2) → R (.returned (.slice p n c)) w') : Calls Tryz.prog 9 #[.slice lp n lc] w R := by
  refine sh9_ok _ _ _ ?_
  unfold sh9
  refine ⟨fun vs w' => ∃ (k : Nat) (p : OA) (c : Nat) (Fs : List OpE), vs = [.slice p k c, .int .i64 (k : Int)] ∧ k ≤ n ∧ Ext w w' ∧ Fs.map (·.1) = (ops.take k).map (·.1) ∧ w'.ownsRow w.heap.size 37 15 (.slice p k c) k (Fs.flatMap opC) ∧ ∀ e ∈ Fs, OpOk w' (Value.slice p k c).ownBlock e,
    fun vs _ => match vs with | [_, .int _ i] => n - i.toNat | _ => 0, ⟨0, none, 0, [], rfl, Nat.zero_le _, ext_refl _, rfl, World.ownsRow_nil _ _ _ _, fun e he => (by cases he)⟩, ?_⟩
  rintro p m c i_ _ w3 ⟨k, p0, c0, Fs, hv, hk, E, hF, row, rd⟩
  simp only [List.cons.injEq, Value.int.injEq, Value.slice.injEq, true_and, and_true] at hv
  obtain ⟨⟨rfl, rfl, rfl⟩, rfl⟩ := hv
  refine ifB_intro (fun z => ?_) fun z => ?_
  · have z : m < n := by have := of_decide_eq_true z; omega
    have hkl : m < ops.length := by omega
    refine ix_flat (ec := opC) (s := 15) (fun _ => rfl) (by omega) (hl.ext E) hn (k := m) rfl z fun a1 r1 _ => ?_
    have hin' := hin ops[m] (List.getElem_mem hkl)
    have htk : ops.take (m + 1) = ops.take m ++ [ops[m]] := (List.take_append_getElem hkl).symm
    generalize ops[m] = e at *
    obtain ⟨x, pv, kv⟩ := e
    obtain ⟨hO, zp, zk⟩ := hin'
    obtain ⟨pp, pc, e1p, hp1, hp2, _⟩ := hO.p
    obtain ⟨kp, kc, e1k, hk1, hk2, _⟩ := hO.k
    simp only at e1p e1k zp zk hp1 hp2 hk1 hk2
    subst e1p e1k
    refine ⟨_, r1 0 _ rfl, _, r1 1 _ rfl, _, r1 2 _ rfl, _, r1 3 _ rfl, _, r1 4 _ rfl, _, r1 5 _ rfl, _, r1 6 _ rfl, _, r1 7 _ rfl, _, r1 8 _ rfl, _, r1 9 _ rfl, _, r1 10 _ rfl, _, r1 11 _ rfl, _, r1 12 _ rfl, _, _, _, r1 13 _ rfl, _, _, _, r1 14 _ rfl, do_al fun b4 w4 e4 X4 l4 => st15 X4 fun w5 X5 g5 => ?_⟩
    have e45 : Ext w3 w5 := e4.st g5 l4
    refine ⟨_, _, _, X5.cell (i := 13) rfl rfl, ?_⟩
    refine do_app elP (ownP_nil w5 w5.heap.size) (m := x.pairs.length) ((hp2.ext E).ext e45) (by simp) prs_one (by simp only [maxLen]; omega) (by omega) (Nat.le_refl _) fun qp qc w6 ho6 g6 => retS_ret ⟨_, _, _, rfl, ?_⟩
    simp only [Nat.zero_add, prs_nil, List.nil_append] at ho6 ⊢
    have e6 : Ext w5 w6 := (ext_refl w5).grown g6 (by simp [Value.ownBlock])
    refine do_st (X5.ext e6) (i := 13) rfl (by simp) fun w7 X7 g7 => ?_
    have X7 : Blk w7 b4 #[.int .u8 x.op, .int .i64 x.a, .int .i64 x.b, .int .i64 x.key, .int .i64 x.val, .int .i64 x.lo, .int .i64 x.hi, .int .i64 x.n, .int .u8 x.pol, .int .u8 x.pk, .int .i64 x.pa, .int .i64 x.pb, .bool x.pnot, .slice qp x.pairs.length qc, .slice kp x.keys.length kc] 37 := X7
    have s3 := E.size
    have s45 := e45.size
    have s6 := e6.size
    have s7 := g7.size
    have lb4 := X5.lt
    have e57 : Ext w3 w7 := (e45.trans e6).st g7 l4
    refine ⟨_, _, _, X7.cell (i := 14) rfl rfl, ?_⟩
    refine do_app elIo (World.ownsRow_nil w7 w7.heap.size _ _) (m := x.keys.length) ((hk2.ext E).ext e57) (by simp) ints_one (by simp only [maxLen]; omega) (by omega) (Nat.le_refl _) fun lp' lc' w8 ho8 g8 => retS_ret ⟨_, _, _, rfl, ?_⟩
    simp only [Nat.zero_add, List.nil_append] at ho8 ⊢
    have e8 : Ext w7 w8 := (ext_refl w7).grown g8 (by simp [Value.ownBlock])
    refine do_st (X7.ext e8) (i := 14) rfl (by simp) fun w9 X9 g9 => ?_
    have X9 : Blk w9 b4 #[.int .u8 x.op, .int .i64 x.a, .int .i64 x.b, .int .i64 x.key, .int .i64 x.val, .int .i64 x.lo, .int .i64 x.hi, .int .i64 x.n, .int .u8 x.pol, .int .u8 x.pk, .int .i64 x.pa, .int .i64 x.pb, .bool x.pnot, .slice qp x.pairs.length qc, .slice lp' x.keys.length lc'] 37 := X9
    have s8 := e8.size
    have s9 := g9.size
    have e59 : Ext w3 w9 := (e57.trans e8).st g9 l4
    have hq9 : w9.ownsRow w5.heap.size 49 2 (.slice qp x.pairs.length qc) x.pairs.length (prs x.pairs) := by
      have h7 : OwnP w7 w5.heap.size qp x.pairs.length qc x.pairs := keep_row ho6 fun b hb => g7.block b (ho6.lt b hb).2 fun e => by have e : b = b4 := Option.some.inj e; have := (ho6.lt b hb).1; omega
      exact keep_row (e8.row h7) fun b hb => g9.block b ((e8.row h7).lt b hb).2 fun e => by have e : b = b4 := Option.some.inj e; have := (h7.lt b hb).1; omega
    have hl9 := keep_row ho8 fun b hb => g9.block b (ho8.lt b hb).2 fun e => by have e : b = b4 := Option.some.inj e; have := (ho8.lt b hb).1; omega
    refine ⟨_, X9.cell (i := 0) rfl rfl, _, X9.cell (i := 1) rfl rfl, _, X9.cell (i := 2) rfl rfl, _, X9.cell (i := 3) rfl rfl, _, X9.cell (i := 4) rfl rfl, _, X9.cell (i := 5) rfl rfl, _, X9.cell (i := 6) rfl rfl, _, X9.cell (i := 7) rfl rfl, _, X9.cell (i := 8) rfl rfl, _, X9.cell (i := 9) rfl rfl, _, X9.cell (i := 10) rfl rfl, _, X9.cell (i := 11) rfl rfl, _, X9.cell (i := 12) rfl rfl, _, _, _, X9.cell (i := 13) rfl rfl, _, _, _, X9.cell (i := 14) rfl rfl, do_al fun b10 w10 e10 X10 l10 => ?_⟩
    have e3t := e59.trans e10
    have s10 := e10.size
    refine do_append' elOp (e3t.row row) (m := 1) (cs_blk X10) (by simp) (by simp [Value.oneCell']) (by simp only [maxLen]; omega) (by omega) (by omega) fun p' c' w11 row11 g11 n11 => retS_ret ⟨_, _, _, rfl, ?_⟩
    have hrl : ∀ b, (Value.slice p m c).ownBlock = some b → b < w3.heap.size := fun b hb => (row.lt b hb).2
    have new : OpOk w10 (Value.slice p m c).ownBlock (x, .slice qp x.pairs.length qc, .slice lp' x.keys.length lc') :=
      ⟨⟨qp, qc, rfl, row_cap hq9, (Cs.of_row hq9).ext e10, own_nil hq9 fun b hb => by have := hrl b hb; omega⟩, ⟨lp', lc', rfl, row_cap hl9, (Cs.of_row hl9).ext e10, own_nil hl9 fun b hb => by have := hrl b hb; omega⟩⟩
    rw [wrap_succ z (by omega)]
    refine ⟨⟨m + 1, p', c', Fs ++ [(x, .slice qp x.pairs.length qc, .slice lp' x.keys.length lc')], rfl, by omega, (E.trans e3t).grown g11 fun b hb => (row.lt b hb).1, ?_, ?_, fun e he => ?_⟩, ?_⟩
    · rw [List.map_append, hF, htk, List.map_append]; rfl
    · simp only [List.flatMap_append, List.flatMap_cons, List.flatMap_nil, List.append_nil]; exact row11
    · rcases List.mem_append.1 he with he | he
      · exact ((rd e he).ext e3t).grow g11 n11
      · obtain rfl : e = (x, .slice qp x.pairs.length qc, .slice lp' x.keys.length lc') := by simpa using he
        exact new.grow g11 n11
    · show n - ((m + 1 : Nat) : Int).toNat < n - (m : Int).toNat
      omega
  · have z : m = n := by have := of_decide_eq_false z; omega
    subst z
    rw [← hn, List.take_length] at hF
    exact h p c Fs w3 E hF (Cs.of_row row) fun e he => (rd e he).rd
theorem c_r37same {x : POp} {pp kp qp lp : OA} {pc kc qc lc : Nat} {w : World} {R : EW} (zp : x.pairs.length ≤ 5000) (zk : x.keys.length ≤ 5000) (h1 : Cs w pp (prs x.pairs)) (h2 : Cs w kp (ints x.keys)) (g1 : Cs w qp (prs x.pairs)) (g2 : Cs w lp (ints x.keys)) (h : ∀ w', Ext w w' → R (.returned (.bool true)) w') :
    Calls Tryz.prog 17 #[.agg #[.int .u8 x.op, .int .i64 x.a, .int .i64 x.b, .int .i64 x.key, .int .i64 x.val, .int .i64 x.lo, .int .i64 x.hi, .int .i64 x.n, .int .u8 x.pol, .int .u8 x.pk, .int .i64 x.pa, .int .i64 x.pb, .bool x.pnot, .slice pp x.pairs.length pc, .slice kp x.keys.length kc], .agg #[.int .u8 x.op, .int .i64 x.a, .int .i64 x.b, .int .i64 x.key, .int .i64 x.val, .int .i64 x.lo, .int .i64 x.hi, .int .i64 x.n, .int .u8 x.pol, .int .u8 x.pk, .int .i64 x.pa, .int .i64 x.pb, .bool x.pnot, .slice qp x.pairs.length qc, .slice lp x.keys.length lc]] w R := by
  refine sh17_ok _ _ _ _ _ _ _ _ _ _ _ _ _ _ _ _ _ _ _ _ _ _ _ _ _ _ _ _ _ _ _ _ _ _ _ _ _ _ ?_
  unfold sh17
  refine do_al fun b2 w2 e2 X2 l2 => do_al fun b3 w3 e3 Y l3 => ?_
  have X := X2.ext e3
  have E := e2.trans e3
  intro K45
  refine ⟨_, X.cell (i := 0) rfl rfl, _, Y.cell (i := 0) rfl rfl, ifB_t (by simp) ?_⟩
  refine ⟨_, X.cell (i := 1) rfl rfl, _, Y.cell (i := 1) rfl rfl, ifB_t (by simp) ?_⟩
  refine ⟨_, X.cell (i := 2) rfl rfl, _, Y.cell (i := 2) rfl rfl, ifB_t (by simp) ?_⟩
  refine ⟨_, X.cell (i := 3) rfl rfl, _, Y.cell (i := 3) rfl rfl, ifB_t (by simp) ?_⟩
  refine ⟨_, X.cell (i := 4) rfl rfl, _, Y.cell (i := 4) rfl rfl, ifB_t (by simp) ?_⟩
  refine ⟨_, X.cell (i := 5) rfl rfl, _, Y.cell (i := 5) rfl rfl, ifB_t (by simp) ?_⟩
  refine ⟨_, X.cell (i := 6) rfl rfl, _, Y.cell (i := 6) rfl rfl, ifB_t (by simp) ?_⟩
  refine ⟨_, X.cell (i := 7) rfl rfl, _, Y.cell (i := 7) rfl rfl, ifB_t (by simp) ?_⟩
  refine ⟨_, X.cell (i := 8) rfl rfl, _, Y.cell (i := 8) rfl rfl, ifB_t (by simp) ?_⟩
  refine ⟨_, X.cell (i := 9) rfl rfl, _, X.cell (i := 10) rfl rfl, _, X.cell (i := 11) rfl rfl, _, X.cell (i := 12) rfl rfl, _, Y.cell (i := 9) rfl rfl, _, Y.cell (i := 10) rfl rfl, _, Y.cell (i := 11) rfl rfl, _, Y.cell (i := 12) rfl rfl, ifB_t (by simp) ?_⟩
  refine ⟨_, _, _, X.cell (i := 13) rfl rfl, _, _, _, Y.cell (i := 13) rfl rfl, do_call Tryz.call38 (c_r4same (h1.ext E) rfl (g1.ext E) rfl (by omega) fun w4 e4 => retS_ret ⟨_, rfl, ifB_t (by simp) ?_⟩)⟩
  refine ⟨_, _, _, (X.ext e4).cell (i := 14) rfl rfl, _, _, _, (Y.ext e4).cell (i := 14) rfl rfl, do_call Tryz.call39 (c_rsame ((h2.ext E).ext e4) rfl ((g2.ext E).ext e4) rfl (by omega) fun w5 e5 => retS_ret ⟨_, rfl, ?_⟩)⟩
  have := h w5 ((E.trans e4).trans e5)
  simpa using this
theorem c_sameops {Es Fs : List OpE} {p q : OA} {n c d : Nat} {w : World} {R : EW} (hz : n ≤ 100000) (hE : Es.length = n) (hF : Fs.length = n) (hp : Cs w p (Es.flatMap opC)) (hq : Cs w q (Fs.flatMap opC)) (he : Es.map (·.1) = Fs.map (·.1)) (rE : ∀ e ∈ Es, OpRd w e.1 e.2.1 e.2.2 ∧ e.1.pairs.length ≤ 5000 ∧ e.1.keys.length ≤ 5000) (rF : ∀ e ∈ Fs, OpRd w e.1 e.2.1 e.2.2)
    (h : ∀ w', Ext w w' → R (.returned (.bool true)) w') : Calls Tryz.prog 12 #[.slice p n c, .slice q n d] w R := by
  refine sh12_ok _ _ _ _ _ _ ?_
  unfold sh12
  refine ifB_f (by simp) ?_
  refine ⟨fun vs w' => ∃ k : Nat, vs = [.int .i64 (k : Int)] ∧ k ≤ n ∧ Ext w w', fun vs _ => match vs with | [.int _ i] => n - i.toNat | _ => 0, ⟨0, rfl, Nat.zero_le _, ext_refl _⟩, ?_⟩
  rintro i_ _ w2 ⟨k, hv, hk, e⟩
  simp only [List.cons.injEq, Value.int.injEq, true_and, and_true] at hv
  subst hv
  refine ifB_intro (fun z => ?_) fun z => ?_
  · have z : k < n := by have := of_decide_eq_true z; omega
    have e2 := e.trans (ext_drew w2)
    refine ⟨fun w' => Ext w2.drew w', ext_refl _, ?_⟩
    have hk1 : k < Es.length := by omega
    have hk2 : k < Fs.length := by omega
    have hkk : Es[k].1 = Fs[k].1 := by
      have h1 : (Es.map (·.1))[k]? = some Es[k].1 := by rw [List.getElem?_map, List.getElem?_eq_getElem hk1]; rfl
      have h2 : (Fs.map (·.1))[k]? = some Fs[k].1 := by rw [List.getElem?_map, List.getElem?_eq_getElem hk2]; rfl
      rw [he, h2] at h1
      exact (Option.some.inj h1).symm
    have R1 := rE Es[k] (List.getElem_mem hk1)
    have R2 := rF Fs[k] (List.getElem_mem hk2)
    refine ix_flatC (ec := opC) (s := 15) (C := fun w' => Ext w2.drew w') (fun _ => rfl) (by omega) (fun w' e' => hp.ext (e2.trans e')) (ext_refl _) hE (k := k) rfl z fun a3 r3 => ?_
    generalize Es[k] = E1 at *
    obtain ⟨x, pv, kv⟩ := E1
    obtain ⟨hO, zp, zk⟩ := R1
    obtain ⟨pp, pc, e1p, hp1, hp2, _⟩ := hO.p
    obtain ⟨kp, kc, e1k, hk1, hk2, _⟩ := hO.k
    simp only at e1p e1k hp2 hk2 zp zk
    subst e1p e1k
    refine ⟨_, fun w' e' => r3 w' e' 0 _ rfl, _, fun w' e' => r3 w' e' 1 _ rfl, _, fun w' e' => r3 w' e' 2 _ rfl, _, fun w' e' => r3 w' e' 3 _ rfl, _, fun w' e' => r3 w' e' 4 _ rfl, _, fun w' e' => r3 w' e' 5 _ rfl, _, fun w' e' => r3 w' e' 6 _ rfl, _, fun w' e' => r3 w' e' 7 _ rfl, _, fun w' e' => r3 w' e' 8 _ rfl, _, fun w' e' => r3 w' e' 9 _ rfl, _, fun w' e' => r3 w' e' 10 _ rfl, _, fun w' e' => r3 w' e' 11 _ rfl, _, fun w' e' => r3 w' e' 12 _ rfl, _, _, _, fun w' e' => r3 w' e' 13 _ rfl, _, _, _, fun w' e' => r3 w' e' 14 _ rfl, ?_⟩
    refine ix_flatC (ec := opC) (s := 15) (C := fun w' => Ext w2.drew w') (fun _ => rfl) (by omega) (fun w' e' => hq.ext (e2.trans e')) (ext_refl _) hF (k := k) rfl z fun a4 r4 => ?_
    generalize Fs[k] = F1 at *
    obtain ⟨y, pv, kv⟩ := F1
    obtain ⟨qp, qc, e2p, _, hq2, _⟩ := R2.p
    obtain ⟨lp, lc, e2k, _, hl2, _⟩ := R2.k
    simp only at e2p e2k hq2 hl2 hkk
    subst hkk
    subst e2p e2k
    refine ⟨_, fun w' e' => r4 w' e' 0 _ rfl, _, fun w' e' => r4 w' e' 1 _ rfl, _, fun w' e' => r4 w' e' 2 _ rfl, _, fun w' e' => r4 w' e' 3 _ rfl, _, fun w' e' => r4 w' e' 4 _ rfl, _, fun w' e' => r4 w' e' 5 _ rfl, _, fun w' e' => r4 w' e' 6 _ rfl, _, fun w' e' => r4 w' e' 7 _ rfl, _, fun w' e' => r4 w' e' 8 _ rfl, _, fun w' e' => r4 w' e' 9 _ rfl, _, fun w' e' => r4 w' e' 10 _ rfl, _, fun w' e' => r4 w' e' 11 _ rfl, _, fun w' e' => r4 w' e' 12 _ rfl, _, _, _, fun w' e' => r4 w' e' 13 _ rfl, _, _, _, fun w' e' => r4 w' e' 14 _ rfl, ?_⟩
    refine do_call Tryz.call17 (c_r37same zp zk (hp2.ext e2) (hk2.ext e2) (hq2.ext e2) (hl2.ext e2) fun w3 e3 => retS_ret ⟨_, rfl, ifB_f rfl ?_⟩)
    rw [wrap_succ z (by omega)]
    refine ⟨⟨k + 1, rfl, by omega, e2.trans e3⟩, ?_⟩
    show n - ((k + 1 : Nat) : Int).toNat < n - (k : Int).toNat
    omega
  · exact h w2 e
end Go.Proofs.YtmkpkmdnapccgaaGreatDoor

namespace Go.Proofs.YtmkpkmdnapccgaaGreatDoor
open Go Go.Sh Go.RowKit

theorem c_long {l : List OpE} {q : OA} {len cap : Nat} {w : World} {R : EW} (hI : Is_ops w q len cap l) (h : ∀ w', Ext w w' → len ≤ 60 → (l.map szO).sum ≤ 10000 → (∀ e ∈ l, e.1.pairs.length ≤ 5000 ∧ e.1.keys.length ≤ 5000) → R (.returned (.bool false)) w') (ht : ∀ w', Ext w w' → R (.returned (.bool true)) w') :
    Calls Tryz.prog 7 #[.slice q len cap] w R := by
  obtain ⟨hn, hl, hO, _⟩ := hI
  refine sh7_ok _ _ _ ?_
  unfold sh7
  refine ifB_intro (fun z => ht w (ext_refl _)) fun z => ?_
  have z60 : len ≤ 60 := by have := of_decide_eq_false z; omega
  refine ⟨fun vs w' => ∃ k : Nat, vs = [.int .i64 ((((l.take k).map szO).sum : Nat) : Int), .int .i64 (k : Int)] ∧ k ≤ len ∧ Ext w w' ∧ ∀ e ∈ l.take k, e.1.pairs.length ≤ 5000 ∧ e.1.keys.length ≤ 5000, fun vs _ => match vs with | [_, .int _ i] => len - i.toNat | _ => 0, ⟨0, rfl, Nat.zero_le _, ext_refl _, by simp⟩, ?_⟩
  rintro n_ i_ _ w2 ⟨k, hv, hk, e, hsm⟩
  simp only [List.cons.injEq, Value.int.injEq, true_and, and_true] at hv
  obtain ⟨rfl, rfl⟩ := hv
  have hsz : ∀ e ∈ l, szO e ≤ 35184372088832 := fun e he => by have := (hO e he).2.2; unfold szO; omega
  refine ifB_intro (fun z => ?_) fun z => ?_
  · have z : k < len := by have := of_decide_eq_true z; omega
    have hkl : k < l.length := by omega
    have htk : l.take (k + 1) = l.take k ++ [l[k]] := by rw [List.take_append_getElem]
    have ht1 : ((l.take (k + 1)).map szO).sum = ((l.take k).map szO).sum + szO l[k] := by
      rw [htk, List.map_append, List.sum_append]; simp
    have hs := szO_le (l := l.take (k + 1)) fun x hx => hsz x (List.mem_of_mem_take hx)
    have hlt : (l.take (k + 1)).length ≤ 60 := by rw [List.length_take]; omega
    have O := hO l[k] (List.getElem_mem hkl)
    obtain ⟨⟨pp, pc, ep, _⟩, ⟨kp, kc, ek, _⟩⟩ := O.2.1
    intro K12
    refine ix_flat (ec := opC) (s := 15) (fun _ => rfl) (by omega) (hl.ext e) hn (k := k) rfl z fun a1 r1 _ => ⟨pp, l[k].1.pairs.length, pc, by rw [← ep]; exact r1 13 _ rfl, ifB_intro (fun z5 => ht w2 e) fun z5 => ?_⟩
    have z5 := of_decide_eq_false z5
    refine ix_flat (ec := opC) (s := 15) (fun _ => rfl) (by omega) (hl.ext e) hn (k := k) rfl z fun a2 r2 _ => ⟨kp, l[k].1.keys.length, kc, by rw [← ek]; exact r2 14 _ rfl, ?_⟩
    refine ifB_intro (fun z6 => ht w2 e) fun z6 => ?_
    have z6 := of_decide_eq_false z6
    have e2 := e.trans (ext_drew w2)
    refine ⟨fun w' => Ext w2.drew w', ext_refl _, ?_⟩
    refine ix_flatC (ec := opC) (s := 15) (C := fun w' => Ext w2.drew w') (fun _ => rfl) (by omega) (fun w' e' => hl.ext (e2.trans e')) (ext_refl _) hn (k := k) rfl z fun a3 r3 => ?_
    refine ⟨pp, l[k].1.pairs.length, pc, fun w' e' => by rw [← ep]; exact r3 w' e' 13 _ rfl, ix_flatC (ec := opC) (s := 15) (C := fun w' => Ext w2.drew w') (fun _ => rfl) (by omega) (fun w' e' => hl.ext (e2.trans e')) (ext_refl _) hn (k := k) rfl z fun a4 r4 => ⟨kp, l[k].1.keys.length, kc, fun w' e' => by rw [← ek]; exact r4 w' e' 14 _ rfl, ?_⟩⟩
    rw [wrap_succ z (by omega)]
    have hszk : szO l[k] = l[k].1.pairs.length + l[k].1.keys.length := rfl
    rw [wrap_of (x := _ + ((l[k].1.pairs.length : Nat) : Int)) (by omega) (by omega), wrap_of (by omega) (by omega)]
    refine ⟨⟨k + 1, ?_, by omega, e2, fun e' he' => ?_⟩, ?_⟩
    · rw [ht1, hszk]
      simp [Int.add_assoc]
    · rw [htk] at he'
      rcases List.mem_append.1 he' with he' | he'
      · exact hsm e' he'
      · obtain rfl : e' = _ := by simpa using he'
        omega
    · show len - ((k + 1 : Nat) : Int).toNat < len - (k : Int).toNat
      omega
  · have z : k = len := by have := of_decide_eq_false z; omega
    rw [z, ← hn, List.take_length] at hsm ⊢
    by_cases h3 : 10000 < (l.map szO).sum
    · rw [show decide ((((l.map szO).sum : Nat) : Int) > 10000) = true by rw [decide_eq_true_eq]; omega]; exact ht w2 e
    · rw [show decide ((((l.map szO).sum : Nat) : Int) > 10000) = false by rw [decide_eq_false_iff_not]; omega]; exact h w2 e z60 (by omega) hsm

def oGet : POp := { POp.zero with op := 3, key := -1 }
def oBld : POp := { POp.zero with op := 8, pol := 3, pairs := [(5, 64)] }
def oKeep : POp := { POp.zero with op := 13, a := 2, pk := 4, pa := 3, pb := 1, pnot := true }
theorem al1 : encR [oGet, oBld] = ([3, 0, 1, 8, 3, 2, 10, 128, 1], 0) := by kernel_rfl
theorem al2 : lineR oKeep = ([107, 101, 101, 112, 32, 50, 32, 110, 111, 116, 32, 109, 111, 100, 32, 51, 32, 49], 0) := by kernel_rfl
theorem al3 : lineR oBld = ([98, 117, 105, 108, 100, 32, 115, 117, 109, 32, 53, 58, 54, 52], 0) := by kernel_rfl
theorem al4 : parseR [103, 101, 116, 32, 48, 32, 45, 49] = (oGet, 0) := by kernel_rfl
theorem al5 : parseR [103, 101, 116, 32, 48, 32, 45, 48, 49] = (.zero, 7) := by kernel_rfl
theorem al6 : ∀ v ∈ (splitW [103, 101, 116, 32, 48, 32, 45, 49]).tail, WordOk v := by
  rw [show (splitW [103, 101, 116, 32, 48, 32, 45, 49]).tail = [[48], [45, 49]] by kernel_rfl]
  intro v hv
  simp only [List.mem_cons, List.not_mem_nil, or_false] at hv
  rcases hv with rfl | rfl
  · exact ⟨⟨0, by kernel_rfl⟩, by kernel_rfl⟩
  · exact ⟨⟨-1, by kernel_rfl⟩, by kernel_rfl⟩
theorem al7 : ∀ v ∈ (splitW [103, 101, 116, 32, 48, 32, 45, 48, 49]).tail, WordOk v := by
  rw [show (splitW [103, 101, 116, 32, 48, 32, 45, 48, 49]).tail = [[48], [45, 48, 49]] by kernel_rfl]
  intro v hv
  simp only [List.mem_cons, List.not_mem_nil, or_false] at hv
  rcases hv with rfl | rfl
  · exact ⟨⟨0, by kernel_rfl⟩, by kernel_rfl⟩
  · exact ⟨⟨-1, by kernel_rfl⟩, by kernel_rfl⟩
end Go.Proofs.YtmkpkmdnapccgaaGreatDoor

namespace Go.Proofs.YtmkpkmdnapccgaaGreatDoor
open Go Go.Sh Go.RowKit

theorem oGet_in : InO oGet := by
  refine ⟨?_, ?_, ?_, ?_, ?_, ?_, ?_, ?_, ?_, ?_, ?_, ?_, ?_, ?_⟩ <;> simp [oGet, POp.zero, In, InPs]
theorem oBld_in : InO oBld := by
  refine ⟨?_, ?_, ?_, ?_, ?_, ?_, ?_, ?_, ?_, ?_, ?_, ?_, ?_, ?_⟩ <;> simp [oBld, POp.zero, In, InPs]
theorem oKeep_in : InO oKeep := by
  refine ⟨?_, ?_, ?_, ?_, ?_, ?_, ?_, ?_, ?_, ?_, ?_, ?_, ?_, ?_⟩ <;> simp [oKeep, POp.zero, In, InPs]
theorem nil_rd {w : World} {x : POp} (h1 : x.pairs = []) (h2 : x.keys = []) : OpRd w x (.slice none 0 0) (.slice none 0 0) := by
  refine ⟨⟨none, 0, by rw [h1]; rfl, by rw [h1]; exact Nat.le_refl _, by rw [h1]; exact cs_nil _ _, fun d e => by cases e⟩, ⟨none, 0, by rw [h2]; rfl, by rw [h2]; exact Nat.le_refl _, by rw [h2]; exact cs_nil _ _, fun d e => by cases e⟩⟩
theorem c_alive37 {w : World} {R : EW} (hG : GOk w) (h : ∀ w', Ext w w' → R (.returned (.bool true)) w') : Calls Tryz.prog 8 #[] w R := by
  refine sh8_ok ?_
  unfold sh8
  refine do_al fun b1 w1 e1 B1 l1 => st15 B1 fun w2 G2 g2 => do_al fun pb w3 e3 P3 l3 => do_al fun b2 w4 e4 B4 l4 => st15 B4 fun w5 D5 g5 => ?_
  have E2 : Ext w w2 := e1.st g2 l1
  have s1 := B1.lt
  have s2 := g2.size
  have s3 := P3.lt
  have s4 := B4.lt
  have z1 := e1.size
  have z3 := e3.size
  have E4 : Ext w w4 := (E2.trans e3).trans e4
  have E5 : Ext w w5 := E4.st g5 (by omega)
  have G5 : Blk w5 b1 (opCells oGet (.slice none 0 0) (.slice none 0 0)) 37 := ((Blk.ext G2 e3).ext e4).grown g5 (ne_some (by omega))
  have D5 : Blk w5 b2 (opCells oBld (.slice (some (blk pb)) 1 1) (.slice none 0 0)) 37 := D5
  have P5 := (P3.ext e4).grown g5 (ne_some (by omega))
  have hcp : Cs w5 (some (blk pb)) (prs oBld.pairs) := cs_blk P5
  have hrB : OpRd w5 oBld (.slice (some (blk pb)) 1 1) (.slice none 0 0) := ⟨⟨some (blk pb), 1, rfl, Nat.le_refl _, hcp, fun d e _ => by cases e; exact P5.lt⟩, ⟨none, 0, rfl, Nat.le_refl _, cs_nil _ _, fun d e => by cases e⟩⟩
  refine ⟨_, G5.cell (i := 0) rfl rfl, _, G5.cell (i := 1) rfl rfl, _, G5.cell (i := 2) rfl rfl, _, G5.cell (i := 3) rfl rfl, _, G5.cell (i := 4) rfl rfl, _, G5.cell (i := 5) rfl rfl, _, G5.cell (i := 6) rfl rfl, _, G5.cell (i := 7) rfl rfl, _, G5.cell (i := 8) rfl rfl, _, G5.cell (i := 9) rfl rfl, _, G5.cell (i := 10) rfl rfl, _, G5.cell (i := 11) rfl rfl, _, G5.cell (i := 12) rfl rfl, _, _, _, G5.cell (i := 13) rfl rfl, _, _, _, G5.cell (i := 14) rfl rfl, _, D5.cell (i := 0) rfl rfl, _, D5.cell (i := 1) rfl rfl, _, D5.cell (i := 2) rfl rfl, _, D5.cell (i := 3) rfl rfl, _, D5.cell (i := 4) rfl rfl, _, D5.cell (i := 5) rfl rfl, _, D5.cell (i := 6) rfl rfl, _, D5.cell (i := 7) rfl rfl, _, D5.cell (i := 8) rfl rfl, _, D5.cell (i := 9) rfl rfl, _, D5.cell (i := 10) rfl rfl, _, D5.cell (i := 11) rfl rfl, _, D5.cell (i := 12) rfl rfl, _, _, _, D5.cell (i := 13) rfl rfl, _, _, _, D5.cell (i := 14) rfl rfl, do_al fun lb w6 e6 L6 l6 => ?_⟩
  have E6 := E5.trans e6
  have hcl : Cs w6 (some (blk lb)) (([(oGet, .slice none 0 0, .slice none 0 0), (oBld, .slice (some (blk pb)) 1 1, .slice none 0 0)] : List OpE).flatMap opC) := cs_blk L6
  refine do_call Tryz.call10 (c_oenc (Es := [(oGet, .slice none 0 0, .slice none 0 0), (oBld, .slice (some (blk pb)) 1 1, .slice none 0 0)]) hcl rfl (by omega) (fun e he => ?_) (by show (encO [oGet, oBld]).length ≤ 1048576; rw [show encO [oGet, oBld] = [3, 0, 1, 8, 3, 2, 10, 128, 1] by kernel_rfl]; decide) fun w7 e7 => retS_ret ⟨_, _, rfl, ?_⟩)
  case refine_1 =>
    simp only [List.mem_cons, List.not_mem_nil, or_false] at he
    rcases he with rfl | rfl
    · exact ⟨oGet_in, nil_rd rfl rfl, Nat.zero_le _, Nat.zero_le _⟩
    · exact ⟨oBld_in, hrB.ext e6, by show 1 ≤ 5000; omega, Nat.zero_le _⟩
  rw [show (List.map (fun x => x.1) ([(oGet, .slice none 0 0, .slice none 0 0), (oBld, .slice (some (blk pb)) 1 1, .slice none 0 0)] : List OpE)) = [oGet, oBld] from rfl, al1]
  have E7 := E6.trans e7
  refine do_call Tryz.call14 (c_oline (x := oKeep) (pv := .slice none 0 0) (kv := .slice none 0 0) (hG.ext E7).tab oKeep_in (nil_rd rfl rfl) (Nat.zero_le _) (Nat.zero_le _) fun w8 e8 => retS_ret ⟨_, _, rfl, ?_⟩)
  rw [al2]
  have E8 := E7.trans e8
  have e58 := (e6.trans e7).trans e8
  have D8 : Blk w8 b2 (opCells oBld (.slice (some (blk pb)) 1 1) (.slice none 0 0)) 37 := D5.ext e58
  refine ⟨_, D8.cell (i := 0) rfl rfl, _, D8.cell (i := 1) rfl rfl, _, D8.cell (i := 2) rfl rfl, _, D8.cell (i := 3) rfl rfl, _, D8.cell (i := 4) rfl rfl, _, D8.cell (i := 5) rfl rfl, _, D8.cell (i := 6) rfl rfl, _, D8.cell (i := 7) rfl rfl, _, D8.cell (i := 8) rfl rfl, _, D8.cell (i := 9) rfl rfl, _, D8.cell (i := 10) rfl rfl, _, D8.cell (i := 11) rfl rfl, _, D8.cell (i := 12) rfl rfl, _, _, _, D8.cell (i := 13) rfl rfl, _, _, _, D8.cell (i := 14) rfl rfl, do_call Tryz.call14 (c_oline (x := oBld) (pv := .slice (some (blk pb)) 1 1) (kv := .slice none 0 0) (hG.ext E8).tab oBld_in (hrB.ext e58) (by show 1 ≤ 5000; omega) (Nat.zero_le _) fun w9 e9 => retS_ret ⟨_, _, rfl, ?_⟩)⟩
  rw [al3]
  have E9 := E8.trans e9
  refine do_call Tryz.call21 (c_oparse (s := [103, 101, 116, 32, 48, 32, 45, 49]) (by decide) (hG.ext E9) (.inr al6) fun pv kv w10 e10 hrd => ?_)
  rw [al4] at hrd ⊢
  obtain ⟨⟨p1, c1, hp1, _, hp2, _⟩, ⟨q1, d1, hq1, _, hq2, _⟩⟩ := hrd
  simp only at hp1 hq1
  subst hp1 hq1
  refine retS_ret ⟨_, _, _, _, _, _, _, _, _, _, _, _, _, _, _, _, _, _, _, _, rfl, do_al fun b3 w11 e11 B11 l11 => st15 B11 fun w12 X12 g12 => ?_⟩
  have X12 : Blk w12 b3 (opCells oGet (.slice p1 oGet.pairs.length c1) (.slice q1 oGet.keys.length d1)) 37 := X12
  have e912 : Ext w10 w12 := e11.st g12 l11
  have E12 := (E9.trans e10).trans e912
  refine do_call Tryz.call21 (c_oparse (s := [103, 101, 116, 32, 48, 32, 45, 48, 49]) (by decide) (hG.ext E12) (.inr al7) fun pv kv w13 e13 hrd => ?_)
  rw [al5] at hrd ⊢
  obtain ⟨⟨p2, c2, hp2', _, _, _⟩, ⟨q2, d2, hq2', _, _, _⟩⟩ := hrd
  simp only at hp2' hq2'
  subst hp2' hq2'
  refine retS_ret ⟨_, _, _, _, _, _, _, _, _, _, _, _, _, _, _, _, _, _, _, _, rfl, do_al fun b4 w14 e14 B14 l14 => st15 B14 fun w15 X15 g15 => ?_⟩
  have e1215 : Ext w12 w15 := (e13.trans e14).st g15 (by have := e13.size; omega)
  have E15 := E12.trans e1215
  intro K188
  refine ifB_t (beq_self_eq_true _) (ifB_t rfl (ifB_t (beq_self_eq_true _) (ifB_t rfl (ifB_t (beq_self_eq_true _) (ifB_t rfl ?_)))))
  have X15 : Blk w15 b3 (opCells oGet (.slice p1 oGet.pairs.length c1) (.slice q1 oGet.keys.length d1)) 37 := X12.ext e1215
  have Y15 : Blk w15 b1 (opCells oGet (.slice none 0 0) (.slice none 0 0)) 37 := G5.ext ((((e58.trans e9).trans e10).trans e912).trans e1215)
  refine ⟨_, X15.cell (i := 0) rfl rfl, _, X15.cell (i := 1) rfl rfl, _, X15.cell (i := 2) rfl rfl, _, X15.cell (i := 3) rfl rfl, _, X15.cell (i := 4) rfl rfl, _, X15.cell (i := 5) rfl rfl, _, X15.cell (i := 6) rfl rfl, _, X15.cell (i := 7) rfl rfl, _, X15.cell (i := 8) rfl rfl, _, X15.cell (i := 9) rfl rfl, _, X15.cell (i := 10) rfl rfl, _, X15.cell (i := 11) rfl rfl, _, X15.cell (i := 12) rfl rfl, _, _, _, X15.cell (i := 13) rfl rfl, _, _, _, X15.cell (i := 14) rfl rfl, _, Y15.cell (i := 0) rfl rfl, _, Y15.cell (i := 1) rfl rfl, _, Y15.cell (i := 2) rfl rfl, _, Y15.cell (i := 3) rfl rfl, _, Y15.cell (i := 4) rfl rfl, _, Y15.cell (i := 5) rfl rfl, _, Y15.cell (i := 6) rfl rfl, _, Y15.cell (i := 7) rfl rfl, _, Y15.cell (i := 8) rfl rfl, _, Y15.cell (i := 9) rfl rfl, _, Y15.cell (i := 10) rfl rfl, _, Y15.cell (i := 11) rfl rfl, _, Y15.cell (i := 12) rfl rfl, _, _, _, Y15.cell (i := 13) rfl rfl, _, _, _, Y15.cell (i := 14) rfl rfl, do_call Tryz.call17 (c_r37same (x := oGet) (Nat.zero_le _) (Nat.zero_le _) (cs_nil _ _) (cs_nil _ _) (cs_nil _ _) (cs_nil _ _) fun w16 e16 => retS_ret ⟨_, rfl, ifB_t rfl (ifB_t rfl ?_)⟩)⟩
  exact h w16 (E15.trans e16)
end Go.Proofs.YtmkpkmdnapccgaaGreatDoor

namespace Go.Proofs.YtmkpkmdnapccgaaGreatDoor
open Go Go.Sh
def sh3 (l_p1 : OA) (l_n2 : Nat) (l_c3 : Nat) (R : EW) (w : World) : Prop :=
 doCall Tryz.prog (.func (.func 7) #[] #[]) #[.slice l_p1 l_n2 l_c3] w (retS (fun v5 w6 => ∃ x4, v5 = (.bool x4 : Value) ∧ (
 ifB x4 (
 doCall Tryz.prog (.func (.func 8) #[] #[]) #[] w6 (retS (fun v8 w9 => ∃ x7, v8 = (.bool x7 : Value) ∧ (
 R (.returned (.bool x7)) w9)) (kN R))) (
 doCall Tryz.prog (.func (.func 9) #[] #[]) #[.slice l_p1 l_n2 l_c3] w6 (retS (fun v13 w14 => ∃ xp10 xn11 xc12, v13 = (.slice xp10 xn11 xc12 : Value) ∧ (
 doCall Tryz.prog (.func (.func 10) #[] #[]) #[.slice xp10 xn11 xc12] w14 (retS (fun v17 w18 => ∃ x15 x16, v17 = (.tuple #[.string x15, .int .i64 x16] : Value) ∧ (
 doCall Tryz.prog (.func (.func 11) #[] #[]) #[.slice l_p1 l_n2 l_c3] w18 (retS (fun v21 w22 => ∃ x19 x20, v21 = (.tuple #[.string x19, .int .i64 x20] : Value) ∧ (
 let K25 : Bool → World → Prop := fun x23 w24 => 
 ifB x23 (
 R (.returned (.bool false)) w24) (
 ∃ (I26 : List Value → World → Prop) (μ27 : List Value → World → Nat), I26 [.int .i64 0] w24 ∧ (∀ (i_30 : Int), ∀ (_j28 : Nat → Value) (w29 : World), I26 [.int .i64 i_30] w29 → (
 ifB (decide ((i_30 : Int) < ((l_n2 : Nat) : Int))) (
 doIx xp10 xn11 15 (i_30) (fun a31 =>
 ∃ x32, w29.cell? (a31.add 0) = some (.int .u8 x32) ∧ (
 ∃ x33, w29.cell? (a31.add 1) = some (.int .i64 x33) ∧ (
 ∃ x34, w29.cell? (a31.add 2) = some (.int .i64 x34) ∧ (
 ∃ x35, w29.cell? (a31.add 3) = some (.int .i64 x35) ∧ (
 ∃ x36, w29.cell? (a31.add 4) = some (.int .i64 x36) ∧ (
 ∃ x37, w29.cell? (a31.add 5) = some (.int .i64 x37) ∧ (
 ∃ x38, w29.cell? (a31.add 6) = some (.int .i64 x38) ∧ (
 ∃ x39, w29.cell? (a31.add 7) = some (.int .i64 x39) ∧ (
 ∃ x40, w29.cell? (a31.add 8) = some (.int .u8 x40) ∧ (
 ∃ x41, w29.cell? (a31.add 9) = some (.int .u8 x41) ∧ (
 ∃ x42, w29.cell? (a31.add 10) = some (.int .i64 x42) ∧ (
 ∃ x43, w29.cell? (a31.add 11) = some (.int .i64 x43) ∧ (
 ∃ x44, w29.cell? (a31.add 12) = some (.bool x44) ∧ (
 ∃ xp45 xn46 xc47, w29.cell? (a31.add 13) = some (.slice xp45 xn46 xc47) ∧ (
 ∃ xp48 xn49 xc50, w29.cell? (a31.add 14) = some (.slice xp48 xn49 xc50) ∧ (
 doCall Tryz.prog (.func (.func 13) #[] #[]) #[.agg #[.int .u8 x32, .int .i64 x33, .int .i64 x34, .int .i64 x35, .int .i64 x36, .int .i64 x37, .int .i64 x38, .int .i64 x39, .int .u8 x40, .int .u8 x41, .int .i64 x42, .int .i64 x43, .bool x44, .slice xp45 xn46 xc47, .slice xp48 xn49 xc50]] w29 (retS (fun v52 w53 => ∃ x51, v52 = (.int .i64 x51 : Value) ∧ (
 doIx xp10 xn11 15 (i_30) (fun a54 =>
 ∃ x55, w53.cell? (a54.add 0) = some (.int .u8 x55) ∧ (
 ∃ x56, w53.cell? (a54.add 1) = some (.int .i64 x56) ∧ (
 ∃ x57, w53.cell? (a54.add 2) = some (.int .i64 x57) ∧ (
 ∃ x58, w53.cell? (a54.add 3) = some (.int .i64 x58) ∧ (
 ∃ x59, w53.cell? (a54.add 4) = some (.int .i64 x59) ∧ (
 ∃ x60, w53.cell? (a54.add 5) = some (.int .i64 x60) ∧ (
 ∃ x61, w53.cell? (a54.add 6) = some (.int .i64 x61) ∧ (
 ∃ x62, w53.cell? (a54.add 7) = some (.int .i64 x62) ∧ (
 ∃ x63, w53.cell? (a54.add 8) = some (.int .u8 x63) ∧ (
 ∃ x64, w53.cell? (a54.add 9) = some (.int .u8 x64) ∧ (
 ∃ x65, w53.cell? (a54.add 10) = some (.int .i64 x65) ∧ (
 ∃ x66, w53.cell? (a54.add 11) = some (.int .i64 x66) ∧ (
 ∃ x67, w53.cell? (a54.add 12) = some (.bool x67) ∧ (
 ∃ xp68 xn69 xc70, w53.cell? (a54.add 13) = some (.slice xp68 xn69 xc70) ∧ (
 ∃ xp71 xn72 xc73, w53.cell? (a54.add 14) = some (.slice xp71 xn72 xc73) ∧ (
 doCall Tryz.prog (.func (.func 14) #[] #[]) #[.agg #[.int .u8 x55, .int .i64 x56, .int .i64 x57, .int .i64 x58, .int .i64 x59, .int .i64 x60, .int .i64 x61, .int .i64 x62, .int .u8 x63, .int .u8 x64, .int .i64 x65, .int .i64 x66, .bool x67, .slice xp68 xn69 xc70, .slice xp71 xn72 xc73]] w53 (retS (fun v76 w77 => ∃ x74 x75, v76 = (.tuple #[.string x74, .int .i64 x75] : Value) ∧ (
 doIx l_p1 l_n2 15 (i_30) (fun a78 =>
 ∃ x79, w77.cell? (a78.add 0) = some (.int .u8 x79) ∧ (
 ∃ x80, w77.cell? (a78.add 1) = some (.int .i64 x80) ∧ (
 ∃ x81, w77.cell? (a78.add 2) = some (.int .i64 x81) ∧ (
 ∃ x82, w77.cell? (a78.add 3) = some (.int .i64 x82) ∧ (
 ∃ x83, w77.cell? (a78.add 4) = some (.int .i64 x83) ∧ (
 ∃ x84, w77.cell? (a78.add 5) = some (.int .i64 x84) ∧ (
 ∃ x85, w77.cell? (a78.add 6) = some (.int .i64 x85) ∧ (
 ∃ x86, w77.cell? (a78.add 7) = some (.int .i64 x86) ∧ (
 ∃ x87, w77.cell? (a78.add 8) = some (.int .u8 x87) ∧ (
 ∃ x88, w77.cell? (a78.add 9) = some (.int .u8 x88) ∧ (
 ∃ x89, w77.cell? (a78.add 10) = some (.int .i64 x89) ∧ (
 ∃ x90, w77.cell? (a78.add 11) = some (.int .i64 x90) ∧ (
 ∃ x91, w77.cell? (a78.add 12) = some (.bool x91) ∧ (
 ∃ xp92 xn93 xc94, w77.cell? (a78.add 13) = some (.slice xp92 xn93 xc94) ∧ (
 ∃ xp95 xn96 xc97, w77.cell? (a78.add 14) = some (.slice xp95 xn96 xc97) ∧ (
 doCall Tryz.prog (.func (.func 15) #[] #[]) #[.agg #[.int .u8 x79, .int .i64 x80, .int .i64 x81, .int .i64 x82, .int .i64 x83, .int .i64 x84, .int .i64 x85, .int .i64 x86, .int .u8 x87, .int .u8 x88, .int .i64 x89, .int .i64 x90, .bool x91, .slice xp92 xn93 xc94, .slice xp95 xn96 xc97]] w77 (retS (fun v100 w101 => ∃ x98 x99, v100 = (.tuple #[.string x98, .int .i64 x99] : Value) ∧ (
 let K104 : Bool → World → Prop := fun x102 w103 => 
 ifB x102 (
 R (.returned (.bool false)) w103) (
 I26 [.int .i64 (IntKind.wrap .i64 (i_30 + 1))] w103 ∧ μ27 [.int .i64 (IntKind.wrap .i64 (i_30 + 1))] w103 < μ27 [.int .i64 i_30] w29)
 doIx l_p1 l_n2 15 (i_30) (fun a105 =>
 ∃ x106, w101.cell? (a105.add 0) = some (.int .u8 x106) ∧ (
 ∃ x107, w101.cell? (a105.add 1) = some (.int .i64 x107) ∧ (
 ∃ x108, w101.cell? (a105.add 2) = some (.int .i64 x108) ∧ (
 ∃ x109, w101.cell? (a105.add 3) = some (.int .i64 x109) ∧ (
 ∃ x110, w101.cell? (a105.add 4) = some (.int .i64 x110) ∧ (
 ∃ x111, w101.cell? (a105.add 5) = some (.int .i64 x111) ∧ (
 ∃ x112, w101.cell? (a105.add 6) = some (.int .i64 x112) ∧ (
 ∃ x113, w101.cell? (a105.add 7) = some (.int .i64 x113) ∧ (
 ∃ x114, w101.cell? (a105.add 8) = some (.int .u8 x114) ∧ (
 ∃ x115, w101.cell? (a105.add 9) = some (.int .u8 x115) ∧ (
 ∃ x116, w101.cell? (a105.add 10) = some (.int .i64 x116) ∧ (
 ∃ x117, w101.cell? (a105.add 11) = some (.int .i64 x117) ∧ (
 ∃ x118, w101.cell? (a105.add 12) = some (.bool x118) ∧ (
 ∃ xp119 xn120 xc121, w101.cell? (a105.add 13) = some (.slice xp119 xn120 xc121) ∧ (
 ∃ xp122 xn123 xc124, w101.cell? (a105.add 14) = some (.slice xp122 xn123 xc124) ∧ (
 doCall Tryz.prog (.func (.func 16) #[] #[]) #[.agg #[.int .u8 x106, .int .i64 x107, .int .i64 x108, .int .i64 x109, .int .i64 x110, .int .i64 x111, .int .i64 x112, .int .i64 x113, .int .u8 x114, .int .u8 x115, .int .i64 x116, .int .i64 x117, .bool x118, .slice xp119 xn120 xc121, .slice xp122 xn123 xc124]] w101 (retS (fun v126 w127 => ∃ x125, v126 = (.bool x125 : Value) ∧ (
 ifB (!(((x51 : Int) == 0) == x125)) (
 R (.returned (.bool false)) w127) (
 ifB ((x51 : Int) != 0) (
 ifB ((x51 : Int) != 2) (
 R (.returned (.bool false)) w127) (
 ifB (!(x74.toList == x98.toList)) (
 R (.returned (.bool false)) w127) (
 K104 ((x75 : Int) != x99) w127))) (
 ifB (!(x74.toList == x98.toList)) (
 R (.returned (.bool false)) w127) (
 K104 ((x75 : Int) != x99) w127))))) (kN R)))))))))))))))))))) (kN R)))))))))))))))))))) (kN R)))))))))))))))))))) (kN R))))))))))))))))))) (
 doCall Tryz.prog (.func (.func 8) #[] #[]) #[] w29 (retS (fun v129 w130 => ∃ x128, v129 = (.bool x128 : Value) ∧ (
 R (.returned (.bool x128)) w130)) (kN R))))))
 ifB (!(x15.toList == x19.toList)) (
 R (.returned (.bool false)) w22) (
 ifB ((x16 : Int) != x20) (
 R (.returned (.bool false)) w22) (
 doCall Tryz.prog (.func (.func 12) #[] #[]) #[.slice xp10 xn11 xc12, .slice l_p1 l_n2 l_c3] w22 (retS (fun v132 w133 => ∃ x131, v132 = (.bool x131 : Value) ∧ (
 K25 (!x131) w133)) (kN R)))))) (kN R)))) (kN R)))) (kN R))))) (kN R))
theorem sh3_ok (l_p1 : OA) (l_n2 : Nat) (l_c3 : Nat) {R : EW} {w : World} : sh3 l_p1 l_n2 l_c3 R w → Calls Tryz.prog 3 #[.slice l_p1 l_n2 l_c3] w R :=
  Old.calls_of_eq (ann := fun i => if i = 0 then [(8, .int .i64 0)] else []) (fn := Tryz.f3) (c := bodyOf Tryz.f3) (args := #[.slice l_p1 l_n2 l_c3]) 400 follows_mixed Tryz.func3 (by kernel_rfl) (by kernel_rfl)
end Go.Proofs.YtmkpkmdnapccgaaGreatDoor

namespace Go.Proofs.YtmkpkmdnapccgaaGreatDoor
open Go Go.Sh Go.RowKit

theorem not_beq {α : Type} [BEq α] [ReflBEq α] (a : α) : (!(a == a)) = false := by simp
theorem c_opTells {ops : List OpE} {lp : OA} {n lc : Nat} {w : World} {R : EW} (hG : GOk w) (hl : Is_ops w lp n lc ops) (h : ∀ w', Ext w w' → R (.returned (.bool true)) w') : Calls Tryz.prog 3 #[.slice lp n lc] w R := by
  refine sh3_ok _ _ _ ?_
  unfold sh3
  refine do_call Tryz.call7 (c_long hl (fun w1 e1 z60 zs zl => retS_ret ⟨_, rfl, ifB_f rfl ?_⟩) fun w1 e1 => retS_ret ⟨_, rfl, ifB_t rfl (do_call Tryz.call8 (c_alive37 (hG.ext e1) fun w2 e2 => retS_ret ⟨_, rfl, h w2 (e1.trans e2)⟩))⟩)
  obtain ⟨hn, hcs, hO, _⟩ := hl
  have hin : ∀ e ∈ ops, OpIn w e := fun e he => ⟨(hO e he).1, (hO e he).2.1, zl e he⟩
  refine do_call Tryz.call9 (c_r37own (hcs.ext e1) hn (by omega) (fun e he => ⟨(hO e he).2.1.ext e1, zl e he⟩) fun p c Fs w2 e2 hF hpc hrd => retS_ret ⟨_, _, _, rfl, ?_⟩)
  have E2 := e1.trans e2
  have hFn : Fs.length = n := by
    have := congrArg List.length hF
    simp only [List.length_map] at this
    omega
  have hFk : ∀ (k : Nat) (h1 : k < Fs.length) (h2 : k < ops.length), Fs[k].1 = ops[k].1 := fun k h1 h2 => by
    have a1 : (Fs.map (·.1))[k]? = some Fs[k].1 := by rw [List.getElem?_map, List.getElem?_eq_getElem h1]; rfl
    have a2 : (ops.map (·.1))[k]? = some ops[k].1 := by rw [List.getElem?_map, List.getElem?_eq_getElem h2]; rfl
    rw [hF, a2] at a1
    exact (Option.some.inj a1).symm
  have hmem : ∀ e ∈ Fs, ∃ e' ∈ ops, e.1 = e'.1 := fun e he => by
    have : e.1 ∈ Fs.map (·.1) := List.mem_map.2 ⟨e, he, rfl⟩
    rw [hF] at this
    obtain ⟨e', he', h'⟩ := List.mem_map.1 this
    exact ⟨e', he', h'.symm⟩
  have hFin : ∀ {w'}, Ext w2 w' → ∀ e ∈ Fs, OpIn w' e := fun E e he => by
    obtain ⟨e', he', h'⟩ := hmem e he
    exact ⟨by rw [h']; exact (hO e' he').1, (hrd e he).ext E, by rw [h']; exact zl e' he'⟩
  have hsz : (encO (ops.map (·.1))).length ≤ 1048576 := by
    have := encO_len (l := ops) fun e he => (hO e he).1
    omega
  refine do_call Tryz.call10 (c_oenc hpc hFn (by omega) (hFin (ext_refl _)) (by rw [hF]; exact hsz) fun w3 e3 => retS_ret ⟨_, _, rfl, ?_⟩)
  rw [hF]
  have E3 := E2.trans e3
  refine do_call Tryz.call11 (c_r37enc (hcs.ext E3) hn (by omega) (fun e he => ⟨(hO e he).1, (hO e he).2.1.ext E3, zl e he⟩) hsz fun w4 e4 => retS_ret ⟨_, _, rfl, ?_⟩)
  have E4 := E3.trans e4
  have e24 := e3.trans e4
  intro K25
  refine ifB_f (not_beq _) (ifB_f (by simp) (do_call Tryz.call12 (c_sameops (Es := Fs) (Fs := ops) (by omega) hFn hn (hpc.ext e24) (hcs.ext E4) hF (fun e he => ⟨(hFin e24 e he).2.1, (hFin e24 e he).2.2⟩) (fun e he => (hO e he).2.1.ext E4) fun w5 e5 => retS_ret ⟨_, rfl, ?_⟩)))
  have E5 := E4.trans e5
  have e25 := e24.trans e5
  refine ifB_f rfl ?_
  refine ⟨fun vs w' => ∃ k : Nat, vs = [.int .i64 (k : Int)] ∧ k ≤ n ∧ Ext w2 w', fun vs _ => match vs with | [.int _ i] => n - i.toNat | _ => 0, ⟨0, rfl, Nat.zero_le _, e25⟩, ?_⟩
  rintro i_ _ w6 ⟨k, hv, hk, e⟩
  simp only [List.cons.injEq, Value.int.injEq, true_and, and_true] at hv
  subst hv
  refine ifB_intro (fun z => ?_) fun z => ?_
  · have z : k < n := by have := of_decide_eq_true z; omega
    have hk1 : k < Fs.length := by omega
    have hk2 : k < ops.length := by omega
    have hkk := hFk k hk1 hk2
    have R1 := hFin (ext_refl _) Fs[k] (List.getElem_mem hk1)
    have R2 := hin ops[k] (List.getElem_mem hk2)
    refine ix_flat (ec := opC) (s := 15) (fun _ => rfl) (by omega) (hpc.ext e) hFn (k := k) rfl z fun a1 r1 b1 => ?_
    have E6 := E2.trans e
    have ixF : ∀ {w'} {K : Addr → Prop}, Ext w2 w' → (∀ a : Addr, (∀ j v, (opC Fs[k])[j]? = some v → w'.cell? (a.add j) = some v) → K a) → doIx p n 15 (k : Int) K := fun E c => ix_flat (ec := opC) (s := 15) (fun _ => rfl) (by omega) (hpc.ext E) hFn (k := k) rfl z fun a r _ => c a r
    have ixO : ∀ {w'} {K : Addr → Prop}, Ext w w' → (∀ a : Addr, (∀ j v, (opC ops[k])[j]? = some v → w'.cell? (a.add j) = some v) → K a) → doIx lp n 15 (k : Int) K := fun E c => ix_flat (ec := opC) (s := 15) (fun _ => rfl) (by omega) (hcs.ext E) hn (k := k) rfl z fun a r _ => c a r
    generalize Fs[k] = F1 at *
    generalize ops[k] = O1 at *
    obtain ⟨x, pv, kv⟩ := F1
    obtain ⟨y, pv', kv'⟩ := O1
    simp only at hkk
    subst hkk
    obtain ⟨hx, rF, zp, zk⟩ := R1
    obtain ⟨_, rO, _, _⟩ := R2
    have rF0 := rF
    have rO0 := rO
    obtain ⟨pp, pc, ep, _⟩ := rF.p
    obtain ⟨kp, kc, ek, _⟩ := rF.k
    obtain ⟨qp, qc, eq, _⟩ := rO.p
    obtain ⟨lq, lc', el, _⟩ := rO.k
    simp only at ep ek eq el zp zk hx rF0 rO0
    subst ep ek eq el
    refine ⟨_, r1 0 _ rfl, _, r1 1 _ rfl, _, r1 2 _ rfl, _, r1 3 _ rfl, _, r1 4 _ rfl, _, r1 5 _ rfl, _, r1 6 _ rfl, _, r1 7 _ rfl, _, r1 8 _ rfl, _, r1 9 _ rfl, _, r1 10 _ rfl, _, r1 11 _ rfl, _, r1 12 _ rfl, _, _, _, r1 13 _ rfl, _, _, _, r1 14 _ rfl, do_call Tryz.call13 (c_check hx (rF0.ext e) zp zk fun w7 e7 => retS_ret ⟨_, rfl, ?_⟩)⟩
    refine ixF (e.trans e7) fun a2 r2 => ⟨_, r2 0 _ rfl, _, r2 1 _ rfl, _, r2 2 _ rfl, _, r2 3 _ rfl, _, r2 4 _ rfl, _, r2 5 _ rfl, _, r2 6 _ rfl, _, r2 7 _ rfl, _, r2 8 _ rfl, _, r2 9 _ rfl, _, r2 10 _ rfl, _, r2 11 _ rfl, _, r2 12 _ rfl, _, _, _, r2 13 _ rfl, _, _, _, r2 14 _ rfl, do_call Tryz.call14 (c_oline (hG.ext (E6.trans e7)).tab hx (rF0.ext (e.trans e7)) zp zk fun w8 e8 => retS_ret ⟨_, _, rfl, ?_⟩)⟩
    have E8 := (E6.trans e7).trans e8
    refine ixO E8 fun a3 r3 => ⟨_, r3 0 _ rfl, _, r3 1 _ rfl, _, r3 2 _ rfl, _, r3 3 _ rfl, _, r3 4 _ rfl, _, r3 5 _ rfl, _, r3 6 _ rfl, _, r3 7 _ rfl, _, r3 8 _ rfl, _, r3 9 _ rfl, _, r3 10 _ rfl, _, r3 11 _ rfl, _, r3 12 _ rfl, _, _, _, r3 13 _ rfl, _, _, _, r3 14 _ rfl, do_call Tryz.call15 (c_r37line (hG.ext E8).tab hx (rO0.ext E8) fun w9 e9 => retS_ret ⟨_, _, rfl, ?_⟩)⟩
    intro K104
    have E9 := E8.trans e9
    refine ixO E9 fun a4 r4 => ⟨_, r4 0 _ rfl, _, r4 1 _ rfl, _, r4 2 _ rfl, _, r4 3 _ rfl, _, r4 4 _ rfl, _, r4 5 _ rfl, _, r4 6 _ rfl, _, r4 7 _ rfl, _, r4 8 _ rfl, _, r4 9 _ rfl, _, r4 10 _ rfl, _, r4 11 _ rfl, _, r4 12 _ rfl, _, _, _, r4 13 _ rfl, _, _, _, r4 14 _ rfl, do_call Tryz.call16 (c_r37may fun w10 e10 => retS_ret ⟨_, rfl, ?_⟩)⟩
    have e10' := (((e.trans e7).trans e8).trans e9).trans e10
    have fin : K104 ((lineR x).2 != (lineR x).2) w10 := by
      refine ifB_f (by simp) ?_
      rw [wrap_succ z (by omega)]
      refine ⟨⟨k + 1, rfl, by omega, e10'⟩, ?_⟩
      show n - ((k + 1 : Nat) : Int).toNat < n - (k : Int).toNat
      omega
    by_cases hm : mayO x = true
    · rw [if_pos hm]
      exact ifB_f (by rw [hm]; rfl) (ifB_f rfl (ifB_f (not_beq _) fin))
    · have hm' : mayO x = false := by simpa using hm
      rw [if_neg hm]
      exact ifB_f (by rw [hm']; rfl) (ifB_t rfl (ifB_f rfl (ifB_f (not_beq _) fin)))
  · exact do_call Tryz.call8 (c_alive37 (hG.ext (E2.trans e)) fun w7 e7 => retS_ret ⟨_, rfl, h w7 ((E2.trans e).trans e7)⟩)
end Go.Proofs.YtmkpkmdnapccgaaGreatDoor

namespace Go.Proofs.YtmkpkmdnapccgaaGreatDoor
open Go Go.Sh Go.RowKit

theorem handed_laid {H : Type} {enc : TypeId × Value → H} {a : Assume} {C : Checked} {os : Os} {f : FuncId} {fn : Func} {s : ChangeSpec} {conds : List PathCond} {apart fresh handsOn again : Bool} {X : World → Prop}
    (hX : ∀ w w' : World, w.heap = w'.heap → X w → X w')
    (own : ownKnob C.prog.godebug = none) (started : os.Started) (noInit : C.prog.inits.idxOf? f = none) (hfn : C.prog.funcs[f]? = some fn)
    (witness : ∃ (w : World) (tape : Tape) (i : Input), w.os = os ∧ (w.forCall tape i).Shaped C.prog ∧ i.vars = [] ∧ Input.okWide C.prog (w.forCall tape i) .any w.heap.size f i ∧
      ((s.pre enc C.prog fn conds apart (w.forCall tape i).memory i.args ∧ X (w.forCall tape i).memory) ∧ sizedMet enc C.prog fn (OpenSpec.ofChange s) apart (w.forCall tape i).memory i.args) ∧ a.holds C.prog (lone (Frame.enter C.prog f i.args .normal) [] (w.forCall tape i)))
    (contract : ∀ (W : World) (base : Nat) (args : Array Value) (ds gs : List (DataW H)) (before : List MemPlace),
      (∀ (j : Nat) t v, fn.params[j]? = some t → args[j]? = some v → Value.okWide C.prog W .any base t v) →
      DataW.Whole enc C.prog fn.params.toList s.vars apart W args.toList ds gs before →
      (DataW.weightsEach C.prog (fn.params.toList ++ s.plain.varTypes C.prog) (ds ++ gs)).all (· ≤ reachBytes) = true → X W → W.ShapedOpen C.prog →
      Calls C.prog f args W fun e W' => ∃ v, e = .returned v ∧ s.post enc C.prog fn apart fresh handsOn again W args v W') :
    ReturnsInHanded a C os f .any (fun w args => (s.pre enc C.prog fn conds apart w args ∧ X w) ∧ sizedMet enc C.prog fn (OpenSpec.ofChange s) apart w args) (s.post enc C.prog fn apart fresh handsOn again) := by
  refine returnsInHanded_of_calls own started noInit witness ?_
  intro w tape i _ hsh _ hok hpre _
  obtain ⟨_, _, _, fn', hfn', _, _, _, _, hval⟩ := hok
  have e : fn' = fn := Option.some.inj (hfn'.symm.trans hfn)
  subst e
  obtain ⟨⟨⟨ds, gs, before, hw, hc⟩, hx⟩, hz⟩ := hpre
  have hw' := DataW.Whole.of_heap (w' := w.forCall tape i) (by rfl) hw
  refine (contract (w.forCall tape i) w.heap.size i.args ds gs before hval hw' (hz.weights hw) (hX _ _ (by rfl) hx) hsh).mono fun e W' ⟨v, he, hp⟩ => ?_
  subst he
  exact ChangeSpec.post_blind hp
theorem g_lt {W : World} (h : W.ShapedOpen Tryz.prog) : ∀ g ∈ gls, g < W.heap.size := fun g hg => by
  obtain ⟨o, _, ho, _⟩ := h.2 Tryz.prog.globals.size (Nat.le_refl _) (of_decide_eq_true (by kernel_rfl))
  have hs := (Array.getElem?_eq_some_iff.1 ho).1
  have h4 : 4 ≤ Tryz.prog.globals.size := of_decide_eq_true (by kernel_rfl)
  simp only [gls, gT, gM, gS, gR, List.mem_cons, List.not_mem_nil, or_false] at hg
  omega
theorem g_max {W : World} (h : W.ShapedOpen Tryz.prog) : ∃ m, W.cell? ⟨gM, 0, none⟩ = some (.int .i64 m) :=
  Proofs.cell_of_shapedOpen_int (t := 3) (zero := #[.int .i64 0]) h (of_decide_eq_true (by kernel_rfl)) (by kernel_rfl) rfl (by kernel_rfl) (by kernel_rfl) Tryz.underlying3
theorem g_tab {W : World} {r : List (String × DataW Unit)} (h : laidMet Tryz.prog (("internal/strconv.uint64pow10", Rows.laid_internal_strconv_uint64pow10) :: r) W) : Tab W :=
  Lib.tabIs_of_head (g := gT) (t := 165) (e := 127) (n := 20) tab_global (by kernel_rfl) Tryz.underlying165 Tryz.underlying127 (by kernel_rfl) (by kernel_rfl) h
end Go.Proofs.YtmkpkmdnapccgaaGreatDoor

