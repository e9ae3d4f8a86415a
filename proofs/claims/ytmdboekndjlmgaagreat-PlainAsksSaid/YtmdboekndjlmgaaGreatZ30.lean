/-
  Ops are run, by a book of versions.
-/
import Derived.Test.YtmdboekndjlmgaaGreatZ29
import Derived.Test.YtmdboekndjlmgaaGreatZ26
import Derived.Test.YtmdboekndjlmgaaGreatZ03
import Derived.Deep.Slices
import Derived.Deep.Fields
import Derived.ChangeSame
import Derived.Lib.SmallJoins
import Derived.Test.YtmdboekndjlmgaaGreatZ21
import Derived.Test.YtmdboekndjlmgaaGreatZ24
import Derived.SizedLaws

set_option maxRecDepth 100000
set_option maxHeartbeats 6400000
namespace Go.Proofs.YtmdboekndjlmgaaGreat
open Go Go.Sh Go.RowKit

abbrev Ent := Rep × Value × Value
def entC (e : Ent) : List Value := [.int .i64 e.1.err, .bool e.1.is, .int .i64 e.1.key, .int .i64 e.1.val, .int .i64 e.1.n, e.2.1, e.2.2]
abbrev OpE := POp × Value × Value
def opC (e : OpE) : List Value := (opCells e.1 e.2.1 e.2.2).toList
theorem elR : ElT Tryz.prog 24 34 (.agg #[.int .i64 0, .bool false, .int .i64 0, .int .i64 0, .int .i64 0, .slice none 0 0, .slice none 0 0]) 7 88 := ⟨Tryz.underlying24, ⟨_, Tryz.type34, by kernel_rfl, by kernel_rfl, by kernel_rfl⟩, rfl, by omega⟩
theorem do_len (o : Int) (L : Rows) (x : POp) : L.length ≤ (doP o L x).2.length ∧ (doP o L x).2.length ≤ L.length + 2 := by
  unfold doP
  split
  · unfold actP
    split <;> simp only [madeP, countP, List.length_append, List.length_cons, List.length_nil] <;> omega
  · exact ⟨Nat.le_refl _, Nat.le_add_right _ _⟩
theorem RowAt.gro {own : World → Nat → Prop} {bb : Nat} {w w' : World} {v : Value} {n : Nat} {xs : List Value} {r : Option Nat} (h : RowAt own bb w v n xs) (g : w.grownBy w' r) (hr : ∀ a n c, v = .slice (some a) n c → xs ≠ [] → r ≠ some a.block) (ho : ∀ k, own w' k → own w k) : RowAt own bb w' v n xs := by
  obtain ⟨q, c, rfl, h1, h2, h3⟩ := h
  refine ⟨q, c, rfl, h1, fun i u hu => ?_, fun a ha hz => ⟨fun hk => (h3 a ha hz).1 (ho _ hk), (h3 a ha hz).2.1, Nat.lt_of_lt_of_le (h3 a ha hz).2.2 g.size⟩⟩
  obtain ⟨a, ha, hc⟩ := h2 i u hu
  refine ⟨a, ha, ?_⟩
  rw [World.cell?_of_block (g.block _ (World.block_lt_of_cell? _ _ hc) fun e => hr a n c (by rw [ha]) (by rintro rfl; simp at hu) (by rw [add_block] at e; exact e.symm))]
  exact hc
structure RunI (bb : Nat) (o : Int) (KK : List Int) (xs : List POp) (Es : List Ent) (L : Rows) (p : OA) (k c : Nat) (w0 w : World) : Prop where
  B : BookN (fun j => (Value.slice p k c).ownBlock ≠ some j) w bb o L
  ok : OkL o KK L
  l0 : 0 < L.length
  l1 : L.length ≤ 1 + 2 * k
  row : w.ownsRow w0.heap.size 34 7 (.slice p k c) k (Es.flatMap entC)
  no : ∀ j, (Value.slice p k c).ownBlock = some j → ¬ BkOwn bb w j
  rows : ∀ e ∈ Es, RowAt (BkOwn bb) bb w e.2.1 e.1.new.length (ints e.1.new) ∧ RowAt (BkOwn bb) bb w e.2.2 e.1.pairs.length (prs e.1.pairs) ∧ (∀ a n d, e.2.1 = .slice (some a) n d → ints e.1.new ≠ [] → (Value.slice p k c).ownBlock ≠ some a.block) ∧ ∀ a n d, e.2.2 = .slice (some a) n d → prs e.1.pairs ≠ [] → (Value.slice p k c).ownBlock ≠ some a.block
  run : Es.map (·.1) ++ runP o L (xs.drop k) = runP o [[]] xs
  E : Ext w0 w
  hi : ∀ j, BkOwn bb w j → w0.heap.size ≤ j
theorem RunI.ext {bb : Nat} {o : Int} {KK : List Int} {xs : List POp} {Es : List Ent} {L : Rows} {p : OA} {k c : Nat} {w0 w w' : World} (I : RunI bb o KK xs Es L p k c w0 w) (e : Ext w w') : RunI bb o KK xs Es L p k c w0 w' :=
  ⟨I.B.ext e, I.ok, I.l0, I.l1, e.row I.row, fun j hj hk => I.no j hj ((I.B.own_ext e j).1 hk), fun x hx => ⟨(I.rows x hx).1.ext' I.B e, (I.rows x hx).2.1.ext' I.B e, (I.rows x hx).2.2⟩, I.run, I.E.trans e, fun j hj => I.hi j ((I.B.own_ext e j).1 hj)⟩
theorem RunI.step {bb : Nat} {o : Int} {KK : List Int} {xs : List POp} {Es : List Ent} {L L' : Rows} {p p' : OA} {k c c' : Nat} {w0 w4 w5 w6 w7 : World} {x : POp} {r : Rep} {nv pv : Value} (I : RunI bb o KK xs Es L p k c w0 w4) (hk : k < xs.length) (hx : xs[k] = x)
    (hd : doP o L x = (r, L')) (hok : OkL o KK L') (hB5 : BookN (fun j => (Value.slice p k c).ownBlock ≠ some j) w5 bb o L') (hC : Chg (BkOwn bb) (fun _ => False) w4 w5) (h1 : RowAt (BkOwn bb) bb w5 nv r.new.length (ints r.new)) (h2 : RowAt (BkOwn bb) bb w5 pv r.pairs.length (prs r.pairs)) (n1 : AbN w4.heap.size nv) (n2 : AbN w4.heap.size pv)
    (e6 : Ext w5 w6) (row7 : w7.ownsRow w0.heap.size 34 7 (.slice p' (k + 1) c') (k + 1) (Es.flatMap entC ++ entC (r, nv, pv))) (g7 : w6.grownBy w7 (Value.slice p k c).ownBlock) (n7 : ∀ b, (Value.slice p' (k + 1) c').ownBlock = some b → (Value.slice p k c).ownBlock = some b ∨ w6.heap.size ≤ b) :
    RunI bb o KK xs (Es ++ [(r, nv, pv)]) L' p' (k + 1) c' w0 w7 := by
  have B6 := hB5.ext e6
  have no5 : ∀ j, (Value.slice p k c).ownBlock = some j → ¬ BkOwn bb w5 j := fun j hj hk => hC.out j (I.row.lt j hj).2 (I.no j hj) hk
  have no6 : ∀ j, (Value.slice p k c).ownBlock = some j → ¬ BkOwn bb w6 j := fun j hj hk => no5 j hj ((hB5.own_ext e6 j).1 hk)
  have B7 := B6.top.st g7 fun b hb => ⟨fun hp => hp.1 hb, no6 b hb⟩
  have s5 : w4.heap.size ≤ w5.heap.size := hC.size
  have s6 := e6.size
  have hl : L.length ≤ L'.length ∧ L'.length ≤ L.length + 2 := by
    have := do_len o L x
    rw [hd] at this
    exact this
  have R6 : ∀ {v : Value} {n : Nat} {us : List Value}, RowAt (BkOwn bb) bb w5 v n us → (∀ a n d, v = .slice (some a) n d → us ≠ [] → (Value.slice p k c).ownBlock ≠ some a.block) → RowAt (BkOwn bb) bb w7 v n us ∧ ∀ a n d, v = .slice (some a) n d → us ≠ [] → (Value.slice p' (k + 1) c').ownBlock ≠ some a.block := fun {v n us} hv hn => by
    have h6 := hv.ext' hB5 e6
    refine ⟨h6.gro g7 hn fun j hj => (B7.2 j).1 hj, fun a n d e hz hb => ?_⟩
    rcases n7 _ hb with hb | hb
    · exact hn a n d e hz hb
    · obtain ⟨q, d', e', _, _, hq⟩ := h6
      rw [e] at e'
      injection e' with e1
      have := (hq a e1.symm hz).2.2
      omega
  have old : ∀ {v : Value}, AbN w4.heap.size v → ∀ a n d, v = .slice (some a) n d → (Value.slice p k c).ownBlock ≠ some a.block := fun hn a n d e hb => by
    have := hn a n d e
    have := (I.row.lt _ hb).2
    omega
  have E5 : Ext w0 w5 := by
    have s := I.E.size
    have b := hC.ext (B := w0.heap.size) (fun j hj hk => by have := I.hi j hk; omega) (fun _ _ h => h) s
    exact ⟨b.os.trans I.E.os, b.tape.trans I.E.tape, b.output.trans I.E.output, Nat.le_trans s b.size, fun j hj => (b.block j hj).trans (I.E.block j hj)⟩
  refine ⟨B7.1.up fun j hj hb => ?_, hok, by have := I.l0; omega, by have := I.l1; omega, by rw [List.flatMap_append]; simpa using row7, fun j hj hk => ?_, fun e he => ?_, ?_, (E5.trans e6).grown g7 fun b hb => (I.row.lt b hb).1, fun j hj => ?_⟩
  · rcases n7 j hb with h | h
    · exact hj.1 h
    · have := hj.2; omega
  · have h6 := (B7.2 j).1 hk
    rcases n7 j hj with h | h
    · exact no6 j h h6
    · have := B6.lt h6; omega
  · rcases List.mem_append.1 he with he | he
    · obtain ⟨a1, a2, a3⟩ := I.rows e he
      have b1 := R6 (a1.chg (chg0 hC)) a3.1
      have b2 := R6 (a2.chg (chg0 hC)) a3.2
      exact ⟨b1.1, b2.1, b1.2, b2.2⟩
    · obtain rfl : e = (r, nv, pv) := by simpa using he
      have b1 := R6 h1 fun a n d h _ => old n1 a n d h
      have b2 := R6 h2 fun a n d h _ => old n2 a n d h
      exact ⟨b1.1, b2.1, b1.2, b2.2⟩
  · have hr := I.run
    rw [List.drop_eq_getElem_cons hk, hx, runP, hd] at hr
    rw [List.map_append, ← hr, List.append_assoc]
    rfl
  · have h5 := (hB5.own_ext e6 j).1 ((B7.2 j).1 hj)
    rcases Nat.lt_or_ge j w4.heap.size with hj4 | hj4
    · by_cases h4 : BkOwn bb w4 j
      · exact I.hi j h4
      · exact absurd h5 (hC.out j hj4 h4)
    · have := I.E.size; omega
theorem c_prun {o : Int} {KK : List Int} {ops : List OpE} {lp : OA} {n lc : Nat} {w : World} {R : EW} (ho : isO o = true) (hl : Cs w lp (ops.flatMap opC)) (hn : ops.length = n) (hz : n ≤ 100)
    (hin : ∀ e ∈ ops, InO e.1 ∧ OpRd w e.1 e.2.1 e.2.2 ∧ e.1.pairs.length ≤ 5000 ∧ e.1.keys.length ≤ 5000) (hK : ∀ e ∈ ops, ∀ k ∈ newK e.1, k ∈ KK) (zK : KK.length ≤ 5000)
    (h : ∀ p c (Es : List Ent) bb w', Ext w w' → Es.map (·.1) = runP o [[]] (ops.map (·.1)) → w'.ownsRow w.heap.size 34 7 (.slice p n c) n (Es.flatMap entC) →
      (∀ e ∈ Es, RowAt (BkOwn bb) bb w' e.2.1 e.1.new.length (ints e.1.new) ∧ RowAt (BkOwn bb) bb w' e.2.2 e.1.pairs.length (prs e.1.pairs)) → R (.returned (.slice p n c)) w') :
    Calls Tryz.prog 7 #[.int .u8 o, .slice lp n lc] w R := by
  refine sh7_ok _ _ _ _ ?_
  unfold sh7
  refine do_call Tryz.call16 (c_pnew (fun w1 e1 hf => by rw [ho] at hf; cases hf) fun bb w1 _ hB e1 hown => retS_ret ⟨_, _, rfl, ?_⟩)
  refine ⟨fun vs w' => ∃ (k : Nat) (p : OA) (c : Nat) (Es : List Ent) (L : Rows), vs = [.slice p k c, .int .i64 (k : Int)] ∧ k ≤ n ∧ RunI bb o KK (ops.map (·.1)) Es L p k c w w',
    fun vs _ => match vs with | [_, .int _ i] => n - i.toNat | _ => 0, ⟨0, none, 0, [], [[]], rfl, Nat.zero_le _, ⟨hB.up fun _ _ => (fun hh => (by cases hh)), OkL.one (mayR_nil ho) (by intro x hx; cases hx) (by intro y hy; cases hy), (by decide), (by decide), World.ownsRow_nil _ _ _ _, fun j hj => (by cases hj), fun e he => (by cases he), rfl, e1, hown⟩⟩, ?_⟩
  rintro p k c i_ _ w3 ⟨k0, p0, c0, Es, L, hv, hk, I⟩
  simp only [List.cons.injEq, Value.int.injEq, Value.slice.injEq, true_and, and_true] at hv
  obtain ⟨⟨rfl, rfl, rfl⟩, rfl⟩ := hv
  refine ifB_intro (fun z => ?_) fun z => ?_
  · have z : k < n := by have := of_decide_eq_true z; omega
    have hkl : k < ops.length := by omega
    intro K21
    refine ix_flat (ec := opC) (s := 15) (fun _ => rfl) (by omega) (hl.ext I.E) hn (k := k) rfl z fun a1 r1 _ => ?_
    have hin' := hin ops[k] (List.getElem_mem hkl)
    have hKk := hK ops[k] (List.getElem_mem hkl)
    have hxk : (ops.map (·.1))[k]'(by simpa using hkl) = ops[k].1 := List.getElem_map ..
    generalize ops[k] = e at *
    obtain ⟨x, pv, kv⟩ := e
    obtain ⟨hx, hO, zp, zk⟩ := hin'
    obtain ⟨pp, pc, e1p, hp1, hp2, hp3⟩ := hO.p
    obtain ⟨kp, kc, e1k, hk1, hk2, hk3⟩ := hO.k
    simp only at e1p e1k hx zp zk hKk hxk hp1 hp2 hk1 hk2
    subst e1p e1k
    refine ⟨_, r1 0 _ rfl, _, r1 1 _ rfl, _, r1 2 _ rfl, _, r1 3 _ rfl, _, r1 4 _ rfl, _, r1 5 _ rfl, _, r1 6 _ rfl, _, r1 7 _ rfl, _, r1 8 _ rfl, _, r1 9 _ rfl, _, r1 10 _ rfl, _, r1 11 _ rfl, _, r1 12 _ rfl, _, _, _, r1 13 _ rfl, _, _, _, r1 14 _ rfl, ⟨?_⟩⟩
    have e4 := ext_alloc w3 (.cells #[.int .u8 0, .int .i64 0, .int .i64 0, .int .i64 0, .int .i64 0, .int .i64 0, .int .i64 0, .int .i64 0, .int .u8 0, .int .u8 0, .int .i64 0, .int .i64 0, .bool false, .slice none 0 0, .slice none 0 0] 30)
    have X4 := blk_alloc w3 #[.int .u8 0, .int .i64 0, .int .i64 0, .int .i64 0, .int .i64 0, .int .i64 0, .int .i64 0, .int .i64 0, .int .u8 0, .int .u8 0, .int .i64 0, .int .i64 0, .bool false, .slice none 0 0, .slice none 0 0] 30
    generalize hb4 : w3.heap.size = b4 at *
    generalize w3.alloc (.cells #[.int .u8 0, .int .i64 0, .int .i64 0, .int .i64 0, .int .i64 0, .int .i64 0, .int .i64 0, .int .i64 0, .int .u8 0, .int .u8 0, .int .i64 0, .int .i64 0, .bool false, .slice none 0 0, .slice none 0 0] 30) = w4 at *
    refine st15 X4 fun w5 X5 g5 => ?_
    have E45 : Ext w3 w5 := e4.st g5 (by omega)
    refine ifB_f rfl ?_
    have I5 := I.ext E45
    have hbb : w.heap.size ≤ bb := I5.hi bb (.inl rfl)
    have rp : RowAt (BkOwn bb) bb w5 (.slice pp x.pairs.length pc) x.pairs.length (prs x.pairs) := ⟨pp, pc, rfl, hp1, hp2.ext I5.E, fun a ha hz => ⟨fun hk => by have := I5.hi _ hk; have := hp3 a ha hz; omega, by have := hp3 a ha hz; omega, Nat.lt_of_lt_of_le (hp3 a ha hz) I5.E.size⟩⟩
    have rk : RowAt (BkOwn bb) bb w5 (.slice kp x.keys.length kc) x.keys.length (ints x.keys) := ⟨kp, kc, rfl, hk1, hk2.ext I5.E, fun a ha hz => ⟨fun hk => by have := I5.hi _ hk; have := hk3 a ha hz; omega, by have := hk3 a ha hz; omega, Nat.lt_of_lt_of_le (hk3 a ha hz) I5.E.size⟩⟩
    have l1 := I5.l1
    refine ⟨_, X5.cell (i := 0) rfl rfl, _, X5.cell (i := 1) rfl rfl, _, X5.cell (i := 2) rfl rfl, _, X5.cell (i := 3) rfl rfl, _, X5.cell (i := 4) rfl rfl, _, X5.cell (i := 5) rfl rfl, _, X5.cell (i := 6) rfl rfl, _, X5.cell (i := 7) rfl rfl, _, X5.cell (i := 8) rfl rfl, _, X5.cell (i := 9) rfl rfl, _, X5.cell (i := 10) rfl rfl, _, X5.cell (i := 11) rfl rfl, _, X5.cell (i := 12) rfl rfl, _, _, _, X5.cell (i := 13) rfl rfl, _, _, _, X5.cell (i := 14) rfl rfl, do_call Tryz.call12 (c_pdo ho I5.B (fun j hj hb => by have := (I5.row.lt j hb).2; omega) I5.l0 (by omega) (fun m => (I5.ok.at' ho m).2.1) (fun m => by have := row_short (I5.ok.at' ho m).1 (I5.ok.at' ho m).2.2; omega) hx rp rk zp zk fun v w6 hR hB6 hC6 => ?_)⟩
    obtain ⟨nv, pv, rfl, h1, h2, n1, n2⟩ := hR.ex
    have h1' := h1
    have h2' := h2
    obtain ⟨q1, d1, rfl, _⟩ := h1'
    obtain ⟨q2, d2, rfl, _⟩ := h2'
    have row6 := chg_row hC6 I5.row I5.no (fun _ _ h => h)
    have s6 := hC6.size
    have s5 := I5.E.size
    generalize hr : (doP o L x).1 = r at *
    generalize hL' : (doP o L x).2 = L' at *
    refine retS_ret ⟨_, _, _, _, _, _, _, _, _, _, _, rfl, ⟨?_⟩⟩
    have e7 := ext_alloc w6 (.cells #[.int .i64 r.err, .bool r.is, .int .i64 r.key, .int .i64 r.val, .int .i64 r.n, .slice q1 r.new.length d1, .slice q2 r.pairs.length d2] 34)
    have hx7 := cs_alloc w6 #[.int .i64 r.err, .bool r.is, .int .i64 r.key, .int .i64 r.val, .int .i64 r.n, .slice q1 r.new.length d1, .slice q2 r.pairs.length d2] 34
    generalize w6.alloc (.cells #[.int .i64 r.err, .bool r.is, .int .i64 r.key, .int .i64 r.val, .int .i64 r.n, .slice q1 r.new.length d1, .slice q2 r.pairs.length d2] 34) = w7 at *
    have s7 := e7.size
    refine do_append' elR (e7.row row6) (m := 1) hx7 (by simp) (by simp [Value.oneCell']) (by simp only [maxLen]; omega) (by omega) (by omega) fun p' c' w8 row8 g8 n8 => retS_ret ⟨_, _, _, rfl, ?_⟩
    simp -zeta -zetaHave only [K21]
    rw [wrap_succ z (by omega)]
    refine ⟨⟨k + 1, p', c', _, _, rfl, by omega, I5.step (by simpa using hkl) hxk (by rw [← hr, ← hL']) (by rw [← hL']; exact (do_ok ho I5.ok hx).mono fun y hy => (List.mem_append.1 hy).elim (hKk y) id) hB6 hC6 h1 h2 n1 n2 e7 row8 g8 n8⟩, ?_⟩
    show n - ((k + 1 : Nat) : Int).toNat < n - (k : Int).toNat
    omega
  · have z : k = n := by have := of_decide_eq_false z; omega
    subst z
    have hrun := I.run
    rw [List.drop_of_length_le (by simp; omega)] at hrun
    exact h p c Es bb w3 I.E (by simpa [runP] using hrun) I.row fun e he => ⟨(I.rows e he).1, (I.rows e he).2.1⟩
end Go.Proofs.YtmdboekndjlmgaaGreat

namespace Go.Proofs.YtmdboekndjlmgaaGreat
open Go Go.Sh Go.RowKit

theorem c_sints {l : List Int} {p q : OA} {c d : Nat} {w : World} {R : EW} (hz : l.length ≤ 1000000) (hp : Cs w p (ints l)) (hq : Cs w q (ints l)) (h : ∀ w', Ext w w' → R (.returned (.bool true)) w') : Calls Tryz.prog 31 #[.slice p l.length c, .slice q l.length d] w R := by
  refine sh31_ok _ _ _ _ _ _ ?_
  unfold sh31
  refine ifB_f (by simp) ?_
  refine ⟨fun vs w' => ∃ k : Nat, vs = [.int .i64 (k : Int)] ∧ k ≤ l.length ∧ Ext w w', fun vs _ => match vs with | [.int _ i] => l.length - i.toNat | _ => 0, ⟨0, rfl, Nat.zero_le _, ext_refl _⟩, ?_⟩
  rintro i_ _ w2 ⟨k, hv, hk, e⟩
  simp only [List.cons.injEq, Value.int.injEq, true_and, and_true] at hv
  subst hv
  refine ifB_intro (fun z => ?_) fun z => ?_
  · have z : k < l.length := by have := of_decide_eq_true z; omega
    have e2 := e.trans (ext_drew w2)
    refine ⟨fun w' => Ext w2.drew w', ext_refl _, ?_⟩
    have oI : ∀ {s : OA}, Cs w s (ints l) → ∀ w', Ext w2.drew w' → Cs w' s (l.flatMap fun x => [.int .i64 x]) := fun hs w' e' => by
      have := hs.ext (e2.trans e')
      unfold ints at this
      rwa [List.map_eq_flatMap] at this
    refine ix_flatC (ec := fun x : Int => [.int .i64 x]) (s := 1) (C := fun w' => Ext w2.drew w') (fun _ => rfl) (by omega) (oI hp) (ext_refl _) rfl (k := k) rfl z fun a3 r3 => ⟨l[k], fun w' e' => by have := r3 w' e' 0 _ rfl; rwa [add_zero'] at this, ?_⟩
    refine ix_flatC (ec := fun x : Int => [.int .i64 x]) (s := 1) (C := fun w' => Ext w2.drew w') (fun _ => rfl) (by omega) (oI hq) (ext_refl _) rfl (k := k) rfl z fun a4 r4 => ⟨l[k], fun w' e' => by have := r4 w' e' 0 _ rfl; rwa [add_zero'] at this, ?_⟩
    refine ifB_f (by simp) ?_
    rw [wrap_succ z (by omega)]
    refine ⟨⟨k + 1, rfl, by omega, e2⟩, ?_⟩
    show l.length - ((k + 1 : Nat) : Int).toNat < l.length - (k : Int).toNat
    omega
  · exact h w2 e
theorem c_srep {r : Rep} {q1 q2 s1 s2 : OA} {d1 d2 t1 t2 : Nat} {w : World} {R : EW} (z1 : r.new.length ≤ 1000000) (z2 : r.pairs.length ≤ 1000000) (h1 : Cs w q1 (ints r.new)) (h2 : Cs w q2 (prs r.pairs)) (g1 : Cs w s1 (ints r.new)) (g2 : Cs w s2 (prs r.pairs))
    (h : ∀ w', Ext w w' → R (.returned (.bool true)) w') : Calls Tryz.prog 21 #[.agg #[.int .i64 r.err, .bool r.is, .int .i64 r.key, .int .i64 r.val, .int .i64 r.n, .slice q1 r.new.length d1, .slice q2 r.pairs.length d2], .agg #[.int .i64 r.err, .bool r.is, .int .i64 r.key, .int .i64 r.val, .int .i64 r.n, .slice s1 r.new.length t1, .slice s2 r.pairs.length t2]] w R := by
  refine sh21_ok _ _ _ _ _ _ _ _ _ _ _ _ _ _ _ _ _ _ _ _ _ _ ?_
  unfold sh21
  refine ⟨⟨?_⟩⟩
  have e1 := ext_alloc w (.cells #[.int .i64 r.err, .bool r.is, .int .i64 r.key, .int .i64 r.val, .int .i64 r.n, .slice q1 r.new.length d1, .slice q2 r.pairs.length d2] 34)
  have X1 := blk_alloc w #[.int .i64 r.err, .bool r.is, .int .i64 r.key, .int .i64 r.val, .int .i64 r.n, .slice q1 r.new.length d1, .slice q2 r.pairs.length d2] 34
  generalize w.alloc (.cells #[.int .i64 r.err, .bool r.is, .int .i64 r.key, .int .i64 r.val, .int .i64 r.n, .slice q1 r.new.length d1, .slice q2 r.pairs.length d2] 34) = w1 at *
  have e2 := ext_alloc w1 (.cells #[.int .i64 r.err, .bool r.is, .int .i64 r.key, .int .i64 r.val, .int .i64 r.n, .slice s1 r.new.length t1, .slice s2 r.pairs.length t2] 34)
  have Y := blk_alloc w1 #[.int .i64 r.err, .bool r.is, .int .i64 r.key, .int .i64 r.val, .int .i64 r.n, .slice s1 r.new.length t1, .slice s2 r.pairs.length t2] 34
  have X := X1.ext e2
  have E2 := e1.trans e2
  generalize w1.alloc (.cells #[.int .i64 r.err, .bool r.is, .int .i64 r.key, .int .i64 r.val, .int .i64 r.n, .slice s1 r.new.length t1, .slice s2 r.pairs.length t2] 34) = w2 at *
  intro K29
  refine ⟨_, X.cell (i := 0) rfl rfl, _, Y.cell (i := 0) rfl rfl, ifB_t (by simp) ?_⟩
  refine ⟨_, X.cell (i := 1) rfl rfl, _, Y.cell (i := 1) rfl rfl, ifB_t (by simp) ?_⟩
  refine ⟨_, X.cell (i := 2) rfl rfl, _, Y.cell (i := 2) rfl rfl, ifB_t (by simp) ?_⟩
  refine ⟨_, X.cell (i := 3) rfl rfl, _, Y.cell (i := 3) rfl rfl, ifB_t (by simp) ?_⟩
  refine ⟨_, X.cell (i := 4) rfl rfl, _, Y.cell (i := 4) rfl rfl, ifB_t (by simp) ?_⟩
  refine ⟨_, _, _, X.cell (i := 5) rfl rfl, _, _, _, Y.cell (i := 5) rfl rfl, do_call Tryz.call31 (c_sints z1 (h1.ext E2) (g1.ext E2) fun w3 e3 => retS_ret ⟨_, rfl, ifB_t rfl ?_⟩)⟩
  refine ⟨_, _, _, (X.ext e3).cell (i := 6) rfl rfl, _, _, _, (Y.ext e3).cell (i := 6) rfl rfl, do_call Tryz.call8 (c_r4same (h2.ext (E2.trans e3)) rfl (g2.ext (E2.trans e3)) rfl (by omega) fun w4 e4 => retS_ret ⟨_, rfl, ?_⟩)⟩
  have := h w4 ((E2.trans e3).trans e4)
  simpa using this
def EntRd (w : World) (e : Ent) : Prop := ∃ q1 d1 q2 d2, e.2.1 = .slice q1 e.1.new.length d1 ∧ e.2.2 = .slice q2 e.1.pairs.length d2 ∧ Cs w q1 (ints e.1.new) ∧ Cs w q2 (prs e.1.pairs) ∧ e.1.new.length ≤ 1000000 ∧ e.1.pairs.length ≤ 1000000
theorem c_ssame {Es Fs : List Ent} {p q : OA} {n c d : Nat} {w : World} {R : EW} (hz : n ≤ 1000000) (hE : Es.length = n) (hF : Fs.length = n) (hp : Cs w p (Es.flatMap entC)) (hq : Cs w q (Fs.flatMap entC)) (he : Es.map (·.1) = Fs.map (·.1)) (rE : ∀ e ∈ Es, EntRd w e) (rF : ∀ e ∈ Fs, EntRd w e)
    (h : ∀ w', Ext w w' → R (.returned (.bool true)) w') : Calls Tryz.prog 17 #[.slice p n c, .slice q n d] w R := by
  refine sh17_ok _ _ _ _ _ _ ?_
  unfold sh17
  refine ifB_f (by simp) ?_
  refine ⟨fun vs w' => ∃ k : Nat, vs = [.int .i64 (k : Int)] ∧ k ≤ n ∧ Ext w w', fun vs _ => match vs with | [.int _ i] => n - i.toNat | _ => 0, ⟨0, rfl, Nat.zero_le _, ext_refl _⟩, ?_⟩
  rintro i_ _ w2 ⟨k, hv, hk, e⟩
  simp only [List.cons.injEq, Value.int.injEq, true_and, and_true] at hv
  subst hv
  refine ifB_intro (fun z => ?_) fun z => ?_
  · have z : k < n := by have := of_decide_eq_true z; omega
    have e2 := e.trans (ext_drew w2)
    refine ⟨fun w' => Ext w2.drew w', ext_refl _, ?_⟩
    have hk1 : k < Es.length := by omega
    have hk2 : k < Fs.length := by omega
    have hkk : Es[k].1 = Fs[k].1 := by
      have h1 : (Es.map (·.1))[k]? = some Es[k].1 := by rw [List.getElem?_map, List.getElem?_eq_getElem hk1]; rfl
      have h2 : (Fs.map (·.1))[k]? = some Fs[k].1 := by rw [List.getElem?_map, List.getElem?_eq_getElem hk2]; rfl
      rw [he, h2] at h1
      exact (Option.some.inj h1).symm
    have R1 := rE Es[k] (List.getElem_mem hk1)
    have R2 := rF Fs[k] (List.getElem_mem hk2)
    refine ix_flatC (ec := entC) (s := 7) (C := fun w' => Ext w2.drew w') (fun _ => rfl) (by omega) (fun w' e' => hp.ext (e2.trans e')) (ext_refl _) hE (k := k) rfl z fun a3 r3 => ?_
    generalize Es[k] = E1 at *
    obtain ⟨r, nv, pv⟩ := E1
    obtain ⟨q1, d1, q2, d2, en, ep, c1, c2, z1, z2⟩ := R1
    simp only at en ep c1 c2 z1 z2
    subst en ep
    refine ⟨_, fun w' e' => r3 w' e' 0 _ rfl, _, fun w' e' => r3 w' e' 1 _ rfl, _, fun w' e' => r3 w' e' 2 _ rfl, _, fun w' e' => r3 w' e' 3 _ rfl, _, fun w' e' => r3 w' e' 4 _ rfl, _, _, _, fun w' e' => r3 w' e' 5 _ rfl, _, _, _, fun w' e' => r3 w' e' 6 _ rfl, ?_⟩
    refine ix_flatC (ec := entC) (s := 7) (C := fun w' => Ext w2.drew w') (fun _ => rfl) (by omega) (fun w' e' => hq.ext (e2.trans e')) (ext_refl _) hF (k := k) rfl z fun a4 r4 => ?_
    generalize Fs[k] = F1 at *
    obtain ⟨r', nv', pv'⟩ := F1
    obtain ⟨s1, t1, s2, t2, en, ep, g1, g2, _, _⟩ := R2
    simp only at en ep g1 g2
    subst en ep
    obtain rfl : r = r' := hkk
    refine ⟨_, fun w' e' => r4 w' e' 0 _ rfl, _, fun w' e' => r4 w' e' 1 _ rfl, _, fun w' e' => r4 w' e' 2 _ rfl, _, fun w' e' => r4 w' e' 3 _ rfl, _, fun w' e' => r4 w' e' 4 _ rfl, _, _, _, fun w' e' => r4 w' e' 5 _ rfl, _, _, _, fun w' e' => r4 w' e' 6 _ rfl, ?_⟩
    refine do_call Tryz.call21 (c_srep z1 z2 (c1.ext e2) (c2.ext e2) (g1.ext e2) (g2.ext e2) fun w3 e3 => retS_ret ⟨_, rfl, ifB_f rfl ?_⟩)
    rw [wrap_succ z (by omega)]
    refine ⟨⟨k + 1, rfl, by omega, e2.trans e3⟩, ?_⟩
    show n - ((k + 1 : Nat) : Int).toNat < n - (k : Int).toNat
    omega
  · exact h w2 e
end Go.Proofs.YtmdboekndjlmgaaGreat

namespace Go.Proofs.YtmdboekndjlmgaaGreat
open Go Go.Sh Go.RowKit

theorem wrong_ok {o : Int} {L : Rows} {x : POp} (h1 : May x) (h2 : kA x.op = true → thereL L x.a = true) (h3 : kB x.op = true → thereL L x.b = true) (h4 : L.length + mkN x.op ≤ 4096)
    (h5 : x.op = 17 → 0 ≤ x.n ∧ x.n < (atL L x.a).length) (h6 : kS x.op = true → ¬ cmpI o x.hi x.lo < 0) : wrongP o L x = 0 := by
  unfold wrongP
  rw [mayO_iff.2 h1]
  have e2 : (kA x.op && !thereL L x.a) = false := by
    cases hk : kA x.op
    · rfl
    · rw [h2 hk]; rfl
  have e3 : (kB x.op && !thereL L x.b) = false := by
    cases hk : kB x.op
    · rfl
    · rw [h3 hk]; rfl
  rw [e2, e3, if_neg (by simp), if_neg (by simp), if_neg (by omega), if_neg (fun h => by have := h5 h.1; omega), if_neg (fun h => h6 h.1 h.2)]
theorem wrong_turned {o : Int} {L : Rows} {x : POp} (h1 : May x) (h2 : kA x.op = true → thereL L x.a = true) (h4 : L.length + mkN x.op ≤ 4096) (h5 : kS x.op = true) (h6 : cmpI o x.hi x.lo < 0) : wrongP o L x = 330 := by
  have hs : 18 ≤ x.op ∧ x.op ≤ 20 := by simpa [kS] using h5
  unfold wrongP
  rw [mayO_iff.2 h1]
  have e2 : (kA x.op && !thereL L x.a) = false := by
    cases hk : kA x.op
    · rfl
    · rw [h2 hk]; rfl
  have e3 : kB x.op = false := by simp only [kB, decide_eq_false_iff_not]; omega
  rw [e2, e3, if_neg (by simp), if_neg (by simp), if_neg (by omega), if_neg (fun h => by omega), if_pos ⟨h5, h6⟩]
theorem do_act {o : Int} {L : Rows} {x : POp} (h : wrongP o L x = 0) : doP o L x = actP o L x (atL L x.a) (atL L x.b) := by unfold doP; rw [if_pos h]
theorem do_wrong {o : Int} {L : Rows} {x : POp} {e : Int} (h : wrongP o L x = e) (he : e ≠ 0) : doP o L x = ({ Rep.zero with err := e }, L) := by unfold doP; rw [if_neg (by rw [h]; exact he), h]
def oBuild (p : Int) (l : List Pr) : POp := { POp.zero with op := 8, pol := p, pairs := l }
def oInsert (a k v p : Int) : POp := { POp.zero with op := 1, a := a, key := k, val := v, pol := p }
def oKey (d a k : Int) : POp := { POp.zero with op := d, a := a, key := k }
def oUnion (a b p : Int) : POp := { POp.zero with op := 9, a := a, b := b, pol := p }
def oList (a : Int) : POp := { POp.zero with op := 21, a := a }
def oSelect (a n : Int) : POp := { POp.zero with op := 17, a := a, n := n }
def oSpan (d a lo hi : Int) : POp := { POp.zero with op := d, a := a, lo := lo, hi := hi }
theorem may_build {p : Int} {l : List Pr} (hp : polMay p = true) (hl : l.length ≤ 4096) : May (oBuild p l) :=
  ⟨by simp [oBuild], fun q hq => by cases q <;> first | (simp [agree, oBuild, POp.zero]; done) | exact absurd (by simp [oBuild, partsOf]) hq, fun _ => hp, fun h => absurd h (by simp [oBuild, partsOf]), hl, Nat.zero_le _⟩
theorem may_insert {a k v p : Int} (hp : polMay p = true) : May (oInsert a k v p) :=
  ⟨by simp [oInsert], fun q hq => by cases q <;> first | (simp [agree, oInsert, POp.zero]; done) | exact absurd (by simp [oInsert, partsOf]) hq, fun _ => hp, fun h => absurd h (by simp [oInsert, partsOf]), Nat.zero_le _, Nat.zero_le _⟩
theorem may_key {d a k : Int} (hd : d = 2 ∨ d = 3 ∨ d = 16 ∨ d = 22) : May (oKey d a k) := by
  rcases hd with rfl | rfl | rfl | rfl <;>
  exact ⟨by simp [oKey], fun q hq => by cases q <;> first | (simp [agree, oKey, POp.zero]; done) | exact absurd (by simp [oKey, partsOf]) hq, fun h => absurd h (by simp [oKey, partsOf]), fun h => absurd h (by simp [oKey, partsOf]), Nat.zero_le _, Nat.zero_le _⟩
theorem may_union {a b p : Int} (hp : polMay p = true) : May (oUnion a b p) :=
  ⟨by simp [oUnion], fun q hq => by cases q <;> first | (simp [agree, oUnion, POp.zero]; done) | exact absurd (by simp [oUnion, partsOf]) hq, fun _ => hp, fun h => absurd h (by simp [oUnion, partsOf]), Nat.zero_le _, Nat.zero_le _⟩
theorem may_list {a : Int} : May (oList a) :=
  ⟨by simp [oList], fun q hq => by cases q <;> first | (simp [agree, oList, POp.zero]; done) | exact absurd (by simp [oList, partsOf]) hq, fun h => absurd h (by simp [oList, partsOf]), fun h => absurd h (by simp [oList, partsOf]), Nat.zero_le _, Nat.zero_le _⟩
theorem may_select {a n : Int} : May (oSelect a n) :=
  ⟨by simp [oSelect], fun q hq => by cases q <;> first | (simp [agree, oSelect, POp.zero]; done) | exact absurd (by simp [oSelect, partsOf]) hq, fun h => absurd h (by simp [oSelect, partsOf]), fun h => absurd h (by simp [oSelect, partsOf]), Nat.zero_le _, Nat.zero_le _⟩
theorem may_span {d a lo hi : Int} (hd : d = 18 ∨ d = 19 ∨ d = 20) : May (oSpan d a lo hi) := by
  rcases hd with rfl | rfl | rfl <;>
  exact ⟨by simp [oSpan], fun q hq => by cases q <;> first | (simp [agree, oSpan, POp.zero]; done) | exact absurd (by simp [oSpan, partsOf]) hq, fun h => absurd h (by simp [oSpan, partsOf]), fun h => absurd h (by simp [oSpan, partsOf]), Nat.zero_le _, Nat.zero_le _⟩
theorem cut_union {o key : Int} {r : List Pr} (hm : mayR o r = true) (hI : InP r) (hh : hasR o r key = true) : setL o 1 wU (cutA o r key) (cutB o r key) = dropR o r key := by
  have ho := mayR_o hm
  have e1 : cutA o r key = r.take (posR o r key) := by unfold cutA; rw [hm]; rfl
  have e2 : cutB o r key = r.drop (posR o r key + 1) := by unfold cutB; rw [hm, hh]; rfl
  have e3 : dropR o r key = cutA o r key ++ cutB o r key := by rw [e1, e2]; unfold dropR; rw [hm, hh]; rfl
  have h3 := drop_may (key := key) hm
  have hA : mayR o (cutA o r key) = true := by rw [e1]; exact sub_row hm (List.take_sublist _ _)
  have hB : mayR o (cutB o r key) = true := by rw [e2]; exact sub_row hm (List.drop_sublist _ _)
  have iA : InP (cutA o r key) := by rw [e1]; exact sub_in hI (List.take_sublist _ _)
  have iB : InP (cutB o r key) := by rw [e2]; exact sub_in hI (List.drop_sublist _ _)
  have hU : setL o 1 wU (cutA o r key) (cutB o r key) = someL o 1 wU (cutA o r key) (cutB o r key) := by unfold setL; rw [hA, hB, may1]; rfl
  rw [hU]
  refine row_ext (someL_may hA hB iA iB) h3 fun k => ?_
  rw [someL_lk hA hB iA iB]
  have hnd := row_nodup h3
  rw [e3, List.map_append] at hnd
  rw [e3] at h3 ⊢
  cases hka : lk o (cutA o r key) k with
  | none =>
    cases hkb : lk o (cutB o r key) k with
    | none =>
      symm
      simp only [wantK]
      rw [lk_none h3]
      intro x hx
      rcases List.mem_append.1 hx with hx | hx
      · exact (lk_none hA).1 hka x hx
      · exact (lk_none hB).1 hkb x hx
    | some y =>
      simp only [wantK, wU, if_true]
      exact ((lk_iff h3).2 (List.mem_append_right _ ((lk_iff hB).1 hkb))).symm
  | some x =>
    cases hkb : lk o (cutB o r key) k with
    | none =>
      simp only [wantK, wU, if_true]
      exact ((lk_iff h3).2 (List.mem_append_left _ ((lk_iff hA).1 hka))).symm
    | some y =>
      have h1 : k ∈ (cutA o r key).map (·.1) := List.mem_map.2 ⟨(k, x), (lk_iff hA).1 hka, rfl⟩
      have h2 : k ∈ (cutB o r key).map (·.1) := List.mem_map.2 ⟨(k, y), (lk_iff hB).1 hkb, rfl⟩
      exact absurd rfl ((List.nodup_append.1 hnd).2.2 _ h1 _ h2)
theorem in0 : In 0 := by unfold In; omega
theorem u80 : (0 : Int) ≤ 0 ∧ (0 : Int) < 256 := by omega
theorem ino_build {p : Int} {l : List Pr} (hp : 0 ≤ p ∧ p < 256) (hl : InP l) : InO (oBuild p l) :=
  ⟨⟨by show (0 : Int) ≤ 8; omega, by show (8 : Int) < 256; omega⟩, in0, in0, in0, in0, in0, in0, in0, hp, u80, in0, in0, hl, fun x hx => (by cases hx)⟩
theorem ino_insert {a k v p : Int} (ha : In a) (hk : In k) (hv : In v) (hp : 0 ≤ p ∧ p < 256) : InO (oInsert a k v p) :=
  ⟨⟨by show (0 : Int) ≤ 1; omega, by show (1 : Int) < 256; omega⟩, ha, in0, hk, hv, in0, in0, in0, hp, u80, in0, in0, fun x hx => (by cases hx), fun x hx => (by cases hx)⟩
theorem ino_key {d a k : Int} (hd : 0 ≤ d ∧ d < 256) (ha : In a) (hk : In k) : InO (oKey d a k) :=
  ⟨hd, ha, in0, hk, in0, in0, in0, in0, u80, u80, in0, in0, fun x hx => (by cases hx), fun x hx => (by cases hx)⟩
theorem ino_union {a b p : Int} (ha : In a) (hb : In b) (hp : 0 ≤ p ∧ p < 256) : InO (oUnion a b p) :=
  ⟨⟨by show (0 : Int) ≤ 9; omega, by show (9 : Int) < 256; omega⟩, ha, hb, in0, in0, in0, in0, in0, hp, u80, in0, in0, fun x hx => (by cases hx), fun x hx => (by cases hx)⟩
theorem ino_list {a : Int} (ha : In a) : InO (oList a) :=
  ⟨⟨by show (0 : Int) ≤ 21; omega, by show (21 : Int) < 256; omega⟩, ha, in0, in0, in0, in0, in0, in0, u80, u80, in0, in0, fun x hx => (by cases hx), fun x hx => (by cases hx)⟩
theorem ino_select {a n : Int} (ha : In a) (hn : In n) : InO (oSelect a n) :=
  ⟨⟨by show (0 : Int) ≤ 17; omega, by show (17 : Int) < 256; omega⟩, ha, in0, in0, in0, in0, in0, hn, u80, u80, in0, in0, fun x hx => (by cases hx), fun x hx => (by cases hx)⟩
theorem ino_span {d a lo hi : Int} (hd : 0 ≤ d ∧ d < 256) (ha : In a) (hl : In lo) (hh : In hi) : InO (oSpan d a lo hi) :=
  ⟨hd, ha, in0, in0, in0, hl, hh, in0, u80, u80, in0, in0, fun x hx => (by cases hx), fun x hx => (by cases hx)⟩
def askOps (l : List Pr) (key val lo hi : Int) : List POp :=
  [oBuild 2 l, oInsert 1 key val 2, oKey 3 2 key, oKey 2 2 key, oKey 3 3 key, oKey 22 2 key, oUnion 4 5 1, oList 6, oList 3, oKey 16 2 key, oSpan 18 2 lo hi, oSpan 19 2 lo hi, oSpan 20 2 lo hi]
theorem ask_law {o key val lo hi : Int} {l : List Pr} (ho : isO o = true) (hI : InP l) (hl : l.length ≤ 100) (hk : In key) (hv : In val) :
    ∃ (r : List Rep) (n : Nat) (p : List Pr) (m : Int), runP o [[]] (askOps l key val lo hi) = r ∧ r.length = 13 ∧ (r.getD 0 .zero).err = 0 ∧ (r.getD 5 .zero).new.length = 2 ∧
      ((r.getD 2 .zero).is = true ∧ (r.getD 2 .zero).val = val) ∧ (r.getD 4 .zero).is = false ∧ ((r.getD 3 .zero).is = true ∧ (r.getD 3 .zero).val = val) ∧ ((r.getD 5 .zero).is = true ∧ (r.getD 5 .zero).val = val) ∧
      ((r.getD 7 .zero).pairs = p ∧ (r.getD 8 .zero).pairs = p ∧ p.length ≤ 200) ∧ ((r.getD 9 .zero).is = true ∧ (r.getD 9 .zero).n = (n : Int) ∧ n ≤ 200) ∧
      (if cmpI o hi lo < 0 then (r.getD 10 .zero).err = 330 ∧ (r.getD 11 .zero).err = 330 ∧ (r.getD 12 .zero).err = 330 else (r.getD 10 .zero).err = 0 ∧ (r.getD 10 .zero).n = m ∧ (r.getD 11 .zero).n = m ∧ (r.getD 11 .zero).err = 0 ∧ (r.getD 12 .zero).err = 0) ∧
      ∃ q : List Rep, runP o [[]] [oBuild 2 l, oInsert 1 key val 2, oSelect 2 n] = q ∧ q.length = 3 ∧ (q.getD 2 .zero).is = true ∧ (q.getD 2 .zero).key = key ∧ (q.getD 2 .zero).val = val := by
  have hp2 : may 2 = true := by simp [may]
  have e1 : srtP o 2 l = sortL o 2 l := by unfold srtP; rw [ho, hp2]; rfl
  obtain ⟨m1, i1, _⟩ := sortL_may ho hp2 hI
  generalize sortL o 2 l = r1 at e1 m1 i1
  have m2 := put_may (x := (key, val)) m1 hp2 i1 hk
  have i2 := put_in (x := (key, val)) m1 hp2 i1 ⟨hk, hv⟩
  have l2 : lk o (putR o 2 r1 (key, val)) key = some val := by
    rw [lk_put m1 hp2 i1 hk, if_pos rfl]
    cases lk o r1 key <;> simp [comb]
  have g2 := get_of l2
  have k2 := hasR_key g2.1
  have t2 := hasR_lt g2.1
  have v2 : ((putR o 2 r1 (key, val))[posR o (putR o 2 r1 (key, val)) key]).2 = val := by
    have := g2.2
    unfold getR at this
    rw [g2.1, cond_true, getD_of t2] at this
    exact this
  have s0 : doP o [[]] (oBuild 2 l) = countP [[]] r1 := by
    rw [do_act (wrong_ok (may_build (by decide) (by omega)) (by simp [kA, oBuild]) (by simp [kB, oBuild]) (by simp [mkN, oBuild]) (by simp [oBuild]) (by simp [kS, oBuild])), ← e1]; rfl
  have s1 : doP o [[], r1] (oInsert 1 key val 2) = madeP (wasP o r1 key) [[], r1] [putR o 2 r1 (key, val)] := by
    rw [do_act (wrong_ok (may_insert (by decide)) (by simp [kA, oInsert, thereL]) (by simp [kB, oInsert]) (by simp [mkN, oInsert]) (by simp [oInsert]) (by simp [kS, oInsert]))]; rfl
  have hr2 : (putR o 2 r1 (key, val)).length ≤ 200 := by
    have h0 : OkL o [] [[]] := OkL.one (mayR_nil ho) (by intro x hx; cases hx) (by intro y hy; cases hy)
    have h1 := do_ok ho h0 (ino_build (p := 2) (by omega) hI)
    rw [s0] at h1
    have h1 : OkL o (newK (oBuild 2 l) ++ []) [[], r1] := h1
    have i1 : In 1 := by unfold In; omega
    have h2 := do_ok ho h1 (ino_insert (p := 2) i1 hk hv (by omega))
    rw [s1] at h2
    have h2 : OkL o (newK (oInsert 1 key val 2) ++ (newK (oBuild 2 l) ++ [])) [[], r1, putR o 2 r1 (key, val)] := h2
    have := row_short (h2.may (putR o 2 r1 (key, val)) (by simp)) (h2.keys (putR o 2 r1 (key, val)) (by simp))
    simp [newK, oInsert, oBuild, POp.zero] at this
    omega
  generalize putR o 2 r1 (key, val) = r2 at *
  have s2 : doP o [[], r1, r2] (oKey 3 2 key) = (foundP (key, val) true, [[], r1, r2]) := by
    rw [do_act (wrong_ok (may_key (by simp)) (by simp [kA, oKey, thereL]) (by simp [kB, oKey]) (by simp [mkN, oKey]) (by simp [oKey]) (by simp [kS, oKey]))]
    show (foundP (key, getR o r2 key) (hasR o r2 key), _) = _
    rw [g2.1, g2.2]
  have s3 : doP o [[], r1, r2] (oKey 2 2 key) = madeP { Rep.zero with is := true, val := val } [[], r1, r2] [dropR o r2 key] := by
    rw [do_act (wrong_ok (may_key (by simp)) (by simp [kA, oKey, thereL]) (by simp [kB, oKey]) (by simp [mkN, oKey]) (by simp [oKey]) (by simp [kS, oKey]))]
    show madeP (wasP o r2 key) _ _ = _
    unfold wasP; rw [g2.1, g2.2]; rfl
  have h3 : hasR o (dropR o r2 key) key = false := by
    cases hh : hasR o (dropR o r2 key) key
    · rfl
    · obtain ⟨i, hi, e⟩ := (hasR_iff (drop_may m2)).1 hh
      have hm : ∀ y ∈ dropR o r2 key, y.1 ≠ key := fun y hy e => by
        rw [drop_filter m2] at hy
        have := (List.mem_filter.1 hy).2
        rw [e] at this
        simp at this
      exact absurd e (hm _ (List.getElem_mem hi))
  have cu := cut_union (key := key) m2 i2 g2.1
  have hr3 : (dropR o r2 key).length ≤ 200 := by
    rw [drop_filter m2]
    exact Nat.le_trans (List.length_filter_le _ _) hr2
  have hpos : posR o r2 key ≤ 200 := by omega
  generalize dropR o r2 key = r3 at *
  have s4 : doP o [[], r1, r2, r3] (oKey 3 3 key) = (Rep.zero, [[], r1, r2, r3]) := by
    rw [do_act (wrong_ok (may_key (by simp)) (by simp [kA, oKey, thereL]) (by simp [kB, oKey]) (by simp [mkN, oKey]) (by simp [oKey]) (by simp [kS, oKey]))]
    show (foundP (key, getR o r3 key) (hasR o r3 key), _) = _
    rw [h3]; rfl
  have s5 : doP o [[], r1, r2, r3] (oKey 22 2 key) = madeP { Rep.zero with is := true, val := val } [[], r1, r2, r3] [cutA o r2 key, cutB o r2 key] := by
    rw [do_act (wrong_ok (may_key (by simp)) (by simp [kA, oKey, thereL]) (by simp [kB, oKey]) (by simp [mkN, oKey]) (by simp [oKey]) (by simp [kS, oKey]))]
    show madeP (wasP o r2 key) _ _ = _
    unfold wasP; rw [g2.1, g2.2]; rfl
  generalize cutA o r2 key = r4 at *
  generalize cutB o r2 key = r5 at *
  have s6 : doP o [[], r1, r2, r3, r4, r5] (oUnion 4 5 1) = countP [[], r1, r2, r3, r4, r5] r3 := by
    rw [do_act (wrong_ok (may_union (by decide)) (by simp [kA, oUnion, thereL]) (by simp [kB, oUnion, thereL]) (by simp [mkN, oUnion]) (by simp [oUnion]) (by simp [kS, oUnion]))]
    show countP _ (setL o 1 wU r4 r5) = _
    rw [cu]
  have s7 : doP o [[], r1, r2, r3, r4, r5, r3] (oList 6) = ({ Rep.zero with n := r3.length, pairs := r3 }, [[], r1, r2, r3, r4, r5, r3]) := by
    rw [do_act (wrong_ok may_list (by simp [kA, oList, thereL]) (by simp [kB, oList]) (by simp [mkN, oList]) (by simp [oList]) (by simp [kS, oList]))]; rfl
  have s8 : doP o [[], r1, r2, r3, r4, r5, r3] (oList 3) = ({ Rep.zero with n := r3.length, pairs := r3 }, [[], r1, r2, r3, r4, r5, r3]) := by
    rw [do_act (wrong_ok may_list (by simp [kA, oList, thereL]) (by simp [kB, oList]) (by simp [mkN, oList]) (by simp [oList]) (by simp [kS, oList]))]; rfl
  have s9 : doP o [[], r1, r2, r3, r4, r5, r3] (oKey 16 2 key) = ({ Rep.zero with is := true, n := posR o r2 key }, [[], r1, r2, r3, r4, r5, r3]) := by
    rw [do_act (wrong_ok (may_key (by simp)) (by simp [kA, oKey, thereL]) (by simp [kB, oKey]) (by simp [mkN, oKey]) (by simp [oKey]) (by simp [kS, oKey]))]
    show ({ Rep.zero with is := hasR o r2 key, n := posR o r2 key }, _) = _
    rw [g2.1]
  have t2' : doP o [[], r1, r2] (oSelect 2 (posR o r2 key : Nat)) = (foundP (key, val) true, [[], r1, r2]) := by
    rw [do_act (wrong_ok may_select (by simp [kA, oSelect, thereL]) (by simp [kB, oSelect]) (by simp [mkN, oSelect]) (fun _ => ?_) (by simp [kS, oSelect]))]
    · show (foundP (r2.getD (posR o r2 key) (0, 0)) true, _) = _
      rw [getD_of t2, show r2[posR o r2 key] = ((r2[posR o r2 key]).1, (r2[posR o r2 key]).2) from rfl, k2, v2]
    · show (0 : Int) ≤ (posR o r2 key : Nat) ∧ ((posR o r2 key : Nat) : Int) < (r2.length : Nat)
      omega
  by_cases hc : cmpI o hi lo < 0
  · have sp : ∀ d L, (d = 18 ∨ d = 19 ∨ d = 20) → 2 < L.length → L.length ≤ 100 → doP o L (oSpan d 2 lo hi) = ({ Rep.zero with err := 330 }, L) := fun d L hd h1 h2 =>
      do_wrong (wrong_turned (may_span hd) (fun _ => by show decide ((0 : Int) ≤ 2 ∧ (2 : Int) < ((L.length : Nat) : Int)) = true; rw [decide_eq_true_eq]; omega) (by rcases hd with rfl | rfl | rfl <;> simp [mkN, oSpan] <;> omega) (by rcases hd with rfl | rfl | rfl <;> simp [kS, oSpan]) hc) (by omega)
    refine ⟨_, posR o r2 key, r3, 0, rfl, ?_⟩
    simp only [runP, askOps, s0]
    rw [show (countP [[]] r1).2 = [[], r1] from rfl, s1, show (madeP (wasP o r1 key) [[], r1] [r2]).2 = [[], r1, r2] from rfl, s2]
    simp only
    rw [s3, show (madeP { Rep.zero with is := true, val := val } [[], r1, r2] [r3]).2 = [[], r1, r2, r3] from rfl, s4]
    simp only
    rw [s5, show (madeP { Rep.zero with is := true, val := val } [[], r1, r2, r3] [r4, r5]).2 = [[], r1, r2, r3, r4, r5] from rfl, s6, show (countP [[], r1, r2, r3, r4, r5] r3).2 = [[], r1, r2, r3, r4, r5, r3] from rfl, s7]
    simp only
    rw [s8]
    simp only
    rw [s9]
    simp only
    rw [sp 18 _ (by simp) (by simp) (by simp)]
    simp only
    rw [sp 19 _ (by simp) (by simp) (by simp)]
    simp only
    rw [sp 20 _ (by simp) (by simp) (by simp)]
    rw [if_pos hc]
    exact ⟨rfl, rfl, rfl, ⟨rfl, rfl⟩, rfl, ⟨rfl, rfl⟩, ⟨rfl, rfl⟩, ⟨rfl, rfl, hr3⟩, ⟨rfl, rfl, hpos⟩, ⟨rfl, rfl, rfl⟩, ⟨_, rfl, rfl, by show (doP o [[], r1, r2] (oSelect 2 (posR o r2 key : Nat))).1.is = true; rw [t2']; rfl, by show (doP o [[], r1, r2] (oSelect 2 (posR o r2 key : Nat))).1.key = key; rw [t2']; rfl, by show (doP o [[], r1, r2] (oSelect 2 (posR o r2 key : Nat))).1.val = val; rw [t2']; rfl⟩⟩
  · have ok : ∀ d L, (d = 18 ∨ d = 19 ∨ d = 20) → 2 < L.length → L.length ≤ 100 → doP o L (oSpan d 2 lo hi) = actP o L (oSpan d 2 lo hi) (atL L 2) (atL L 0) := fun d L hd h1 h2 =>
      do_act (wrong_ok (may_span hd) (fun _ => by show decide ((0 : Int) ≤ 2 ∧ (2 : Int) < ((L.length : Nat) : Int)) = true; rw [decide_eq_true_eq]; omega) (by rcases hd with rfl | rfl | rfl <;> simp [kB, oSpan]) (by rcases hd with rfl | rfl | rfl <;> simp [mkN, oSpan] <;> omega) (by rcases hd with rfl | rfl | rfl <;> simp [oSpan]) fun _ => hc)
    refine ⟨_, posR o r2 key, r3, ((rngP o r2 lo hi).length : Nat), rfl, ?_⟩
    simp only [runP, askOps, s0]
    rw [show (countP [[]] r1).2 = [[], r1] from rfl, s1, show (madeP (wasP o r1 key) [[], r1] [r2]).2 = [[], r1, r2] from rfl, s2]
    simp only
    rw [s3, show (madeP { Rep.zero with is := true, val := val } [[], r1, r2] [r3]).2 = [[], r1, r2, r3] from rfl, s4]
    simp only
    rw [s5, show (madeP { Rep.zero with is := true, val := val } [[], r1, r2, r3] [r4, r5]).2 = [[], r1, r2, r3, r4, r5] from rfl, s6, show (countP [[], r1, r2, r3, r4, r5] r3).2 = [[], r1, r2, r3, r4, r5, r3] from rfl, s7]
    simp only
    rw [s8]
    simp only
    rw [s9]
    simp only
    rw [ok 18 _ (by simp) (by simp) (by simp), show actP o [[], r1, r2, r3, r4, r5, r3] (oSpan 18 2 lo hi) (atL [[], r1, r2, r3, r4, r5, r3] 2) (atL [[], r1, r2, r3, r4, r5, r3] 0) = countP [[], r1, r2, r3, r4, r5, r3] (rngP o r2 lo hi) from rfl,
      show (countP [[], r1, r2, r3, r4, r5, r3] (rngP o r2 lo hi)).2 = [[], r1, r2, r3, r4, r5, r3, rngP o r2 lo hi] from rfl, ok 19 _ (by simp) (by simp) (by simp),
      show actP o [[], r1, r2, r3, r4, r5, r3, rngP o r2 lo hi] (oSpan 19 2 lo hi) (atL [[], r1, r2, r3, r4, r5, r3, rngP o r2 lo hi] 2) (atL [[], r1, r2, r3, r4, r5, r3, rngP o r2 lo hi] 0) = ({ Rep.zero with n := (rngP o r2 lo hi).length }, [[], r1, r2, r3, r4, r5, r3, rngP o r2 lo hi]) from rfl]
    simp only
    rw [ok 20 _ (by simp) (by simp) (by simp), show actP o [[], r1, r2, r3, r4, r5, r3, rngP o r2 lo hi] (oSpan 20 2 lo hi) (atL [[], r1, r2, r3, r4, r5, r3, rngP o r2 lo hi] 2) (atL [[], r1, r2, r3, r4, r5, r3, rngP o r2 lo hi] 0) =
      ({ Rep.zero with val := sumL ((rngP o r2 lo hi).map (·.2)) }, [[], r1, r2, r3, r4, r5, r3, rngP o r2 lo hi]) from rfl]
    rw [if_neg hc]
    exact ⟨rfl, rfl, rfl, ⟨rfl, rfl⟩, rfl, ⟨rfl, rfl⟩, ⟨rfl, rfl⟩, ⟨rfl, rfl, hr3⟩, ⟨rfl, rfl, hpos⟩, ⟨rfl, rfl, rfl, rfl, rfl⟩, ⟨_, rfl, rfl, by show (doP o [[], r1, r2] (oSelect 2 (posR o r2 key : Nat))).1.is = true; rw [t2']; rfl, by show (doP o [[], r1, r2] (oSelect 2 (posR o r2 key : Nat))).1.key = key; rw [t2']; rfl, by show (doP o [[], r1, r2] (oSelect 2 (posR o r2 key : Nat))).1.val = val; rw [t2']; rfl⟩⟩
end Go.Proofs.YtmdboekndjlmgaaGreat

namespace Go.Proofs.YtmdboekndjlmgaaGreat
open Go Go.Sh Go.RowKit

def aliveOps : List POp := [oBuild 3 [(1, 10), (2, 20)], oInsert 1 1 5 3, oKey 22 2 2, oSelect 1 2, oList 3]
def aliveReps : List Rep := [⟨0, false, 0, 0, 2, [1], []⟩, ⟨0, true, 0, 10, 0, [2], []⟩, ⟨0, true, 0, 20, 0, [3, 4], []⟩, ⟨320, false, 0, 0, 0, [], []⟩, ⟨0, false, 0, 0, 1, [], [(1, 15)]⟩]
theorem alive_run : runP 1 [[]] aliveOps = aliveReps := by kernel_rfl
theorem c_build38 {w : World} {R : EW} (h : ∀ b w', Ext w w' → Blk w' b #[.int .i64 1, .int .i64 10, .int .i64 2, .int .i64 20] 63 → w.heap.size ≤ b → R (.returned (opV (oBuild 3 [(1, 10), (2, 20)]) (.slice (some (blk b)) 2 2) (.slice none 0 0))) w') : Calls Tryz.prog 13 #[] w R := by
  refine sh13_ok ?_
  unfold sh13
  refine ⟨⟨?_⟩⟩
  have e1 := ext_alloc w (.cells #[.int .u8 0, .int .i64 0, .int .i64 0, .int .i64 0, .int .i64 0, .int .i64 0, .int .i64 0, .int .i64 0, .int .u8 0, .int .u8 0, .int .i64 0, .int .i64 0, .bool false, .slice none 0 0, .slice none 0 0] 30)
  have X1 := blk_alloc w #[.int .u8 0, .int .i64 0, .int .i64 0, .int .i64 0, .int .i64 0, .int .i64 0, .int .i64 0, .int .i64 0, .int .u8 0, .int .u8 0, .int .i64 0, .int .i64 0, .bool false, .slice none 0 0, .slice none 0 0] 30
  generalize w.alloc (.cells #[.int .u8 0, .int .i64 0, .int .i64 0, .int .i64 0, .int .i64 0, .int .i64 0, .int .i64 0, .int .i64 0, .int .u8 0, .int .u8 0, .int .i64 0, .int .i64 0, .bool false, .slice none 0 0, .slice none 0 0] 30) = w1 at *
  have e2 := ext_alloc w1 (.cells #[.int .i64 1, .int .i64 10, .int .i64 2, .int .i64 20] 63)
  have Y2 := blk_alloc w1 #[.int .i64 1, .int .i64 10, .int .i64 2, .int .i64 20] 63
  have X2 := X1.ext e2
  have l1 := X1.lt
  generalize w1.alloc (.cells #[.int .i64 1, .int .i64 10, .int .i64 2, .int .i64 20] 63) = w2 at *
  refine st15 X2 fun w3 X3 g3 => ?_
  exact ⟨_, X3.cell (i := 0) rfl rfl, _, X3.cell (i := 1) rfl rfl, _, X3.cell (i := 2) rfl rfl, _, X3.cell (i := 3) rfl rfl, _, X3.cell (i := 4) rfl rfl, _, X3.cell (i := 5) rfl rfl, _, X3.cell (i := 6) rfl rfl, _, X3.cell (i := 7) rfl rfl, _, X3.cell (i := 8) rfl rfl, _, X3.cell (i := 9) rfl rfl, _, X3.cell (i := 10) rfl rfl, _, X3.cell (i := 11) rfl rfl, _, X3.cell (i := 12) rfl rfl, _, _, _, X3.cell (i := 13) rfl rfl, _, _, _, X3.cell (i := 14) rfl rfl, h _ w3 ((e1.trans e2).st g3 (Nat.le_refl _)) (Y2.grown g3 (ne_some (by omega))) e1.size⟩
end Go.Proofs.YtmdboekndjlmgaaGreat

namespace Go.Sh
open Go Go.RowKit Go.ChangeShapes Go.WideShapes Go.Deep

theorem cs_flat {α : Type} {enc : α → List Value} {s : Nat} (hs : ∀ x, (enc x).length = s) {w : World} {a : Addr} {l : List α}
    (h : ∀ i (hi : i < l.length), ∀ j, j < s → w.cell? (a.add (i * s + j)) = (enc l[i])[j]?) : Cs w (some a) (l.flatMap enc) := by
  induction l generalizing a with
  | nil => intro i v hv; simp at hv
  | cons x xs ih =>
    intro i v hv
    refine ⟨a, rfl, ?_⟩
    rw [List.flatMap_cons] at hv
    rcases Nat.lt_or_ge i s with hi | hi
    · rw [List.getElem?_append_left (by rw [hs]; exact hi)] at hv
      have := h 0 (by simp) i hi
      simp only [Nat.zero_mul, Nat.zero_add, List.getElem_cons_zero] at this
      rw [this]; exact hv
    · rw [List.getElem?_append_right (by rw [hs]; exact hi), hs] at hv
      have := ih (a := a.add s) (fun i hi j hj => by
        have := h (i + 1) (by simpa using hi) j hj
        simp only [List.getElem_cons_succ] at this
        rw [Sh.add_add, show s + (i * s + j) = (i + 1) * s + j by rw [Nat.add_mul]; omega]
        exact this) (i - s) v hv
      obtain ⟨b, hb, hc⟩ := this
      cases hb
      rw [Sh.add_add, show s + (i - s) = i by omega] at hc
      exact hc
theorem list_of {α : Type} {p : Nat → α → Prop} (n : Nat) (h : ∀ i, i < n → ∃ x, p i x) : ∃ l : List α, l.length = n ∧ ∀ i (hi : i < l.length), p i l[i] := by
  induction n with
  | zero => exact ⟨[], rfl, fun i hi => by simp at hi⟩
  | succ n ih =>
    obtain ⟨l, hl, hp⟩ := ih fun i hi => h i (by omega)
    obtain ⟨x, hx⟩ := h n (by omega)
    refine ⟨l ++ [x], by simp [hl], fun i hi => ?_⟩
    rcases Nat.lt_or_ge i l.length with h1 | h1
    · rw [List.getElem_append_left h1]; exact hp i h1
    · have : i = l.length := by simp at hi; omega
      subst this
      simp [hl]; exact hx
variable {H : Type} {enc : TypeId × Value → H} {P : Program} {w : World} {base : Nat} {spare : Nat → Bool} {held : Bool}
theorem arg_slice {α : Type} {ec : α → List Value} {Pr : α → Prop} {s : Nat} (hs : ∀ x, (ec x).length = s) {t e : TypeId} (ht : P.underlying t = some (.slice e)) (hc : P.cellsOf e = s)
    (hdec : ∀ n cs y, DataW.trod enc P w base spare held n e cs = some y → ∃ x : α, cs = ec x ∧ Pr x) {q : OA} {len cap : Nat} {d : DataW H} {p : List MemPlace} (h : DataW.Trod enc P w base spare held t (.slice q len cap) d p) :
    ∃ l : List α, l.length = len ∧ Cs w q (l.flatMap ec) ∧ (∀ x ∈ l, Pr x) ∧ len ≤ cap ∧ cap ≤ maxLen ∧ (q = none → len = 0 ∧ cap = 0) := by
  obtain ⟨fuel, hf⟩ := h
  rcases open_slice ht hf with ⟨hcs, _⟩ | ⟨a, l', c', m, n, D, Pl, hcs, hb, hl, hm, hmm, hx, hi⟩
  · simp [Value.cells] at hcs
    obtain ⟨rfl, rfl, rfl⟩ := hcs
    exact ⟨[], rfl, Sh.cs_nil _ _, by simp, Nat.le_refl _, Nat.zero_le _, fun _ => ⟨rfl, rfl⟩⟩
  · simp [Value.cells] at hcs
    obtain ⟨rfl, rfl, rfl⟩ := hcs
    have hlm : len ≤ m := by rw [hmm]; split <;> omega
    obtain ⟨l, hll, hp⟩ := list_of (p := fun i (x : α) => (∀ j, j < s → w.cell? (a.add (i * s + j)) = (ec x)[j]?) ∧ Pr x) len (fun i hil => by
      obtain ⟨cs', hcc, htr⟩ := hi i (by omega)
      rw [hc] at hcc
      obtain ⟨_, hcl, hat⟩ := World.cells?_some hcc
      obtain ⟨x, rfl, hpx⟩ := hdec _ _ _ htr
      refine ⟨x, fun j hj => ?_, hpx⟩
      rw [← Sh.add_add]; exact hat j hj)
    refine ⟨l, hll, cs_flat hs fun i hi j hj => (hp i hi).1 j hj, fun x hx => ?_, hl, hm, by simp⟩
    obtain ⟨i, hi, rfl⟩ := List.getElem_of_mem hx
    exact (hp i hi).2
theorem in64_of {x : Int} (h : (Lit.int .i64 x).wf = true) : -9223372036854775808 ≤ x ∧ x < 9223372036854775808 := by
  simp [Lit.wf, IntKind.min, IntKind.max, IntKind.signed, IntKind.bits] at h
  omega
theorem u8_of {x : Int} (h : (Lit.int .u8 x).wf = true) : 0 ≤ x ∧ x < 256 := by
  simp [Lit.wf, IntKind.min, IntKind.max, IntKind.signed, IntKind.bits] at h
  omega
theorem dec_int2 {e i : TypeId} {f0 f1 : Field} (he : P.underlying e = some (.struct #[f0, f1])) (h0 : f0.offset = 0) (h1 : f1.offset = 1) (hi : P.underlying i = some (.int .i64)) (ht0 : f0.type = i) (ht1 : f1.type = i) (hce : P.cellsOf e = 2) (hci : P.cellsOf i = 1)
    (n : Nat) (cs : List Value) (y : DataW H × List MemPlace) (h : DataW.trod enc P w base spare held n e cs = some y) :
    ∃ x : Int × Int, cs = [.int .i64 x.1, .int .i64 x.2] ∧ ((-9223372036854775808 ≤ x.1 ∧ x.1 < 9223372036854775808) ∧ (-9223372036854775808 ≤ x.2 ∧ x.2 < 9223372036854775808)) := by
  obtain ⟨y0, y1, n', hx, hl, hf0, hf1⟩ := trod_struct2 he h
  rw [hce] at hl
  match cs, hl with
  | [c0, c1], _ =>
    rw [h0, ht0, hci] at hf0
    rw [h1, ht1, hci] at hf1
    obtain ⟨m0, hc0, _, hw0⟩ := DataW.trod_int hi hf0
    obtain ⟨m1, hc1, _, hw1⟩ := DataW.trod_int hi hf1
    simp at hc0 hc1
    subst hc0 hc1
    exact ⟨(m0, m1), rfl, in64_of hw0, in64_of hw1⟩
end Go.Sh

namespace Go.Proofs.YtmdboekndjlmgaaGreat
open Go Go.Sh Go.RowKit Go.ChangeShapes Go.WideShapes

variable {H : Type} {enc : TypeId × Value → H} {w : World} {base : Nat} {spare : Nat → Bool} {held : Bool}
def Is_pairs (w : World) (q : OA) (len cap : Nat) (l : List Pr) : Prop := l.length = len ∧ Cs w q (prs l) ∧ InP l ∧ len ≤ cap ∧ cap ≤ maxLen ∧ (q = none → len = 0 ∧ cap = 0)
theorem pairs_arg {q : OA} {len cap : Nat} {d : DataW H} {p : List MemPlace} (h : DataW.Trod enc Tryz.prog w base spare held 22 (.slice q len cap) d p) : ∃ l : List Pr, Is_pairs w q len cap l :=
  arg_slice (ec := fun x : Pr => [.int .i64 x.1, .int .i64 x.2]) (Pr := fun x => In x.1 ∧ In x.2) (s := 2) (fun _ => rfl) Tryz.underlying22 (by kernel_rfl)
    (dec_int2 Tryz.underlying63 rfl rfl Tryz.underlying2 rfl rfl (by kernel_rfl) (by kernel_rfl)) h
end Go.Proofs.YtmdboekndjlmgaaGreat

namespace Go.Proofs.YtmdboekndjlmgaaGreat
open Go Go.Sh Go.RowKit Go.ChangeShapes Go.WideShapes Go.Deep

variable {H : Type} {enc : TypeId × Value → H} {P : Program} {w : World} {base : Nat} {spare : Nat → Bool} {held : Bool}
end Go.Proofs.YtmdboekndjlmgaaGreat

namespace Go.Proofs.YtmdboekndjlmgaaGreat
open Go Go.Sh Go.RowKit Go.ChangeShapes Go.WideShapes Go.Deep

variable {H : Type} {enc : TypeId × Value → H} {P : Program} {w : World} {base : Nat} {spare : Nat → Bool} {held : Bool}
theorem rd_lt {w : World} {p : OA} {cs : List Value} (h : Cs w p cs) : ∀ d, p = some d → cs ≠ [] → d.block < w.heap.size := fun d hd hne => by
  match cs, hne with
  | v :: vs, _ =>
    obtain ⟨a, ha, hc⟩ := h 0 v rfl
    rw [hd] at ha
    cases ha
    have := World.block_lt_of_cell? _ _ hc
    rwa [add_block] at this
end Go.Proofs.YtmdboekndjlmgaaGreat

namespace Go.Proofs.YtmdboekndjlmgaaGreat
open Go Go.Sh Go.RowKit

theorem do_al {cs : Array Value} {t : TypeId} {w : World} {K : Nat → World → Prop} (h : ∀ b w', Ext w w' → Blk w' b cs t → w.heap.size ≤ b → K b w') : doAl (.cells cs t) w K := ⟨h _ _ (ext_alloc _ _) (blk_alloc _ _ _) (Nat.le_refl _)⟩
theorem cs_blk {w : World} {b : Nat} {cs : Array Value} {t : TypeId} (h : Blk w b cs t) : Cs w (some (blk b)) cs.toList := fun i v hv => ⟨_, rfl, h.cell (add_blk b i) (by simpa using hv)⟩
def OpIn (w : World) (e : OpE) : Prop := InO e.1 ∧ OpRd w e.1 e.2.1 e.2.2 ∧ e.1.pairs.length ≤ 5000 ∧ e.1.keys.length ≤ 5000
def opN (x : POp) : OpE := (x, .slice none 0 0, .slice none 0 0)
theorem opin_nil {w : World} {x : POp} (h : InO x) (h1 : x.pairs = []) (h2 : x.keys = []) : OpIn w (opN x) := by
  obtain ⟨a0, a1, a2, a3, a4, a5, a6, a7, a8, a9, a10, a11, a12, a13, a14⟩ := x
  simp only at h1 h2
  subst h1 h2
  exact ⟨h, ⟨⟨none, 0, rfl, Nat.le_refl _, cs_nil _ _, fun d h => (by cases h)⟩, ⟨none, 0, rfl, Nat.le_refl _, cs_nil _ _, fun d h => (by cases h)⟩⟩, Nat.zero_le _, Nat.zero_le _⟩
theorem opin_build {w : World} {p : Int} {l : List Pr} {q : OA} {n c : Nat} (hp : 0 ≤ p ∧ p < 256) (hl : InP l) (hn : l.length = n) (hc : n ≤ c) (hz : n ≤ 5000) (h : Cs w q (prs l)) : OpIn w (oBuild p l, .slice q n c, .slice none 0 0) := by
  subst hn
  exact ⟨ino_build hp hl, ⟨⟨q, c, rfl, hc, h, rd_lt h⟩, ⟨none, 0, rfl, Nat.le_refl _, cs_nil _ _, fun d h => (by cases h)⟩⟩, hz, Nat.zero_le _⟩
def kOf (ops : List OpE) : List Int := (ops.map (·.1)).flatMap newK
theorem kOf_mem {ops : List OpE} : ∀ e ∈ ops, ∀ k ∈ newK e.1, k ∈ kOf ops := fun e he k hk => List.mem_flatMap.2 ⟨e.1, List.mem_map.2 ⟨e, he, rfl⟩, hk⟩
theorem RowAt.rd {own : World → Nat → Prop} {bb : Nat} {w : World} {v : Value} {n : Nat} {xs : List Value} (h : RowAt own bb w v n xs) : ∃ q c, v = .slice q n c ∧ Cs w q xs := by
  obtain ⟨q, c, e, _, h, _⟩ := h
  exact ⟨q, c, e, h⟩
theorem alive_in : InP [((1 : Int), (10 : Int)), (2, 20)] := by
  intro x hx
  simp only [List.mem_cons, List.not_mem_nil, or_false] at hx
  rcases hx with rfl | rfl <;> exact ⟨by unfold In; decide, by unfold In; decide⟩
def aliveE (b : Nat) : List OpE := [(oBuild 3 [(1, 10), (2, 20)], .slice (some (blk b)) 2 2, .slice none 0 0), opN (oInsert 1 1 5 3), opN (oKey 22 2 2), opN (oSelect 1 2), opN (oList 3)]
def aliveF (a b c d : Nat) : List Ent :=
  [(⟨0, false, 0, 0, 2, [1], []⟩, .slice (some (blk a)) 1 1, .slice none 0 0), (⟨0, true, 0, 10, 0, [2], []⟩, .slice (some (blk b)) 1 1, .slice none 0 0), (⟨0, true, 0, 20, 0, [3, 4], []⟩, .slice (some (blk c)) 2 2, .slice none 0 0), (⟨320, false, 0, 0, 0, [], []⟩, .slice none 0 0, .slice none 0 0),
    (⟨0, false, 0, 0, 1, [], [(1, 15)]⟩, .slice none 0 0, .slice (some (blk d)) 1 1)]
theorem c_alive38 {w : World} {R : EW} (h : ∀ w', Ext w w' → R (.returned (.bool true)) w') : Calls Tryz.prog 6 #[] w R := by
  refine sh6_ok ?_
  unfold sh6
  refine do_call Tryz.call13 (c_build38 fun b w1 e1 hb1 _ => retS_ret ⟨8, 0, 0, 0, 0, 0, 0, 0, 3, 0, 0, 0, false, some (blk b), 2, 2, none, 0, 0, rfl, do_al fun b2 w2 e2 X2 _ => ?_⟩)
  have hc : Cs w2 (some (blk b2)) ((aliveE b).flatMap opC) := cs_blk X2
  have hp : Cs w2 (some (blk b)) (prs [(1, 10), (2, 20)]) := (cs_blk hb1).ext e2
  have i1 : In 1 := by unfold In; omega
  have i2 : In 2 := by unfold In; omega
  have i3 : In 3 := by unfold In; omega
  have i5 : In 5 := by unfold In; omega
  have hin : ∀ e ∈ aliveE b, OpIn w2 e := List.forall_mem_cons.2 ⟨opin_build (by omega) alive_in rfl (by omega) (by omega) hp,
    List.forall_mem_cons.2 ⟨opin_nil (ino_insert i1 i1 i5 (by omega)) rfl rfl, List.forall_mem_cons.2 ⟨opin_nil (ino_key (by omega) i2 i2) rfl rfl, List.forall_mem_cons.2 ⟨opin_nil (ino_select i1 i2) rfl rfl, List.forall_mem_cons.2 ⟨opin_nil (ino_list i3) rfl rfl, fun _ h => (by cases h)⟩⟩⟩⟩⟩
  refine do_call Tryz.call7 (c_prun (ops := aliveE b) (KK := kOf (aliveE b)) (o := 1) (by decide) hc rfl (by omega) hin kOf_mem (by show (kOf (aliveE 0)).length ≤ 5000; decide) fun p c Es bb w3 e3 hrun row hrd => retS_ret ⟨_, _, _, rfl, do_al fun b4 w4 e4 X4 _ => do_al fun b5 w5 e5 X5 _ => do_al fun b6 w6 e6 X6 _ => do_al fun b7 w7 e7 X7 _ => do_al fun b8 w8 e8 X8 _ => ?_⟩)
  have hr2 : Es.map (·.1) = aliveReps := hrun.trans alive_run
  have E38 := (((e4.trans e5).trans e6).trans e7).trans e8
  have hz : ∀ r ∈ aliveReps, r.new.length ≤ 1000000 ∧ r.pairs.length ≤ 1000000 := by
    intro r hr
    simp only [aliveReps, List.mem_cons, List.not_mem_nil, or_false] at hr
    rcases hr with rfl | rfl | rfl | rfl | rfl <;> simp
  refine do_call Tryz.call17 (c_ssame (Es := Es) (Fs := aliveF b4 b5 b6 b7) (by omega) (by have := congrArg List.length hr2; simpa [aliveReps] using this) rfl ((Cs.of_row row).ext E38) (cs_blk X8) (hr2.trans rfl) (fun e he => ?_) ?_ fun w9 e9 => retS_ret ⟨_, rfl, h w9 ((((e1.trans e2).trans e3).trans E38).trans e9)⟩)
  · obtain ⟨q1, c1, en, g1⟩ := (hrd e he).1.rd
    obtain ⟨q2, c2, ep, g2⟩ := (hrd e he).2.rd
    have := hz e.1 (by rw [← hr2]; exact List.mem_map.2 ⟨e, he, rfl⟩)
    exact ⟨q1, c1, q2, c2, en, ep, g1.ext E38, g2.ext E38, this.1, this.2⟩
  · refine List.forall_mem_cons.2 ⟨⟨some (blk b4), 1, none, 0, rfl, rfl, (cs_blk X4).ext (((e5.trans e6).trans e7).trans e8), cs_nil _ _, Nat.le_of_ble_eq_true rfl, Nat.le_of_ble_eq_true rfl⟩, List.forall_mem_cons.2 ⟨⟨some (blk b5), 1, none, 0, rfl, rfl, (cs_blk X5).ext ((e6.trans e7).trans e8), cs_nil _ _, Nat.le_of_ble_eq_true rfl, Nat.le_of_ble_eq_true rfl⟩,
      List.forall_mem_cons.2 ⟨⟨some (blk b6), 2, none, 0, rfl, rfl, (cs_blk X6).ext (e7.trans e8), cs_nil _ _, Nat.le_of_ble_eq_true rfl, Nat.le_of_ble_eq_true rfl⟩, List.forall_mem_cons.2 ⟨⟨none, 0, none, 0, rfl, rfl, cs_nil _ _, cs_nil _ _, Nat.le_of_ble_eq_true rfl, Nat.le_of_ble_eq_true rfl⟩,
      List.forall_mem_cons.2 ⟨⟨none, 0, some (blk b7), 1, rfl, rfl, cs_nil _ _, (cs_blk X7).ext e8, Nat.le_of_ble_eq_true rfl, Nat.le_of_ble_eq_true rfl⟩, fun _ h => (by cases h)⟩⟩⟩⟩⟩
end Go.Proofs.YtmdboekndjlmgaaGreat

