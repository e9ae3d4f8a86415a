/-
  Ops are run, by a book of versions.
-/
import Derived.Test.YtmdboekndjlmgaaGreatZ28
import Derived.Test.YtmdboekndjlmgaaGreatZ25
import Derived.Test.YtmdboekndjlmgaaGreatZ03
import Derived.Deep.Slices
import Derived.Deep.Fields
import Derived.ChangeSame
import Derived.Lib.SmallJoins
import Derived.Test.YtmdboekndjlmgaaGreatZ20
import Derived.Test.YtmdboekndjlmgaaGreatZ23
import Derived.SizedLaws

set_option maxRecDepth 100000
set_option maxHeartbeats 6400000
namespace Go.Proofs.YtmdboekndjlmgaaGreat
open Go Go.Sh Go.RowKit

abbrev Ent := Rep × Value × Value
def entC (e : Ent) : List Value := [.int .i64 e.1.err, .bool e.1.is, .int .i64 e.1.key, .int .i64 e.1.val, .int .i64 e.1.n, e.2.1, e.2.2]
abbrev OpE := POp × Value × Value
def opC (e : OpE) : List Value := (opCells e.1 e.2.1 e.2.2).toList
theorem elR : ElT Tryz.prog 24 34 (.agg #[.int .i64 0, .bool false, .int .i64 0, .int .i64 0, .int .i64 0, .slice none 0 0, .slice none 0 0]) 7 88 := ⟨Tryz.underlying24, ⟨_, Tryz.type34, by kernel_rfl, by kernel_rfl, by kernel_rfl⟩, rfl, by omega⟩
theorem do_len (o : Int) (L : Rows) (x : POp) : L.length ≤ (doP o L x).2.length ∧ (doP o L x).2.length ≤ L.length + 2 := by
  unfold doP
  split
  · unfold actP
    split <;> simp only [madeP, countP, List.length_append, List.length_cons, List.length_nil] <;> omega
  · exact ⟨Nat.le_refl _, Nat.le_add_right _ _⟩
theorem RowAt.gro {own : World → Nat → Prop} {bb : Nat} {w w' : World} {v : Value} {n : Nat} {xs : List Value} {r : Option Nat} (h : RowAt own bb w v n xs) (g : w.grownBy w' r) (hr : ∀ a n c, v = .slice (some a) n c → xs ≠ [] → r ≠ some a.block) (ho : ∀ k, own w' k → own w k) : RowAt own bb w' v n xs := by
  obtain ⟨q, c, rfl, h1, h2, h3⟩ := h
  refine ⟨q, c, rfl, h1, fun i u hu => ?_, fun a ha hz => ⟨fun hk => (h3 a ha hz).1 (ho _ hk), (h3 a ha hz).2.1, Nat.lt_of_lt_of_le (h3 a ha hz).2.2 g.size⟩⟩
  obtain ⟨a, ha, hc⟩ := h2 i u hu
  refine ⟨a, ha, ?_⟩
  rw [World.cell?_of_block (g.block _ (World.block_lt_of_cell? _ _ hc) fun e => hr a n c (by rw [ha]) (by rintro rfl; simp at hu) (by rw [add_block] at e; exact e.symm))]
  exact hc
structure RunI (bb : Nat) (o : Int) (KK : List Int) (xs : List POp) (Es : List Ent) (L : Rows) (p : OA) (k c : Nat) (w0 w : World) : Prop where
  B : BookN (fun j => (Value.slice p k c).ownBlock ≠ some j) w bb o L
  ok : OkL o KK L
  l0 : 0 < L.length
  l1 : L.length ≤ 1 + 2 * k
  row : w.ownsRow w0.heap.size 34 7 (.slice p k c) k (Es.flatMap entC)
  no : ∀ j, (Value.slice p k c).ownBlock = some j → ¬ BkOwn bb w j
  rows : ∀ e ∈ Es, RowAt (BkOwn bb) bb w e.2.1 e.1.new.length (ints e.1.new) ∧ RowAt (BkOwn bb) bb w e.2.2 e.1.pairs.length (prs e.1.pairs) ∧ (∀ a n d, e.2.1 = .slice (some a) n d → ints e.1.new ≠ [] → (Value.slice p k c).ownBlock ≠ some a.block) ∧ ∀ a n d, e.2.2 = .slice (some a) n d → prs e.1.pairs ≠ [] → (Value.slice p k c).ownBlock ≠ some a.block
  run : Es.map (·.1) ++ runP o L (xs.drop k) = runP o [[]] xs
  E : Ext w0 w
  hi : ∀ j, BkOwn bb w j → w0.heap.size ≤ j
theorem RunI.ext {bb : Nat} {o : Int} {KK : List Int} {xs : List POp} {Es : List Ent} {L : Rows} {p : OA} {k c : Nat} {w0 w w' : World} (I : RunI bb o KK xs Es L p k c w0 w) (e : Ext w w') : RunI bb o KK xs Es L p k c w0 w' :=
  ⟨I.B.ext e, I.ok, I.l0, I.l1, e.row I.row, fun j hj hk => I.no j hj ((I.B.own_ext e j).1 hk), fun x hx => ⟨(I.rows x hx).1.ext' I.B e, (I.rows x hx).2.1.ext' I.B e, (I.rows x hx).2.2⟩, I.run, I.E.trans e, fun j hj => I.hi j ((I.B.own_ext e j).1 hj)⟩
theorem RunI.step {bb : Nat} {o : Int} {KK : List Int} {xs : List POp} {Es : List Ent} {L L' : Rows} {p p' : OA} {k c c' : Nat} {w0 w4 w5 w6 w7 : World} {x : POp} {r : Rep} {nv pv : Value} (I : RunI bb o KK xs Es L p k c w0 w4) (hk : k < xs.length) (hx : xs[k] = x)
    (hd : doP o L x = (r, L')) (hok : OkL o KK L') (hB5 : BookN (fun j => (Value.slice p k c).ownBlock ≠ some j) w5 bb o L') (hC : Chg (BkOwn bb) (fun _ => False) w4 w5) (h1 : RowAt (BkOwn bb) bb w5 nv r.new.length (ints r.new)) (h2 : RowAt (BkOwn bb) bb w5 pv r.pairs.length (prs r.pairs)) (n1 : AbN w4.heap.size nv) (n2 : AbN w4.heap.size pv)
    (e6 : Ext w5 w6) (row7 : w7.ownsRow w0.heap.size 34 7 (.slice p' (k + 1) c') (k + 1) (Es.flatMap entC ++ entC (r, nv, pv))) (g7 : w6.grownBy w7 (Value.slice p k c).ownBlock) (n7 : ∀ b, (Value.slice p' (k + 1) c').ownBlock = some b → (Value.slice p k c).ownBlock = some b ∨ w6.heap.size ≤ b) :
    RunI bb o KK xs (Es ++ [(r, nv, pv)]) L' p' (k + 1) c' w0 w7 := by
  have B6 := hB5.ext e6
  have no5 : ∀ j, (Value.slice p k c).ownBlock = some j → ¬ BkOwn bb w5 j := fun j hj hk => hC.out j (I.row.lt j hj).2 (I.no j hj) hk
  have no6 : ∀ j, (Value.slice p k c).ownBlock = some j → ¬ BkOwn bb w6 j := fun j hj hk => no5 j hj ((hB5.own_ext e6 j).1 hk)
  have B7 := B6.top.st g7 fun b hb => ⟨fun hp => hp.1 hb, no6 b hb⟩
  have s5 : w4.heap.size ≤ w5.heap.size := hC.size
  have s6 := e6.size
  have hl : L.length ≤ L'.length ∧ L'.length ≤ L.length + 2 := by
    have := do_len o L x
    rw [hd] at this
    exact this
  have R6 : ∀ {v : Value} {n : Nat} {us : List Value}, RowAt (BkOwn bb) bb w5 v n us → (∀ a n d, v = .slice (some a) n d → us ≠ [] → (Value.slice p k c).ownBlock ≠ some a.block) → RowAt (BkOwn bb) bb w7 v n us ∧ ∀ a n d, v = .slice (some a) n d → us ≠ [] → (Value.slice p' (k + 1) c').ownBlock ≠ some a.block := fun {v n us} hv hn => by
    have h6 := hv.ext' hB5 e6
    refine ⟨h6.gro g7 hn fun j hj => (B7.2 j).1 hj, fun a n d e hz hb => ?_⟩
    rcases n7 _ hb with hb | hb
    · exact hn a n d e hz hb
    · obtain ⟨q, d', e', _, _, hq⟩ := h6
      rw [e] at e'
      injection e' with e1
      have := (hq a e1.symm hz).2.2
      omega
  have old : ∀ {v : Value}, AbN w4.heap.size v → ∀ a n d, v = .slice (some a) n d → (Value.slice p k c).ownBlock ≠ some a.block := fun hn a n d e hb => by
    have := hn a n d e
    have := (I.row.lt _ hb).2
    omega
  have E5 : Ext w0 w5 := by
    have s := I.E.size
    have b := hC.ext (B := w0.heap.size) (fun j hj hk => by have := I.hi j hk; omega) (fun _ _ h => h) s
    exact ⟨b.os.trans I.E.os, b.tape.trans I.E.tape, b.output.trans I.E.output, Nat.le_trans s b.size, fun j hj => (b.block j hj).trans (I.E.block j hj)⟩
  refine ⟨B7.1.up fun j hj hb => ?_, hok, by have := I.l0; omega, by have := I.l1; omega, by rw [List.flatMap_append]; simpa using row7, fun j hj hk => ?_, fun e he => ?_, ?_, (E5.trans e6).grown g7 fun b hb => (I.row.lt b hb).1, fun j hj => ?_⟩
  · rcases n7 j hb with h | h
    · exact hj.1 h
    · have := hj.2; omega
  · have h6 := (B7.2 j).1 hk
    rcases n7 j hj with h | h
    · exact no6 j h h6
    · have := B6.lt h6; omega
  · rcases List.mem_append.1 he with he | he
    · obtain ⟨a1, a2, a3⟩ := I.rows e he
      have b1 := R6 (a1.chg (chg0 hC)) a3.1
      have b2 := R6 (a2.chg (chg0 hC)) a3.2
      exact ⟨b1.1, b2.1, b1.2, b2.2⟩
    · obtain rfl : e = (r, nv, pv) := by simpa using he
      have b1 := R6 h1 fun a n d h _ => old n1 a n d h
      have b2 := R6 h2 fun a n d h _ => old n2 a n d h
      exact ⟨b1.1, b2.1, b1.2, b2.2⟩
  · have hr := I.run
    rw [List.drop_eq_getElem_cons hk, hx, runP, hd] at hr
    rw [List.map_append, ← hr, List.append_assoc]
    rfl
  · have h5 := (hB5.own_ext e6 j).1 ((B7.2 j).1 hj)
    rcases Nat.lt_or_ge j w4.heap.size with hj4 | hj4
    · by_cases h4 : BkOwn bb w4 j
      · exact I.hi j h4
      · exact absurd h5 (hC.out j hj4 h4)
    · have := I.E.size; omega
theorem c_prun {o : Int} {KK : List Int} {ops : List OpE} {lp : OA} {n lc : Nat} {w : World} {R : EW} (ho : isO o = true) (hl : Cs w lp (ops.flatMap opC)) (hn : ops.length = n) (hz : n ≤ 100)
    (hin : ∀ e ∈ ops, InO e.1 ∧ OpRd w e.1 e.2.1 e.2.2 ∧ e.1.pairs.length ≤ 5000 ∧ e.1.keys.length ≤ 5000) (hK : ∀ e ∈ ops, ∀ k ∈ newK e.1, k ∈ KK) (zK : KK.length ≤ 5000)
    (h : ∀ p c (Es : List Ent) bb w', Ext w w' → Es.map (·.1) = runP o [[]] (ops.map (·.1)) → w'.ownsRow w.heap.size 34 7 (.slice p n c) n (Es.flatMap entC) →
      (∀ e ∈ Es, RowAt (BkOwn bb) bb w' e.2.1 e.1.new.length (ints e.1.new) ∧ RowAt (BkOwn bb) bb w' e.2.2 e.1.pairs.length (prs e.1.pairs)) → R (.returned (.slice p n c)) w') :
    Calls Tryz.prog 7 #[.int .u8 o, .slice lp n lc] w R := by
  refine sh7_ok _ _ _ _ ?_
  unfold sh7
  refine do_call Tryz.call16 (c_pnew (fun w1 e1 hf => by rw [ho] at hf; cases hf) fun bb w1 _ hB e1 hown => retS_ret ⟨_, _, rfl, ?_⟩)
  refine ⟨fun vs w' => ∃ (k : Nat) (p : OA) (c : Nat) (Es : List Ent) (L : Rows), vs = [.slice p k c, .int .i64 (k : Int)] ∧ k ≤ n ∧ RunI bb o KK (ops.map (·.1)) Es L p k c w w',
    fun vs _ => match vs with | [_, .int _ i] => n - i.toNat | _ => 0, ⟨0, none, 0, [], [[]], rfl, Nat.zero_le _, ⟨hB.up fun _ _ => (fun hh => (by cases hh)), OkL.one (mayR_nil ho) (by intro x hx; cases hx) (by intro y hy; cases hy), (by decide), (by decide), World.ownsRow_nil _ _ _ _, fun j hj => (by cases hj), fun e he => (by cases he), rfl, e1, hown⟩⟩, ?_⟩
  rintro p k c i_ _ w3 ⟨k0, p0, c0, Es, L, hv, hk, I⟩
  simp only [List.cons.injEq, Value.int.injEq, Value.slice.injEq, true_and, and_true] at hv
  obtain ⟨⟨rfl, rfl, rfl⟩, rfl⟩ := hv
  refine ifB_intro (fun z => ?_) fun z => ?_
  · have z : k < n := by have := of_decide_eq_true z; omega
    have hkl : k < ops.length := by omega
    intro K21
    refine ix_flat (ec := opC) (s := 15) (fun _ => rfl) (by omega) (hl.ext I.E) hn (k := k) rfl z fun a1 r1 _ => ?_
    have hin' := hin ops[k] (List.getElem_mem hkl)
    have hKk := hK ops[k] (List.getElem_mem hkl)
    have hxk : (ops.map (·.1))[k]'(by simpa using hkl) = ops[k].1 := List.getElem_map ..
    generalize ops[k] = e at *
    obtain ⟨x, pv, kv⟩ := e
    obtain ⟨hx, hO, zp, zk⟩ := hin'
    obtain ⟨pp, pc, e1p, hp1, hp2, hp3⟩ := hO.p
    obtain ⟨kp, kc, e1k, hk1, hk2, hk3⟩ := hO.k
    simp only at e1p e1k hx zp zk hKk hxk hp1 hp2 hk1 hk2
    subst e1p e1k
    refine ⟨_, r1 0 _ rfl, _, r1 1 _ rfl, _, r1 2 _ rfl, _, r1 3 _ rfl, _, r1 4 _ rfl, _, r1 5 _ rfl, _, r1 6 _ rfl, _, r1 7 _ rfl, _, r1 8 _ rfl, _, r1 9 _ rfl, _, r1 10 _ rfl, _, r1 11 _ rfl, _, r1 12 _ rfl, _, _, _, r1 13 _ rfl, _, _, _, r1 14 _ rfl, ⟨?_⟩⟩
    have e4 := ext_alloc w3 (.cells #[.int .u8 0, .int .i64 0, .int .i64 0, .int .i64 0, .int .i64 0, .int .i64 0, .int .i64 0, .int .i64 0, .int .u8 0, .int .u8 0, .int .i64 0, .int .i64 0, .bool false, .slice none 0 0, .slice none 0 0] 30)
    have X4 := blk_alloc w3 #[.int .u8 0, .int .i64 0, .int .i64 0, .int .i64 0, .int .i64 0, .int .i64 0, .int .i64 0, .int .i64 0, .int .u8 0, .int .u8 0, .int .i64 0, .int .i64 0, .bool false, .slice none 0 0, .slice none 0 0] 30
    generalize hb4 : w3.heap.size = b4 at *
    generalize w3.alloc (.cells #[.int .u8 0, .int .i64 0, .int .i64 0, .int .i64 0, .int .i64 0, .int .i64 0, .int .i64 0, .int .i64 0, .int .u8 0, .int .u8 0, .int .i64 0, .int .i64 0, .bool false, .slice none 0 0, .slice none 0 0] 30) = w4 at *
    refine st15 X4 fun w5 X5 g5 => ?_
    have E45 : Ext w3 w5 := e4.st g5 (by omega)
    refine ifB_f rfl ?_
    have I5 := I.ext E45
    have hbb : w.heap.size ≤ bb := I5.hi bb (.inl rfl)
    have rp : RowAt (BkOwn bb) bb w5 (.slice pp x.pairs.length pc) x.pairs.length (prs x.pairs) := ⟨pp, pc, rfl, hp1, hp2.ext I5.E, fun a ha hz => ⟨fun hk => by have := I5.hi _ hk; have := hp3 a ha hz; omega, by have := hp3 a ha hz; omega, Nat.lt_of_lt_of_le (hp3 a ha hz) I5.E.size⟩⟩
    have rk : RowAt (BkOwn bb) bb w5 (.slice kp x.keys.length kc) x.keys.length (ints x.keys) := ⟨kp, kc, rfl, hk1, hk2.ext I5.E, fun a ha hz => ⟨fun hk => by have := I5.hi _ hk; have := hk3 a ha hz; omega, by have := hk3 a ha hz; omega, Nat.lt_of_lt_of_le (hk3 a ha hz) I5.E.size⟩⟩
    have l1 := I5.l1
    refine ⟨_, X5.cell (i := 0) rfl rfl, _, X5.cell (i := 1) rfl rfl, _, X5.cell (i := 2) rfl rfl, _, X5.cell (i := 3) rfl rfl, _, X5.cell (i := 4) rfl rfl, _, X5.cell (i := 5) rfl rfl, _, X5.cell (i := 6) rfl rfl, _, X5.cell (i := 7) rfl rfl, _, X5.cell (i := 8) rfl rfl, _, X5.cell (i := 9) rfl rfl, _, X5.cell (i := 10) rfl rfl, _, X5.cell (i := 11) rfl rfl, _, X5.cell (i := 12) rfl rfl, _, _, _, X5.cell (i := 13) rfl rfl, _, _, _, X5.cell (i := 14) rfl rfl, do_call Tryz.call12 (c_pdo ho I5.B (fun j hj hb => by have := (I5.row.lt j hb).2; omega) I5.l0 (by omega) (fun m => (I5.ok.at' ho m).2.1) (fun m => by have := row_short (I5.ok.at' ho m).1 (I5.ok.at' ho m).2.2; omega) hx rp rk zp zk fun v w6 hR hB6 hC6 => ?_)⟩
    obtain ⟨nv, pv, rfl, h1, h2, n1, n2⟩ := hR.ex
    have h1' := h1
    have h2' := h2
    obtain ⟨q1, d1, rfl, _⟩ := h1'
    obtain ⟨q2, d2, rfl, _⟩ := h2'
    have row6 := chg_row hC6 I5.row I5.no (fun _ _ h => h)
    have s6 := hC6.size
    have s5 := I5.E.size
    generalize hr : (doP o L x).1 = r at *
    generalize hL' : (doP o L x).2 = L' at *
    refine retS_ret ⟨_, _, _, _, _, _, _, _, _, _, _, rfl, ⟨?_⟩⟩
    have e7 := ext_alloc w6 (.cells #[.int .i64 r.err, .bool r.is, .int .i64 r.key, .int .i64 r.val, .int .i64 r.n, .slice q1 r.new.length d1, .slice q2 r.pairs.length d2] 34)
    have hx7 := cs_alloc w6 #[.int .i64 r.err, .bool r.is, .int .i64 r.key, .int .i64 r.val, .int .i64 r.n, .slice q1 r.new.length d1, .slice q2 r.pairs.length d2] 34
    generalize w6.alloc (.cells #[.int .i64 r.err, .bool r.is, .int .i64 r.key, .int .i64 r.val, .int .i64 r.n, .slice q1 r.new.length d1, .slice q2 r.pairs.length d2] 34) = w7 at *
    have s7 := e7.size
    refine do_append' elR (e7.row row6) (m := 1) hx7 (by simp) (by simp [Value.oneCell']) (by simp only [maxLen]; omega) (by omega) (by omega) fun p' c' w8 row8 g8 n8 => retS_ret ⟨_, _, _, rfl, ?_⟩
    simp -zeta -zetaHave only [K21]
    rw [wrap_succ z (by omega)]
    refine ⟨⟨k + 1, p', c', _, _, rfl, by omega, I5.step (by simpa using hkl) hxk (by rw [← hr, ← hL']) (by rw [← hL']; exact (do_ok ho I5.ok hx).mono fun y hy => (List.mem_append.1 hy).elim (hKk y) id) hB6 hC6 h1 h2 n1 n2 e7 row8 g8 n8⟩, ?_⟩
    show n - ((k + 1 : Nat) : Int).toNat < n - (k : Int).toNat
    omega
  · have z : k = n := by have := of_decide_eq_false z; omega
    subst z
    have hrun := I.run
    rw [List.drop_of_length_le (by simp; omega)] at hrun
    exact h p c Es bb w3 I.E (by simpa [runP] using hrun) I.row fun e he => ⟨(I.rows e he).1, (I.rows e he).2.1⟩
end Go.Proofs.YtmdboekndjlmgaaGreat

namespace Go.Proofs.YtmdboekndjlmgaaGreat
open Go Go.Sh Go.RowKit

theorem c_sints {l : List Int} {p q : OA} {c d : Nat} {w : World} {R : EW} (hz : l.length ≤ 1000000) (hp : Cs w p (ints l)) (hq : Cs w q (ints l)) (h : ∀ w', Ext w w' → R (.returned (.bool true)) w') : Calls Tryz.prog 31 #[.slice p l.length c, .slice q l.length d] w R := by
  refine sh31_ok _ _ _ _ _ _ ?_
  unfold sh31
  refine ifB_f (by simp) ?_
  refine ⟨fun vs w' => ∃ k : Nat, vs = [.int .i64 (k : Int)] ∧ k ≤ l.length ∧ Ext w w', fun vs _ => match vs with | [.int _ i] => l.length - i.toNat | _ => 0, ⟨0, rfl, Nat.zero_le _, ext_refl _⟩, ?_⟩
  rintro i_ _ w2 ⟨k, hv, hk, e⟩
  simp only [List.cons.injEq, Value.int.injEq, true_and, and_true] at hv
  subst hv
  refine ifB_intro (fun z => ?_) fun z => ?_
  · have z : k < l.length := by have := of_decide_eq_true z; omega
    have e2 := e.trans (ext_drew w2)
    refine ⟨fun w' => Ext w2.drew w', ext_refl _, ?_⟩
    have oI : ∀ {s : OA}, Cs w s (ints l) → ∀ w', Ext w2.drew w' → Cs w' s (l.flatMap fun x => [.int .i64 x]) := fun hs w' e' => by
      have := hs.ext (e2.trans e')
      unfold ints at this
      rwa [List.map_eq_flatMap] at this
    refine ix_flatC (ec := fun x : Int => [.int .i64 x]) (s := 1) (C := fun w' => Ext w2.drew w') (fun _ => rfl) (by omega) (oI hp) (ext_refl _) rfl (k := k) rfl z fun a3 r3 => ⟨l[k], fun w' e' => by have := r3 w' e' 0 _ rfl; rwa [add_zero'] at this, ?_⟩
    refine ix_flatC (ec := fun x : Int => [.int .i64 x]) (s := 1) (C := fun w' => Ext w2.drew w') (fun _ => rfl) (by omega) (oI hq) (ext_refl _) rfl (k := k) rfl z fun a4 r4 => ⟨l[k], fun w' e' => by have := r4 w' e' 0 _ rfl; rwa [add_zero'] at this, ?_⟩
    refine ifB_f (by simp) ?_
    rw [wrap_succ z (by omega)]
    refine ⟨⟨k + 1, rfl, by omega, e2⟩, ?_⟩
    show l.length - ((k + 1 : Nat) : Int).toNat < l.length - (k : Int).toNat
    omega
  · exact h w2 e
theorem c_srep {r : Rep} {q1 q2 s1 s2 : OA} {d1 d2 t1 t2 : Nat} {w : World} {R : EW} (z1 : r.new.length ≤ 1000000) (z2 : r.pairs.length ≤ 1000000) (h1 : Cs w q1 (ints r.new)) (h2 : Cs w q2 (prs r.pairs)) (g1 : Cs w s1 (ints r.new)) (g2 : Cs w s2 (prs r.pairs))
    (h : ∀ w', Ext w w' → R (.returned (.bool true)) w') : Calls Tryz.prog 21 #[.agg #[.int .i64 r.err, .bool r.is, .int .i64 r.key, .int .i64 r.val, .int .i64 r.n, .slice q1 r.new.length d1, .slice q2 r.pairs.length d2], .agg #[.int .i64 r.err, .bool r.is, .int .i64 r.key, .int .i64 r.val, .int .i64 r.n, .slice s1 r.new.length t1, .slice s2 r.pairs.length t2]] w R := by
  refine sh21_ok _ _ _ _ _ _ _ _ _ _ _ _ _ _ _ _ _ _ _ _ _ _ ?_
  unfold sh21
  refine ⟨⟨?_⟩⟩
  have e1 := ext_alloc w (.cells #[.int .i64 r.err, .bool r.is, .int .i64 r.key, .int .i64 r.val, .int .i64 r.n, .slice q1 r.new.length d1, .slice q2 r.pairs.length d2] 34)
  have X1 := blk_alloc w #[.int .i64 r.err, .bool r.is, .int .i64 r.key, .int .i64 r.val, .int .i64 r.n, .slice q1 r.new.length d1, .slice q2 r.pairs.length d2] 34
  generalize w.alloc (.cells #[.int .i64 r.err, .bool r.is, .int .i64 r.key, .int .i64 r.val, .int .i64 r.n, .slice q1 r.new.length d1, .slice q2 r.pairs.length d2] 34) = w1 at *
  have e2 := ext_alloc w1 (.cells #[.int .i64 r.err, .bool r.is, .int .i64 r.key, .int .i64 r.val, .int .i64 r.n, .slice s1 r.new.length t1, .slice s2 r.pairs.length t2] 34)
  have Y := blk_alloc w1 #[.int .i64 r.err, .bool r.is, .int .i64 r.key, .int .i64 r.val, .int .i64 r.n, .slice s1 r.new.length t1, .slice s2 r.pairs.length t2] 34
  have X := X1.ext e2
  have E2 := e1.trans e2
  generalize w1.alloc (.cells #[.int .i64 r.err, .bool r.is, .int .i64 r.key, .int .i64 r.val, .int .i64 r.n, .slice s1 r.new.length t1, .slice s2 r.pairs.length t2] 34) = w2 at *
  intro K29
  refine ⟨_, X.cell (i := 0) rfl rfl, _, Y.cell (i := 0) rfl rfl, ifB_t (by simp) ?_⟩
  refine ⟨_, X.cell (i := 1) rfl rfl, _, Y.cell (i := 1) rfl rfl, ifB_t (by simp) ?_⟩
  refine ⟨_, X.cell (i := 2) rfl rfl, _, Y.cell (i := 2) rfl rfl, ifB_t (by simp) ?_⟩
  refine ⟨_, X.cell (i := 3) rfl rfl, _, Y.cell (i := 3) rfl rfl, ifB_t (by simp) ?_⟩
  refine ⟨_, X.cell (i := 4) rfl rfl, _, Y.cell (i := 4) rfl rfl, ifB_t (by simp) ?_⟩
  refine ⟨_, _, _, X.cell (i := 5) rfl rfl, _, _, _, Y.cell (i := 5) rfl rfl, do_call Tryz.call31 (c_sints z1 (h1.ext E2) (g1.ext E2) fun w3 e3 => retS_ret ⟨_, rfl, ifB_t rfl ?_⟩)⟩
  refine ⟨_, _, _, (X.ext e3).cell (i := 6) rfl rfl, _, _, _, (Y.ext e3).cell (i := 6) rfl rfl, do_call Tryz.call8 (c_r4same (h2.ext (E2.trans e3)) rfl (g2.ext (E2.trans e3)) rfl (by omega) fun w4 e4 => retS_ret ⟨_, rfl, ?_⟩)⟩
  have := h w4 ((E2.trans e3).trans e4)
  simpa using this
def EntRd (w : World) (e : Ent) : Prop := ∃ q1 d1 q2 d2, e.2.1 = .slice q1 e.1.new.length d1 ∧ e.2.2 = .slice q2 e.1.pairs.length d2 ∧ Cs w q1 (ints e.1.new) ∧ Cs w q2 (prs e.1.pairs) ∧ e.1.new.length ≤ 1000000 ∧ e.1.pairs.length ≤ 1000000
theorem c_ssame {Es Fs : List Ent} {p q : OA} {n c d : Nat} {w : World} {R : EW} (hz : n ≤ 1000000) (hE : Es.length = n) (hF : Fs.length = n) (hp : Cs w p (Es.flatMap entC)) (hq : Cs w q (Fs.flatMap entC)) (he : Es.map (·.1) = Fs.map (·.1)) (rE : ∀ e ∈ Es, EntRd w e) (rF : ∀ e ∈ Fs, EntRd w e)
    (h : ∀ w', Ext w w' → R (.returned (.bool true)) w') : Calls Tryz.prog 17 #[.slice p n c, .slice q n d] w R := by
  refine sh17_ok _ _ _ _ _ _ ?_
  unfold sh17
  refine ifB_f (by simp) ?_
  refine ⟨fun vs w' => ∃ k : Nat, vs = [.int .i64 (k : Int)] ∧ k ≤ n ∧ Ext w w', fun vs _ => match vs with | [.int _ i] => n - i.toNat | _ => 0, ⟨0, rfl, Nat.zero_le _, ext_refl _⟩, ?_⟩
  rintro i_ _ w2 ⟨k, hv, hk, e⟩
  simp only [List.cons.injEq, Value.int.injEq, true_and, and_true] at hv
  subst hv
  refine ifB_intro (fun z => ?_) fun z => ?_
  · have z : k < n := by have := of_decide_eq_true z; omega
    have e2 := e.trans (ext_drew w2)
    refine ⟨fun w' => Ext w2.drew w', ext_refl _, ?_⟩
    have hk1 : k < Es.length := by omega
    have hk2 : k < Fs.length := by omega
    have hkk : Es[k].1 = Fs[k].1 := by
      have h1 : (Es.map (·.1))[k]? = some Es[k].1 := by rw [List.getElem?_map, List.getElem?_eq_getElem hk1]; rfl
      have h2 : (Fs.map (·.1))[k]? = some Fs[k].1 := by rw [List.getElem?_map, List.getElem?_eq_getElem hk2]; rfl
      rw [he, h2] at h1
      exact (Option.some.inj h1).symm
    have R1 := rE Es[k] (List.getElem_mem hk1)
    have R2 := rF Fs[k] (List.getElem_mem hk2)
    refine ix_flatC (ec := entC) (s := 7) (C := fun w' => Ext w2.drew w') (fun _ => rfl) (by omega) (fun w' e' => hp.ext (e2.trans e')) (ext_refl _) hE (k := k) rfl z fun a3 r3 => ?_
    generalize Es[k] = E1 at *
    obtain ⟨r, nv, pv⟩ := E1
    obtain ⟨q1, d1, q2, d2, en, ep, c1, c2, z1, z2⟩ := R1
    simp only at en ep c1 c2 z1 z2
    subst en ep
    refine ⟨_, fun w' e' => r3 w' e' 0 _ rfl, _, fun w' e' => r3 w' e' 1 _ rfl, _, fun w' e' => r3 w' e' 2 _ rfl, _, fun w' e' => r3 w' e' 3 _ rfl, _, fun w' e' => r3 w' e' 4 _ rfl, _, _, _, fun w' e' => r3 w' e' 5 _ rfl, _, _, _, fun w' e' => r3 w' e' 6 _ rfl, ?_⟩
    refine ix_flatC (ec := entC) (s := 7) (C := fun w' => Ext w2.drew w') (fun _ => rfl) (by omega) (fun w' e' => hq.ext (e2.trans e')) (ext_refl _) hF (k := k) rfl z fun a4 r4 => ?_
    generalize Fs[k] = F1 at *
    obtain ⟨r', nv', pv'⟩ := F1
    obtain ⟨s1, t1, s2, t2, en, ep, g1, g2, _, _⟩ := R2
    simp only at en ep g1 g2
    subst en ep
    obtain rfl : r = r' := hkk
    refine ⟨_, fun w' e' => r4 w' e' 0 _ rfl, _, fun w' e' => r4 w' e' 1 _ rfl, _, fun w' e' => r4 w' e' 2 _ rfl, _, fun w' e' => r4 w' e' 3 _ rfl, _, fun w' e' => r4 w' e' 4 _ rfl, _, _, _, fun w' e' => r4 w' e' 5 _ rfl, _, _, _, fun w' e' => r4 w' e' 6 _ rfl, ?_⟩
    refine do_call Tryz.call21 (c_srep z1 z2 (c1.ext e2) (c2.ext e2) (g1.ext e2) (g2.ext e2) fun w3 e3 => retS_ret ⟨_, rfl, ifB_f rfl ?_⟩)
    rw [wrap_succ z (by omega)]
    refine ⟨⟨k + 1, rfl, by omega, e2.trans e3⟩, ?_⟩
    show n - ((k + 1 : Nat) : Int).toNat < n - (k : Int).toNat
    omega
  · exact h w2 e
end Go.Proofs.YtmdboekndjlmgaaGreat

namespace Go.Proofs.YtmdboekndjlmgaaGreat
open Go Go.Sh Go.RowKit

def oBuild (p : Int) (l : List Pr) : POp := { POp.zero with op := 8, pol := p, pairs := l }
def oInsert (a k v p : Int) : POp := { POp.zero with op := 1, a := a, key := k, val := v, pol := p }
def oKey (d a k : Int) : POp := { POp.zero with op := d, a := a, key := k }
def oList (a : Int) : POp := { POp.zero with op := 21, a := a }
def oSelect (a n : Int) : POp := { POp.zero with op := 17, a := a, n := n }
theorem in0 : In 0 := by unfold In; omega
theorem u80 : (0 : Int) ≤ 0 ∧ (0 : Int) < 256 := by omega
theorem ino_build {p : Int} {l : List Pr} (hp : 0 ≤ p ∧ p < 256) (hl : InP l) : InO (oBuild p l) :=
  ⟨⟨by show (0 : Int) ≤ 8; omega, by show (8 : Int) < 256; omega⟩, in0, in0, in0, in0, in0, in0, in0, hp, u80, in0, in0, hl, fun x hx => (by cases hx)⟩
theorem ino_insert {a k v p : Int} (ha : In a) (hk : In k) (hv : In v) (hp : 0 ≤ p ∧ p < 256) : InO (oInsert a k v p) :=
  ⟨⟨by show (0 : Int) ≤ 1; omega, by show (1 : Int) < 256; omega⟩, ha, in0, hk, hv, in0, in0, in0, hp, u80, in0, in0, fun x hx => (by cases hx), fun x hx => (by cases hx)⟩
theorem ino_key {d a k : Int} (hd : 0 ≤ d ∧ d < 256) (ha : In a) (hk : In k) : InO (oKey d a k) :=
  ⟨hd, ha, in0, hk, in0, in0, in0, in0, u80, u80, in0, in0, fun x hx => (by cases hx), fun x hx => (by cases hx)⟩
theorem ino_list {a : Int} (ha : In a) : InO (oList a) :=
  ⟨⟨by show (0 : Int) ≤ 21; omega, by show (21 : Int) < 256; omega⟩, ha, in0, in0, in0, in0, in0, in0, u80, u80, in0, in0, fun x hx => (by cases hx), fun x hx => (by cases hx)⟩
theorem ino_select {a n : Int} (ha : In a) (hn : In n) : InO (oSelect a n) :=
  ⟨⟨by show (0 : Int) ≤ 17; omega, by show (17 : Int) < 256; omega⟩, ha, in0, in0, in0, in0, in0, hn, u80, u80, in0, in0, fun x hx => (by cases hx), fun x hx => (by cases hx)⟩
end Go.Proofs.YtmdboekndjlmgaaGreat

namespace Go.Proofs.YtmdboekndjlmgaaGreat
open Go Go.Sh Go.RowKit

def aliveOps : List POp := [oBuild 3 [(1, 10), (2, 20)], oInsert 1 1 5 3, oKey 22 2 2, oSelect 1 2, oList 3]
def aliveReps : List Rep := [⟨0, false, 0, 0, 2, [1], []⟩, ⟨0, true, 0, 10, 0, [2], []⟩, ⟨0, true, 0, 20, 0, [3, 4], []⟩, ⟨320, false, 0, 0, 0, [], []⟩, ⟨0, false, 0, 0, 1, [], [(1, 15)]⟩]
theorem alive_run : runP 1 [[]] aliveOps = aliveReps := by kernel_rfl
theorem c_build38 {w : World} {R : EW} (h : ∀ b w', Ext w w' → Blk w' b #[.int .i64 1, .int .i64 10, .int .i64 2, .int .i64 20] 63 → w.heap.size ≤ b → R (.returned (opV (oBuild 3 [(1, 10), (2, 20)]) (.slice (some (blk b)) 2 2) (.slice none 0 0))) w') : Calls Tryz.prog 13 #[] w R := by
  refine sh13_ok ?_
  unfold sh13
  refine ⟨⟨?_⟩⟩
  have e1 := ext_alloc w (.cells #[.int .u8 0, .int .i64 0, .int .i64 0, .int .i64 0, .int .i64 0, .int .i64 0, .int .i64 0, .int .i64 0, .int .u8 0, .int .u8 0, .int .i64 0, .int .i64 0, .bool false, .slice none 0 0, .slice none 0 0] 30)
  have X1 := blk_alloc w #[.int .u8 0, .int .i64 0, .int .i64 0, .int .i64 0, .int .i64 0, .int .i64 0, .int .i64 0, .int .i64 0, .int .u8 0, .int .u8 0, .int .i64 0, .int .i64 0, .bool false, .slice none 0 0, .slice none 0 0] 30
  generalize w.alloc (.cells #[.int .u8 0, .int .i64 0, .int .i64 0, .int .i64 0, .int .i64 0, .int .i64 0, .int .i64 0, .int .i64 0, .int .u8 0, .int .u8 0, .int .i64 0, .int .i64 0, .bool false, .slice none 0 0, .slice none 0 0] 30) = w1 at *
  have e2 := ext_alloc w1 (.cells #[.int .i64 1, .int .i64 10, .int .i64 2, .int .i64 20] 63)
  have Y2 := blk_alloc w1 #[.int .i64 1, .int .i64 10, .int .i64 2, .int .i64 20] 63
  have X2 := X1.ext e2
  have l1 := X1.lt
  generalize w1.alloc (.cells #[.int .i64 1, .int .i64 10, .int .i64 2, .int .i64 20] 63) = w2 at *
  refine st15 X2 fun w3 X3 g3 => ?_
  exact ⟨_, X3.cell (i := 0) rfl rfl, _, X3.cell (i := 1) rfl rfl, _, X3.cell (i := 2) rfl rfl, _, X3.cell (i := 3) rfl rfl, _, X3.cell (i := 4) rfl rfl, _, X3.cell (i := 5) rfl rfl, _, X3.cell (i := 6) rfl rfl, _, X3.cell (i := 7) rfl rfl, _, X3.cell (i := 8) rfl rfl, _, X3.cell (i := 9) rfl rfl, _, X3.cell (i := 10) rfl rfl, _, X3.cell (i := 11) rfl rfl, _, X3.cell (i := 12) rfl rfl, _, _, _, X3.cell (i := 13) rfl rfl, _, _, _, X3.cell (i := 14) rfl rfl, h _ w3 ((e1.trans e2).st g3 (Nat.le_refl _)) (Y2.grown g3 (ne_some (by omega))) e1.size⟩
end Go.Proofs.YtmdboekndjlmgaaGreat

namespace Go.Sh
open Go Go.RowKit Go.ChangeShapes Go.WideShapes Go.Deep

theorem cs_flat {α : Type} {enc : α → List Value} {s : Nat} (hs : ∀ x, (enc x).length = s) {w : World} {a : Addr} {l : List α}
    (h : ∀ i (hi : i < l.length), ∀ j, j < s → w.cell? (a.add (i * s + j)) = (enc l[i])[j]?) : Cs w (some a) (l.flatMap enc) := by
  induction l generalizing a with
  | nil => intro i v hv; simp at hv
  | cons x xs ih =>
    intro i v hv
    refine ⟨a, rfl, ?_⟩
    rw [List.flatMap_cons] at hv
    rcases Nat.lt_or_ge i s with hi | hi
    · rw [List.getElem?_append_left (by rw [hs]; exact hi)] at hv
      have := h 0 (by simp) i hi
      simp only [Nat.zero_mul, Nat.zero_add, List.getElem_cons_zero] at this
      rw [this]; exact hv
    · rw [List.getElem?_append_right (by rw [hs]; exact hi), hs] at hv
      have := ih (a := a.add s) (fun i hi j hj => by
        have := h (i + 1) (by simpa using hi) j hj
        simp only [List.getElem_cons_succ] at this
        rw [Sh.add_add, show s + (i * s + j) = (i + 1) * s + j by rw [Nat.add_mul]; omega]
        exact this) (i - s) v hv
      obtain ⟨b, hb, hc⟩ := this
      cases hb
      rw [Sh.add_add, show s + (i - s) = i by omega] at hc
      exact hc
theorem list_of {α : Type} {p : Nat → α → Prop} (n : Nat) (h : ∀ i, i < n → ∃ x, p i x) : ∃ l : List α, l.length = n ∧ ∀ i (hi : i < l.length), p i l[i] := by
  induction n with
  | zero => exact ⟨[], rfl, fun i hi => by simp at hi⟩
  | succ n ih =>
    obtain ⟨l, hl, hp⟩ := ih fun i hi => h i (by omega)
    obtain ⟨x, hx⟩ := h n (by omega)
    refine ⟨l ++ [x], by simp [hl], fun i hi => ?_⟩
    rcases Nat.lt_or_ge i l.length with h1 | h1
    · rw [List.getElem_append_left h1]; exact hp i h1
    · have : i = l.length := by simp at hi; omega
      subst this
      simp [hl]; exact hx
variable {H : Type} {enc : TypeId × Value → H} {P : Program} {w : World} {base : Nat} {spare : Nat → Bool} {held : Bool}
theorem arg_slice {α : Type} {ec : α → List Value} {Pr : α → Prop} {s : Nat} (hs : ∀ x, (ec x).length = s) {t e : TypeId} (ht : P.underlying t = some (.slice e)) (hc : P.cellsOf e = s)
    (hdec : ∀ n cs y, DataW.trod enc P w base spare held n e cs = some y → ∃ x : α, cs = ec x ∧ Pr x) {q : OA} {len cap : Nat} {d : DataW H} {p : List MemPlace} (h : DataW.Trod enc P w base spare held t (.slice q len cap) d p) :
    ∃ l : List α, l.length = len ∧ Cs w q (l.flatMap ec) ∧ (∀ x ∈ l, Pr x) ∧ len ≤ cap ∧ cap ≤ maxLen ∧ (q = none → len = 0 ∧ cap = 0) := by
  obtain ⟨fuel, hf⟩ := h
  rcases open_slice ht hf with ⟨hcs, _⟩ | ⟨a, l', c', m, n, D, Pl, hcs, hb, hl, hm, hmm, hx, hi⟩
  · simp [Value.cells] at hcs
    obtain ⟨rfl, rfl, rfl⟩ := hcs
    exact ⟨[], rfl, Sh.cs_nil _ _, by simp, Nat.le_refl _, Nat.zero_le _, fun _ => ⟨rfl, rfl⟩⟩
  · simp [Value.cells] at hcs
    obtain ⟨rfl, rfl, rfl⟩ := hcs
    have hlm : len ≤ m := by rw [hmm]; split <;> omega
    obtain ⟨l, hll, hp⟩ := list_of (p := fun i (x : α) => (∀ j, j < s → w.cell? (a.add (i * s + j)) = (ec x)[j]?) ∧ Pr x) len (fun i hil => by
      obtain ⟨cs', hcc, htr⟩ := hi i (by omega)
      rw [hc] at hcc
      obtain ⟨_, hcl, hat⟩ := World.cells?_some hcc
      obtain ⟨x, rfl, hpx⟩ := hdec _ _ _ htr
      refine ⟨x, fun j hj => ?_, hpx⟩
      rw [← Sh.add_add]; exact hat j hj)
    refine ⟨l, hll, cs_flat hs fun i hi j hj => (hp i hi).1 j hj, fun x hx => ?_, hl, hm, by simp⟩
    obtain ⟨i, hi, rfl⟩ := List.getElem_of_mem hx
    exact (hp i hi).2
theorem in64_of {x : Int} (h : (Lit.int .i64 x).wf = true) : -9223372036854775808 ≤ x ∧ x < 9223372036854775808 := by
  simp [Lit.wf, IntKind.min, IntKind.max, IntKind.signed, IntKind.bits] at h
  omega
theorem u8_of {x : Int} (h : (Lit.int .u8 x).wf = true) : 0 ≤ x ∧ x < 256 := by
  simp [Lit.wf, IntKind.min, IntKind.max, IntKind.signed, IntKind.bits] at h
  omega
theorem dec_int2 {e i : TypeId} {f0 f1 : Field} (he : P.underlying e = some (.struct #[f0, f1])) (h0 : f0.offset = 0) (h1 : f1.offset = 1) (hi : P.underlying i = some (.int .i64)) (ht0 : f0.type = i) (ht1 : f1.type = i) (hce : P.cellsOf e = 2) (hci : P.cellsOf i = 1)
    (n : Nat) (cs : List Value) (y : DataW H × List MemPlace) (h : DataW.trod enc P w base spare held n e cs = some y) :
    ∃ x : Int × Int, cs = [.int .i64 x.1, .int .i64 x.2] ∧ ((-9223372036854775808 ≤ x.1 ∧ x.1 < 9223372036854775808) ∧ (-9223372036854775808 ≤ x.2 ∧ x.2 < 9223372036854775808)) := by
  obtain ⟨y0, y1, n', hx, hl, hf0, hf1⟩ := trod_struct2 he h
  rw [hce] at hl
  match cs, hl with
  | [c0, c1], _ =>
    rw [h0, ht0, hci] at hf0
    rw [h1, ht1, hci] at hf1
    obtain ⟨m0, hc0, _, hw0⟩ := DataW.trod_int hi hf0
    obtain ⟨m1, hc1, _, hw1⟩ := DataW.trod_int hi hf1
    simp at hc0 hc1
    subst hc0 hc1
    exact ⟨(m0, m1), rfl, in64_of hw0, in64_of hw1⟩
end Go.Sh

namespace Go.Proofs.YtmdboekndjlmgaaGreat
open Go Go.Sh Go.RowKit Go.ChangeShapes Go.WideShapes

variable {H : Type} {enc : TypeId × Value → H} {w : World} {base : Nat} {spare : Nat → Bool} {held : Bool}
def Is_pairs (w : World) (q : OA) (len cap : Nat) (l : List Pr) : Prop := l.length = len ∧ Cs w q (prs l) ∧ InP l ∧ len ≤ cap ∧ cap ≤ maxLen ∧ (q = none → len = 0 ∧ cap = 0)
theorem pairs_arg {q : OA} {len cap : Nat} {d : DataW H} {p : List MemPlace} (h : DataW.Trod enc Tryz.prog w base spare held 22 (.slice q len cap) d p) : ∃ l : List Pr, Is_pairs w q len cap l :=
  arg_slice (ec := fun x : Pr => [.int .i64 x.1, .int .i64 x.2]) (Pr := fun x => In x.1 ∧ In x.2) (s := 2) (fun _ => rfl) Tryz.underlying22 (by kernel_rfl)
    (dec_int2 Tryz.underlying63 rfl rfl Tryz.underlying2 rfl rfl (by kernel_rfl) (by kernel_rfl)) h
def Is_ints (w : World) (q : OA) (len cap : Nat) (l : List Int) : Prop := l.length = len ∧ Cs w q (ints l) ∧ (∀ x ∈ l, In x) ∧ len ≤ cap ∧ cap ≤ maxLen ∧ (q = none → len = 0 ∧ cap = 0)
theorem ints_of {t e : TypeId} (ht : Tryz.prog.underlying t = some (.slice e)) (he : Tryz.prog.underlying e = some (.int .i64)) (hc : Tryz.prog.cellsOf e = 1) {q : OA} {len cap : Nat} {d : DataW H} {p : List MemPlace}
    (h : DataW.Trod enc Tryz.prog w base spare held t (.slice q len cap) d p) : ∃ l, Is_ints w q len cap l := by
  obtain ⟨l, h1, h2, h3⟩ := arg_slice (ec := fun x : Int => [.int .i64 x]) (Pr := fun x => In x) (s := 1) (fun _ => rfl) ht hc (fun n cs y hy => by
    obtain ⟨m, hm, _, hw⟩ := DataW.trod_int he hy
    exact ⟨m, hm, in64_of hw⟩) h
  refine ⟨l, h1, ?_, h3⟩
  unfold ints
  rw [List.map_eq_flatMap]
  exact h2
theorem ints_arg {q : OA} {len cap : Nat} {d : DataW H} {p : List MemPlace} (h : DataW.Trod enc Tryz.prog w base spare held 28 (.slice q len cap) d p) : ∃ l, Is_ints w q len cap l :=
  ints_of Tryz.underlying28 Tryz.underlying2 (by kernel_rfl) h
end Go.Proofs.YtmdboekndjlmgaaGreat

namespace Go.Proofs.YtmdboekndjlmgaaGreat
open Go Go.Sh Go.RowKit Go.ChangeShapes Go.WideShapes Go.Deep

variable {H : Type} {enc : TypeId × Value → H} {P : Program} {w : World} {base : Nat} {spare : Nat → Bool} {held : Bool}
theorem weights_all {e : TypeId} {m : Nat} : ∀ {l : List (DataW H)} {d : DataW H}, d ∈ l → m ∈ d.weights P e → m ∈ DataW.weightsAll P e l
  | [], _, h, _ => by cases h
  | x :: l, d, h, hm => by
    simp only [DataW.weightsAll, List.mem_append]
    rcases List.mem_cons.1 h with rfl | h
    · exact .inl hm
    · exact .inr (weights_all h hm)
theorem arg_sliceZ {α : Type} {ec : α → List Value} {Pr : α → Prop} {s : Nat} (hs : ∀ x, (ec x).length = s) {t e : TypeId} (ht : P.underlying t = some (.slice e)) (hc : P.cellsOf e = s)
    (hdec : ∀ n cs y, DataW.trod enc P w base spare held n e cs = some y → (∀ m ∈ y.1.weights P e, m ≤ reachBytes) → ∃ x : α, cs = ec x ∧ Pr x) {q : OA} {len cap : Nat} {d : DataW H} {p : List MemPlace} (h : DataW.Trod enc P w base spare held t (.slice q len cap) d p)
    (hz : ∀ m ∈ d.weights P t, m ≤ reachBytes) :
    ∃ l : List α, l.length = len ∧ Cs w q (l.flatMap ec) ∧ (∀ x ∈ l, Pr x) ∧ len ≤ cap ∧ cap ≤ maxLen ∧ (q = none → len = 0 ∧ cap = 0) := by
  obtain ⟨fuel, hf⟩ := h
  rcases open_slice ht hf with ⟨hcs, _⟩ | ⟨a, l', c', m, n, D, Pl, hcs, hb, hl, hm, hmm, hx, hi⟩
  · simp [Value.cells] at hcs
    obtain ⟨rfl, rfl, rfl⟩ := hcs
    exact ⟨[], rfl, Sh.cs_nil _ _, by simp, Nat.le_refl _, Nat.zero_le _, fun _ => ⟨rfl, rfl⟩⟩
  · simp [Value.cells] at hcs
    obtain ⟨rfl, rfl, rfl⟩ := hcs
    have hx := congrArg Prod.fst hx
    simp only at hx
    subst hx
    have hlm : len ≤ m := by rw [hmm]; split <;> omega
    obtain ⟨l, hll, hp⟩ := list_of (p := fun i (x : α) => (∀ j, j < s → w.cell? (a.add (i * s + j)) = (ec x)[j]?) ∧ Pr x) len (fun i hil => by
      obtain ⟨cs', hcc, htr⟩ := hi i (by omega)
      rw [hc] at hcc
      obtain ⟨_, hcl, hat⟩ := World.cells?_some hcc
      obtain ⟨x, rfl, hpx⟩ := hdec _ _ _ htr fun k hk => hz k (by
        simp only [DataW.weights, ht, List.mem_cons, List.mem_append]
        exact .inr (.inl (weights_all (List.mem_map.2 ⟨i, List.mem_range.2 hil, rfl⟩) hk)))
      refine ⟨x, fun j hj => ?_, hpx⟩
      rw [← Sh.add_add]; exact hat j hj)
    refine ⟨l, hll, cs_flat hs fun i hi j hj => (hp i hi).1 j hj, fun x hx => ?_, hl, hm, by simp⟩
    obtain ⟨i, hi, rfl⟩ := List.getElem_of_mem hx
    exact (hp i hi).2
end Go.Proofs.YtmdboekndjlmgaaGreat

namespace Go.Proofs.YtmdboekndjlmgaaGreat
open Go Go.Sh Go.RowKit Go.ChangeShapes Go.WideShapes Go.Deep

variable {H : Type} {enc : TypeId × Value → H} {P : Program} {w : World} {base : Nat} {spare : Nat → Bool} {held : Bool}
def Is_op (w : World) (e : OpE) : Prop := InO e.1 ∧ OpRd w e.1 e.2.1 e.2.2 ∧ e.1.pairs.length ≤ 17592186044416 ∧ e.1.keys.length ≤ 17592186044416
def Is_ops (w : World) (q : OA) (len cap : Nat) (l : List OpE) : Prop := l.length = len ∧ Cs w q (l.flatMap opC) ∧ (∀ e ∈ l, Is_op w e) ∧ len ≤ cap ∧ cap ≤ maxLen ∧ (q = none → len = 0 ∧ cap = 0)
theorem nested_len {t e : TypeId} (ht : Tryz.prog.underlying t = some (.slice e)) {k : Nat} (hk : Tryz.prog.bytesOf e = k) (k8 : 8 ≤ k) {n : Nat} {c : Value} {y : DataW H × List MemPlace} (h : DataW.trod enc Tryz.prog w base spare held n t [c] = some y) (hw : ∀ m ∈ y.1.weights Tryz.prog t, m ≤ reachBytes) :
    ∃ qq nn cc, c = .slice qq nn cc ∧ nn ≤ 17592186044416 := by
  rcases DataW.trod_slice ht h with ⟨hcs, _⟩ | ⟨a, len', cap', elems, rest, n, _, hcs, hx, _, _, _, hlen, _⟩
  · simp at hcs; exact ⟨_, _, _, hcs, by omega⟩
  · simp at hcs
    refine ⟨_, _, _, hcs, ?_⟩
    rw [hx] at hw
    have g := hw ((elems.length + rest.length) * Tryz.prog.bytesOf e) (by simp [DataW.weights, ht])
    have er : reachBytes = 140737488351232 := rfl
    rw [hk, er] at g
    have g2 : len' * 8 ≤ (elems.length + rest.length) * k := Nat.mul_le_mul (by omega) k8
    omega
theorem rd_lt {w : World} {p : OA} {cs : List Value} (h : Cs w p cs) : ∀ d, p = some d → cs ≠ [] → d.block < w.heap.size := fun d hd hne => by
  match cs, hne with
  | v :: vs, _ =>
    obtain ⟨a, ha, hc⟩ := h 0 v rfl
    rw [hd] at ha
    cases ha
    have := World.block_lt_of_cell? _ _ hc
    rwa [add_block] at this
theorem op_dec {n : Nat} {cs : List Value} {y : DataW H × List MemPlace} (hy : DataW.trod enc Tryz.prog w base spare held n 30 cs = some y) (hw : ∀ m ∈ y.1.weights Tryz.prog 30, m ≤ reachBytes) : ∃ e : OpE, cs = opC e ∧ Is_op w e := by
  obtain ⟨xs, n', _, hx, hl, hlen, hf⟩ := DataW.trod_struct Tryz.underlying30 hy
  have hce : Tryz.prog.cellsOf 30 = 15 := by kernel_rfl
  have hc8 : Tryz.prog.cellsOf 5 = 1 := by kernel_rfl
  have hci : Tryz.prog.cellsOf 3 = 1 := by kernel_rfl
  have hc64 : Tryz.prog.cellsOf 2 = 1 := by kernel_rfl
  have hcp : Tryz.prog.cellsOf 22 = 1 := by kernel_rfl
  have hck : Tryz.prog.cellsOf 28 = 1 := by kernel_rfl
  have hcq : Tryz.prog.cellsOf 27 = 4 := by kernel_rfl
  rw [hce] at hl
  match cs, hl, xs, hlen with
  | [c0, c1, c2, c3, c4, c5, c6, c7, c8, c9, c10, c11, c12, c13, c14], _, [y0, y1, y2, y3, y4, y5, y6, y7, y8, y9, y10, y11], _ =>
    have h0 : DataW.trod enc Tryz.prog w base spare held n' 5 [c0] = some y0 := by simpa [hc8, hci, hc64, hcp, hck, hcq] using hf 0 _ rfl
    have h1 : DataW.trod enc Tryz.prog w base spare held n' 3 [c1] = some y1 := by simpa [hc8, hci, hc64, hcp, hck, hcq] using hf 1 _ rfl
    have h2 : DataW.trod enc Tryz.prog w base spare held n' 3 [c2] = some y2 := by simpa [hc8, hci, hc64, hcp, hck, hcq] using hf 2 _ rfl
    have h3 : DataW.trod enc Tryz.prog w base spare held n' 2 [c3] = some y3 := by simpa [hc8, hci, hc64, hcp, hck, hcq] using hf 3 _ rfl
    have h4 : DataW.trod enc Tryz.prog w base spare held n' 2 [c4] = some y4 := by simpa [hc8, hci, hc64, hcp, hck, hcq] using hf 4 _ rfl
    have h5 : DataW.trod enc Tryz.prog w base spare held n' 2 [c5] = some y5 := by simpa [hc8, hci, hc64, hcp, hck, hcq] using hf 5 _ rfl
    have h6 : DataW.trod enc Tryz.prog w base spare held n' 2 [c6] = some y6 := by simpa [hc8, hci, hc64, hcp, hck, hcq] using hf 6 _ rfl
    have h7 : DataW.trod enc Tryz.prog w base spare held n' 3 [c7] = some y7 := by simpa [hc8, hci, hc64, hcp, hck, hcq] using hf 7 _ rfl
    have h8 : DataW.trod enc Tryz.prog w base spare held n' 5 [c8] = some y8 := by simpa [hc8, hci, hc64, hcp, hck, hcq] using hf 8 _ rfl
    have h9 : DataW.trod enc Tryz.prog w base spare held n' 27 [c9, c10, c11, c12] = some y9 := by simpa [hc8, hci, hc64, hcp, hck, hcq] using hf 9 _ rfl
    have h10 : DataW.trod enc Tryz.prog w base spare held n' 22 [c13] = some y10 := by simpa [hc8, hci, hc64, hcp, hck, hcq] using hf 10 _ rfl
    have h11 : DataW.trod enc Tryz.prog w base spare held n' 28 [c14] = some y11 := by simpa [hc8, hci, hc64, hcp, hck, hcq] using hf 11 _ rfl
    obtain ⟨m0, e0, _, w0⟩ := DataW.trod_int Tryz.underlying5 h0
    obtain ⟨m1, e1, _, w1⟩ := DataW.trod_int Tryz.underlying3 h1
    obtain ⟨m2, e2, _, w2⟩ := DataW.trod_int Tryz.underlying3 h2
    obtain ⟨m3, e3, _, w3⟩ := DataW.trod_int Tryz.underlying2 h3
    obtain ⟨m4, e4, _, w4⟩ := DataW.trod_int Tryz.underlying2 h4
    obtain ⟨m5, e5, _, w5⟩ := DataW.trod_int Tryz.underlying2 h5
    obtain ⟨m6, e6, _, w6⟩ := DataW.trod_int Tryz.underlying2 h6
    obtain ⟨m7, e7, _, w7⟩ := DataW.trod_int Tryz.underlying3 h7
    obtain ⟨m8, e8, _, w8⟩ := DataW.trod_int Tryz.underlying5 h8
    obtain ⟨zs, n'', _, _, _, glen, gf⟩ := DataW.trod_struct Tryz.underlying27 h9
    match zs, glen with
    | [z0, z1, z2, z3], _ =>
      have g0 : DataW.trod enc Tryz.prog w base spare held n'' 5 [c9] = some z0 := by simpa [hc8] using gf 0 _ rfl
      have g1 : DataW.trod enc Tryz.prog w base spare held n'' 2 [c10] = some z1 := by simpa [hc64] using gf 1 _ rfl
      have g2 : DataW.trod enc Tryz.prog w base spare held n'' 2 [c11] = some z2 := by simpa [hc64] using gf 2 _ rfl
      have hcb : Tryz.prog.cellsOf 4 = 1 := by kernel_rfl
      have g3 : DataW.trod enc Tryz.prog w base spare held n'' 4 [c12] = some z3 := by simpa [hcb] using gf 3 _ rfl
      obtain ⟨m9, e9, _, w9⟩ := DataW.trod_int Tryz.underlying5 g0
      obtain ⟨m10, e10, _, w10⟩ := DataW.trod_int Tryz.underlying2 g1
      obtain ⟨m11, e11, _, w11⟩ := DataW.trod_int Tryz.underlying2 g2
      obtain ⟨b12, e12, _⟩ := DataW.trod_bool Tryz.underlying4 g3
      rw [hx] at hw
      simp only [DataW.weights, Tryz.underlying30, DataW.weightsEach, List.map_cons, List.map_nil, List.mem_append] at hw
      obtain ⟨qp, np, cp, ep, zp⟩ := nested_len Tryz.underlying22 (k := 16) (by kernel_rfl) (by omega) h10 fun m hm => hw m (.inr (.inr (.inr (.inr (.inr (.inr (.inr (.inr (.inr (.inr (.inl hm)))))))))))
      obtain ⟨qk, nk, ck, ek, zk⟩ := nested_len Tryz.underlying28 (k := 8) (by kernel_rfl) (by omega) h11 fun m hm => hw m (.inr (.inr (.inr (.inr (.inr (.inr (.inr (.inr (.inr (.inr (.inr (.inl hm))))))))))))
      simp only [List.cons.injEq, and_true] at e0 e1 e2 e3 e4 e5 e6 e7 e8 e9 e10 e11 e12
      subst e0 e1 e2 e3 e4 e5 e6 e7 e8 e9 e10 e11 e12 ep ek
      obtain ⟨lp, p1, p2, p3, p4, _, _⟩ := pairs_arg ⟨n', h10⟩
      obtain ⟨lk, k1, k2, k3, k4, _, _⟩ := ints_arg ⟨n', h11⟩
      subst p1 k1
      refine ⟨(⟨m0, m1, m2, m3, m4, m5, m6, m7, m8, m9, m10, m11, b12, lp, lk⟩, _, _), rfl, ⟨Go.Sh.u8_of w0, in64_of w1, in64_of w2, in64_of w3, in64_of w4, in64_of w5, in64_of w6, in64_of w7, Go.Sh.u8_of w8, Go.Sh.u8_of w9, in64_of w10, in64_of w11, p3, k3⟩, ⟨⟨qp, cp, rfl, p4, p2, rd_lt p2⟩, ⟨qk, ck, rfl, k4, k2, rd_lt k2⟩⟩, zp, zk⟩
theorem ops_arg {q : OA} {len cap : Nat} {d : DataW H} {p : List MemPlace} (h : DataW.Trod enc Tryz.prog w base spare held 38 (.slice q len cap) d p) {ts : List TypeId} {ds : List (DataW H)} (hz : (DataW.weightsEach Tryz.prog ts ds).all (· ≤ reachBytes) = true) {j : Nat} (ht : ts[j]? = some 38) (hd : ds[j]? = some d) : ∃ l, Is_ops w q len cap l :=
  arg_sliceZ (ec := opC) (Pr := Is_op w) (s := 15) (fun _ => rfl) Tryz.underlying38 (by kernel_rfl) (fun n cs y hy hw => op_dec hy hw) h fun m hm => by
    have := List.all_eq_true.1 hz _ (DataW.weights_mem_each ht hd m hm)
    simpa using this
end Go.Proofs.YtmdboekndjlmgaaGreat

namespace Go.Proofs.YtmdboekndjlmgaaGreat
open Go Go.Sh Go.RowKit

theorem do_al {cs : Array Value} {t : TypeId} {w : World} {K : Nat → World → Prop} (h : ∀ b w', Ext w w' → Blk w' b cs t → w.heap.size ≤ b → K b w') : doAl (.cells cs t) w K := ⟨h _ _ (ext_alloc _ _) (blk_alloc _ _ _) (Nat.le_refl _)⟩
theorem cs_blk {w : World} {b : Nat} {cs : Array Value} {t : TypeId} (h : Blk w b cs t) : Cs w (some (blk b)) cs.toList := fun i v hv => ⟨_, rfl, h.cell (add_blk b i) (by simpa using hv)⟩
def OpIn (w : World) (e : OpE) : Prop := InO e.1 ∧ OpRd w e.1 e.2.1 e.2.2 ∧ e.1.pairs.length ≤ 5000 ∧ e.1.keys.length ≤ 5000
def opN (x : POp) : OpE := (x, .slice none 0 0, .slice none 0 0)
theorem opin_nil {w : World} {x : POp} (h : InO x) (h1 : x.pairs = []) (h2 : x.keys = []) : OpIn w (opN x) := by
  obtain ⟨a0, a1, a2, a3, a4, a5, a6, a7, a8, a9, a10, a11, a12, a13, a14⟩ := x
  simp only at h1 h2
  subst h1 h2
  exact ⟨h, ⟨⟨none, 0, rfl, Nat.le_refl _, cs_nil _ _, fun d h => (by cases h)⟩, ⟨none, 0, rfl, Nat.le_refl _, cs_nil _ _, fun d h => (by cases h)⟩⟩, Nat.zero_le _, Nat.zero_le _⟩
theorem opin_build {w : World} {p : Int} {l : List Pr} {q : OA} {n c : Nat} (hp : 0 ≤ p ∧ p < 256) (hl : InP l) (hn : l.length = n) (hc : n ≤ c) (hz : n ≤ 5000) (h : Cs w q (prs l)) : OpIn w (oBuild p l, .slice q n c, .slice none 0 0) := by
  subst hn
  exact ⟨ino_build hp hl, ⟨⟨q, c, rfl, hc, h, rd_lt h⟩, ⟨none, 0, rfl, Nat.le_refl _, cs_nil _ _, fun d h => (by cases h)⟩⟩, hz, Nat.zero_le _⟩
def kOf (ops : List OpE) : List Int := (ops.map (·.1)).flatMap newK
theorem kOf_mem {ops : List OpE} : ∀ e ∈ ops, ∀ k ∈ newK e.1, k ∈ kOf ops := fun e he k hk => List.mem_flatMap.2 ⟨e.1, List.mem_map.2 ⟨e, he, rfl⟩, hk⟩
theorem RowAt.rd {own : World → Nat → Prop} {bb : Nat} {w : World} {v : Value} {n : Nat} {xs : List Value} (h : RowAt own bb w v n xs) : ∃ q c, v = .slice q n c ∧ Cs w q xs := by
  obtain ⟨q, c, e, _, h, _⟩ := h
  exact ⟨q, c, e, h⟩
theorem alive_in : InP [((1 : Int), (10 : Int)), (2, 20)] := by
  intro x hx
  simp only [List.mem_cons, List.not_mem_nil, or_false] at hx
  rcases hx with rfl | rfl <;> exact ⟨by unfold In; decide, by unfold In; decide⟩
def aliveE (b : Nat) : List OpE := [(oBuild 3 [(1, 10), (2, 20)], .slice (some (blk b)) 2 2, .slice none 0 0), opN (oInsert 1 1 5 3), opN (oKey 22 2 2), opN (oSelect 1 2), opN (oList 3)]
def aliveF (a b c d : Nat) : List Ent :=
  [(⟨0, false, 0, 0, 2, [1], []⟩, .slice (some (blk a)) 1 1, .slice none 0 0), (⟨0, true, 0, 10, 0, [2], []⟩, .slice (some (blk b)) 1 1, .slice none 0 0), (⟨0, true, 0, 20, 0, [3, 4], []⟩, .slice (some (blk c)) 2 2, .slice none 0 0), (⟨320, false, 0, 0, 0, [], []⟩, .slice none 0 0, .slice none 0 0),
    (⟨0, false, 0, 0, 1, [], [(1, 15)]⟩, .slice none 0 0, .slice (some (blk d)) 1 1)]
theorem c_alive38 {w : World} {R : EW} (h : ∀ w', Ext w w' → R (.returned (.bool true)) w') : Calls Tryz.prog 6 #[] w R := by
  refine sh6_ok ?_
  unfold sh6
  refine do_call Tryz.call13 (c_build38 fun b w1 e1 hb1 _ => retS_ret ⟨8, 0, 0, 0, 0, 0, 0, 0, 3, 0, 0, 0, false, some (blk b), 2, 2, none, 0, 0, rfl, do_al fun b2 w2 e2 X2 _ => ?_⟩)
  have hc : Cs w2 (some (blk b2)) ((aliveE b).flatMap opC) := cs_blk X2
  have hp : Cs w2 (some (blk b)) (prs [(1, 10), (2, 20)]) := (cs_blk hb1).ext e2
  have i1 : In 1 := by unfold In; omega
  have i2 : In 2 := by unfold In; omega
  have i3 : In 3 := by unfold In; omega
  have i5 : In 5 := by unfold In; omega
  have hin : ∀ e ∈ aliveE b, OpIn w2 e := List.forall_mem_cons.2 ⟨opin_build (by omega) alive_in rfl (by omega) (by omega) hp,
    List.forall_mem_cons.2 ⟨opin_nil (ino_insert i1 i1 i5 (by omega)) rfl rfl, List.forall_mem_cons.2 ⟨opin_nil (ino_key (by omega) i2 i2) rfl rfl, List.forall_mem_cons.2 ⟨opin_nil (ino_select i1 i2) rfl rfl, List.forall_mem_cons.2 ⟨opin_nil (ino_list i3) rfl rfl, fun _ h => (by cases h)⟩⟩⟩⟩⟩
  refine do_call Tryz.call7 (c_prun (ops := aliveE b) (KK := kOf (aliveE b)) (o := 1) (by decide) hc rfl (by omega) hin kOf_mem (by show (kOf (aliveE 0)).length ≤ 5000; decide) fun p c Es bb w3 e3 hrun row hrd => retS_ret ⟨_, _, _, rfl, do_al fun b4 w4 e4 X4 _ => do_al fun b5 w5 e5 X5 _ => do_al fun b6 w6 e6 X6 _ => do_al fun b7 w7 e7 X7 _ => do_al fun b8 w8 e8 X8 _ => ?_⟩)
  have hr2 : Es.map (·.1) = aliveReps := hrun.trans alive_run
  have E38 := (((e4.trans e5).trans e6).trans e7).trans e8
  have hz : ∀ r ∈ aliveReps, r.new.length ≤ 1000000 ∧ r.pairs.length ≤ 1000000 := by
    intro r hr
    simp only [aliveReps, List.mem_cons, List.not_mem_nil, or_false] at hr
    rcases hr with rfl | rfl | rfl | rfl | rfl <;> simp
  refine do_call Tryz.call17 (c_ssame (Es := Es) (Fs := aliveF b4 b5 b6 b7) (by omega) (by have := congrArg List.length hr2; simpa [aliveReps] using this) rfl ((Cs.of_row row).ext E38) (cs_blk X8) (hr2.trans rfl) (fun e he => ?_) ?_ fun w9 e9 => retS_ret ⟨_, rfl, h w9 ((((e1.trans e2).trans e3).trans E38).trans e9)⟩)
  · obtain ⟨q1, c1, en, g1⟩ := (hrd e he).1.rd
    obtain ⟨q2, c2, ep, g2⟩ := (hrd e he).2.rd
    have := hz e.1 (by rw [← hr2]; exact List.mem_map.2 ⟨e, he, rfl⟩)
    exact ⟨q1, c1, q2, c2, en, ep, g1.ext E38, g2.ext E38, this.1, this.2⟩
  · refine List.forall_mem_cons.2 ⟨⟨some (blk b4), 1, none, 0, rfl, rfl, (cs_blk X4).ext (((e5.trans e6).trans e7).trans e8), cs_nil _ _, Nat.le_of_ble_eq_true rfl, Nat.le_of_ble_eq_true rfl⟩, List.forall_mem_cons.2 ⟨⟨some (blk b5), 1, none, 0, rfl, rfl, (cs_blk X5).ext ((e6.trans e7).trans e8), cs_nil _ _, Nat.le_of_ble_eq_true rfl, Nat.le_of_ble_eq_true rfl⟩,
      List.forall_mem_cons.2 ⟨⟨some (blk b6), 2, none, 0, rfl, rfl, (cs_blk X6).ext (e7.trans e8), cs_nil _ _, Nat.le_of_ble_eq_true rfl, Nat.le_of_ble_eq_true rfl⟩, List.forall_mem_cons.2 ⟨⟨none, 0, none, 0, rfl, rfl, cs_nil _ _, cs_nil _ _, Nat.le_of_ble_eq_true rfl, Nat.le_of_ble_eq_true rfl⟩,
      List.forall_mem_cons.2 ⟨⟨none, 0, some (blk b7), 1, rfl, rfl, cs_nil _ _, (cs_blk X7).ext e8, Nat.le_of_ble_eq_true rfl, Nat.le_of_ble_eq_true rfl⟩, fun _ h => (by cases h)⟩⟩⟩⟩⟩
def szO (e : OpE) : Nat := e.1.pairs.length + e.1.keys.length
theorem szO_le : ∀ {l : List OpE}, (∀ e ∈ l, szO e ≤ 35184372088832) → (l.map szO).sum ≤ l.length * 35184372088832
  | [], _ => Nat.zero_le _
  | e :: l, h => by
    have h1 := h e (by simp)
    have h2 := szO_le (l := l) fun x hx => h x (by simp [hx])
    simp only [List.map_cons, List.sum_cons, List.length_cons]
    omega
theorem c_heavy {l : List OpE} {q : OA} {len cap : Nat} {w : World} {R : EW} (hI : Is_ops w q len cap l) (h : ∀ w', Ext w w' → len ≤ 60 → (l.map szO).sum ≤ 300 → R (.returned (.bool false)) w') (ht : ∀ w', Ext w w' → R (.returned (.bool true)) w') :
    Calls Tryz.prog 10 #[.slice q len cap] w R := by
  obtain ⟨hn, hl, hO, _⟩ := hI
  refine sh10_ok _ _ _ ?_
  unfold sh10
  refine ifB_intro (fun z => ht w (ext_refl _)) fun z => ?_
  have z60 : len ≤ 60 := by have := of_decide_eq_false z; omega
  refine ⟨fun vs w' => ∃ k : Nat, vs = [.int .i64 ((((l.take k).map szO).sum : Nat) : Int), .int .i64 (k : Int)] ∧ k ≤ len ∧ Ext w w', fun vs _ => match vs with | [_, .int _ i] => len - i.toNat | _ => 0, ⟨0, rfl, Nat.zero_le _, ext_refl _⟩, ?_⟩
  rintro n_ i_ _ w2 ⟨k, hv, hk, e⟩
  simp only [List.cons.injEq, Value.int.injEq, true_and, and_true] at hv
  obtain ⟨rfl, rfl⟩ := hv
  have hsz : ∀ e ∈ l, szO e ≤ 35184372088832 := fun e he => by have := (hO e he).2.2; unfold szO; omega
  refine ifB_intro (fun z => ?_) fun z => ?_
  · have z : k < len := by have := of_decide_eq_true z; omega
    have hkl : k < l.length := by omega
    have e2 := e.trans (ext_drew w2)
    have hs := szO_le (l := l.take (k + 1)) fun x hx => hsz x (List.mem_of_mem_take hx)
    have ht1 : ((l.take (k + 1)).map szO).sum = ((l.take k).map szO).sum + szO l[k] := by
      rw [← List.take_append_getElem hkl, List.map_append, List.sum_append]; simp
    have hlt : (l.take (k + 1)).length ≤ 60 := by rw [List.length_take]; omega
    refine ⟨fun w' => Ext w2.drew w', ext_refl _, ?_⟩
    have O := hO l[k] (List.getElem_mem hkl)
    refine ix_flatC (ec := opC) (s := 15) (C := fun w' => Ext w2.drew w') (fun _ => rfl) (by omega) (fun w' e' => hl.ext (e2.trans e')) (ext_refl _) hn (k := k) rfl z fun a3 r3 => ?_
    obtain ⟨⟨pp, pc, ep, _⟩, ⟨kp, kc, ek, _⟩⟩ := O.2.1
    refine ⟨pp, l[k].1.pairs.length, pc, fun w' e' => by rw [← ep]; exact r3 w' e' 13 _ rfl, ix_flatC (ec := opC) (s := 15) (C := fun w' => Ext w2.drew w') (fun _ => rfl) (by omega) (fun w' e' => hl.ext (e2.trans e')) (ext_refl _) hn (k := k) rfl z fun a4 r4 => ⟨kp, l[k].1.keys.length, kc, fun w' e' => by rw [← ek]; exact r4 w' e' 14 _ rfl, ?_⟩⟩
    rw [wrap_succ z (by omega)]
    have hszk : szO l[k] = l[k].1.pairs.length + l[k].1.keys.length := rfl
    rw [wrap_of (x := _ + ((l[k].1.pairs.length : Nat) : Int)) (by omega) (by omega), wrap_of (by omega) (by omega)]
    refine ⟨⟨k + 1, ?_, by omega, e2⟩, ?_⟩
    · rw [ht1, hszk]
      simp [Int.add_assoc]
    · show len - ((k + 1 : Nat) : Int).toNat < len - (k : Int).toNat
      omega
  · have z : k = len := by have := of_decide_eq_false z; omega
    rw [z, ← hn, List.take_length]
    by_cases h3 : 300 < (l.map szO).sum
    · rw [show decide ((((l.map szO).sum : Nat) : Int) > 300) = true by rw [decide_eq_true_eq]; omega]; exact ht w2 e
    · rw [show decide ((((l.map szO).sum : Nat) : Int) > 300) = false by rw [decide_eq_false_iff_not]; omega]; exact h w2 e z60 (by omega)
end Go.Proofs.YtmdboekndjlmgaaGreat

