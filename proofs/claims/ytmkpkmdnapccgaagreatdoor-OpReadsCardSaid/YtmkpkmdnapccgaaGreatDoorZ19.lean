/-
  op.all: over any coder.
-/
import Derived.Test.YtmkpkmdnapccgaaGreatDoorZ18
import Derived.Test.YtmkpkmdnapccgaaGreatDoorZ14
import Derived.Laws.Closers25b
import Derived.Test.YtmkpkmdnapccgaaGreatDoorZ04
import Derived.Test.YtmkpkmdnapccgaaGreatDoorProg
import Derived.Test.YtmkpkmdnapccgaaGreatDoorZ05

set_option maxRecDepth 100000
set_option maxHeartbeats 6400000
namespace Go.Proofs.YtmkpkmdnapccgaaGreatDoor
open Go Go.Sh Go.RowKit

theorem do_callf {P : Program} {k : Nat} {first bs : Array Value} {w : World} {R : EW} (he : ∀ xs w, (callFunc k xs).run P w = .ok (.enter k xs) w) (h : Calls P k (first ++ bs) w R) :
    doCall P (.func (.func k) first #[]) bs w R := ⟨callV_func he (by simpa using h)⟩
theorem call_fn (p : Part) : ∀ xs w, (callFunc (fnOf p) xs).run Tryz.prog w = .ok (.enter (fnOf p) xs) w := by
  cases p
  · exact Tryz.call69
  · exact Tryz.call74
  · exact Tryz.call77
  · exact Tryz.call70
  · exact Tryz.call71
  · exact Tryz.call78
  · exact Tryz.call79
  · exact Tryz.call72
  · exact Tryz.call75
  · exact Tryz.call73
  · exact Tryz.call76
theorem partsOf_len (d : Int) : (partsOf d).length ≤ 4 := partsOf_cases d (C := fun l => l.length ≤ 4) (by simp) (by simp) (by simp) (by simp) (by simp) (by simp) (by simp) (by simp) (by simp) (by simp) (by simp) (by simp)
section
variable {σ : Type} {c : PC σ}
theorem pairsP_len : ∀ (m k : Nat) (l l' : List (Int × Int)) (s s' : σ), pairsP c m k l s = some (l', s') → l'.length ≤ max l.length (k + m)
  | 0, k, l, l', s, s', h => by
    simp only [pairsP, Option.some.injEq, Prod.mk.injEq] at h
    obtain ⟨rfl, rfl⟩ := h
    omega
  | m + 1, k, l, l', s, s', h => by
    simp only [pairsP] at h
    obtain ⟨⟨v, s1⟩, hv, h⟩ := Option.bind_eq_some_iff.1 h
    have := pairsP_len m (k + 1) _ l' s1 s' h
    split at this
    · rw [List.length_append, List.length_singleton] at this; omega
    · omega
theorem keysP_len : ∀ (m k : Nat) (l l' : List Int) (s s' : σ), keysP c m k l s = some (l', s') → l'.length ≤ max l.length (k + m)
  | 0, k, l, l', s, s', h => by
    simp only [keysP, Option.some.injEq, Prod.mk.injEq] at h
    obtain ⟨rfl, rfl⟩ := h
    omega
  | m + 1, k, l, l', s, s', h => by
    simp only [keysP] at h
    obtain ⟨⟨v, s1⟩, hv, h⟩ := Option.bind_eq_some_iff.1 h
    have := keysP_len m (k + 1) _ l' s1 s' h
    split at this
    · rw [List.length_append, List.length_singleton] at this; omega
    · omega
theorem partP_len (C : CBase c) {p : Part} {x x' : POp} {s s' : σ} (hP : x.pairs.length ≤ 5000) (hK : x.keys.length ≤ 5000) (h : partP c p x s = some (x', s')) : x'.pairs.length ≤ 5000 ∧ x'.keys.length ≤ 5000 := by
  obtain ⟨_, hag⟩ := partP_op h
  by_cases h1 : p = .pairs
  · subst h1
    have hk : x.keys = x'.keys := hag .keys (by simp)
    simp only [partP] at h
    obtain ⟨⟨m, s1⟩, hr, h⟩ := Option.bind_eq_some_iff.1 h
    obtain ⟨⟨l, s2⟩, hq, h⟩ := Option.bind_eq_some_iff.1 h
    cases h
    have := pairsP_len m 0 _ _ _ _ hq
    have := (C.manyIn (by omega) hr).1
    refine ⟨?_, hK⟩
    show l.length ≤ 5000
    omega
  by_cases h2 : p = .keys
  · subst h2
    simp only [partP] at h
    obtain ⟨⟨m, s1⟩, hr, h⟩ := Option.bind_eq_some_iff.1 h
    obtain ⟨⟨l, s2⟩, hq, h⟩ := Option.bind_eq_some_iff.1 h
    cases h
    have := keysP_len m 0 _ _ _ _ hq
    have := (C.manyIn (by omega) hr).1
    refine ⟨hP, ?_⟩
    show l.length ≤ 5000
    omega
  · rw [← show x.pairs = x'.pairs from hag .pairs (Ne.symm h1), ← show x.keys = x'.keys from hag .keys (Ne.symm h2)]
    exact ⟨hP, hK⟩
end
section
variable {σ : Type} {c : PC σ} {ct : TypeId} {cp : Value} (C : Coder c ct cp)
theorem c_opallW {xb : Nat} {x : POp} {pv kv : Value} {w : World} {s : σ} {R : EW} (hO : ∀ w', Ext w w' → ∀ k, C.own w' k ↔ C.own w k)
    (hW : ∀ {w1 : World} {q : OA} {n cap : Nat} {R1 : EW}, Ext w w1 → OpAt w1 xb x pv kv → Cs w1 q (strs opNames) → opNames.length = n → n ≤ cap →
      (∀ v' s' w', c.word opNames x.op s = some (v', s') → C.I w' s' → Blk w' xb ((opCells x pv kv).setIfInBounds 0 (.int .u8 v')) 37 → Chg C.own (· = xb) w1 w' → R1 (.returned unitV) w') →
      (∀ ch u w', c.word opNames x.op s = none → NoneCh ch → (∃ s', C.I w' s') → Blk w' xb ((opCells x pv kv).setIfInBounds 0 (.int .u8 u)) 37 → Chg C.own (· = xb) w1 w' → R1 (.panicked ch) w') →
      doGo Tryz.prog (.fn (.method "joinery/op.word") #[]) #[.iface ct cp, .pointer (some ⟨xb, 0, none⟩), .slice q n cap] w1 R1)
    (hl : C.len s + 50000 * C.grow ≤ lim) (ho : ¬ C.own w xb) (hx : OpAt w xb x pv kv) (hin : InO x) (hr : RowsAt C.own xb w x pv kv)
    (hP : x.pairs.length ≤ 5000) (hK : x.keys.length ≤ 5000) (hpol : C.pre polNames x.pol) (hpred : C.pre kindNames x.pk) (hmp : ModeR c x.pairs.length pv) (hmk : ModeR c x.keys.length kv)
    (h : ∀ x' s' w' pv' kv', allP c x s = some (x', s') → C.I w' s' → OpAt w' xb x' pv' kv' → RowsAt C.own xb w' x' pv' kv' → InO x' → C.len s' ≤ C.len s + 30000 * C.grow → Chg C.own (· = xb) w w' → R (.returned unitV) w')
    (hn : ∀ ch w', allP c x s = none → NoneCh ch → Some15 w' xb → (∃ s', C.I w' s') → Chg C.own (· = xb) w w' → R (.panicked ch) w') :
    Calls Tryz.prog 23 #[.pointer (some (blk xb)), .iface ct cp] w R := by
  refine sh23_ok _ _ _ ?_
  unfold sh23
  refine ⟨?_⟩
  have e1 := ext_drew w
  generalize w.drew = w1 at e1 ⊢
  have hxb := hx.lt
  refine ⟨_, rfl, C.ncw (do_call Tryz.call51 (c_names fun nb w2 e2 hcs hnb1 hnb2 => retS_ret ⟨_, _, _, rfl, ?_⟩))⟩
  have e12 := e1.trans e2
  have hx2 : OpAt w2 xb x pv kv := hx.ext e12
  have k2 : Chg C.own (SF w.heap.size (· = xb)) w w2 := ⟨e12.os, e12.tape, e12.output, e12.size, fun k hk _ _ => e12.block k hk, fun k _ h1 h2 => h1 ((hO w2 e12 k).1 h2)⟩
  have hs1 := e1.size
  refine hW e12 hx2 hcs rfl (Nat.le_refl _) (fun d s3 w3 hv hI3 hb3 c3 => retS_ret ⟨rfl, ?_⟩) fun ch u w3 hv hch hI3 hb3 c3 => ?_
  case refine_2 =>
    have k : Chg C.own (· = xb) w w3 := (k2.trans (c3.mono fun _ => .inl)).fresh
    exact hn ch w3 (by simp only [allP, hv]; rfl) hch (hr.some (y := { x with op := u }) hb3) hI3 k
  have l3 := C.wordIn hin.op hv
  have hx3 : OpAt w3 xb { x with op := d } pv kv := hb3
  have k3 : Chg C.own (SF w.heap.size (· = xb)) w w3 := k2.trans (c3.mono fun _ => .inl)
  have hq : allP c x s = partsP c (partsOf d) { x with op := d } s3 := by simp only [allP, hv]; rfl
  refine do_call Tryz.call52 (c_parts (hx3.cell (i := 0) rfl rfl) fun q w4 e4 hcq hqb => retS_ret ⟨_, _, _, rfl, ?_⟩)
  have own4 := (C.ext hI3 e4).2
  have hx4 : OpAt w4 xb { x with op := d } pv kv := hx3.ext e4
  have k4 : Chg C.own (SF w.heap.size (· = xb)) w w4 := k3.trans (C.chg_ext hI3 e4)
  have hs3 := k3.size
  have hqo : ∀ a, q = some a → ¬ C.own w4 a.block := fun a ha h => C.new' hI3 (hqb a ha).1 ((own4 _).1 h)
  have hin1 : InO { x with op := d } := { hin with op := l3.1 }
  refine ⟨fun vs w' => ∃ k x' s' pv' kv', vs = [.int .i64 ((k : Nat) : Int)] ∧ k ≤ (partsOf d).length ∧ C.I w' s' ∧ OpAt w' xb x' pv' kv' ∧ RowsAt C.own xb w' x' pv' kv' ∧ InO x' ∧ partsP c ((partsOf d).drop k) x' s' = allP c x s ∧
      Chg C.own (SF w.heap.size (· = xb)) w w' ∧ C.len s' ≤ C.len s3 + k * (6000 * C.grow) ∧ (∀ p ∈ (partsOf d).drop k, agree p x x') ∧ (.pairs ∈ (partsOf d).drop k → pv' = pv) ∧ (.keys ∈ (partsOf d).drop k → kv' = kv) ∧
      x'.pairs.length ≤ 5000 ∧ x'.keys.length ≤ 5000 ∧ (∀ i v, ((partsOf d).map (partV xb (.iface ct cp)))[i]? = some v → ∃ a, q = some a ∧ w'.cell? (a.add i) = some v) ∧ (∀ a, q = some a → ¬ C.own w' a.block) ∧ w4.heap.size ≤ w'.heap.size,
    fun vs _ => match vs with | [.int _ i] => ((partsOf d).length - i.toNat) | _ => 0,
    ⟨0, { x with op := d }, s3, pv, kv, rfl, Nat.zero_le _, (C.ext hI3 e4).1, hx4, ?_, hin1, by rw [List.drop_zero, hq], k4, by omega, fun p _ => by cases p <;> simp [agree], fun _ => rfl, fun _ => rfl, hP, hK, hcq, hqo, Nat.le_refl _⟩, ?_⟩
  · exact ⟨(hr.chg k4.fresh).p, (hr.chg k4.fresh).k⟩
  · rintro i _ w5 ⟨k, x5, s5, pv5, kv5, hvs, hk, hI5, hx5, hr5, hin5, hp5, k5, hl5, ha5, hpv5, hkv5, hP5, hK5, hc5, hqo5, hz5⟩
    obtain rfl : i = (k : Int) := by simpa using hvs
    have hlen := partsOf_len d
    refine ifB_intro (fun z => ?_) fun z => ?_
    case refine_2 =>
      have z : ¬ k < (partsOf d).length := by have z : ¬ ((k : Nat) : Int) < (((partsOf d).length : Nat) : Int) := of_decide_eq_false z; omega
      rw [List.drop_of_length_le (by omega), partsP] at hp5
      have hkk : k * (6000 * C.grow) ≤ 24000 * C.grow := by rw [← Nat.mul_assoc]; exact Nat.mul_le_mul_right _ (by omega)
      exact h x5 s5 w5 pv5 kv5 hp5.symm hI5 hx5 hr5 hin5 (by have := l3.2; omega) k5.fresh
    have z : k < (partsOf d).length := by have z : ((k : Nat) : Int) < (((partsOf d).length : Nat) : Int) := of_decide_eq_true z; omega
    have hdr : (partsOf d).drop k = (partsOf d)[k] :: (partsOf d).drop (k + 1) := List.drop_eq_getElem_cons z
    have hnd : ((partsOf d).drop k).Nodup := (partsOf_nodup d).sublist (List.drop_sublist _ _)
    rw [hdr] at hp5 ha5 hpv5 hkv5 hnd
    have hnd' := List.nodup_cons.1 hnd
    refine ix_val (l := (partsOf d).map (partV xb (.iface ct cp))) (fun i v hv => hc5 i v hv) (by simp) z fun a hca => ?_
    rw [List.getElem_map] at hca
    refine ⟨_, _, _, hca, do_callf (call_fn _) ?_⟩
    generalize (partsOf d)[k] = p at *
    have hag : ∀ q ∈ p :: (partsOf d).drop (k + 1), agree q x x5 := ha5
    have hkk : k * (6000 * C.grow) ≤ 24000 * C.grow := by rw [← Nat.mul_assoc]; exact Nat.mul_le_mul_right _ (by omega)
    rw [partsP] at hp5
    refine c_part C p hI5 (by have := l3.2; omega) (k5.out xb hxb ho) hx5 hin5 hr5 (fun _ => hP5) (fun _ => hK5) ?_ ?_ ?_ ?_ (fun x6 s6 w6 pv6 kv6 hp6 hI6 hx6 hr6 c6 hpp hkk6 => retS_ret ⟨rfl, ?_⟩) fun ch w6 hp6 hch hs6 hI6 c6 => ?_
    · rintro rfl
      rw [← show x.pol = x5.pol from hag .pol (by simp)]; exact hpol
    · rintro rfl
      rw [← show x.pk = x5.pk from (hag .pred (by simp)).1]; exact hpred
    · rintro rfl
      rw [← show x.pairs = x5.pairs from hag .pairs (by simp), hpv5 (by simp)]; exact hmp
    · rintro rfl
      rw [← show x.keys = x5.keys from hag .keys (by simp), hkv5 (by simp)]; exact hmk
    · obtain ⟨hop6, hag6⟩ := partP_op hp6
      obtain ⟨hin6, hl6⟩ := partP_in C.toCBase hin5 hP5 hK5 hp6
      rw [hp6, Option.bind_some] at hp5
      have hpl := partP_len C.toCBase hP5 hK5 hp6
      have hgr : (k + 1) * (6000 * C.grow) = k * (6000 * C.grow) + 6000 * C.grow := by rw [Nat.add_mul, Nat.one_mul]
      refine ⟨⟨k + 1, x6, s6, pv6, kv6, by rw [wrap_succ (n := 5000) (by omega) (by omega)], by omega, hI6, hx6, hr6, hin6, hp5, k5.trans (c6.mono fun _ => .inl), by omega, fun q hq => ?_, fun hq => ?_, fun hq => ?_, hpl.1, hpl.2, fun i v hv => ?_, fun a ha => ?_, Nat.le_trans hz5 c6.size⟩, ?_⟩
      · exact agree_trans (hag q (List.mem_cons_of_mem _ hq)) (hag6 q fun e => hnd'.1 (e ▸ hq))
      · rw [hpp (fun e => hnd'.1 (e ▸ hq)), hpv5 (List.mem_cons_of_mem _ hq)]
      · rw [hkk6 (fun e => hnd'.1 (e ▸ hq)), hkv5 (List.mem_cons_of_mem _ hq)]
      · obtain ⟨a, ha, hc⟩ := hc5 i v hv
        exact ⟨a, ha, c6.cell hc (by rw [add_block]; exact hqo5 a ha) (by rw [add_block]; have := (hqb a ha).1; omega)⟩
      · exact c6.out _ (Nat.lt_of_lt_of_le (hqb a ha).2 hz5) (hqo5 a ha)
      · rw [wrap_succ (n := 5000) (by omega) (by omega)]
        simp only [Int.toNat_natCast]
        omega
    · refine hn ch w6 (by rw [← hp5, hp6]; rfl) hch hs6 hI6 (k5.trans (c6.mono fun _ => .inl)).fresh
theorem c_opall {xb : Nat} {x : POp} {pv kv : Value} {w : World} {s : σ} {R : EW} (hI : C.I w s) (hl : C.len s + 50000 * C.grow ≤ lim) (ho : ¬ C.own w xb) (hx : OpAt w xb x pv kv) (hin : InO x) (hr : RowsAt C.own xb w x pv kv)
    (hP : x.pairs.length ≤ 5000) (hK : x.keys.length ≤ 5000) (hop : C.pre opNames x.op) (hpol : C.pre polNames x.pol) (hpred : C.pre kindNames x.pk) (hmp : ModeR c x.pairs.length pv) (hmk : ModeR c x.keys.length kv)
    (h : ∀ x' s' w' pv' kv', allP c x s = some (x', s') → C.I w' s' → OpAt w' xb x' pv' kv' → RowsAt C.own xb w' x' pv' kv' → InO x' → C.len s' ≤ C.len s + 30000 * C.grow → Chg C.own (· = xb) w w' → R (.returned unitV) w')
    (hn : ∀ ch w', allP c x s = none → NoneCh ch → Some15 w' xb → (∃ s', C.I w' s') → Chg C.own (· = xb) w w' → R (.panicked ch) w') :
    Calls Tryz.prog 23 #[.pointer (some (blk xb)), .iface ct cp] w R :=
  c_opallW C (fun _ e => (C.ext hI e).2) (fun {w1 _ _ _ _} e hx1 hcs hn1 hc1 k1 k2 => C.word (b := xb) (i := 0) (C.ext hI e).1 (by omega) (fun h => ho (((C.ext hI e).2 _).1 h)) hx1 rfl hin.op hcs hn1 hc1 hop k1 fun ch u s' w' hv hch _ hI' hb c => k2 ch u w' hv hch ⟨_, hI'⟩ hb c) hl ho hx hin hr hP hK hpol hpred hmp hmk h hn
end
end Go.Proofs.YtmkpkmdnapccgaaGreatDoor

namespace Go.Proofs.YtmkpkmdnapccgaaGreatDoor
open Go Go.Sh Go.RowKit

def stepsA : Array Value := #[.int .i64 30, .int .u64 13787848793156543929, .int .i64 27, .int .u64 10723151780598845931, .int .i64 31, .int .u64 1]
theorem c_all {w : World} {R : EW} (h : ∀ w', Ext w w' → R (.returned (.agg stepsA)) w') : Calls Tryz.prog 187 #[] w R := by
  refine sh187_ok ?_
  unfold sh187
  refine ⟨?_⟩
  refine do_st (blk_alloc w _ _) (i := 0) rfl (by decide) fun w1 h1 g1 => ?_
  refine do_st h1 (i := 1) rfl (by decide) fun w2 h2 g2 => ?_
  refine do_st h2 (i := 2) rfl (by decide) fun w3 h3 g3 => ?_
  refine do_st h3 (i := 3) rfl (by decide) fun w4 h4 g4 => ?_
  refine do_st h4 (i := 4) rfl (by decide) fun w5 h5 g5 => ?_
  refine do_st h5 (i := 5) rfl (by decide) fun w6 h6 g6 => ?_
  refine ⟨_, h6.cell (i := 0) rfl rfl, _, h6.cell (i := 1) rfl rfl, _, h6.cell (i := 2) rfl rfl, _, h6.cell (i := 3) rfl rfl, _, h6.cell (i := 4) rfl rfl, _, h6.cell (i := 5) rfl rfl, ?_⟩
  have e := ext_alloc w (.cells #[.int .i64 0, .int .u64 0, .int .i64 0, .int .u64 0, .int .i64 0, .int .u64 0] 223)
  exact h _ ((((((e.st g1 (Nat.le_refl _)).st g2 (Nat.le_refl _)).st g3 (Nat.le_refl _)).st g4 (Nat.le_refl _)).st g5 (Nat.le_refl _)).st g6 (Nat.le_refl _))
theorem c_steps {back : Bool} {w : World} {R : EW} (h : ∀ b1 b2 w', Ext w w' → w.heap.size ≤ b1 → w.heap.size ≤ b2 → b1 ≠ b2 → Blk w' b1 #[.bool back] 4 → Blk w' b2 stepsA 223 →
    R (.returned (.func (.func 188) #[] #[.pointer (some (blk b1)), .pointer (some (blk b2))])) w') : Calls Tryz.prog 184 #[.bool back] w R := by
  refine sh184_ok _ ?_
  unfold sh184
  refine ⟨?_⟩
  have hb := blk_alloc w #[.bool back] 4
  refine do_call Tryz.call187 (c_all fun w0 e0 => retS_ret ⟨_, _, _, _, _, _, rfl, ⟨?_⟩⟩)
  have E0 := (ext_alloc w (.cells #[.bool back] 4)).trans e0
  have hb0 := (hb.ext e0).ext (ext_alloc w0 (.cells #[.int .i64 0, .int .u64 0, .int .i64 0, .int .u64 0, .int .i64 0, .int .u64 0] 223))
  have hne : w.heap.size ≠ w0.heap.size := by have := (hb.ext e0).lt; omega
  have hle : w.heap.size ≤ w0.heap.size := by have := (hb.ext e0).lt; omega
  refine do_st (blk_alloc w0 _ _) (i := 0) rfl (by decide) fun w1 h1 g1 => ?_
  refine do_st h1 (i := 1) rfl (by decide) fun w2 h2 g2 => ?_
  refine do_st h2 (i := 2) rfl (by decide) fun w3 h3 g3 => ?_
  refine do_st h3 (i := 3) rfl (by decide) fun w4 h4 g4 => ?_
  refine do_st h4 (i := 4) rfl (by decide) fun w5 h5 g5 => ?_
  refine do_st h5 (i := 5) rfl (by decide) fun w6 h6 g6 => ?_
  have hb6 := (((((hb0.grown g1 (ne_some hne)).grown g2 (ne_some hne)).grown g3 (ne_some hne)).grown g4 (ne_some hne)).grown g5 (ne_some hne)).grown g6 (ne_some hne)
  have e := E0.alloc (.cells #[.int .i64 0, .int .u64 0, .int .i64 0, .int .u64 0, .int .i64 0, .int .u64 0] 223)
  exact h _ _ _ ((((((e.st g1 hle).st g2 hle).st g3 hle).st g4 hle).st g5 hle).st g6 hle) (Nat.le_refl _) hle hne hb6 h6
def stepB (x : BitVec 64) : Nat → BitVec 64
  | 0 => xs 30 x * 13787848793156543929#64
  | 1 => xs 27 x * 10723151780598845931#64
  | _ => xs 31 x * 1#64
def stepsB (x : BitVec 64) : Nat → BitVec 64
  | 0 => x
  | i + 1 => stepB (stepsB x i) i
theorem stepsB_3 (x : BitVec 64) : stepsB x 3 = mixB x := by simp [stepsB, stepB, mixB]
theorem c_mix {x : BitVec 64} {w : World} {R : EW} (h : ∀ w', Ext w w' → R (.returned (.int .u64 (U (mixB x)))) w') : Calls Tryz.prog 179 #[.int .u64 (U x)] w R := by
  refine sh179_ok _ ?_
  unfold sh179
  refine ⟨?_⟩
  have hx := blk_alloc w #[.int .u64 (U x)] 127
  refine do_call Tryz.call184 (c_steps fun b1 b2 w1 e1 hb1 hb2 hne h1 h2 => retS_ret ⟨_, _, _, rfl, ⟨fun fn => ?_⟩⟩)
  have hx1 := hx.ext e1
  have E1 := (ext_alloc w (.cells #[.int .u64 (U x)] 127)).trans e1
  have hd : (w1.alloc (.deferred (some []))).heap[w1.heap.size]? = some (.deferred (some [])) := heap_alloc_new _ _
  generalize hrec : mkLoop _ _ _ _ = L
  have hl : ((w1.alloc (.deferred (some []))).alloc (.loop (L fn w1.heap.size))).heap[w1.heap.size + 1]? = some (.loop (L fn w1.heap.size)) := by
    have := heap_alloc_new (w1.alloc (.deferred (some []))) (.loop (L fn w1.heap.size))
    simpa using this
  have e2 := (ext_alloc w1 (.deferred (some []))).trans (ext_alloc _ (.loop (L fn w1.heap.size)))
  have hd := (ext_alloc _ (.loop (L fn w1.heap.size))).heap hd
  have hE : w.heap.size < w1.heap.size := hx1.lt
  have hl1 := h1.lt
  have hl2 := h2.lt
  have hx2 := hx1.ext e2
  have h1 := h1.ext e2
  have h2 := h2.ext e2
  have E2 := E1.trans e2
  simp at hb1 hb2
  generalize (w1.alloc (.deferred (some []))).alloc (.loop (L fn w1.heap.size)) = w2 at hd hl hx2 h1 h2 E2 ⊢
  generalize hsz : w1.heap.size = d at *
  clear e1 hx1 e2 E1 hx
  have hst : (L fn d).state = .ready ∧ (L fn d).pending = none := by rw [← hrec]; exact ⟨rfl, rfl⟩
  refine callE_c Tryz.call188 (by rfl) (sh188_ok _ _ _ _ _ ?_)
  unfold sh188
  refine ⟨fun vs w' => ∃ i : Nat, vs = [.int .i64 i] ∧ i ≤ 3 ∧ Ext w w' ∧ w'.heap[d]? = some (.deferred (some [])) ∧ w'.heap[d + 1]? = some (.loop (L fn d)) ∧ Blk w' b1 #[.bool false] 4 ∧ Blk w' b2 stepsA 223 ∧
      Blk w' w.heap.size #[.int .u64 (U (stepsB x i))] 127, fun vs _ => 3 - (intOf (vs.getD 0 undef)).toNat, ⟨0, rfl, by omega, E2, hd, hl, h1, h2, hx2⟩, ?_⟩
  clear hd hl h1 h2 hx2 E2
  rintro i j w3 ⟨m, hm, hm3, E3, hd, hl, h1, h2, hx⟩
  simp only [List.cons.injEq, Value.int.injEq, true_and, and_true] at hm
  obtain rfl := hm
  refine ifB_intro (fun hlt => ?_) fun hge => ?_
  · have hlt : m < 3 := by have := of_decide_eq_true hlt; omega
    refine ⟨_, h1.cell (i := 0) rfl rfl, ifB_f rfl ?_⟩
    have hA : ∃ (s : Nat) (c : BitVec 64), stepsA[2 * m]? = some (.int .i64 s) ∧ stepsA[2 * m + 1]? = some (.int .u64 (U c)) ∧ s ≤ 64 ∧ stepsB x (m + 1) = xs s (stepsB x m) * c := by
      rcases m with _ | _ | _ | m
      · exact ⟨30, 13787848793156543929#64, rfl, rfl, by omega, rfl⟩
      · exact ⟨27, 10723151780598845931#64, rfl, rfl, by omega, rfl⟩
      · exact ⟨31, 1#64, rfl, rfl, by omega, rfl⟩
      · omega
    obtain ⟨s, c, hs, hc, hs64, hst'⟩ := hA
    have ha : ∀ k, ((blk b2).add ((m : Int).toNat * 2)).add k = ⟨b2, 2 * m + k, none⟩ := fun k => by rw [add_blk]; simp only [Addr.add]; split <;> simp <;> omega
    refine ⟨_, rfl, by omega, by omega, _, h2.cell (ha 0) hs, _, h2.cell (ha 1) hc, ?_⟩
    refine sh179_0_ok (by rw [hl, ← hrec]) ?_
    unfold sh179_0
    refine ⟨?_⟩
    have hw3 := hx.lt
    have hd3 := (Array.getElem?_eq_some_iff.1 hl).1
    refine do_st (blk_alloc w3 _ _) (i := 0) rfl (by simp) fun w5 h5 g5 => do_st h5 (i := 1) rfl (by simp) fun w6 h6 g6 => ?_
    have e6 : Ext w3 w6 := ((ext_alloc w3 _).st g5 (Nat.le_refl _)).st g6 (Nat.le_refl _)
    refine ⟨_, e6.heap hl, hst.1, ?_⟩
    have g7 := put_grown w6 (d + 1) (.loop { L fn d with state := .busy })
    have hl7 := put_heap (o' := .loop { L fn d with state := .busy }) (e6.heap hl)
    have hx7 := (hx.ext e6).grown g7 (ne_some (by omega))
    have h17 := (h1.ext e6).grown g7 (ne_some (by omega))
    have h27 := (h2.ext e6).grown g7 (ne_some (by omega))
    have hd7 := heap_grown g7 (e6.heap hd) (ne_some (by omega))
    have h67 := h6.grown g7 (ne_some (by omega))
    have E7 := (E3.trans e6).st g7 (by omega)
    generalize w6.putObj (d + 1) (.loop { L fn d with state := .busy }) = w7 at hl7 hx7 h17 h27 hd7 h67 E7 ⊢
    refine ⟨⟨fun w' => Ext w7 w', ext_drew _, ?_⟩⟩
    refine ⟨_, fun w' e' => (hx7.ext e').cell (i := 0) rfl rfl, _, fun w' e' => (hx7.ext e').cell (i := 0) rfl rfl, _, fun w' e' => (h67.ext e').cell (i := 0) rfl rfl, by omega, _, fun w' e' => (h67.ext e').cell (i := 1) rfl rfl, ?_⟩
    rw [shr_U _ s hs64, bXor_U, mul_U]
    refine do_st (w := w7.drew) (b := w.heap.size) hx7 (i := 0) rfl (by simp) fun w8 h8 g8 => ?_
    have hl8 := heap_grown (w := w7.drew) g8 hl7 (ne_some (by omega))
    refine ⟨_, hl8, ?_⟩
    rw [rec_back hst.1 hst.2]
    have g9 := put_grown w8 (d + 1) (.loop (L fn d))
    refine retS_ret ⟨_, rfl, ifB_f rfl ⟨⟨m + 1, by rw [wrap_succ hlt (by omega)], by omega, ?_, ?_, put_heap hl8, ?_, ?_, ?_⟩, ?_⟩⟩
    · exact (E7.drew.st g8 (Nat.le_refl _)).st g9 (by omega)
    · exact heap_grown g9 (heap_grown (w := w7.drew) g8 hd7 (ne_some (by omega))) (ne_some (by omega))
    · exact (Blk.grown (w := w7.drew) h17 g8 (ne_some (by omega))).grown g9 (ne_some (by omega))
    · exact (Blk.grown (w := w7.drew) h27 g8 (ne_some (by omega))).grown g9 (ne_some (by omega))
    · have : stepsB x (m + 1) = (xs s (stepsB x m)) * c := hst'
      rw [this]
      exact h8.grown g9 (ne_some (by omega))
    · rw [wrap_succ hlt (by omega)]
      simp [intOf]; omega
  · have hge : m = 3 := by have := of_decide_eq_false hge; omega
    subst hge
    rw [← stepsB_3] at h
    have hd3 := (Array.getElem?_eq_some_iff.1 hl).1
    refine rf_done hl (by rw [hst.1]; simp) hst.2 fun o => ?_
    have g9 := put_grown w3 (d + 1) o
    exact ⟨_, (hx.grown g9 (ne_some (by omega))).cell (i := 0) rfl rfl, heap_grown g9 hd (ne_some (by omega)), h _ ((E3.st g9 (by omega)).put (by omega) _)⟩

theorem c_revBytes {x : BitVec 64} {w : World} {R : EW} (h : R (.returned (.int .u64 (U (revBytes x)))) w) : Calls Tryz.prog 186 #[.int .u64 (U x)] w R := by
  refine sh186_ok _ ?_
  unfold sh186
  refine ⟨by omega, by omega, by omega, by omega, by omega, by omega, ?_⟩
  simp only [shr_8, shr_16, shr_32, and_d, and_e, shl_8, shl_16, shl_32, bOr_U]
  exact h
theorem c_rev64 {x : BitVec 64} {w : World} {R : EW} (h : R (.returned (.int .u64 (U (revB x)))) w) : Calls Tryz.prog 182 #[.int .u64 (U x)] w R := by
  refine sh182_ok _ ?_
  unfold sh182
  refine ⟨by omega, by omega, by omega, by omega, by omega, by omega, ?_⟩
  simp only [shr_1, shr_2, shr_4, and_a, and_b, and_c, shl_1, shl_2, shl_4, bOr_U]
  exact do_call Tryz.call186 (c_revBytes (retS_ret ⟨_, rfl, h⟩))
theorem c_flip {x : BitVec 64} {w : World} {R : EW} (h : R (.returned (.int .u64 (U (revB x)))) w) : Calls Tryz.prog 171 #[.int .u64 (U x)] w R := by
  refine sh171_ok _ ?_
  unfold sh171
  exact do_call Tryz.call182 (c_rev64 (retS_ret ⟨_, rfl, h⟩))
theorem c_rotl {x : BitVec 64} {k : Int} {s : Nat} (hs : s < 64) (hk : bAnd .u64 (IntKind.wrap .u64 k) 63 = (s : Int)) {w : World} {R : EW}
    (h : R (.returned (.int .u64 (U ((x <<< s) ||| (x >>> (64 - s)))))) w) : Calls Tryz.prog 183 #[.int .u64 (U x), .int .i64 k] w R := by
  refine sh183_ok _ _ ?_
  unfold sh183
  have e : IntKind.wrap .u64 (64 - (s : Int)) = ((64 - s : Nat) : Int) := by rw [wrap64u]; omega
  rw [hk, e]
  refine ⟨by omega, by omega, ?_⟩
  rw [shl_U x s (by omega), shr_U x (64 - s) (by omega), bOr_U]
  exact h
theorem c_turn {x : BitVec 64} {n : Int} {s : Nat} (hs : s < 64) (hk : bAnd .u64 (IntKind.wrap .u64 (Int.tmod n 64)) 63 = (s : Int)) {w : World} {R : EW}
    (h : R (.returned (.int .u64 (U ((x <<< s) ||| (x >>> (64 - s)))))) w) : Calls Tryz.prog 174 #[.int .u64 (U x), .int .i64 n] w R := by
  refine sh174_ok _ _ ?_
  unfold sh174
  exact ⟨by omega, do_call Tryz.call183 (c_rotl hs hk (retS_ret ⟨_, rfl, h⟩))⟩

theorem c_up {k : Int} (hk : In k) {w : World} {R : EW} (h : R (.returned (.int .u64 (upI k))) w) : Calls Tryz.prog 164 #[.int .i64 k] w R := by
  refine sh164_ok _ ?_
  unfold sh164
  rw [upB_U hk]
  exact h
theorem up_U {k : Int} (hk : In k) : upI k = U (BitVec.ofInt 64 (upI k)) := by
  rw [U_ofInt]; unfold upI In at *; omega
def kd (nm : ByteArray) (f g : Nat) : Value := .agg #[.string nm, .func (.func f) #[] #[], .func (.func g) #[] #[]]
def orderEs : Array MapEntry := #[
  { key := .int .u8 1, val := kd ⟨#[117, 112]⟩ 164 165, born := 0 },
  { key := .int .u8 2, val := kd ⟨#[100, 111, 119, 110]⟩ 166 167, born := 1 },
  { key := .int .u8 3, val := kd ⟨#[115, 105, 122, 101]⟩ 168 169, born := 2 },
  { key := .int .u8 4, val := kd ⟨#[98, 105, 116, 115]⟩ 170 172, born := 3 },
  { key := .int .u8 5, val := kd ⟨#[101, 118, 101, 110]⟩ 173 175, born := 4 },
  { key := .int .u8 6, val := kd ⟨#[108, 111, 119]⟩ 176 177, born := 5 },
  { key := .int .u8 7, val := kd ⟨#[109, 105, 120]⟩ 178 180, born := 6 }]
theorem c_okinds {w : World} {R : EW} (h : ∀ b w', Ext w w' → w'.heap[b]? = some (.map orderEs 7) → R (.returned (.map (some b))) w') : Calls Tryz.prog 163 #[] w R := by
  refine sh163_ok ?_
  unfold sh163
  refine ⟨?_⟩
  refine do_mu_new Tryz.underlying216 Tryz.underlying5 (heap_alloc_new w _) (by rfl) (by rfl) fun w1 h1 g1 => ?_
  refine do_mu_new Tryz.underlying216 Tryz.underlying5 h1 (by rfl) (by rfl) fun w2 h2 g2 => ?_
  refine do_mu_new Tryz.underlying216 Tryz.underlying5 h2 (by rfl) (by rfl) fun w3 h3 g3 => ?_
  refine do_mu_new Tryz.underlying216 Tryz.underlying5 h3 (by rfl) (by rfl) fun w4 h4 g4 => ?_
  refine do_mu_new Tryz.underlying216 Tryz.underlying5 h4 (by rfl) (by rfl) fun w5 h5 g5 => ?_
  refine do_mu_new Tryz.underlying216 Tryz.underlying5 h5 (by rfl) (by rfl) fun w6 h6 g6 => ?_
  refine do_mu_new Tryz.underlying216 Tryz.underlying5 h6 (by rfl) (by rfl) fun w7 h7 g7 => ?_
  have e := ext_alloc w (.map #[] 0)
  exact h _ _ (((((((e.st g1 (Nat.le_refl _)).st g2 (Nat.le_refl _)).st g3 (Nat.le_refl _)).st g4 (Nat.le_refl _)).st g5 (Nat.le_refl _)).st g6 (Nat.le_refl _)).st g7 (Nat.le_refl _)) h7
theorem find_order {o : Int} (h : isO o = true) : ∃ i f g, Instr.findNow (.int .u8) (.int .u8 o) orderEs.toList 0 = some (some (i, kd (nameB o) f g)) ∧
    ∀ (k : Int), In k → ∀ (w : World) (R : EW), (∀ w', Ext w w' → R (.returned (.int .u64 (codeI o k))) w') → doCall Tryz.prog (.func (.func f) #[] #[]) #[.int .i64 k] w R := by
  rcases isO_cases h with rfl | rfl | rfl | rfl | rfl | rfl | rfl
  · exact ⟨0, 164, 165, rfl, fun k hk w R h => do_call Tryz.call164 (c_up hk (h _ (ext_refl _)))⟩
  · refine ⟨1, 166, 167, rfl, fun k hk w R h => do_call Tryz.call166 (sh166_ok _ ?_)⟩
    unfold sh166
    refine do_call Tryz.call164 (c_up hk (retS_ret ⟨_, rfl, ?_⟩))
    rw [not_U (by unfold upI In at *; omega) (by unfold upI In at *; omega)]
    exact h _ (ext_refl _)
  · refine ⟨2, 168, 169, rfl, fun k hk w R h => do_call Tryz.call168 (sh168_ok _ ?_)⟩
    unfold sh168
    refine ⟨by omega, by omega, ?_⟩
    rw [size_U hk]
    exact h _ (ext_refl _)
  · refine ⟨3, 170, 172, rfl, fun k hk w R h => do_call Tryz.call170 (sh170_ok _ ?_)⟩
    unfold sh170
    rw [wrap_U]
    exact do_call Tryz.call171 (c_flip (retS_ret ⟨_, rfl, h _ (ext_refl _)⟩))
  · refine ⟨4, 173, 175, rfl, fun k hk w R h => do_call Tryz.call173 (sh173_ok _ ?_)⟩
    unfold sh173
    refine do_call Tryz.call164 (c_up hk (retS_ret ⟨_, rfl, ?_⟩))
    have hu := up_U hk
    rw [hu]
    refine do_call Tryz.call174 (c_turn (s := 63) (by omega) (by decide) (retS_ret ⟨_, rfl, ?_⟩))
    have := h _ (ext_refl _)
    have e : U ((BitVec.ofInt 64 (upI k)) <<< 63 ||| (BitVec.ofInt 64 (upI k)) >>> (64 - 63)) = codeI 5 k := by
      rw [rot_U _ (by omega) (by omega)]
      have hn : ((BitVec.ofInt 64 (upI k)).toNat : Int) = upI k := hu.symm
      simp only [codeI]
      simp
      unfold upI In at *
      split <;> omega
    rw [e]; exact this
  · refine ⟨5, 176, 177, rfl, fun k hk w R h => do_call Tryz.call176 (sh176_ok _ ?_)⟩
    unfold sh176
    refine do_call Tryz.call164 (c_up hk (retS_ret ⟨_, rfl, ?_⟩))
    have hu := up_U hk
    rw [hu]
    refine do_call Tryz.call174 (c_turn (s := 32) (by omega) (by decide) (retS_ret ⟨_, rfl, ?_⟩))
    have := h _ (ext_refl _)
    have e : U ((BitVec.ofInt 64 (upI k)) <<< 32 ||| (BitVec.ofInt 64 (upI k)) >>> (64 - 32)) = codeI 6 k := by
      rw [rot_U _ (by omega) (by omega)]
      have hn : ((BitVec.ofInt 64 (upI k)).toNat : Int) = upI k := hu.symm
      simp only [codeI]
      simp
      unfold upI In at *
      omega
    rw [e]; exact this
  · refine ⟨6, 178, 180, rfl, fun k hk w R h => do_call Tryz.call178 (sh178_ok _ ?_)⟩
    unfold sh178
    rw [wrap_U]
    exact do_call Tryz.call179 (c_mix fun w' e => retS_ret ⟨_, rfl, h _ e⟩)
theorem find_order_none {o : Int} (h : isO o = false) : Instr.findNow (.int .u8) (.int .u8 o) orderEs.toList 0 = some none := by
  have hn : ∀ i : Int, 1 ≤ i → i ≤ 7 → (o == i) = false := fun i h1 h2 => by
    simp [isO] at h
    simp; omega
  simp [orderEs, Instr.findNow, Instr.sameNow, hn]
theorem c_code {o k : Int} (hk : In k) {w : World} {R : EW} (h : ∀ w', Ext w w' → R (.returned (.tuple #[.int .u64 (cond (isO o) (codeI o k) 0), .int .i64 (cond (isO o) 0 2)])) w') :
    Calls Tryz.prog 162 #[.int .u8 o, .int .i64 k] w R := by
  refine sh162_ok _ _ ?_
  unfold sh162
  refine do_call Tryz.call163 (c_okinds fun b w1 e1 hb => retS_ret ⟨_, rfl, ?_⟩)
  cases hm : isO o <;> simp only [hm] at h
  · refine do_lk_miss Tryz.underlying216 Tryz.underlying5 hb (by rfl) (find_order_none hm) (z := .agg #[.string ⟨#[]⟩, .nilFunc, .nilFunc]) (by kernel_rfl) (.inr ⟨rfl, ⟨?_⟩⟩)
    refine do_st (blk_alloc w1 _ _) (i := 0) rfl (by simp) fun w2 h2 g2 => do_st h2 (i := 1) rfl (by simp) fun w3 h3 g3 => do_st h3 (i := 2) rfl (by simp) fun w4 h4 g4 => ?_
    exact h _ ((((e1.alloc _).st g2 e1.size).st g3 e1.size).st g4 e1.size)
  · obtain ⟨i, f, g, hf, hc⟩ := find_order hm
    refine do_lk_hit Tryz.underlying216 Tryz.underlying5 hb (by rfl) hf (.inl ⟨_, _, _, _, _, _, _, _, rfl, ⟨?_⟩⟩)
    refine do_st (blk_alloc w1 _ _) (i := 0) rfl (by simp) fun w2 h2 g2 => do_st h2 (i := 1) rfl (by simp) fun w3 h3 g3 => do_st h3 (i := 2) rfl (by simp) fun w4 h4 g4 => ?_
    have E4 := (((e1.alloc (.cells #[.string ⟨#[]⟩, .nilFunc, .nilFunc] 214)).st g2 e1.size).st g3 e1.size).st g4 e1.size
    exact ⟨_, _, _, h4.cell (i := 1) rfl rfl, hc k hk _ _ fun w5 e5 => retS_ret ⟨_, rfl, h _ (E4.trans e5)⟩⟩
end Go.Proofs.YtmkpkmdnapccgaaGreatDoor

namespace Go.Proofs.YtmkpkmdnapccgaaGreatDoor
open Go Go.Sh Go.RowKit

theorem keep_row {w w' : World} {base e size n : Nat} {v : Value} {xs : List Value} (h : w.ownsRow base e size v n xs) (hk : ∀ b, v.ownBlock = some b → w'.heap[b]? = w.heap[b]?) : w'.ownsRow base e size v n xs := by
  refine ⟨h.1, ?_⟩
  rcases h.2 with hn | ⟨g, cap, cur, rfl, hb, hgg, rest⟩
  · exact .inl hn
  · exact .inr ⟨g, cap, cur, rfl, hb, by rw [hk g rfl]; exact hgg, rest⟩
theorem and_one (u : Nat) (h : u < 18446744073709551616) : bAnd .u64 (u : Int) 1 = ((u % 2 : Nat) : Int) := by
  have e : (u : Int) = U (BitVec.ofNat 64 u) := by unfold U; rw [BitVec.toNat_ofNat]; omega
  rw [e, show (1 : Int) = U 1#64 from rfl, bAnd_U]
  unfold U
  rw [BitVec.toNat_and, BitVec.toNat_ofNat, show (2 : Nat) ^ 64 = 18446744073709551616 from rfl, Nat.mod_eq_of_lt h]
  show ((u &&& 1 : Nat) : Int) = _
  rw [Nat.and_one_is_mod]
theorem fdiv_pow (u s : Nat) : Int.fdiv (u : Int) (2 ^ s) = ((u / 2 ^ s : Nat) : Int) := by
  rw [Int.fdiv_eq_ediv_of_nonneg _ (by exact_mod_cast Nat.zero_le (2 ^ s))]
  norm_cast
theorem xor_zero (x : Nat) (h : x < 9223372036854775808) : bXor .i64 (x : Int) 0 = (x : Int) := by
  unfold bXor
  rw [show (BitVec.ofInt (IntKind.bits .i64) 0) = 0#64 from rfl]
  show IntKind.wrap .i64 ((BitVec.ofInt 64 (x : Int) ^^^ 0#64).toNat : Int) = _
  rw [BitVec.xor_zero, BitVec.toNat_ofInt, wrap_of (by omega) (by omega)]
  omega
theorem xor_ones (x : Nat) (h : x < 9223372036854775808) : bXor .i64 (x : Int) (-1) = -(x : Int) - 1 := by
  unfold bXor
  rw [show (BitVec.ofInt (IntKind.bits .i64) (-1)) = BitVec.allOnes 64 from rfl]
  show IntKind.wrap .i64 ((BitVec.ofInt 64 (x : Int) ^^^ BitVec.allOnes 64).toNat : Int) = _
  rw [BitVec.xor_allOnes, BitVec.toNat_not, BitVec.toNat_ofInt]
  simp only [IntKind.wrap, IntKind.signed, IntKind.bits]
  simp
  omega
theorem key_U {u : Nat} (h : u < 18446744073709551616) :
    bXor .i64 (IntKind.wrap .i64 (Int.fdiv (u : Int) (2 ^ (min (1 : Int).toNat (IntKind.bits .u64))))) (IntKind.wrap .i64 (0 - IntKind.wrap .i64 (bAnd .u64 (u : Int) 1))) = zag u := by
  rw [show min (1 : Int).toNat (IntKind.bits .u64) = 1 from rfl, fdiv_pow, and_one u h, wrap_of (x := ((u / 2 ^ 1 : Nat) : Int)) (by omega) (by omega), wrap_of (x := ((u % 2 : Nat) : Int)) (by omega) (by omega), wrap_of (by omega) (by omega)]
  unfold zag
  rw [show (2 : Nat) ^ 1 = 2 from rfl]
  by_cases hu : u % 2 = 1
  · rw [if_pos hu, hu, show (0 : Int) - ((1 : Nat) : Int) = -1 from rfl, xor_ones _ (by omega)]
  · rw [if_neg hu, show u % 2 = 0 by omega, show (0 : Int) - ((0 : Nat) : Int) = 0 from rfl, xor_zero _ (by omega)]
theorem find_size : Instr.findNow (.int .u8) (.int .u8 3) orderEs.toList 0 = some (some (2, kd ⟨#[115, 105, 122, 101]⟩ 168 169)) := by rfl
theorem c_okey {u : Nat} (hu : u < 18446744073709551616) {w : World} {R : EW} (h : ∀ w', Ext w w' → R (.returned (.tuple #[.int .i64 (zag u), .int .i64 0])) w') :
    Calls Tryz.prog 200 #[.int .u8 3, .int .u64 (u : Int)] w R := by
  refine sh200_ok _ _ ?_
  unfold sh200
  refine do_call Tryz.call163 (c_okinds fun b w1 e1 hb => retS_ret ⟨_, rfl, ?_⟩)
  refine do_lk_hit Tryz.underlying216 Tryz.underlying5 hb (by rfl) find_size (.inl ⟨_, _, _, _, _, _, _, _, rfl, ⟨?_⟩⟩)
  refine do_st (blk_alloc w1 _ _) (i := 0) rfl (by simp) fun w2 h2 g2 => do_st h2 (i := 1) rfl (by simp) fun w3 h3 g3 => do_st h3 (i := 2) rfl (by simp) fun w4 h4 g4 => ?_
  have E4 := (((e1.alloc (.cells #[.string ⟨#[]⟩, .nilFunc, .nilFunc] 214)).st g2 e1.size).st g3 e1.size).st g4 e1.size
  refine ifB_f rfl ⟨_, _, _, h4.cell (i := 2) rfl rfl, do_call Tryz.call169 (sh169_ok _ ?_)⟩
  unfold sh169
  rw [key_U hu]
  exact ⟨by omega, retS_ret ⟨_, rfl, h _ E4⟩⟩

theorem do_meth {P : Program} {m : String} {ct : TypeId} {cp : Value} {k : Nat} {args : Array Value} {w : World} {R : EW} (he : (invoke (.fn (.method m) #[]) (#[.iface ct cp] ++ args)).run P w = .ok (.enter k (#[cp] ++ args)) w)
    (h : Calls P k (#[cp] ++ args) w R) : doGo P (.fn (.method m) #[]) (#[.iface ct cp] ++ args) w R := by
  refine ⟨?_⟩
  unfold goV
  rw [he]
  exact h

def bys (l : Bs) : List Value := l.map fun b => .int .u8 ((b.toNat : Nat) : Int)
theorem bys_app (a b : Bs) : bys (a ++ b) = bys a ++ bys b := by simp [bys]
theorem bys_one (l : Bs) : ∀ u ∈ bys l, u.oneCell' = true := fun u hu => by
  simp only [bys, List.mem_map] at hu
  obtain ⟨x, _, rfl⟩ := hu
  rfl
theorem elB8 : ElT Tryz.prog 51 5 (.int .u8 0) 1 1 := ⟨Tryz.underlying51, ⟨_, Tryz.type5, by kernel_rfl, by kernel_rfl, by kernel_rfl⟩, rfl, by omega⟩
structure OutI (cb : Nat) (w : World) (s : Bs) : Prop where
  ex : ∃ p c, Blk w cb #[.slice p s.length c] 53 ∧ w.ownsRow (cb + 1) 5 1 (.slice p s.length c) s.length (bys s)
def OutOwn (cb : Nat) (w : World) (k : Nat) : Prop := k = cb ∨ ∃ a n c, w.cell? (blk cb) = some (.slice (some a) n c) ∧ a.block = k
theorem own_blk (p : OA) (n c : Nat) (k : Nat) : (Value.slice p n c).ownBlock = some k ↔ ∃ a, p = some a ∧ a.block = k := by
  cases p <;> simp [Value.ownBlock]
theorem out_own {cb : Nat} {w : World} {p : OA} {n c : Nat} {t : TypeId} (hb : Blk w cb #[.slice p n c] t) (k : Nat) : OutOwn cb w k ↔ k = cb ∨ (Value.slice p n c).ownBlock = some k := by
  unfold OutOwn
  rw [hb.cell (i := 0) rfl rfl, own_blk]
  constructor
  · rintro (h | ⟨a, n', c', h, e⟩)
    · exact .inl h
    · injection h with h
      injection h with h1 h2 h3
      exact .inr ⟨a, h1, e⟩
  · rintro (h | ⟨a, h, e⟩)
    · exact .inl h
    · subst h
      exact .inr ⟨a, n, c, rfl, e⟩
theorem blk_inj {w : World} {b : Nat} {x y : Value} {t t' : TypeId} (h : Blk w b #[x] t) (k : Blk w b #[y] t') : x = y := by
  unfold Blk at h k
  rw [h] at k
  injection k with k
  injection k with k
  simpa using k
theorem out_lt {cb : Nat} {w : World} {s : Bs} {k : Nat} (hI : OutI cb w s) (h : OutOwn cb w k) : k < w.heap.size := by
  obtain ⟨p, c, hb, hr⟩ := hI.ex
  rcases (out_own hb k).1 h with rfl | h
  · exact hb.lt
  · exact (hr.lt k h).2
theorem out_keep {cb : Nat} {w w' : World} {s : Bs} (hI : OutI cb w s) (h : ∀ k, OutOwn cb w k → w'.heap[k]? = w.heap[k]?) : OutI cb w' s ∧ ∀ k, OutOwn cb w' k ↔ OutOwn cb w k := by
  obtain ⟨p, c, hb, hr⟩ := hI.ex
  have hb' : Blk w' cb #[.slice p s.length c] 53 := by unfold Blk; rw [h cb (.inl rfl)]; exact hb
  exact ⟨⟨p, c, hb', keep_row hr fun b hbb => h b ((out_own hb b).2 (.inr hbb))⟩, fun k => by rw [out_own hb', out_own hb]⟩
theorem out_app {cb : Nat} {w : World} {s : Bs} {p : OA} {n c : Nat} {x : UInt8} {nb : Nat} {bs : Array Bool} {Kf : OA → Nat → Nat → World → Prop} {Kp : List PanicEntry → World → Prop} (hb : Blk w cb #[.slice p n c] 53) (hI : OutI cb w s) (hl : s.length ≤ lim + 1000) (hx : Cs w (some (blk nb)) (bys [x]))
    (h : ∀ p' c' w', Blk w' cb #[.slice p n c] 53 → w'.ownsRow (cb + 1) 5 1 (.slice p' (s.length + 1) c') (s.length + 1) (bys (s ++ [x])) → Chg (OutOwn cb) (fun _ => False) w w' →
      (∀ k, (Value.slice p' (s.length + 1) c').ownBlock = some k → OutOwn cb w k ∨ w.heap.size ≤ k) → Kf p' (s.length + 1) c' w') :
    doGo Tryz.prog (.builtin .append #[51, 51] 51 bs) #[.slice p n c, .slice (some (blk nb)) 1 1] w (retS (fun v w' => ∃ a b d, v = (.slice a b d : Value) ∧ Kf a b d w') Kp) := by
  obtain ⟨p0, c0, hb0, hr⟩ := hI.ex
  have e := blk_inj hb hb0
  injection e with e1 e2 e3
  subst e1 e2 e3
  have hlim : lim = 1000000000000 := rfl
  refine do_append' elB8 hr hx (by simp [bys]) (bys_one _) (by simp only [maxLen]; omega) (by omega) hb.lt fun p' c' w' h2 g n10 => retS_ret ⟨p', _, c', rfl, ?_⟩
  have hne : some cb ≠ (Value.slice p s.length c).ownBlock := fun e => by have := (hr.lt cb e.symm).1; omega
  have hb' := hb.grown g hne
  refine h p' c' w' hb' (by rw [bys_app]; exact h2) ⟨g.os, g.tape, g.output, g.size, fun k hk ho _ => g.block k hk fun e => ho ((out_own hb k).2 (.inr e.symm)), fun k _ ho h => ho ((out_own hb k).2 ((out_own hb' k).1 h))⟩ fun k hk => ?_
  rcases n10 k hk with h | h
  · exact .inl ((out_own hb k).2 (.inr h))
  · exact .inr h
theorem out_put {cb : Nat} {w w' : World} {s : Bs} {p p' : OA} {n c c' : Nat} {x : UInt8} {K : World → Prop} (hw : OutI cb w s) (hb' : Blk w' cb #[.slice p n c] 53)
    (hr : w'.ownsRow (cb + 1) 5 1 (.slice p' (s.length + 1) c') (s.length + 1) (bys (s ++ [x]))) (hc : Chg (OutOwn cb) (fun _ => False) w w') (hn : ∀ k, (Value.slice p' (s.length + 1) c').ownBlock = some k → OutOwn cb w k ∨ w.heap.size ≤ k)
    (h : ∀ w'', OutI cb w'' (s ++ [x]) → Chg (OutOwn cb) (fun _ => False) w w'' → K w'') : doSt (((blk cb).add 0).add 0) (.slice p' (s.length + 1) c') w' K := by
  refine do_st hb' (i := 0) rfl (by simp) fun w'' h2 g2 => ?_
  have h2 : Blk w'' cb #[.slice p' (s.length + 1) c'] 53 := h2
  have hr2 := hr.kept g2 (.inr fun e => by have := (hr.lt cb e).1; omega)
  refine h w'' ⟨p', c', by rw [List.length_append]; exact h2, by rw [List.length_append]; exact hr2⟩ ⟨g2.os.trans hc.os, g2.tape.trans hc.tape, g2.output.trans hc.output, Nat.le_trans hc.size g2.size, fun k hk ho hs => ?_, fun k hk ho h => ?_⟩
  · rw [g2.block k (Nat.lt_of_lt_of_le hk hc.size) (fun e => ho (by cases e; exact .inl rfl)), hc.block k hk ho hs]
  · rcases (out_own h2 k).1 h with rfl | h
    · exact ho (.inl rfl)
    · rcases hn k h with h | h
      · exact ho h
      · omega
theorem chg0 {own : World → Nat → Prop} {S : Nat → Prop} {w w' : World} (h : Chg own (fun _ => False) w w') : Chg own S w w' := h.mono fun _ h => h.elim
theorem out_ext {cb : Nat} {w w' : World} {s : Bs} {S : Nat → Prop} (hI : OutI cb w s) (e : Ext w w') : OutI cb w' s ∧ Chg (OutOwn cb) S w w' := by
  have k := out_keep hI fun k hk => e.block k (out_lt hI hk)
  exact ⟨k.1, e.os, e.tape, e.output, e.size, fun k hk _ _ => e.block k hk, fun j _ h1 h2 => h1 ((k.2 j).1 h2)⟩
theorem c_oword {cb : Nat} {w : World} {s : Bs} {b i : Nat} {cs : Array Value} {t : TypeId} {v : Int} {q : OA} {n' c' : Nat} {R : EW} (hI : OutI cb w s) (hl : s.length ≤ lim + 1000) (ho : ¬ OutOwn cb w b) (hb : Blk w b cs t) (hc : cs[i]? = some (.int .u8 v)) (hv : 0 ≤ v ∧ v < 256)
    (h : ∀ w', OutI cb w' (s ++ [u8 v]) → Chg (OutOwn cb) (fun _ => False) w w' → R (.returned unitV) w') : Calls Tryz.prog 161 #[.pointer (some (blk cb)), .pointer (some ⟨b, i, none⟩), .slice q n' c'] w R := by
  refine sh161_ok _ _ _ _ _ ?_
  unfold sh161
  refine ⟨?_⟩
  have e1 := ext_drew w
  have hI1 := out_ext (S := fun _ => False) hI e1
  have hb1 := hb.ext e1
  have ho1 : ¬ OutOwn cb w.drew b := fun h => ho (((out_keep hI fun k hk => e1.block k (out_lt hI hk)).2 b).1 h)
  generalize w.drew = w1 at *
  obtain ⟨p, c, hcb, hr⟩ := hI1.1.ex
  refine ⟨fun w' => Blk w' cb #[.slice p s.length c] 53 ∧ Blk w' b cs t, ⟨hcb, hb1⟩, _, rfl, _, _, _, fun w' h' => h'.1.cell (i := 0) rfl rfl, _, rfl, _, fun w' h' => h'.2.cell (i := i) rfl hc, ⟨?_⟩⟩
  have e2 := ext_alloc w1 (.cells #[.int .u8 v] 5)
  have hx := cs_alloc w1 #[.int .u8 v] 5
  have hI2 := out_ext (S := fun _ => False) hI1.1 e2
  have ho2 : ¬ OutOwn cb (w1.alloc (.cells #[.int .u8 v] 5)) b := fun h => ho1 (((out_keep hI1.1 fun k hk => e2.block k (out_lt hI1.1 hk)).2 b).1 h)
  generalize w1.alloc (.cells #[.int .u8 v] 5) = w2 at *
  have hb2 := hb1.ext e2
  refine ⟨⟨hcb.ext e2, hb2⟩, out_app (x := u8 v) (hcb.ext e2) hI2.1 hl (by simpa [bys, u8_back hv.1 hv.2] using hx) fun p' c' w3 hb3 hr3 c3 hn3 => ?_⟩
  refine ⟨⟨hb3, c3.blk hb2 ho2 fun h => h⟩, _, rfl, out_put hI2.1 hb3 hr3 c3 hn3 fun w4 hI4 c4 => h w4 hI4 ((hI1.2.trans hI2.2).trans c4)⟩
theorem vEnc_ne (u : Nat) : 1 ≤ (vEnc u).length := by
  rw [vEnc_def]; split <;> simp
theorem vEnc_len : ∀ (k u : Nat), u < 128 ^ (k + 1) → (vEnc u).length ≤ k + 1
  | 0, u, h => by rw [vEnc_def, if_pos (by simpa using h)]; simp
  | k + 1, u, h => by
    rw [vEnc_def]
    split
    · simp
    · have : (vEnc (u / 128)).length ≤ k + 1 := vEnc_len k _ (by rw [Nat.pow_succ] at h; omega)
      simp; omega
theorem numE_len {v : Int} (h : In v) : 1 ≤ (numE v).length ∧ (numE v).length ≤ 10 := by
  have := zig_lt h
  exact ⟨vEnc_ne _, vEnc_len 9 _ (by rw [show (128 : Nat) ^ (9 + 1) = 1180591620717411303424 from rfl]; omega)⟩
theorem or_128 (u : Nat) : bOr .u8 (IntKind.wrap .u8 (u : Int)) 128 = ((u % 128 + 128 : Nat) : Int) := by
  have h8 : ∀ x : BitVec 8, (x ||| 128#8).toNat = x.toNat % 128 + 128 := by decide
  unfold bOr
  show IntKind.wrap .u8 ((BitVec.ofInt 8 (IntKind.wrap .u8 (u : Int)) ||| 128#8).toNat : Int) = _
  rw [h8, BitVec.toNat_ofInt]
  simp only [IntKind.wrap, IntKind.signed, IntKind.bits]
  simp
  omega
theorem wrap_u8 (u : Nat) (h : u < 256) : IntKind.wrap .u8 (u : Int) = (u : Int) := by
  simp only [IntKind.wrap, IntKind.signed, IntKind.bits]
  simp
  omega
theorem u8_of {n : Nat} (h : n < 256) : (((UInt8.ofNat n).toNat : Nat) : Int) = (n : Int) := by rw [u8n h]
theorem c_onum {cb : Nat} {w : World} {s : Bs} {b i : Nat} {cs : Array Value} {t : TypeId} {v : Int} {R : EW} (hI : OutI cb w s) (hl : s.length ≤ lim + 100) (hb : Blk w b cs t) (hc : cs[i]? = some (.int .i64 v)) (hv : In v)
    (h : ∀ w', OutI cb w' (s ++ numE v) → Chg (OutOwn cb) (fun _ => False) w w' → R (.returned unitV) w') : Calls Tryz.prog 159 #[.pointer (some (blk cb)), .pointer (some ⟨b, i, none⟩)] w R := by
  refine sh159_ok _ _ ?_
  unfold sh159
  refine ⟨_, rfl, v, hb.cell rfl hc, do_call Tryz.call162 (c_code hv fun w1 e1 => retS_ret ⟨_, _, rfl, ?_⟩)⟩
  rw [show isO 3 = true from rfl, cond_true, ← zig_cast hv]
  have hI1 := out_ext (S := fun _ => False) hI e1
  have hz := zig_lt hv
  have hlen := numE_len hv
  refine ⟨fun vs w' => ∃ (u : Nat) (s' : Bs), vs = [.int .u64 (u : Int)] ∧ u < 18446744073709551616 ∧ OutI cb w' s' ∧ s' ++ vEnc u = s ++ numE v ∧ Chg (OutOwn cb) (fun _ => False) w w',
    fun vs _ => match vs with | [.int _ i] => i.toNat | _ => 0, ⟨zig v, s, rfl, hz, hI1.1, rfl, hI1.2⟩, ?_⟩
  rintro _ _ w2 ⟨u, s2, hvs, hu, hI2, hs, c2⟩
  simp only [List.cons.injEq, Value.int.injEq, true_and, and_true] at hvs
  subst hvs
  have hl2 : s2.length ≤ s.length + 10 := by
    have := congrArg List.length hs
    simp only [List.length_append] at this
    omega
  obtain ⟨p, c, hcb, hr⟩ := hI2.ex
  refine ifB_intro (fun z => ?_) fun z => ?_
  · have z : 128 ≤ u := by have := of_decide_eq_true z; omega
    refine ⟨_, rfl, _, _, _, hcb.cell (i := 0) rfl rfl, ⟨?_⟩⟩
    rw [or_128]
    have e3 := ext_alloc w2 (.cells #[.int .u8 ((u % 128 + 128 : Nat) : Int)] 5)
    have hx := cs_alloc w2 #[.int .u8 ((u % 128 + 128 : Nat) : Int)] 5
    have hI3 := out_ext (S := fun _ => False) hI2 e3
    generalize w2.alloc (.cells #[.int .u8 ((u % 128 + 128 : Nat) : Int)] 5) = w3 at *
    refine out_app (x := UInt8.ofNat (u % 128 + 128)) (hcb.ext e3) hI3.1 (by omega) (by rw [show bys [UInt8.ofNat (u % 128 + 128)] = [.int .u8 ((u % 128 + 128 : Nat) : Int)] by simp only [bys, List.map_cons, List.map_nil, u8_of (show u % 128 + 128 < 256 by omega)]]; exact hx) fun p' c' w4 hb4 hr4 c4 hn4 => ⟨_, rfl, out_put hI3.1 hb4 hr4 c4 hn4 fun w5 hI5 c5 => ⟨by omega, ?_⟩⟩
    rw [show min (7 : Int).toNat (IntKind.bits .u64) = 7 from rfl, fdiv_pow, show (2 : Nat) ^ 7 = 128 from rfl]
    refine ⟨⟨u / 128, _, rfl, by omega, hI5, ?_, (c2.trans hI3.2).trans c5⟩, ?_⟩
    · rw [vEnc_def u, if_neg (by omega)] at hs
      rw [← hs]; simp
    · show ((u / 128 : Nat) : Int).toNat < (u : Int).toNat
      omega
  · have z : u < 128 := by have := of_decide_eq_false z; omega
    refine ⟨_, rfl, _, _, _, hcb.cell (i := 0) rfl rfl, ⟨?_⟩⟩
    rw [wrap_u8 u (by omega)]
    have e3 := ext_alloc w2 (.cells #[.int .u8 (u : Int)] 5)
    have hx := cs_alloc w2 #[.int .u8 (u : Int)] 5
    have hI3 := out_ext (S := fun _ => False) hI2 e3
    generalize w2.alloc (.cells #[.int .u8 (u : Int)] 5) = w3 at *
    refine out_app (x := UInt8.ofNat u) (hcb.ext e3) hI3.1 (by omega) (by rw [show bys [UInt8.ofNat u] = [.int .u8 (u : Int)] by simp only [bys, List.map_cons, List.map_nil, u8_of (show u < 256 by omega)]]; exact hx) fun p' c' w4 hb4 hr4 c4 hn4 => ⟨_, rfl, out_put hI3.1 hb4 hr4 c4 hn4 fun w5 hI5 c5 => ?_⟩
    rw [vEnc_def u, if_pos z] at hs
    exact h w5 (by rw [← hs]; exact hI5) ((c2.trans hI3.2).trans c5)
end Go.Proofs.YtmkpkmdnapccgaaGreatDoor

namespace Go.Proofs.YtmkpkmdnapccgaaGreatDoor
open Go Go.Sh
def sh157d (c_1 : OA) (is_2 : OA) (R : EW) (w : World) : Prop :=
 doAl (.cells #[.int .u8 0] 5) w (fun b3 w4 =>
 doSt ((blk b3).add 0) (.int .u8 0) w4 (fun w5 =>
 let K7 : World → Prop := fun w6 => 
 doCall Tryz.prog (.func (.func 161) #[] #[]) #[.pointer c_1, .pointer (some (blk b3)), .slice none 0 0] w6 (retS (fun v8 w9 => v8 = (.tuple #[] : Value) ∧ (
 ([] : List Deferred) = [] ∧ (
 R (.returned (.tuple #[])) w9))) (fun ch w => ([] : List Deferred) = [] ∧ R (.panicked ch) w))
 ∃ q10, is_2 = some q10 ∧ (
 ∃ x11, w5.cell? q10 = some (.bool x11) ∧ (
 ifB x11 (
 doSt ((blk b3).add 0) (.int .u8 1) w5 (fun w12 =>
 K7 w12)) (
 K7 w5)))))
theorem sh157d_ok (c_1 : OA) (is_2 : OA) {u : FrameMode} {R : EW} {w : World} : sh157d c_1 is_2 R w → CallsDIn Fence.wide 0 Tryz.prog 157 #[.pointer c_1, .pointer is_2] u w (fun e u1 w1 => u1 = u ∧ R e w1) :=
  callsD_of_eq (ann := fun _ => []) (fn := Tryz.f157) (c := bodyOf Tryz.f157) (args := #[.pointer c_1, .pointer is_2]) 400 follows_mixed Tryz.func157 (by kernel_rfl) (by kernel_rfl)
def sh195d (c_1 : OA) (is_2 : OA) (R : EW) (w : World) : Prop :=
 doAl (.cells #[.int .u8 0] 5) w (fun b3 w4 =>
 doCall Tryz.prog (.func (.func 199) #[] #[]) #[.pointer c_1, .pointer (some (blk b3)), .slice none 0 0] w4 (retS (fun v5 w6 => v5 = (.tuple #[] : Value) ∧ (
 ∃ x7, w6.cell? (blk b3) = some (.int .u8 x7) ∧ (
 doCall Tryz.prog (.func (.func 42) #[] #[]) #[.bool (decide ((x7 : Int) < 2))] w6 (retS (fun v8 w9 => v8 = (.tuple #[] : Value) ∧ (
 ∃ x10, w9.cell? (blk b3) = some (.int .u8 x10) ∧ (
 ∃ q11, is_2 = some q11 ∧ (
 doSt (q11.add 0) (.bool ((x10 : Int) == 1)) w9 (fun w12 =>
 ([] : List Deferred) = [] ∧ (
 R (.returned (.tuple #[])) w12)))))) (fun ch w => ([] : List Deferred) = [] ∧ R (.panicked ch) w))))) (fun ch w => ([] : List Deferred) = [] ∧ R (.panicked ch) w)))
theorem sh195d_ok (c_1 : OA) (is_2 : OA) {u : FrameMode} {R : EW} {w : World} : sh195d c_1 is_2 R w → CallsDIn Fence.wide 0 Tryz.prog 195 #[.pointer c_1, .pointer is_2] u w (fun e u1 w1 => u1 = u ∧ R e w1) :=
  callsD_of_eq (ann := fun _ => []) (fn := Tryz.f195) (c := bodyOf Tryz.f195) (args := #[.pointer c_1, .pointer is_2]) 400 follows_mixed Tryz.func195 (by kernel_rfl) (by kernel_rfl)
end Go.Proofs.YtmkpkmdnapccgaaGreatDoor

