/-
  What a form does with pairs.
-/
import Derived.Test.YtmkpkmdnapccgaaGreatDoorZ17

set_option maxRecDepth 100000
set_option maxHeartbeats 6400000
namespace Go.Proofs.YtmkpkmdnapccgaaGreatDoor
open Go Go.Sh Go.RowKit

theorem elPo : ElT Tryz.prog 34 49 (.agg #[.int .i64 0, .int .i64 0]) 2 16 := ⟨Tryz.underlying34, ⟨_, Tryz.type49, by kernel_rfl, by kernel_rfl, by kernel_rfl⟩, rfl, by omega⟩
def ModeR {σ : Type} (c : PC σ) (l : Nat) (v : Value) : Prop := (∀ s n s', c.many l s = some (n, s') → n ≤ l) ∨ (l = 0 ∧ v = .slice none 0 0)
section
variable {σ : Type} {c : PC σ} {ct : TypeId} {cp : Value} (C : Coder c ct cp)
def LoopP (w0 : World) (xb : Nat) (x : POp) (pv : Value) (m k : Nat) (l : List (Int × Int)) (pv' : Value) (w : World) : Prop :=
  (l = x.pairs ∧ pv' = pv ∧ m ≤ x.pairs.length ∧ RowAt C.own xb w0 pv x.pairs.length (prs x.pairs)) ∨
  (l.length = k ∧ m ≤ 4096 ∧ w.ownsRow (w0.heap.size + 1) 49 2 pv' k (prs l) ∧ ∀ b, pv'.ownBlock = some b → ¬ C.own w b)
theorem c_fpairs {xb : Nat} {x : POp} {pv kv : Value} {w : World} {s : σ} {R : EW} (hI : C.I w s) (hl : C.len s + 10000 * C.grow ≤ lim) (ho : ¬ C.own w xb) (hx : OpAt w xb x pv kv) (hin : InO x) (hr : RowsAt C.own xb w x pv kv) (hL : x.pairs.length ≤ 5000) (hmo : ModeR c x.pairs.length pv)
    (h : ∀ x' s' w' pv', partP c .pairs x s = some (x', s') → C.I w' s' → OpAt w' xb x' pv' kv → RowsAt C.own xb w' x' pv' kv → Chg C.own (· = xb) w w' → R (.returned unitV) w')
    (hn : ∀ ch w', partP c .pairs x s = none → NoneCh ch → Some15 w' xb → (∃ s', C.I w' s') → Chg C.own (· = xb) w w' → R (.panicked ch) w') :
    Calls Tryz.prog 73 #[.agg #[.pointer (some (blk xb)), .iface ct cp]] w R := by
  refine sh73_ok _ _ ?_
  unfold sh73
  refine ⟨?_⟩
  have e1 := ext_alloc w (.cells #[.pointer (some (blk xb)), .iface ct cp] 103)
  have hf1 := blk_alloc w #[.pointer (some (blk xb)), .iface ct cp] 103
  generalize w.alloc (.cells #[.pointer (some (blk xb)), .iface ct cp] 103) = w1 at e1 hf1 ⊢
  have hxb := hx.lt
  have hne : w.heap.size ≠ xb := by omega
  obtain ⟨pp, pc, hpv, hpn, hpc, hpo⟩ := hr.p
  have hx1 : OpAt w1 xb x pv kv := hx.ext e1
  refine ⟨_, hf1.cell (i := 0) rfl rfl, _, rfl, _, _, _, hx1.cell (i := 13) rfl (by rw [← hpv]; rfl), ⟨?_⟩⟩
  refine do_st (blk_alloc w1 _ _) (i := 0) rfl (by simp) fun w2 h2 g2 => ?_
  have e2 : Ext w w2 := (e1.alloc _).st g2 e1.size
  have hkb : w.heap.size < w1.heap.size := hf1.lt
  have hf2 : Blk w2 w.heap.size #[.pointer (some (blk xb)), .iface ct cp] 103 := (hf1.ext (ext_alloc w1 _)).grown g2 (ne_some (by omega))
  have hx2 : OpAt w2 xb x pv kv := hx.ext e2
  have hnb : w1.heap.size ≠ xb := by omega
  generalize w1.heap.size = nb at *
  refine ⟨_, hf2.cell (i := 1) rfl rfl, ?_⟩
  have own2 := (C.ext hI e2).2
  have k2 : Chg C.own (SF w.heap.size (· = xb)) w w2 := C.chg_ext hI e2
  refine C.many (b := nb) (C.ext hI e2).1 (by omega) (fun h => C.new' hI (Nat.le_of_lt hkb) ((own2 _).1 h)) h2 (by omega) (fun m s3 w3 hv hI3 hb3 c3 => retS_ret ⟨rfl, ?_⟩) fun ch s3 w3 hv hch hls hI3 c3 => ?_
  case refine_2 =>
    have k : Chg C.own (· = xb) w w3 := (k2.trans (c3.mono fun k hk => .inr (by omega))).fresh
    have hx3 : OpAt w3 xb x pv kv := c3.blk hx2 (fun h => ho ((own2 _).1 h)) (by omega)
    exact hn ch w3 (by simp only [partP, hv]; rfl) hch (hr.some hx3) ⟨_, hI3⟩ k
  obtain ⟨hm1, hm2⟩ := C.manyIn (by omega) hv
  have k3 : Chg C.own (SF w.heap.size (· = xb)) w w3 := k2.trans (c3.mono fun k hk => .inr (by omega))
  have hx3 : OpAt w3 xb x pv kv := c3.blk hx2 (fun h => ho ((own2 _).1 h)) (by omega)
  have hof2 : ¬ C.own w2 w.heap.size := fun h => C.new' hI (Nat.le_refl _) ((own2 _).1 h)
  have hf3 := c3.blk hf2 hof2 (by omega)
  have hof3 := c3.out _ hf2.lt hof2
  have hq : partP c .pairs x s = (pairsP c m 0 x.pairs s3).bind fun q => some ({ x with pairs := q.1 }, q.2) := by simp only [partP, hv]; rfl
  refine ⟨(m : Int), hb3.cell (i := 0) rfl rfl, ?_⟩
  refine ⟨fun vs w' => ∃ k l s' pv', vs = [.int .i64 ((k : Nat) : Int)] ∧ k ≤ m ∧ C.I w' s' ∧ OpAt w' xb { x with pairs := l } pv' kv ∧ pairsP c (m - k) k l s' = pairsP c m 0 x.pairs s3 ∧ Blk w' w.heap.size #[.pointer (some (blk xb)), .iface ct cp] 103 ∧ ¬ C.own w' w.heap.size ∧
      Chg C.own (SF w.heap.size (· = xb)) w w' ∧ C.len s' ≤ C.len s3 + k * C.grow ∧ InPs l ∧ l.length ≤ 5000 ∧ LoopP C w xb x pv m k l pv' w',
    fun vs _ => match vs with | [.int _ i] => (m - i.toNat) | _ => 0, ⟨0, x.pairs, s3, pv, rfl, Nat.zero_le _, hI3, hx3, rfl, hf3, hof3, k3, by omega, hin.pairs, hL, ?_⟩, ?_⟩
  · rcases hmo with hmo | ⟨h0, hnil⟩
    · exact .inl ⟨rfl, rfl, hmo _ _ _ hv, hr.p⟩
    · refine .inr ⟨h0, by omega, ?_, fun b hb => ?_⟩
      · rw [List.eq_nil_of_length_eq_zero h0, hnil]
        exact World.ownsRow_nil _ _ _ _
      · rw [hnil] at hb; simp [Value.ownBlock] at hb
  · rintro i _ w4 ⟨k, l, s4, pv4, hvs, hk, hI4, hx4, hp4, hf4, hof4, k4, hl4, hin4, hlen4, hL4⟩
    obtain rfl : i = (k : Int) := by simpa using hvs
    have ho4 : ¬ C.own w4 xb := k4.out xb hxb ho
    refine ifB_intro (fun z => ?_) fun z => ?_
    case refine_2 =>
      have z : ¬ k < m := by have := of_decide_eq_false z; omega
      have hkm : m - k = 0 := by omega
      rw [hkm, pairsP] at hp4
      have kk := k4.fresh
      have hrow : RowAt C.own xb w4 pv4 l.length (prs l) := by
        rcases hL4 with ⟨rfl, rfl, _, hr0⟩ | ⟨hlk, _, hrow, hro⟩
        · exact hr0.chg kk
        · obtain ⟨p, cap, hp, h1, h2, h3⟩ := row_rowAt (own := C.own) hrow hro
          rw [← hlk] at hp h1
          exact ⟨p, cap, hp, h1, h2, fun a ha _ => ⟨(h3 a ha).1, by have := (h3 a ha).2.1; omega, (h3 a ha).2.2⟩⟩
      refine h { x with pairs := l } s4 w4 pv4 (by rw [hq, ← hp4]; rfl) hI4 hx4 ⟨hrow, (hr.chg kk).k⟩ kk
    have z : k < m := by have := of_decide_eq_true z; omega
    obtain ⟨j, hj⟩ : ∃ j, m - k = j + 1 := ⟨m - k - 1, by omega⟩
    rw [hj, pairsP] at hp4
    intro K23
    refine ⟨?_⟩
    have e5 := ext_alloc w4 (.cells #[.int .i64 0, .int .i64 0] 49)
    have hb5 := blk_alloc w4 #[.int .i64 0, .int .i64 0] 49
    generalize w4.alloc (.cells #[.int .i64 0, .int .i64 0] 49) = w5 at e5 hb5 ⊢
    have hI5 := C.ext hI4 e5
    have hx5 : OpAt w5 xb { x with pairs := l } pv4 kv := hx4.ext e5
    have hf5 := hf4.ext e5
    have k5 : Chg C.own (SF w.heap.size (· = xb)) w w5 := k4.trans (C.chg_ext hI4 e5)
    have hsz := k4.size
    have hvb : ¬ C.own w5 w4.heap.size := fun h => C.new hI4 ((hI5.2 _).1 h)
    have hb4x : w4.heap.size ≠ xb := by omega
    have hfl : w.heap.size < w4.heap.size := hf4.lt
    have hof5 : ¬ C.own w5 w.heap.size := fun h => hof4 ((hI5.2 _).1 h)
    -- the slice's header
    obtain ⟨p4, c4, hpv4⟩ : ∃ p4 c4, pv4 = .slice p4 l.length c4 := by
      rcases hL4 with ⟨rfl, rfl, _, p, cp', hp, _⟩ | ⟨hlk, _, hrow, _⟩
      · exact ⟨p, cp', hp⟩
      · obtain ⟨p, c', hp⟩ := row_slice hrow
        exact ⟨p, c', by rw [hlk]; exact hp⟩
    intro K27
    have go : ∀ w6, Blk w6 w4.heap.size #[.int .i64 (l.getD k (0, 0)).1, .int .i64 (l.getD k (0, 0)).2] 49 → w5.grownBy w6 (some w4.heap.size) → K27 w6 := by
      intro w6 hb6 g6
      have hI6 := C.st hI5.1 g6 hvb
      have hx6 : OpAt w6 xb { x with pairs := l } pv4 kv := hx5.grown g6 (ne_some (by omega))
      have hf6 := hf5.grown g6 (ne_some (by omega))
      have hof6 : ¬ C.own w6 w.heap.size := fun h => hof5 ((hI6.2 _).1 h)
      have k6 : Chg C.own (SF w.heap.size (· = xb)) w w6 := k5.trans (C.chg_st hI5.1 g6 hvb fun _ => .inr (by omega))
      have hv6 : In (l.getD k (0, 0)).1 ∧ In (l.getD k (0, 0)).2 := by
        rw [List.getD_eq_getElem?_getD]
        cases hg : l[k]? with
        | none => simp [In]
        | some u => exact hin4 u (List.mem_of_getElem? hg)
      have hln : C.len s4 ≤ lim := by
        have : k * C.grow ≤ 5000 * C.grow := Nat.mul_le_mul_right _ (by omega)
        omega
      refine ⟨_, hf6.cell (i := 1) rfl rfl, C.pair (b := w4.heap.size) hI6.1 hln (fun h => hvb ((hI6.2 _).1 h)) hb6 hv6 (fun v7 s7 w7 hv7 hI7 hb7 c7 => retS_ret ⟨rfl, ?_⟩) fun ch s7 w7 hv7 hch hls hI7 c7 => ?_⟩
      case refine_2 =>
        have k7 : Chg C.own (SF w.heap.size (· = xb)) w w7 := k6.trans (c7.mono fun q hq => .inr (by omega))
        have hx7 : OpAt w7 xb { x with pairs := l } pv4 kv := c7.blk hx6 (k6.out xb hxb ho) (by omega)
        refine hn ch w7 (by rw [hq, ← hp4, hv7]; rfl) hch ?_ ⟨_, hI7⟩ k7.fresh
        obtain ⟨q, cap', hkv, _⟩ := hr.k
        rw [hpv4, hkv] at hx7
        exact ⟨_, _, _, _, _, _, _, hx7⟩
      have k7 : Chg C.own (SF w.heap.size (· = xb)) w w7 := k6.trans (c7.mono fun q hq => .inr (by omega))
      have hx7 : OpAt w7 xb { x with pairs := l } pv4 kv := c7.blk hx6 (k6.out xb hxb ho) (by omega)
      have hf7 := c7.blk hf6 hof6 (by omega)
      have hof7 := c7.out _ hf6.lt hof6
      obtain ⟨hin7, hl7⟩ := C.pairIn hv6 hv7
      rw [hv7, Option.bind_some] at hp4
      refine ⟨_, hf7.cell (i := 0) rfl rfl, _, rfl, _, _, _, hx7.cell (i := 13) rfl (by rw [hpv4]; rfl), ifB_intro (fun y => ?_) fun y => ?_⟩
      · -- one more
        have y : k = l.length := by have := of_decide_eq_true y; omega
        rcases hL4 with ⟨rfl, rfl, hmx, _⟩ | ⟨hlk, hm4, hrow, hro⟩
        · omega
        have hrow7 : w7.ownsRow (w.heap.size + 1) 49 2 pv4 k (prs l) := by
          have h5 := hrow.kept (w' := w5) (row := none) e5.grownBy (by cases pv4.ownBlock <;> simp)
          have hlt := hrow.lt
          have h6 := h5.kept g6 (.inr fun e => by have := (hlt _ e).2; omega)
          exact chg_row c7 h6 (fun b hb h => hro b hb ((hI5.2 _).1 ((hI6.2 _).1 h))) fun b hb => by have := (hlt b hb).2; omega
        have hro7 : ∀ b, pv4.ownBlock = some b → ¬ C.own w7 b := fun b hb => by
          have hlt := (hrow.lt b hb).2
          have s5 := e5.size
          have s6 := g6.size
          exact c7.out b (by omega) fun h => hro b hb ((hI5.2 _).1 ((hI6.2 _).1 h))
        refine ⟨?_⟩
        have e8 := ext_drew w7
        have hI8 := C.ext hI7 e8
        have hx8 : OpAt w7.drew xb { x with pairs := l } pv4 kv := hx7.ext e8
        have hf8 := hf7.ext e8
        have hb8 := hb7.ext e8
        have k8 : Chg C.own (SF w.heap.size (· = xb)) w w7.drew := k7.trans (C.chg_ext hI7 e8)
        have hrow8 := e8.row hrow7
        have hro8 : ∀ b, pv4.ownBlock = some b → ¬ C.own w7.drew b := fun b hb h => hro7 b hb ((hI8.2 _).1 h)
        generalize w7.drew = w8 at *
        have hpv4' := hpv4
        subst hpv4
        refine ⟨fun w' => Blk w' w.heap.size #[.pointer (some (blk xb)), .iface ct cp] 103 ∧ OpAt w' xb { x with pairs := l } (.slice p4 l.length c4) kv ∧ Blk w' w4.heap.size #[.int .i64 v7.1, .int .i64 v7.2] 49, ⟨hf8, hx8, hb8⟩,
          _, fun w' h' => h'.1.cell (i := 0) rfl rfl, _, fun w' h' => h'.1.cell (i := 0) rfl rfl, _, rfl, _, _, _, fun w' h' => h'.2.1.cell (i := 13) rfl rfl, _, fun w' h' => h'.2.2.cell (i := 0) rfl rfl, _, fun w' h' => h'.2.2.cell (i := 1) rfl rfl, ⟨?_⟩⟩
        have e9 := ext_alloc w8 (.cells #[.int .i64 v7.1, .int .i64 v7.2] 49)
        have hcs9 := cs_alloc w8 #[.int .i64 v7.1, .int .i64 v7.2] 49
        generalize w8.alloc (.cells #[.int .i64 v7.1, .int .i64 v7.2] 49) = w9 at e9 hcs9 ⊢
        have hI9 := C.ext hI8.1 e9
        have hx9 : OpAt w9 xb { x with pairs := l } (.slice p4 l.length c4) kv := hx8.ext e9
        refine ⟨⟨hf8.ext e9, hx9, hb8.ext e9⟩, ?_⟩
        have hrow9 := e9.row hrow8
        have hro9 : ∀ b, (Value.slice p4 l.length c4).ownBlock = some b → ¬ C.own w9 b := fun b hb h => hro8 b hb ((hI9.2 _).1 h)
        have k9 : Chg C.own (SF w.heap.size (· = xb)) w w9 := k8.trans (C.chg_ext hI8.1 e9)
        have hrow9' : w9.ownsRow (w.heap.size + 1) 49 2 (.slice p4 l.length c4) l.length (prs l) := by rw [← y] at *; exact hrow9
        refine do_append' elPo hrow9' (m := 1) (news := prs [v7]) (by simpa [prs] using hcs9) (by simp [prs]) prs_one (by simp only [maxLen]; omega) (by omega) (by have := e5.size; have := g6.size; have := c7.size; have := e8.size; have := e9.size; omega) fun p' c' w10 h10 g10 n10 => retS_ret ⟨_, _, _, rfl, ?_⟩
        have hrl := hrow9'.lt
        have hI10 : C.I w10 s7 ∧ ∀ q, C.own w10 q ↔ C.own w9 q := C.keep hI9.1 fun q hq => g10.block q (C.lt hI9.1 hq) fun e => hro9 q e.symm hq
        have ne10 : ∀ q, q ≤ w.heap.size → some q ≠ (Value.slice p4 l.length c4).ownBlock := fun q hq e => by have := (hrl q e.symm).1; omega
        have hf10 := (hf8.ext e9).grown g10 (ne10 _ (Nat.le_refl _))
        have hx10 : OpAt w10 xb { x with pairs := l } (.slice p4 l.length c4) kv := hx9.grown g10 (ne10 _ (by omega))
        have hb10 : Blk w10 w4.heap.size #[.int .i64 v7.1, .int .i64 v7.2] 49 := (hb8.ext e9).grown g10 fun e => by
          have h1 := (hrow.lt _ e.symm).2
          omega
        have k10 : Chg C.own (SF w.heap.size (· = xb)) w w10 := k9.trans ⟨g10.os, g10.tape, g10.output, g10.size, fun q hq _ hs => g10.block q hq fun e => hs (.inr (by have := (hrl q e.symm).1; omega)), fun q _ h1 h2 => h1 ((hI10.2 q).1 h2)⟩
        refine ⟨⟨hf10, hx10, hb10⟩, _, rfl, do_st hx10 (i := 13) rfl (by simp [opCells]) fun w11 h11 g11 => ?_⟩
        have ho10 := k10.out xb hxb ho
        have hI11 := C.st hI10.1 g11 ho10
        have hx11 : OpAt w11 xb { x with pairs := l ++ [v7] } (.slice p' (l.length + 1) c') kv := h11
        have k11 : Chg C.own (SF w.heap.size (· = xb)) w w11 := k10.trans (C.chg_st hI10.1 g11 ho10 fun _ => .inl rfl)
        have hrl10 := h10.lt
        have hrow11 : w11.ownsRow (w.heap.size + 1) 49 2 (.slice p' (l.length + 1) c') (l.length + 1) (prs (l ++ [v7])) := by
          rw [prs_append]
          exact h10.kept g11 (.inr fun e => by have := (hrl10 _ e).1; omega)
        have hof11 : ¬ C.own w11 w.heap.size := fun h => hof7 ((hI8.2 _).1 ((hI9.2 _).1 ((hI10.2 _).1 ((hI11.2 _).1 h))))
        have hgr : (k + 1) * C.grow = k * C.grow + C.grow := by rw [Nat.add_mul, Nat.one_mul]
        refine ⟨⟨k + 1, l ++ [v7], s7, _, by rw [wrap_succ (n := 5000) (by omega) (by omega)], by omega, hI11.1, hx11, ?_, hf10.grown g11 (ne_some (by omega)), hof11, k11, by omega, ?_, by simp; omega, .inr ⟨by simp [y], hm4, ?_, ?_⟩⟩, ?_⟩
        · rw [show m - (k + 1) = j by omega, ← hp4, if_pos y]
        · intro u hu
          rcases List.mem_append.1 hu with hu | hu
          · exact hin4 u hu
          · obtain rfl : u = v7 := by simpa using hu
            exact hin7
        · rw [← y] at *; exact hrow11
        · intro b hb hob
          rw [hI11.2, hI10.2] at hob
          rcases n10 b hb with h | h
          · exact hro9 b h hob
          · have := C.lt hI9.1 hob; omega
        · rw [wrap_succ (n := 5000) (by omega) (by omega)]
          simp only [Int.toNat_natCast]
          omega
      · -- none more
        have y : k ≠ l.length := by
          have := of_decide_eq_false y
          intro e; exact this (by rw [e])
        rcases hL4 with ⟨rfl, rfl, hmx, hr0⟩ | ⟨hlk, _⟩
        case inr => omega
        have hgr : (k + 1) * C.grow = k * C.grow + C.grow := by rw [Nat.add_mul, Nat.one_mul]
        refine ⟨⟨k + 1, x.pairs, s7, _, by rw [wrap_succ (n := 5000) (by omega) (by omega)], by omega, hI7, hx7, ?_, hf7, hof7, k7, by omega, hin4, hlen4, .inl ⟨rfl, rfl, hmx, hr0⟩⟩, ?_⟩
        · rw [show m - (k + 1) = j by omega, ← hp4, if_neg y]
        · rw [wrap_succ (n := 5000) (by omega) (by omega)]
          simp only [Int.toNat_natCast]
          omega
    refine ⟨_, hf5.cell (i := 0) rfl rfl, _, rfl, _, _, _, hx5.cell (i := 13) rfl (by rw [hpv4]; rfl), ifB_intro (fun y => ?_) fun y => ?_⟩
    · have y : k < l.length := by have := of_decide_eq_true y; omega
      rcases hL4 with ⟨rfl, rfl, hmx, hr0⟩ | ⟨hlk, _⟩
      case inr => omega
      have hr5 := hr0.chg k5.fresh
      obtain ⟨p5, c5, hp5', _, hcs5, _⟩ := hr5
      rw [hpv4] at hp5'
      cases hp5'
      refine ⟨_, hf5.cell (i := 0) rfl rfl, _, rfl, _, _, _, hx5.cell (i := 13) rfl (by rw [hpv4]; rfl), ix_pr hcs5 rfl rfl y fun a h0 h1 _ => ?_⟩
      refine ⟨_, h0, _, h1, do_st hb5 (i := 0) rfl (by simp) fun w6 h6 g6 => do_st h6 (i := 1) rfl (by simp) fun w7 h7 g7 => go w7 ?_ (grown_trans g6 g7)⟩
      rw [List.getD_eq_getElem?_getD, List.getElem?_eq_getElem y]
      exact h7
    · have y : ¬ k < l.length := by have := of_decide_eq_false y; omega
      refine go w5 ?_ (grown_refl _ _)
      rw [List.getD_eq_getElem?_getD, List.getElem?_eq_none (by omega)]
      exact hb5
end
end Go.Proofs.YtmkpkmdnapccgaaGreatDoor

namespace Go.Proofs.YtmkpkmdnapccgaaGreatDoor
open Go Go.Sh Go.RowKit

theorem elIo : ElT Tryz.prog 35 2 (.int .i64 0) 1 8 := ⟨Tryz.underlying35, ⟨_, Tryz.type2, by kernel_rfl, by kernel_rfl, by kernel_rfl⟩, rfl, by omega⟩
theorem ix_int' {w : World} {p : OA} {n : Nat} {l : List Int} {K : Addr → Prop} (h : Cs w p (ints l)) (hn : l.length = n) {k : Nat} (h1 : k < n)
    (c : ∀ a : Addr, w.cell? a = some (.int .i64 (l[k]'(by omega))) → K a) : doIx p n 1 (k : Int) K := by
  obtain ⟨a, ha, hc⟩ := h.int (i := k) (by omega)
  exact ⟨a, ha, by omega, by omega, c _ (by rw [Int.toNat_natCast, Nat.mul_one]; exact hc)⟩
section
variable {σ : Type} {c : PC σ} {ct : TypeId} {cp : Value} (C : Coder c ct cp)
def LoopK (w0 : World) (xb : Nat) (x : POp) (kv : Value) (m k : Nat) (l : List Int) (kv' : Value) (w : World) : Prop :=
  (l = x.keys ∧ kv' = kv ∧ m ≤ x.keys.length ∧ RowAt C.own xb w0 kv x.keys.length (ints x.keys)) ∨
  (l.length = k ∧ m ≤ 4096 ∧ w.ownsRow (w0.heap.size + 1) 2 1 kv' k (ints l) ∧ ∀ b, kv'.ownBlock = some b → ¬ C.own w b)
theorem c_fkeys {xb : Nat} {x : POp} {pv kv : Value} {w : World} {s : σ} {R : EW} (hI : C.I w s) (hl : C.len s + 10000 * C.grow ≤ lim) (ho : ¬ C.own w xb) (hx : OpAt w xb x pv kv) (hin : InO x) (hr : RowsAt C.own xb w x pv kv) (hL : x.keys.length ≤ 5000) (hmo : ModeR c x.keys.length kv)
    (h : ∀ x' s' w' kv', partP c .keys x s = some (x', s') → C.I w' s' → OpAt w' xb x' pv kv' → RowsAt C.own xb w' x' pv kv' → Chg C.own (· = xb) w w' → R (.returned unitV) w')
    (hn : ∀ ch w', partP c .keys x s = none → NoneCh ch → Some15 w' xb → (∃ s', C.I w' s') → Chg C.own (· = xb) w w' → R (.panicked ch) w') :
    Calls Tryz.prog 76 #[.agg #[.pointer (some (blk xb)), .iface ct cp]] w R := by
  refine sh76_ok _ _ ?_
  unfold sh76
  refine ⟨?_⟩
  have e1 := ext_alloc w (.cells #[.pointer (some (blk xb)), .iface ct cp] 103)
  have hf1 := blk_alloc w #[.pointer (some (blk xb)), .iface ct cp] 103
  generalize w.alloc (.cells #[.pointer (some (blk xb)), .iface ct cp] 103) = w1 at e1 hf1 ⊢
  have hxb := hx.lt
  have hne : w.heap.size ≠ xb := by omega
  obtain ⟨pp, pc, hpv, hpn, hpc, hpo⟩ := hr.k
  have hx1 : OpAt w1 xb x pv kv := hx.ext e1
  refine ⟨_, hf1.cell (i := 0) rfl rfl, _, rfl, _, _, _, hx1.cell (i := 14) rfl (by rw [← hpv]; rfl), ⟨?_⟩⟩
  refine do_st (blk_alloc w1 _ _) (i := 0) rfl (by simp) fun w2 h2 g2 => ?_
  have e2 : Ext w w2 := (e1.alloc _).st g2 e1.size
  have hkb : w.heap.size < w1.heap.size := hf1.lt
  have hf2 : Blk w2 w.heap.size #[.pointer (some (blk xb)), .iface ct cp] 103 := (hf1.ext (ext_alloc w1 _)).grown g2 (ne_some (by omega))
  have hx2 : OpAt w2 xb x pv kv := hx.ext e2
  have hnb : w1.heap.size ≠ xb := by omega
  generalize w1.heap.size = nb at *
  refine ⟨_, hf2.cell (i := 1) rfl rfl, ?_⟩
  have own2 := (C.ext hI e2).2
  have k2 : Chg C.own (SF w.heap.size (· = xb)) w w2 := C.chg_ext hI e2
  refine C.many (b := nb) (C.ext hI e2).1 (by omega) (fun h => C.new' hI (Nat.le_of_lt hkb) ((own2 _).1 h)) h2 (by omega) (fun m s3 w3 hv hI3 hb3 c3 => retS_ret ⟨rfl, ?_⟩) fun ch s3 w3 hv hch hls hI3 c3 => ?_
  case refine_2 =>
    have k : Chg C.own (· = xb) w w3 := (k2.trans (c3.mono fun k hk => .inr (by omega))).fresh
    have hx3 : OpAt w3 xb x pv kv := c3.blk hx2 (fun h => ho ((own2 _).1 h)) (by omega)
    exact hn ch w3 (by simp only [partP, hv]; rfl) hch (hr.some hx3) ⟨_, hI3⟩ k
  obtain ⟨hm1, hm2⟩ := C.manyIn (by omega) hv
  have k3 : Chg C.own (SF w.heap.size (· = xb)) w w3 := k2.trans (c3.mono fun k hk => .inr (by omega))
  have hx3 : OpAt w3 xb x pv kv := c3.blk hx2 (fun h => ho ((own2 _).1 h)) (by omega)
  have hof2 : ¬ C.own w2 w.heap.size := fun h => C.new' hI (Nat.le_refl _) ((own2 _).1 h)
  have hf3 := c3.blk hf2 hof2 (by omega)
  have hof3 := c3.out _ hf2.lt hof2
  have hq : partP c .keys x s = (keysP c m 0 x.keys s3).bind fun q => some ({ x with keys := q.1 }, q.2) := by simp only [partP, hv]; rfl
  refine ⟨(m : Int), hb3.cell (i := 0) rfl rfl, ?_⟩
  refine ⟨fun vs w' => ∃ k l s' kv', vs = [.int .i64 ((k : Nat) : Int)] ∧ k ≤ m ∧ C.I w' s' ∧ OpAt w' xb { x with keys := l } pv kv' ∧ keysP c (m - k) k l s' = keysP c m 0 x.keys s3 ∧ Blk w' w.heap.size #[.pointer (some (blk xb)), .iface ct cp] 103 ∧ ¬ C.own w' w.heap.size ∧
      Chg C.own (SF w.heap.size (· = xb)) w w' ∧ C.len s' ≤ C.len s3 + k * C.grow ∧ (∀ u ∈ l, In u) ∧ l.length ≤ 5000 ∧ LoopK C w xb x kv m k l kv' w',
    fun vs _ => match vs with | [.int _ i] => (m - i.toNat) | _ => 0, ⟨0, x.keys, s3, kv, rfl, Nat.zero_le _, hI3, hx3, rfl, hf3, hof3, k3, by omega, hin.keys, hL, ?_⟩, ?_⟩
  · rcases hmo with hmo | ⟨h0, hnil⟩
    · exact .inl ⟨rfl, rfl, hmo _ _ _ hv, hr.k⟩
    · refine .inr ⟨h0, by omega, ?_, fun b hb => ?_⟩
      · rw [List.eq_nil_of_length_eq_zero h0, hnil]
        exact World.ownsRow_nil _ _ _ _
      · rw [hnil] at hb; simp [Value.ownBlock] at hb
  · rintro i _ w4 ⟨k, l, s4, kv4, hvs, hk, hI4, hx4, hp4, hf4, hof4, k4, hl4, hin4, hlen4, hL4⟩
    obtain rfl : i = (k : Int) := by simpa using hvs
    have ho4 : ¬ C.own w4 xb := k4.out xb hxb ho
    refine ifB_intro (fun z => ?_) fun z => ?_
    case refine_2 =>
      have z : ¬ k < m := by have := of_decide_eq_false z; omega
      have hkm : m - k = 0 := by omega
      rw [hkm, keysP] at hp4
      have kk := k4.fresh
      have hrow : RowAt C.own xb w4 kv4 l.length (ints l) := by
        rcases hL4 with ⟨rfl, rfl, _, hr0⟩ | ⟨hlk, _, hrow, hro⟩
        · exact hr0.chg kk
        · obtain ⟨p, cap, hp, h1, h2, h3⟩ := row_rowAt (own := C.own) hrow hro
          rw [← hlk] at hp h1
          exact ⟨p, cap, hp, h1, h2, fun a ha _ => ⟨(h3 a ha).1, by have := (h3 a ha).2.1; omega, (h3 a ha).2.2⟩⟩
      refine h { x with keys := l } s4 w4 kv4 (by rw [hq, ← hp4]; rfl) hI4 hx4 ⟨(hr.chg kk).p, hrow⟩ kk
    have z : k < m := by have := of_decide_eq_true z; omega
    obtain ⟨j, hj⟩ : ∃ j, m - k = j + 1 := ⟨m - k - 1, by omega⟩
    rw [hj, keysP] at hp4
    intro K23
    refine ⟨?_⟩
    have e5 := ext_alloc w4 (.cells #[.int .i64 0] 2)
    have hb5 := blk_alloc w4 #[.int .i64 0] 2
    generalize w4.alloc (.cells #[.int .i64 0] 2) = w5 at e5 hb5 ⊢
    have hI5 := C.ext hI4 e5
    have hx5 : OpAt w5 xb { x with keys := l } pv kv4 := hx4.ext e5
    have hf5 := hf4.ext e5
    have k5 : Chg C.own (SF w.heap.size (· = xb)) w w5 := k4.trans (C.chg_ext hI4 e5)
    have hsz := k4.size
    have hvb : ¬ C.own w5 w4.heap.size := fun h => C.new hI4 ((hI5.2 _).1 h)
    have hb4x : w4.heap.size ≠ xb := by omega
    have hfl : w.heap.size < w4.heap.size := hf4.lt
    have hof5 : ¬ C.own w5 w.heap.size := fun h => hof4 ((hI5.2 _).1 h)
    -- the slice's header
    obtain ⟨p4, c4, hpv4⟩ : ∃ p4 c4, kv4 = .slice p4 l.length c4 := by
      rcases hL4 with ⟨rfl, rfl, _, p, cp', hp, _⟩ | ⟨hlk, _, hrow, _⟩
      · exact ⟨p, cp', hp⟩
      · obtain ⟨p, c', hp⟩ := row_slice hrow
        exact ⟨p, c', by rw [hlk]; exact hp⟩
    intro K27
    have go : ∀ w6, Blk w6 w4.heap.size #[.int .i64 (l.getD k 0)] 2 → w5.grownBy w6 (some w4.heap.size) → K27 w6 := by
      intro w6 hb6 g6
      have hI6 := C.st hI5.1 g6 hvb
      have hx6 : OpAt w6 xb { x with keys := l } pv kv4 := hx5.grown g6 (ne_some (by omega))
      have hf6 := hf5.grown g6 (ne_some (by omega))
      have hof6 : ¬ C.own w6 w.heap.size := fun h => hof5 ((hI6.2 _).1 h)
      have k6 : Chg C.own (SF w.heap.size (· = xb)) w w6 := k5.trans (C.chg_st hI5.1 g6 hvb fun _ => .inr (by omega))
      have hv6 : In (l.getD k 0) := by
        rw [List.getD_eq_getElem?_getD]
        cases hg : l[k]? with
        | none => simp [In]
        | some u => exact hin4 u (List.mem_of_getElem? hg)
      have hln : C.len s4 ≤ lim := by
        have : k * C.grow ≤ 5000 * C.grow := Nat.mul_le_mul_right _ (by omega)
        omega
      refine ⟨_, hf6.cell (i := 1) rfl rfl, C.num (b := w4.heap.size) (i := 0) hI6.1 hln (fun h => hvb ((hI6.2 _).1 h)) hb6 rfl hv6 (fun v7 s7 w7 hv7 hI7 hb7 c7 => retS_ret ⟨rfl, ?_⟩) fun ch _ s7 w7 hv7 hch hls hI7 _ c7 => ?_⟩
      case refine_2 =>
        have k7 : Chg C.own (SF w.heap.size (· = xb)) w w7 := k6.trans (c7.mono fun q hq => .inr (by omega))
        have hx7 : OpAt w7 xb { x with keys := l } pv kv4 := c7.blk hx6 (k6.out xb hxb ho) (by omega)
        refine hn ch w7 (by rw [hq, ← hp4, hv7]; rfl) hch ?_ ⟨_, hI7⟩ k7.fresh
        obtain ⟨q, cap', hkv, _⟩ := hr.p
        rw [hpv4, hkv] at hx7
        exact ⟨_, _, _, _, _, _, _, hx7⟩
      have k7 : Chg C.own (SF w.heap.size (· = xb)) w w7 := k6.trans (c7.mono fun q hq => .inr (by omega))
      have hx7 : OpAt w7 xb { x with keys := l } pv kv4 := c7.blk hx6 (k6.out xb hxb ho) (by omega)
      have hf7 := c7.blk hf6 hof6 (by omega)
      have hof7 := c7.out _ hf6.lt hof6
      obtain ⟨hin7, hl7⟩ := C.numIn hv6 hv7
      rw [hv7, Option.bind_some] at hp4
      refine ⟨_, hf7.cell (i := 0) rfl rfl, _, rfl, _, _, _, hx7.cell (i := 14) rfl (by rw [hpv4]; rfl), ifB_intro (fun y => ?_) fun y => ?_⟩
      · -- one more
        have y : k = l.length := by have := of_decide_eq_true y; omega
        rcases hL4 with ⟨rfl, rfl, hmx, _⟩ | ⟨hlk, hm4, hrow, hro⟩
        · omega
        have hrow7 : w7.ownsRow (w.heap.size + 1) 2 1 kv4 k (ints l) := by
          have h5 := hrow.kept (w' := w5) (row := none) e5.grownBy (by cases kv4.ownBlock <;> simp)
          have hlt := hrow.lt
          have h6 := h5.kept g6 (.inr fun e => by have := (hlt _ e).2; omega)
          exact chg_row c7 h6 (fun b hb h => hro b hb ((hI5.2 _).1 ((hI6.2 _).1 h))) fun b hb => by have := (hlt b hb).2; omega
        have hro7 : ∀ b, kv4.ownBlock = some b → ¬ C.own w7 b := fun b hb => by
          have hlt := (hrow.lt b hb).2
          have s5 := e5.size
          have s6 := g6.size
          exact c7.out b (by omega) fun h => hro b hb ((hI5.2 _).1 ((hI6.2 _).1 h))
        refine ⟨?_⟩
        have e8 := ext_drew w7
        have hI8 := C.ext hI7 e8
        have hx8 : OpAt w7.drew xb { x with keys := l } pv kv4 := hx7.ext e8
        have hf8 := hf7.ext e8
        have hb8 := hb7.ext e8
        have k8 : Chg C.own (SF w.heap.size (· = xb)) w w7.drew := k7.trans (C.chg_ext hI7 e8)
        have hrow8 := e8.row hrow7
        have hro8 : ∀ b, kv4.ownBlock = some b → ¬ C.own w7.drew b := fun b hb h => hro7 b hb ((hI8.2 _).1 h)
        generalize w7.drew = w8 at *
        have hpv4' := hpv4
        subst hpv4
        refine ⟨fun w' => Blk w' w.heap.size #[.pointer (some (blk xb)), .iface ct cp] 103 ∧ OpAt w' xb { x with keys := l } pv (.slice p4 l.length c4) ∧ Blk w' w4.heap.size #[.int .i64 v7] 2, ⟨hf8, hx8, hb8⟩,
          _, fun w' h' => h'.1.cell (i := 0) rfl rfl, _, fun w' h' => h'.1.cell (i := 0) rfl rfl, _, rfl, _, _, _, fun w' h' => h'.2.1.cell (i := 14) rfl rfl, _, fun w' h' => h'.2.2.cell (i := 0) rfl rfl, ⟨?_⟩⟩
        have e9 := ext_alloc w8 (.cells #[.int .i64 v7] 2)
        have hcs9 := cs_alloc w8 #[.int .i64 v7] 2
        generalize w8.alloc (.cells #[.int .i64 v7] 2) = w9 at e9 hcs9 ⊢
        have hI9 := C.ext hI8.1 e9
        have hx9 : OpAt w9 xb { x with keys := l } pv (.slice p4 l.length c4) := hx8.ext e9
        refine ⟨⟨hf8.ext e9, hx9, hb8.ext e9⟩, ?_⟩
        have hrow9 := e9.row hrow8
        have hro9 : ∀ b, (Value.slice p4 l.length c4).ownBlock = some b → ¬ C.own w9 b := fun b hb h => hro8 b hb ((hI9.2 _).1 h)
        have k9 : Chg C.own (SF w.heap.size (· = xb)) w w9 := k8.trans (C.chg_ext hI8.1 e9)
        have hrow9' : w9.ownsRow (w.heap.size + 1) 2 1 (.slice p4 l.length c4) l.length (ints l) := by rw [← y] at *; exact hrow9
        refine do_append' elIo hrow9' (m := 1) (news := ints [v7]) (by simpa [ints] using hcs9) (by simp) ints_one (by simp only [maxLen]; omega) (by omega) (by have := e5.size; have := g6.size; have := c7.size; have := e8.size; have := e9.size; omega) fun p' c' w10 h10 g10 n10 => retS_ret ⟨_, _, _, rfl, ?_⟩
        have hrl := hrow9'.lt
        have hI10 : C.I w10 s7 ∧ ∀ q, C.own w10 q ↔ C.own w9 q := C.keep hI9.1 fun q hq => g10.block q (C.lt hI9.1 hq) fun e => hro9 q e.symm hq
        have ne10 : ∀ q, q ≤ w.heap.size → some q ≠ (Value.slice p4 l.length c4).ownBlock := fun q hq e => by have := (hrl q e.symm).1; omega
        have hf10 := (hf8.ext e9).grown g10 (ne10 _ (Nat.le_refl _))
        have hx10 : OpAt w10 xb { x with keys := l } pv (.slice p4 l.length c4) := hx9.grown g10 (ne10 _ (by omega))
        have hb10 : Blk w10 w4.heap.size #[.int .i64 v7] 2 := (hb8.ext e9).grown g10 fun e => by
          have h1 := (hrow.lt _ e.symm).2
          omega
        have k10 : Chg C.own (SF w.heap.size (· = xb)) w w10 := k9.trans ⟨g10.os, g10.tape, g10.output, g10.size, fun q hq _ hs => g10.block q hq fun e => hs (.inr (by have := (hrl q e.symm).1; omega)), fun q _ h1 h2 => h1 ((hI10.2 q).1 h2)⟩
        refine ⟨⟨hf10, hx10, hb10⟩, _, rfl, do_st hx10 (i := 14) rfl (by simp [opCells]) fun w11 h11 g11 => ?_⟩
        have ho10 := k10.out xb hxb ho
        have hI11 := C.st hI10.1 g11 ho10
        have hx11 : OpAt w11 xb { x with keys := l ++ [v7] } pv (.slice p' (l.length + 1) c') := h11
        have k11 : Chg C.own (SF w.heap.size (· = xb)) w w11 := k10.trans (C.chg_st hI10.1 g11 ho10 fun _ => .inl rfl)
        have hrl10 := h10.lt
        have hrow11 : w11.ownsRow (w.heap.size + 1) 2 1 (.slice p' (l.length + 1) c') (l.length + 1) (ints (l ++ [v7])) := by
          rw [ints_append]
          exact h10.kept g11 (.inr fun e => by have := (hrl10 _ e).1; omega)
        have hof11 : ¬ C.own w11 w.heap.size := fun h => hof7 ((hI8.2 _).1 ((hI9.2 _).1 ((hI10.2 _).1 ((hI11.2 _).1 h))))
        have hgr : (k + 1) * C.grow = k * C.grow + C.grow := by rw [Nat.add_mul, Nat.one_mul]
        refine ⟨⟨k + 1, l ++ [v7], s7, _, by rw [wrap_succ (n := 5000) (by omega) (by omega)], by omega, hI11.1, hx11, ?_, hf10.grown g11 (ne_some (by omega)), hof11, k11, by omega, ?_, by simp; omega, .inr ⟨by simp [y], hm4, ?_, ?_⟩⟩, ?_⟩
        · rw [show m - (k + 1) = j by omega, ← hp4, if_pos y]
        · intro u hu
          rcases List.mem_append.1 hu with hu | hu
          · exact hin4 u hu
          · obtain rfl : u = v7 := by simpa using hu
            exact hin7
        · rw [← y] at *; exact hrow11
        · intro b hb hob
          rw [hI11.2, hI10.2] at hob
          rcases n10 b hb with h | h
          · exact hro9 b h hob
          · have := C.lt hI9.1 hob; omega
        · rw [wrap_succ (n := 5000) (by omega) (by omega)]
          simp only [Int.toNat_natCast]
          omega
      · -- none more
        have y : k ≠ l.length := by
          have := of_decide_eq_false y
          intro e; exact this (by rw [e])
        rcases hL4 with ⟨rfl, rfl, hmx, hr0⟩ | ⟨hlk, _⟩
        case inr => omega
        have hgr : (k + 1) * C.grow = k * C.grow + C.grow := by rw [Nat.add_mul, Nat.one_mul]
        refine ⟨⟨k + 1, x.keys, s7, _, by rw [wrap_succ (n := 5000) (by omega) (by omega)], by omega, hI7, hx7, ?_, hf7, hof7, k7, by omega, hin4, hlen4, .inl ⟨rfl, rfl, hmx, hr0⟩⟩, ?_⟩
        · rw [show m - (k + 1) = j by omega, ← hp4, if_neg y]
        · rw [wrap_succ (n := 5000) (by omega) (by omega)]
          simp only [Int.toNat_natCast]
          omega
    refine ⟨_, hf5.cell (i := 0) rfl rfl, _, rfl, _, _, _, hx5.cell (i := 14) rfl (by rw [hpv4]; rfl), ifB_intro (fun y => ?_) fun y => ?_⟩
    · have y : k < l.length := by have := of_decide_eq_true y; omega
      rcases hL4 with ⟨rfl, rfl, hmx, hr0⟩ | ⟨hlk, _⟩
      case inr => omega
      have hr5 := hr0.chg k5.fresh
      obtain ⟨p5, c5, hp5', _, hcs5, _⟩ := hr5
      rw [hpv4] at hp5'
      cases hp5'
      refine ⟨_, hf5.cell (i := 0) rfl rfl, _, rfl, _, _, _, hx5.cell (i := 14) rfl (by rw [hpv4]; rfl), ix_int' hcs5 rfl y fun a h0 => ?_⟩
      refine ⟨_, h0, do_st hb5 (i := 0) rfl (by simp) fun w6 h6 g6 => go w6 ?_ g6⟩
      rw [List.getD_eq_getElem?_getD, List.getElem?_eq_getElem y]
      exact h6
    · have y : ¬ k < l.length := by have := of_decide_eq_false y; omega
      refine go w5 ?_ (grown_refl _ _)
      rw [List.getD_eq_getElem?_getD, List.getElem?_eq_none (by omega)]
      exact hb5
end
end Go.Proofs.YtmkpkmdnapccgaaGreatDoor

namespace Go.Proofs.YtmkpkmdnapccgaaGreatDoor
open Go Go.Sh Go.RowKit

def fnOf : Part → Nat
  | .a => 69
  | .b => 74
  | .n => 77
  | .key => 70
  | .val => 71
  | .lo => 78
  | .hi => 79
  | .pol => 72
  | .pred => 75
  | .pairs => 73
  | .keys => 76
def partV (xb : Nat) (cv : Value) (p : Part) : Value := .func (.func (fnOf p)) #[.agg #[.pointer (some (blk xb)), cv]] #[]
theorem c_parts {xb : Nat} {cv : Value} {d : Int} {w : World} {R : EW} (hx : w.cell? (blk xb) = some (.int .u8 d))
    (h : ∀ q w', Ext w w' → Cs w' q ((partsOf d).map (partV xb cv)) → (∀ a, q = some a → w.heap.size ≤ a.block ∧ a.block < w'.heap.size) → R (.returned (.slice q (partsOf d).length (partsOf d).length)) w') :
    Calls Tryz.prog 52 #[.agg #[.pointer (some (blk xb)), cv]] w R := by
  refine sh52_ok _ _ ?_
  unfold sh52
  refine ⟨?_⟩
  have e1 := ext_alloc w (.cells #[.pointer (some (blk xb)), cv] 103)
  have hf1 := blk_alloc w #[.pointer (some (blk xb)), cv] 103
  generalize w.alloc (.cells #[.pointer (some (blk xb)), cv] 103) = w1 at e1 hf1 ⊢
  refine ⟨_, hf1.cell (i := 0) rfl rfl, _, rfl, d, by rw [add_zero']; exact e1.cell hx, ?_⟩
  have hh : ∀ (cs : Array Value), cs.toList = (partsOf d).map (partV xb cv) → ∀ n, (partsOf d).length = n → R (.returned (.slice (some (blk w1.heap.size)) n n)) (w1.alloc (.cells cs 1)) := fun cs hc n hn => by
    subst hn
    refine h _ _ (e1.alloc _) (hc ▸ cs_alloc w1 cs _) fun a ha => ?_
    cases ha
    exact ⟨e1.size, by simp⟩
  have h0 : partsOf d = [] → R (.returned (.slice none 0 0)) w1 := fun hp => by
    have := h none w1 e1 (by rw [hp]; exact cs_nil _ _) (by simp)
    rw [hp] at this
    exact this
  have hd : d = 1 ∨ d = 2 ∨ d = 3 ∨ d = 4 ∨ d = 5 ∨ d = 6 ∨ d = 7 ∨ d = 8 ∨ d = 9 ∨ d = 10 ∨ d = 11 ∨ d = 12 ∨ d = 13 ∨ d = 14 ∨ d = 15 ∨ d = 16 ∨ d = 17 ∨ d = 18 ∨ d = 19 ∨ d = 20 ∨ d = 21 ∨ d = 22 ∨ (d < 1 ∨ 22 < d) := by omega
  rcases hd with rfl | rfl | rfl | rfl | rfl | rfl | rfl | rfl | rfl | rfl | rfl | rfl | rfl | rfl | rfl | rfl | rfl | rfl | rfl | rfl | rfl | rfl | hd
  case inr.inr.inr.inr.inr.inr.inr.inr.inr.inr.inr.inr.inr.inr.inr.inr.inr.inr.inr.inr.inr.inr =>
    have hne : ∀ i : Int, 1 ≤ i → i ≤ 22 → (d == i) = false := fun i h1 h2 => by simp; omega
    repeat first | intro _ | refine ifB_f (hne _ (by omega) (by omega)) ?_
    refine h0 ?_
    unfold partsOf
    rw [if_neg (by omega), if_neg (by omega), if_neg (by omega), if_neg (by omega), if_neg (by omega), if_neg (by omega), if_neg (by omega), if_neg (by omega), if_neg (by omega), if_neg (by omega), if_neg (by omega)]
  all_goals
    repeat first | intro _ | refine ifB_t rfl ?_ | refine ifB_f rfl ?_
    repeat refine ⟨_, hf1.cell (i := 0) rfl rfl, _, hf1.cell (i := 1) rfl rfl, ?_⟩
    refine ⟨hh _ rfl _ rfl⟩
end Go.Proofs.YtmkpkmdnapccgaaGreatDoor

namespace Go.Proofs.YtmkpkmdnapccgaaGreatDoor
open Go Go.Sh Go.RowKit

section
variable {σ : Type} {c : PC σ}
theorem partP_op {p : Part} {x x' : POp} {s s' : σ} (h : partP c p x s = some (x', s')) : x'.op = x.op ∧ ∀ q, q ≠ p → agree q x x' := by
  cases p
  case pred =>
    simp only [partP, predP] at h
    split at h
    · obtain ⟨r, _, h⟩ := Option.bind_eq_some_iff.1 h
      obtain ⟨q, _, h⟩ := Option.bind_eq_some_iff.1 h
      split at h
      · cases h
        exact ⟨rfl, fun q hq => by cases q <;> first | exact absurd rfl hq | simp [agree]⟩
      · obtain ⟨u, _, h⟩ := Option.bind_eq_some_iff.1 h
        obtain ⟨v, _, h⟩ := Option.bind_eq_some_iff.1 h
        cases h
        exact ⟨rfl, fun q hq => by cases q <;> first | exact absurd rfl hq | simp [agree]⟩
    · obtain ⟨r, _, h⟩ := Option.bind_eq_some_iff.1 h
      obtain ⟨q, _, h⟩ := Option.bind_eq_some_iff.1 h
      obtain ⟨u, _, h⟩ := Option.bind_eq_some_iff.1 h
      obtain ⟨v, _, h⟩ := Option.bind_eq_some_iff.1 h
      cases h
      exact ⟨rfl, fun q hq => by cases q <;> first | exact absurd rfl hq | simp [agree]⟩
  case pairs =>
    simp only [partP] at h
    obtain ⟨r, _, h⟩ := Option.bind_eq_some_iff.1 h
    obtain ⟨q, _, h⟩ := Option.bind_eq_some_iff.1 h
    cases h
    exact ⟨rfl, fun q hq => by cases q <;> first | exact absurd rfl hq | simp [agree]⟩
  case keys =>
    simp only [partP] at h
    obtain ⟨r, _, h⟩ := Option.bind_eq_some_iff.1 h
    obtain ⟨q, _, h⟩ := Option.bind_eq_some_iff.1 h
    cases h
    exact ⟨rfl, fun q hq => by cases q <;> first | exact absurd rfl hq | simp [agree]⟩
  all_goals
    simp only [partP] at h
    obtain ⟨r, _, h⟩ := Option.bind_eq_some_iff.1 h
    cases h
    exact ⟨rfl, fun q hq => by cases q <;> first | exact absurd rfl hq | simp [agree]⟩
variable (C : CBase c)
theorem pairsP_in : ∀ (m k : Nat) (l l' : List (Int × Int)) (s s' : σ), InPs l → pairsP c m k l s = some (l', s') → InPs l' ∧ C.len s' ≤ C.len s + m * C.grow
  | 0, k, l, l', s, s', hl, h => by
    simp only [pairsP, Option.some.injEq, Prod.mk.injEq] at h
    obtain ⟨rfl, rfl⟩ := h
    exact ⟨hl, by omega⟩
  | m + 1, k, l, l', s, s', hl, h => by
    simp only [pairsP] at h
    obtain ⟨⟨v, s1⟩, hv, h⟩ := Option.bind_eq_some_iff.1 h
    have h0 : In (l.getD k (0, 0)).1 ∧ In (l.getD k (0, 0)).2 := by
      rw [List.getD_eq_getElem?_getD]
      cases hg : l[k]? with
      | none => simp [In]
      | some u => exact hl u (List.mem_of_getElem? hg)
    obtain ⟨h1, h2⟩ := C.pairIn h0 hv
    obtain ⟨h3, h4⟩ := pairsP_in m (k + 1) _ l' s1 s' (by
      split
      · intro u hu
        rcases List.mem_append.1 hu with hu | hu
        · exact hl u hu
        · obtain rfl : u = v := by simpa using hu
          exact h1
      · exact hl) h
    exact ⟨h3, by rw [Nat.add_mul, Nat.one_mul]; omega⟩
theorem keysP_in : ∀ (m k : Nat) (l l' : List Int) (s s' : σ), (∀ v ∈ l, In v) → keysP c m k l s = some (l', s') → (∀ v ∈ l', In v) ∧ C.len s' ≤ C.len s + m * C.grow
  | 0, k, l, l', s, s', hl, h => by
    simp only [keysP, Option.some.injEq, Prod.mk.injEq] at h
    obtain ⟨rfl, rfl⟩ := h
    exact ⟨hl, by omega⟩
  | m + 1, k, l, l', s, s', hl, h => by
    simp only [keysP] at h
    obtain ⟨⟨v, s1⟩, hv, h⟩ := Option.bind_eq_some_iff.1 h
    have h0 : In (l.getD k 0) := by
      rw [List.getD_eq_getElem?_getD]
      cases hg : l[k]? with
      | none => simp [In]
      | some u => exact hl u (List.mem_of_getElem? hg)
    obtain ⟨h1, h2⟩ := C.numIn h0 hv
    obtain ⟨h3, h4⟩ := keysP_in m (k + 1) _ l' s1 s' (by
      split
      · intro u hu
        rcases List.mem_append.1 hu with hu | hu
        · exact hl u hu
        · obtain rfl : u = v := by simpa using hu
          exact h1
      · exact hl) h
    exact ⟨h3, by rw [Nat.add_mul, Nat.one_mul]; omega⟩
theorem partP_in {p : Part} {x x' : POp} {s s' : σ} (hin : InO x) (hP : x.pairs.length ≤ 5000) (hK : x.keys.length ≤ 5000) (h : partP c p x s = some (x', s')) : InO x' ∧ C.len s' ≤ C.len s + 6000 * C.grow := by
  cases p
  case pred =>
    simp only [partP, predP] at h
    split at h
    · obtain ⟨r, hr, h⟩ := Option.bind_eq_some_iff.1 h
      obtain ⟨q, hq, h⟩ := Option.bind_eq_some_iff.1 h
      have l1 := C.flagIn hr
      have l2 := C.wordIn hin.pk hq
      split at h
      · cases h
        exact ⟨{ hin with pk := l2.1 }, by omega⟩
      · obtain ⟨u, hu, h⟩ := Option.bind_eq_some_iff.1 h
        obtain ⟨v, hv, h⟩ := Option.bind_eq_some_iff.1 h
        have l3 := C.numIn hin.pa hu
        have l4 := C.numIn hin.pb hv
        cases h
        exact ⟨{ hin with pk := l2.1, pa := l3.1, pb := l4.1 }, by omega⟩
    · obtain ⟨q, hq, h⟩ := Option.bind_eq_some_iff.1 h
      obtain ⟨u, hu, h⟩ := Option.bind_eq_some_iff.1 h
      obtain ⟨v, hv, h⟩ := Option.bind_eq_some_iff.1 h
      obtain ⟨r, hr, h⟩ := Option.bind_eq_some_iff.1 h
      have l1 := C.flagIn hr
      have l2 := C.wordIn hin.pk hq
      have l3 := C.numIn hin.pa hu
      have l4 := C.numIn hin.pb hv
      cases h
      exact ⟨{ hin with pk := l2.1, pa := l3.1, pb := l4.1 }, by omega⟩
  case pairs =>
    simp only [partP] at h
    obtain ⟨r, hr, h⟩ := Option.bind_eq_some_iff.1 h
    obtain ⟨q, hq, h⟩ := Option.bind_eq_some_iff.1 h
    obtain ⟨m, s1⟩ := r
    obtain ⟨l, s2⟩ := q
    cases h
    have l1 := C.manyIn (by omega) hr
    have l2 := pairsP_in C m 0 _ _ _ _ hin.pairs hq
    have : m * C.grow ≤ 5000 * C.grow := Nat.mul_le_mul_right _ (by omega)
    exact ⟨{ hin with pairs := l2.1 }, by have h2 : C.len s2 ≤ C.len s1 + m * C.grow := l2.2; show C.len s2 ≤ _; have h1 := l1.2; omega⟩
  case keys =>
    simp only [partP] at h
    obtain ⟨r, hr, h⟩ := Option.bind_eq_some_iff.1 h
    obtain ⟨q, hq, h⟩ := Option.bind_eq_some_iff.1 h
    obtain ⟨m, s1⟩ := r
    obtain ⟨l, s2⟩ := q
    cases h
    have l1 := C.manyIn (by omega) hr
    have l2 := keysP_in C m 0 _ _ _ _ hin.keys hq
    have : m * C.grow ≤ 5000 * C.grow := Nat.mul_le_mul_right _ (by omega)
    exact ⟨{ hin with keys := l2.1 }, by have h2 : C.len s2 ≤ C.len s1 + m * C.grow := l2.2; show C.len s2 ≤ _; have h1 := l1.2; omega⟩
  all_goals
    simp only [partP] at h
    obtain ⟨r, hr, h⟩ := Option.bind_eq_some_iff.1 h
    cases h
  case pol =>
    have l := C.wordIn hin.pol hr
    exact ⟨{ hin with pol := l.1 }, by omega⟩
  case a => have l := C.numIn hin.a hr; exact ⟨{ hin with a := l.1 }, by omega⟩
  case b => have l := C.numIn hin.b hr; exact ⟨{ hin with b := l.1 }, by omega⟩
  case n => have l := C.numIn hin.n hr; exact ⟨{ hin with n := l.1 }, by omega⟩
  case key => have l := C.numIn hin.key hr; exact ⟨{ hin with key := l.1 }, by omega⟩
  case val => have l := C.numIn hin.val hr; exact ⟨{ hin with val := l.1 }, by omega⟩
  case lo => have l := C.numIn hin.lo hr; exact ⟨{ hin with lo := l.1 }, by omega⟩
  case hi => have l := C.numIn hin.hi hr; exact ⟨{ hin with hi := l.1 }, by omega⟩
end
section
variable {σ : Type} {c : PC σ} {ct : TypeId} {cp : Value} (C : Coder c ct cp)
theorem c_part (p : Part) {xb : Nat} {x : POp} {pv kv : Value} {w : World} {s : σ} {R : EW} (hI : C.I w s) (hl : C.len s + 10000 * C.grow ≤ lim) (ho : ¬ C.own w xb) (hx : OpAt w xb x pv kv) (hin : InO x) (hr : RowsAt C.own xb w x pv kv)
    (hP : p = .pairs → x.pairs.length ≤ 5000) (hK : p = .keys → x.keys.length ≤ 5000) (hpol : p = .pol → C.pre polNames x.pol) (hpred : p = .pred → C.pre kindNames x.pk) (hmp : p = .pairs → ModeR c x.pairs.length pv) (hmk : p = .keys → ModeR c x.keys.length kv)
    (h : ∀ x' s' w' pv' kv', partP c p x s = some (x', s') → C.I w' s' → OpAt w' xb x' pv' kv' → RowsAt C.own xb w' x' pv' kv' → Chg C.own (· = xb) w w' → (p ≠ .pairs → pv' = pv) → (p ≠ .keys → kv' = kv) → R (.returned unitV) w')
    (hn : ∀ ch w', partP c p x s = none → NoneCh ch → Some15 w' xb → (∃ s', C.I w' s') → Chg C.own (· = xb) w w' → R (.panicked ch) w') :
    Calls Tryz.prog (fnOf p) #[.agg #[.pointer (some (blk xb)), .iface ct cp]] w R := by
  have hl' : C.len s ≤ lim := by omega
  cases p
  case a => exact c_fa C hI hl' ho hx hin hr (fun x' s' w' h1 h2 h3 h4 h5 => h x' s' w' pv kv h1 h2 h3 h4 h5 (fun _ => rfl) fun _ => rfl) hn
  case b => exact c_fb C hI hl' ho hx hin hr (fun x' s' w' h1 h2 h3 h4 h5 => h x' s' w' pv kv h1 h2 h3 h4 h5 (fun _ => rfl) fun _ => rfl) hn
  case n => exact c_fn C hI hl' ho hx hin hr (fun x' s' w' h1 h2 h3 h4 h5 => h x' s' w' pv kv h1 h2 h3 h4 h5 (fun _ => rfl) fun _ => rfl) hn
  case key => exact c_fkey C hI hl' ho hx hin hr (fun x' s' w' h1 h2 h3 h4 h5 => h x' s' w' pv kv h1 h2 h3 h4 h5 (fun _ => rfl) fun _ => rfl) hn
  case val => exact c_fval C hI hl' ho hx hin hr (fun x' s' w' h1 h2 h3 h4 h5 => h x' s' w' pv kv h1 h2 h3 h4 h5 (fun _ => rfl) fun _ => rfl) hn
  case lo => exact c_flo C hI hl' ho hx hin hr (fun x' s' w' h1 h2 h3 h4 h5 => h x' s' w' pv kv h1 h2 h3 h4 h5 (fun _ => rfl) fun _ => rfl) hn
  case hi => exact c_fhi C hI hl' ho hx hin hr (fun x' s' w' h1 h2 h3 h4 h5 => h x' s' w' pv kv h1 h2 h3 h4 h5 (fun _ => rfl) fun _ => rfl) hn
  case pol => exact c_fpol C hI hl' ho hx hin hr (hpol rfl) (fun x' s' w' h1 h2 h3 h4 h5 => h x' s' w' pv kv h1 h2 h3 h4 h5 (fun _ => rfl) fun _ => rfl) hn
  case pred => exact c_fpred C hI (by omega) ho hx hin hr (hpred rfl) (fun x' s' w' h1 h2 h3 h4 h5 => h x' s' w' pv kv h1 h2 h3 h4 h5 (fun _ => rfl) fun _ => rfl) hn
  case pairs => exact c_fpairs C hI hl ho hx hin hr (hP rfl) (hmp rfl) (fun x' s' w' pv' h1 h2 h3 h4 h5 => h x' s' w' pv' kv h1 h2 h3 h4 h5 (fun e => absurd rfl e) fun _ => rfl) hn
  case keys => exact c_fkeys C hI hl ho hx hin hr (hK rfl) (hmk rfl) (fun x' s' w' kv' h1 h2 h3 h4 h5 => h x' s' w' pv kv' h1 h2 h3 h4 h5 (fun _ => rfl) fun e => absurd rfl e) hn
theorem c_names {w : World} {R : EW} (h : ∀ b w', Ext w w' → Cs w' (some (blk b)) (strs opNames) → w.heap.size ≤ b → b < w'.heap.size → R (.returned (.slice (some (blk b)) 23 23)) w') : Calls Tryz.prog 51 #[] w R := by
  refine sh51_ok ?_
  unfold sh51
  exact ⟨h _ _ (ext_alloc w _) (cs_alloc w _ _) (Nat.le_refl _) (by simp)⟩
theorem ix_val {w : World} {p : OA} {n : Nat} {l : List Value} {K : Addr → Prop} (h : Cs w p l) (hn : l.length = n) {k : Nat} (h1 : k < n) (c : ∀ a : Addr, w.cell? a = some (l[k]'(by omega)) → K a) : doIx p n 1 (k : Int) K := by
  obtain ⟨a, ha, hc⟩ := h k _ (List.getElem?_eq_getElem (by omega))
  exact ⟨a, ha, by omega, by omega, c _ (by rw [Int.toNat_natCast, Nat.mul_one]; exact hc)⟩
end
end Go.Proofs.YtmkpkmdnapccgaaGreatDoor

