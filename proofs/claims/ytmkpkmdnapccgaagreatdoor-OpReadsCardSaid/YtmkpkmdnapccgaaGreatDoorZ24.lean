/-
  The op of a line.
-/
import Derived.Test.YtmkpkmdnapccgaaGreatDoorZ23
import Derived.Test.YtmkpkmdnapccgaaGreatDoorZ21

set_option maxRecDepth 100000
set_option maxHeartbeats 6400000
namespace Go.Proofs.YtmkpkmdnapccgaaGreatDoor
open Go Go.Sh Go.RowKit

theorem join_mem {v : Bs} : ∀ {ws : List Bs}, v ∈ ws → v.length ≤ (joinW ws).length
  | [], h => by simp at h
  | [w], h => by
    obtain rfl : v = w := by simpa using h
    exact Nat.le_refl _
  | w :: u :: ws, h => by
    rw [joinW, List.length_append, List.length_cons]
    rcases List.mem_cons.1 h with rfl | h
    · omega
    · have := join_mem (ws := u :: ws) h
      omega
theorem split_len {s v : Bs} (h : v ∈ splitW s) : v.length ≤ s.length := by
  have := join_mem h
  rwa [join_split] at this
theorem split_cnt : ∀ s : Bs, (splitW s).length ≤ s.length + 1
  | [] => by simp [splitW]
  | c :: s => by
    have ih := split_cnt s
    rw [splitW]
    split
    · simp only [List.length_cons]; omega
    · cases hs : splitW s with
      | nil => simp
      | cons w ws => rw [hs] at ih; simp only [List.length_cons] at ih ⊢; omega
theorem split_strs (s : Bs) : ((Lib.splitB ⟨#[32]⟩ 0 (Lib.countB ⟨s.toArray⟩ ⟨#[32]⟩) ⟨s.toArray⟩).map Value.string) = strs (splitW s) ∧ Lib.countB ⟨s.toArray⟩ ⟨#[32]⟩ + 1 = (splitW s).length := by
  have hc : Lib.countB ⟨s.toArray⟩ ⟨#[32]⟩ = s.count 32 := Lib.count_one 32 s
  have h := Lib.splitB_data ⟨#[32]⟩ 0 (s.count 32) ⟨s.toArray⟩
  have h2 : (Lib.splitB ⟨#[32]⟩ 0 (s.count 32) ⟨s.toArray⟩).map (·.data.toList) = splitW s := h.trans (split_eq s)
  have hl := Lib.splitB_all ⟨#[32]⟩ (by decide) 0 (s.count 32) ⟨s.toArray⟩ hc
  rw [hc]
  refine ⟨?_, by rw [← hl, ← h2]; simp⟩
  rw [← h2]
  unfold strs
  rw [List.map_map]
  apply List.map_congr_left
  intro v _
  simp
theorem c_split {s : Bs} {w : World} {R : EW} (hG : GOk w) (hl : s.length ≤ 1000000) (h : ∀ w', Ext w w' → Blk w' w.heap.size (strs (splitW s)).toArray 9 → R (.returned (.slice (some (blk w.heap.size)) (splitW s).length (splitW s).length)) w') :
    Calls Tryz.prog 45 #[strB s, .string ⟨#[32]⟩] w R := by
  obtain ⟨m, hm⟩ := hG.max
  refine (Tryz.strings_Split ⟨s.toArray⟩ ⟨#[32]⟩ m w (by rw [strB_size]; omega) hm (by decide)).mono fun e w' he => ?_
  obtain ⟨he1, he2⟩ := he
  rw [(split_strs s).2] at he1
  rw [(split_strs s).1] at he2
  subst he1 he2
  exact h _ (ext_alloc _ _) (blk_alloc _ _ _)
theorem back_len {x : POp} {s t : List Bs} (h : allP inW .zero s = some (x, t)) : x.pairs.length ≤ 4096 ∧ x.keys.length ≤ 4096 := by
  obtain ⟨_, _, ho, hm⟩ := all_backW h
  constructor
  · by_cases hp : Part.pairs ∈ partsOf x.op
    · exact (ho _ hp).1
    · have e : ([] : List (Int × Int)) = x.pairs := hm _ hp
      rw [← e]; simp
  · by_cases hp : Part.keys ∈ partsOf x.op
    · exact (ho _ hp).1
    · have e : ([] : List Int) = x.keys := hm _ hp
      rw [← e]; simp
theorem rows_rd {own : World → Nat → Prop} {xb : Nat} {w : World} {x : POp} {pv kv : Value} (h : RowsAt own xb w x pv kv) : OpRd w x pv kv := by
  obtain ⟨p, c, h1, h2, h3, h4⟩ := h.p
  obtain ⟨q, d, g1, g2, g3, g4⟩ := h.k
  exact ⟨⟨p, c, h1, h2, h3, fun a ha hz => (h4 a ha hz).2.2⟩, ⟨q, d, g1, g2, g3, fun a ha hz => (g4 a ha hz).2.2⟩⟩
theorem rd_grown {own : World → Nat → Prop} {yb ib : Nat} {w w1 w2 : World} {v : Value} {n : Nat} {vs : List Value} {t : TypeId} {u0 : Value} (h : RowAt own yb w v n vs) (g1 : w.grownBy w1 (some yb)) (hb : Blk w1 ib #[u0] t) (g2 : w1.grownBy w2 (some ib)) (hne : ∀ a, (∃ m c, v = .slice (some a) m c) → vs ≠ [] → a.block ≠ ib) :
    ∃ a c, v = .slice a n c ∧ n ≤ c ∧ Cs w2 a vs ∧ ∀ d, a = some d → vs ≠ [] → d.block < w2.heap.size := by
  obtain ⟨p, c, rfl, hn, hc, ha⟩ := h
  have h1 := cs_grown hc g1 fun a e hz => (ha a e hz).2.1
  refine ⟨p, c, rfl, hn, cs_grown h1 g2 fun a e h0 => hne a ⟨n, c, by rw [e]⟩ h0, fun d e hz => Nat.lt_of_lt_of_le (ha d e hz).2.2 (Nat.le_trans g1.size g2.size)⟩
theorem zero_rd (w : World) : OpRd w .zero (.slice none 0 0) (.slice none 0 0) := ⟨⟨none, 0, rfl, Nat.le_refl _, cs_nil _ _, fun d e => by cases e⟩, ⟨none, 0, rfl, Nat.le_refl _, cs_nil _ _, fun d e => by cases e⟩⟩
theorem parse_len (s : Bs) : (parseR s).1.pairs.length ≤ 4096 ∧ (parseR s).1.keys.length ≤ 4096 := by
  unfold parseR
  cases h : parseO s with
  | none => simp [POp.zero]
  | some x => exact ⟨((parseO_inv h).2.1).pairs, ((parseO_inv h).2.1).keys⟩
def rdF (b2 b4 : Nat) (R : EW) (w : World) : Prop :=
  ∃ (x0 : Int), w.cell? ((blk b2).add 0) = some (.int .u8 x0) ∧ (∃ (x1 : Int), w.cell? ((blk b2).add 1) = some (.int .i64 x1) ∧ (∃ (x2 : Int), w.cell? ((blk b2).add 2) = some (.int .i64 x2) ∧ (∃ (x3 : Int), w.cell? ((blk b2).add 3) = some (.int .i64 x3) ∧ (∃ (x4 : Int), w.cell? ((blk b2).add 4) = some (.int .i64 x4) ∧ (∃ (x5 : Int), w.cell? ((blk b2).add 5) = some (.int .i64 x5) ∧ (∃ (x6 : Int), w.cell? ((blk b2).add 6) = some (.int .i64 x6) ∧ (∃ (x7 : Int), w.cell? ((blk b2).add 7) = some (.int .i64 x7) ∧ (∃ (x8 : Int), w.cell? ((blk b2).add 8) = some (.int .u8 x8) ∧ (∃ (x9 : Int), w.cell? ((blk b2).add 9) = some (.int .u8 x9) ∧ (∃ (x10 : Int), w.cell? ((blk b2).add 10) = some (.int .i64 x10) ∧ (∃ (x11 : Int), w.cell? ((blk b2).add 11) = some (.int .i64 x11) ∧ (∃ (x12 : Bool), w.cell? ((blk b2).add 12) = some (.bool x12) ∧ (∃ (p1 : OA), ∃ (n1 : Nat), ∃ (c1 : Nat), w.cell? ((blk b2).add 13) = some (.slice p1 n1 c1) ∧ (∃ (p2 : OA), ∃ (n2 : Nat), ∃ (c2 : Nat), w.cell? ((blk b2).add 14) = some (.slice p2 n2 c2) ∧ (∃ (e : Int), w.cell? (blk b4) = some (.int .i64 e) ∧ (
    R (.returned (.tuple #[.agg #[.int .u8 x0, .int .i64 x1, .int .i64 x2, .int .i64 x3, .int .i64 x4, .int .i64 x5, .int .i64 x6, .int .i64 x7, .int .u8 x8, .int .u8 x9, .int .i64 x10, .int .i64 x11, .bool x12, .slice p1 n1 c1, .slice p2 n2 c2], .int .i64 e])) w))))))))))))))))
theorem rdF_of {b2 b4 : Nat} {x : POp} {p1 p2 : OA} {n1 n2 c1 c2 : Nat} {e : Int} {t t' : TypeId} {R : EW} {w : World} (X : Blk w b2 (opCells x (.slice p1 n1 c1) (.slice p2 n2 c2)) t) (E : Blk w b4 #[.int .i64 e] t') (h : R (.returned (.tuple #[opV x (.slice p1 n1 c1) (.slice p2 n2 c2), .int .i64 e])) w) : rdF b2 b4 R w :=
  ⟨_, X.cell (i := 0) rfl rfl, _, X.cell (i := 1) rfl rfl, _, X.cell (i := 2) rfl rfl, _, X.cell (i := 3) rfl rfl, _, X.cell (i := 4) rfl rfl, _, X.cell (i := 5) rfl rfl, _, X.cell (i := 6) rfl rfl, _, X.cell (i := 7) rfl rfl, _, X.cell (i := 8) rfl rfl, _, X.cell (i := 9) rfl rfl, _, X.cell (i := 10) rfl rfl, _, X.cell (i := 11) rfl rfl, _, X.cell (i := 12) rfl rfl, _, _, _, X.cell (i := 13) rfl rfl, _, _, _, X.cell (i := 14) rfl rfl, _, E.cell (i := 0) rfl rfl, h⟩
theorem c_oparse {s : Bs} {w : World} {R : EW} (hl : s.length ≤ 262144) (hG : GOk w) (hq : GErr w ∨ ∀ v ∈ (splitW s).tail, WordOk v)
    (h : ∀ pv kv w', Ext w w' → OpRd w' (parseR s).1 pv kv → R (.returned (.tuple #[opV (parseR s).1 pv kv, .int .i64 (parseR s).2])) w') : Calls Tryz.prog 21 #[strB s] w R := by
  refine sh21_ok _ ?_
  unfold sh21
  refine do_al fun xb w1 e1 X1 l1 => do_al fun eb w2 e2 B2 l2 => ?_
  have E2 := e1.trans e2
  rw [strB_size]
  refine ifB_f (by rw [decide_eq_false]; omega) ?_
  refine do_call Tryz.call45 (c_split (hG.ext E2) (by omega) fun w3 e3 S3 => retS_ret ⟨_, _, _, rfl, do_al fun cb w4 e4 C4 l4 => ?_⟩)
  have E24 := e3.trans e4
  have E4 := E2.trans E24
  have s1 := X1.lt
  have s2 := B2.lt
  have z1 := e1.size
  have z2 := e2.size
  have z3 := S3.lt
  have z4 := C4.lt
  generalize hrb : w2.heap.size = rb at *
  have glt : ∀ g ∈ gls, g < w.heap.size := hG.lt
  have gn : ∀ g ∈ eb :: gls, g < rb ∧ g ≠ cb ∧ g ≠ rb := fun g hg => by
    rcases List.mem_cons.1 hg with rfl | hg
    · omega
    · have := glt g hg; omega
  have hZ : WiZ w2 (eb :: gls) cb rb w4 (splitW s) := by
    refine ⟨⟨blk rb, _, rfl, C4, ?_, Nat.le_refl _⟩, by omega, fun g hg => E24.block g (by rw [hrb]; exact (gn g hg).1), fun g hg => List.mem_cons_of_mem _ hg, fun g hg => by rw [hrb]; exact gn g hg, by omega, fun v hv => Nat.le_trans (split_len hv) (by omega), hG.ext E2⟩
    have := cs_blk (S3.ext e4)
    simpa using this
  have X4 : OpAt w4 xb .zero (.slice none 0 0) (.slice none 0 0) := (X1.ext e2).ext E24
  have B4 := B2.ext E24
  have hxg : xb ∉ eb :: gls := fun hg => by
    rcases List.mem_cons.1 hg with e | hg
    · omega
    · have := glt _ hg; omega
  have hxo : ∀ w', ¬ WiOwn (eb :: gls) cb rb w' xb := fun w' => wi_own hxg (by omega) (by omega)
  have hrow : RowsAt (WiOwn (eb :: gls) cb rb) xb w4 .zero (.slice none 0 0) (.slice none 0 0) := ⟨⟨none, 0, rfl, Nat.le_refl _, cs_nil _ _, fun d e => by cases e⟩, ⟨none, 0, rfl, Nat.le_refl _, cs_nil _ _, fun d e => by cases e⟩⟩
  have hcnt := split_cnt s
  have okq : GErr w2 ∨ ∀ v ∈ (splitW s).tail, WordOk v := hq.imp (fun k => k.of fun g hg => E2.block g (glt g hg)) id
  have ext_of : ∀ {w5 s5}, WiI w2 (eb :: gls) cb rb w5 s5 → Chg (WiOwn (eb :: gls) cb rb) (· = xb) w4 w5 → Ext w w5 := fun hI5 c5 =>
    below_g E4 c5 (· ∈ eb :: gls) (fun k hk hg => (hI5.gl k hg).trans (E2.block k hk)) (fun k hk hg hd => by rcases hd with e | e | e <;> first | exact hg e | omega) (fun k hk e => by omega)
  have bad : ∀ {ch w5 s5}, parseO s = none → NoneCh ch → Some15 w5 xb → WiI w2 (eb :: gls) cb rb w5 s5 → Chg (WiOwn (eb :: gls) cb rb) (· = xb) w4 w5 →
      doDf Tryz.prog (.fn (.func 44) #[.pointer (some (blk xb)), .pointer (some (blk eb))]) #[] (.panicking ch) w5 (fun u w => doEnd u (rdF xb eb R w) fun ch41 => R (.panicked ch41) w) := fun {ch w5 s5} hp hch hs15 hI5 c5 => by
    obtain ⟨y, p, n, c8, q8, m, c9, hy⟩ := hs15
    have hb5 : Blk w5 eb #[.int .i64 0] 26 := by unfold Blk; rw [hI5.gl eb (by simp)]; exact B2
    have E5 := ext_of hI5 c5
    have hR : parseR s = (.zero, 7) := by unfold parseR; rw [hp]
    refine c_pcatch1 hch hy hb5 (by omega) fun w6 Z1 Z2 c6 => ⟨rdF_of (x := .zero) Z1 Z2 ?_⟩
    have := h (.slice none 0 0) (.slice none 0 0) w6 (below_g E5 c6 (fun _ => False) (fun _ _ h => h.elim) (fun _ _ _ h => h) (fun k hk e => by omega)) (by rw [hR]; exact zero_rd _)
    rw [hR] at this
    exact this
  refine do_call Tryz.call23 (c_opallW (WiC w2 (eb :: gls) cb rb) (s := splitW s) (fun _ _ _ => Iff.rfl) (fun {w5 q n cap R1} e5 hx5 hcs hn5 hc5 k1 k2 => do_meth (args := #[.pointer (some ⟨xb, 0, none⟩), .slice q n cap]) (wi_methw _ _ _ w5) (c_wiword (hZ.ext e5) (hxo w5) hx5 rfl hcs hn5 (by rw [← hn5]; decide) (fun v' s' w' he hsub hI' hb' c' => k1 v' s' w' (by rw [inV_op]; exact he) ⟨hI', by rw [hsub]; exact okq⟩ hb' c') fun s' w' he hle hsub hI' hb' c' => k2 _ 0 w' (by rw [inV_op]; exact he) noneCh1 ⟨s', hI', by rw [hsub]; exact okq⟩ (by rw [set_self rfl]; exact hb') c')) ?_ (hxo w4) X4 zero_in hrow (Nat.zero_le _) (Nat.zero_le _) (by show polNames.length ≤ 256; decide) (by show kindNames.length ≤ 256; decide) (.inr ⟨rfl, rfl⟩) (.inr ⟨rfl, rfl⟩)
    (fun x5 s5 w5 pv5 kv5 hr5 hI5 hx5 hrow5 hin5 hl5 c5 => retS_ret ⟨rfl, ?_⟩) fun ch w5 hn5 hch hs5 hI5 c5 => ?_)
  · show (splitW s).length + 50000 * 1 ≤ 1000000000000
    omega
  · have hI5 : WiI w2 (eb :: gls) cb rb w5 s5 := hI5
    rw [all_inV] at hr5
    obtain ⟨a, c, ha, hb, _, _⟩ := hI5.ex
    have hlen := back_len hr5
    have E5 := ext_of hI5 c5
    obtain ⟨p5, d5, hp5, _⟩ := hrow5.p
    obtain ⟨q5, f5, hk5, _⟩ := hrow5.k
    have rd5 := rows_rd hrow5
    have hrp := hrow5.p
    have hrk := hrow5.k
    have hs15 : Some15 w5 xb := ⟨x5, p5, _, d5, q5, _, f5, by rw [← hp5, ← hk5]; exact hx5⟩
    subst hp5 hk5
    intro K72
    refine ⟨_, rfl, _, _, _, hb.cell (i := 0) rfl rfl, ifB_intro (fun z => ?_) fun z => ?_⟩
    case refine_2 =>
      have z : s5 ≠ [] := fun e => by subst e; simp at z
      exact do_call Tryz.call42 (c_must (fun e => by cases e) fun _ => bad (by
        unfold parseO; rw [hr5]
        cases s5 with
        | nil => exact absurd rfl z
        | cons _ _ => rfl) noneCh1 hs15 hI5 c5)
    have z : s5 = [] := by
      have z : ((s5.length : Nat) : Int) = 0 := by simpa using z
      exact List.eq_nil_of_length_eq_zero (by omega)
    subst z
    refine ⟨_, hx5.cell (i := 0) rfl rfl, _, hx5.cell (i := 1) rfl rfl, _, hx5.cell (i := 2) rfl rfl, _, hx5.cell (i := 3) rfl rfl, _, hx5.cell (i := 4) rfl rfl, _, hx5.cell (i := 5) rfl rfl, _, hx5.cell (i := 6) rfl rfl, _, hx5.cell (i := 7) rfl rfl, _, hx5.cell (i := 8) rfl rfl, _, hx5.cell (i := 9) rfl rfl, _, hx5.cell (i := 10) rfl rfl, _, hx5.cell (i := 11) rfl rfl, _, hx5.cell (i := 12) rfl rfl, _, _, _, hx5.cell (i := 13) rfl rfl, _, _, _, hx5.cell (i := 14) rfl rfl, do_call Tryz.call13 (c_check hin5 rd5 (by omega) (by omega) fun w6 e6 => retS_ret ⟨_, rfl, ?_⟩)⟩
    have hI6 := hI5.ext e6
    have c6 : Chg (WiOwn (eb :: gls) cb rb) (· = xb) w4 w6 := c5.trans (wi_chg e6)
    have hs16 : Some15 w6 xb := ⟨x5, p5, _, d5, q5, _, f5, Blk.ext hx5 e6⟩
    by_cases hm : mayO x5 = true
    case neg =>
      rw [if_neg hm]
      exact do_call Tryz.call42 (c_must (fun e => by cases e) fun _ => bad (by unfold parseO; rw [hr5]; simp only; rw [if_neg hm]) noneCh1 hs16 hI6 c6)
    rw [if_pos hm]
    refine do_call Tryz.call42 (c_must (fun _ => retS_ret ⟨rfl, ?_⟩) fun e => by cases e)
    have hR : parseR s = (x5, 0) := by unfold parseR parseO; rw [hr5]; simp only; rw [if_pos hm]
    have hx6 : OpAt w6 xb x5 (.slice p5 x5.pairs.length d5) (.slice q5 x5.keys.length f5) := Blk.ext hx5 e6
    have hb6 : Blk w6 eb #[.int .i64 0] 26 := by unfold Blk; rw [hI6.gl eb (by simp)]; exact B2
    refine ⟨_, hx6.cell (i := 0) rfl rfl, _, hx6.cell (i := 1) rfl rfl, _, hx6.cell (i := 2) rfl rfl, _, hx6.cell (i := 3) rfl rfl, _, hx6.cell (i := 4) rfl rfl, _, hx6.cell (i := 5) rfl rfl, _, hx6.cell (i := 6) rfl rfl, _, hx6.cell (i := 7) rfl rfl, _, hx6.cell (i := 8) rfl rfl, _, hx6.cell (i := 9) rfl rfl, _, hx6.cell (i := 10) rfl rfl, _, hx6.cell (i := 11) rfl rfl, _, hx6.cell (i := 12) rfl rfl, _, _, _, hx6.cell (i := 13) rfl rfl, _, _, _, hx6.cell (i := 14) rfl rfl, st15 hx6 fun w7 h7 g7 => do_st (hb6.grown g7 (ne_some (by omega))) (i := 0) rfl (by simp) fun w8 h8 g8 => c_pcatch0 ⟨rdF_of (x := x5) (Blk.grown h7 g8 (ne_some (by omega))) h8 ?_⟩⟩
    have E6 := E5.trans e6
    have e56 := e6
    have nbe : ∀ {n : Nat} {v : Value} {vs : List Value}, RowAt (WiOwn (eb :: gls) cb rb) xb w5 v n vs → ∀ a, (∃ m c, v = .slice (some a) m c) → vs ≠ [] → a.block ≠ eb := fun {n v vs} hr a hv hz e => by
      obtain ⟨p, c', hv', _, _, ha⟩ := hr
      obtain ⟨m, c2, rfl⟩ := hv
      cases hv'
      exact (ha a rfl hz).1 (.inr (.inr (by rw [e]; simp)))
    have rp6 := hrp.ext e6 fun k hk => hk
    have rk6 := hrk.ext e6 fun k hk => hk
    have := h (.slice p5 x5.pairs.length d5) (.slice q5 x5.keys.length f5) w8 ((E6.st g7 (by omega)).st g8 (by omega)) (by rw [hR]; exact ⟨rd_grown rp6 g7 (hb6.grown g7 (ne_some (by omega))) g8 (nbe hrp), rd_grown rk6 g7 (hb6.grown g7 (ne_some (by omega))) g8 (nbe hrk)⟩)
    rw [hR] at this
    exact this
  · obtain ⟨s5, hI5⟩ := hI5
    rw [all_inV] at hn5
    exact bad (by unfold parseO; rw [hn5]) hch hs5 hI5 c5
end Go.Proofs.YtmkpkmdnapccgaaGreatDoor

namespace Go.Proofs.YtmkpkmdnapccgaaGreatDoor
open Go Go.Sh Go.RowKit

theorem do_bs {s : Bs} {p : OA} {c : Nat} {w : World} {K : ByteArray → Prop} (hc : Cs w p (bys s)) (hp : p = none → s = []) (k : K ⟨s.toArray⟩) : doBs Tryz.prog 51 9 (.slice p s.length c) w K := by
  cases p with
  | some a =>
    refine ⟨_, run_convert_bytes_back w _ _ 5 a c s Tryz.underlying51 Tryz.underlying5 Tryz.underlying9 fun j hj => ?_, k⟩
    obtain ⟨a', ha, hcc⟩ := hc j (.int .u8 (((s[j]).toNat : Nat) : Int)) (by simp [bys, List.getElem?_eq_getElem hj])
    cases ha
    exact hcc
  | none =>
    have := hp rfl
    subst this
    refine ⟨⟨#[]⟩, ?_, k⟩
    rw [run_convert_bytes_string w _ _ 5 none _ c Tryz.underlying51 Tryz.underlying5 Tryz.underlying9]
    rfl
theorem row_none {w : World} {base e size n c : Nat} {xs : List Value} (h : w.ownsRow base e size (.slice none n c) n xs) : n = 0 := by
  rcases h.2 with ⟨_, hn⟩ | ⟨g, cap, cur, hv, _⟩
  · exact hn
  · cases hv
theorem out_ge {cb : Nat} {w : World} {s : Bs} {k : Nat} (hI : OutI cb w s) (h : OutOwn cb w k) : cb ≤ k := by
  obtain ⟨p, c, hb, hr⟩ := hI.ex
  rcases (out_own hb k).1 h with rfl | h
  · exact Nat.le_refl _
  · have := (hr.lt k h).1; omega
theorem encO_snoc (l : List POp) (x : POp) : encO (l ++ [x]) = encO l ++ wrB x := by simp [encO]
theorem encO_pre {l m : List POp} : (encO l).length ≤ (encO (l ++ m)).length := by unfold encO; rw [List.flatMap_append, List.length_append]; omega
theorem c_oenc {Es : List OpE} {p : OA} {n c : Nat} {w : World} {R : EW} (hl : Cs w p (Es.flatMap opC)) (hn : Es.length = n) (hz : n ≤ 100) (hin : ∀ e ∈ Es, OpIn w e) (hsz : (encO (Es.map (·.1))).length ≤ 1048576)
    (h : ∀ w', Ext w w' → R (.returned (.tuple #[strB (encR (Es.map (·.1))).1, .int .i64 (encR (Es.map (·.1))).2])) w') : Calls Tryz.prog 10 #[.slice p n c] w R := by
  refine sh10_ok _ _ _ ?_
  unfold sh10
  refine ⟨fun vs w' => ∃ k : Nat, vs = [.int .i64 (k : Int)] ∧ k ≤ n ∧ Ext w w' ∧ ∀ e ∈ Es.take k, mayO e.1 = true, fun vs _ => match vs with | [.int _ i] => n - i.toNat | _ => 0, ⟨0, rfl, Nat.zero_le _, ext_refl _, by simp⟩, ?_⟩
  rintro i_ _ w2 ⟨k, hv, hk, e, hma⟩
  simp only [List.cons.injEq, Value.int.injEq, true_and, and_true] at hv
  subst hv
  refine ifB_intro (fun z => ?_) fun z => ?_
  · have z : k < n := by have := of_decide_eq_true z; omega
    have hk1 : k < Es.length := by omega
    have hO := hin Es[k] (List.getElem_mem hk1)
    have hmE : Es[k] ∈ Es := List.getElem_mem hk1
    have htk : Es.take (k + 1) = Es.take k ++ [Es[k]] := by rw [List.take_append_getElem]
    refine ix_flat (ec := opC) (s := 15) (fun _ => rfl) (by omega) (hl.ext e) hn (k := k) rfl z fun a3 r3 _ => ?_
    generalize Es[k] = E1 at *
    obtain ⟨x, pv, kv⟩ := E1
    obtain ⟨hx, hrd, zp, zk⟩ := hO
    have hrd0 := hrd
    obtain ⟨pp, pc, ep, hp1, hp2, hp3⟩ := hrd.p
    obtain ⟨kp, kc, ek, hk1', hk2, hk3⟩ := hrd.k
    simp only at ep ek hp2 hk2 hp3 hk3 zp zk hp1 hk1' hx
    subst ep ek
    refine ⟨_, r3 0 _ rfl, _, r3 1 _ rfl, _, r3 2 _ rfl, _, r3 3 _ rfl, _, r3 4 _ rfl, _, r3 5 _ rfl, _, r3 6 _ rfl, _, r3 7 _ rfl, _, r3 8 _ rfl, _, r3 9 _ rfl, _, r3 10 _ rfl, _, r3 11 _ rfl, _, r3 12 _ rfl, _, _, _, r3 13 _ rfl, _, _, _, r3 14 _ rfl, do_al fun xb w3 e3 X3 l3 => st15 X3 fun w4 X4 g4 => ?_⟩
    have X4 : OpAt w4 xb x (.slice pp x.pairs.length pc) (.slice kp x.keys.length kc) := X4
    have e24 : Ext w2 w4 := e3.st g4 l3
    refine ⟨_, X4.cell (i := 0) rfl rfl, _, X4.cell (i := 1) rfl rfl, _, X4.cell (i := 2) rfl rfl, _, X4.cell (i := 3) rfl rfl, _, X4.cell (i := 4) rfl rfl, _, X4.cell (i := 5) rfl rfl, _, X4.cell (i := 6) rfl rfl, _, X4.cell (i := 7) rfl rfl, _, X4.cell (i := 8) rfl rfl, _, X4.cell (i := 9) rfl rfl, _, X4.cell (i := 10) rfl rfl, _, X4.cell (i := 11) rfl rfl, _, X4.cell (i := 12) rfl rfl, _, _, _, X4.cell (i := 13) rfl rfl, _, _, _, X4.cell (i := 14) rfl rfl, do_call Tryz.call13 (c_check hx (hrd0.ext (e.trans e24)) zp zk fun w5 e5 => retS_ret ⟨_, rfl, ?_⟩)⟩
    have E5 := (e.trans e24).trans e5
    by_cases hm : mayO x = true
    · rw [if_pos hm]
      refine ifB_f rfl ?_
      rw [wrap_succ z (by omega)]
      refine ⟨⟨k + 1, rfl, by omega, E5, fun e' he' => ?_⟩, ?_⟩
      · rw [htk] at he'
        rcases List.mem_append.1 he' with he' | he'
        · exact hma e' he'
        · obtain rfl : e' = _ := by simpa using he'
          exact hm
      · show n - ((k + 1 : Nat) : Int).toNat < n - (k : Int).toNat
        omega
    · rw [if_neg hm]
      have := h w5 E5
      rw [show encR (Es.map (·.1)) = ([], 2) by
        unfold encR
        rw [if_neg fun hall => hm (hall x (List.mem_map.2 ⟨_, hmE, rfl⟩))]] at this
      exact ifB_t rfl this
  · have z : k = n := by have := of_decide_eq_false z; omega
    have hall : ∀ e ∈ Es, mayO e.1 = true := fun e' he' => hma e' (by rw [z, ← hn, List.take_length]; exact he')
    have hR : encR (Es.map (·.1)) = (encO (Es.map (·.1)), 0) := by
      unfold encR
      rw [if_pos fun y hy => by obtain ⟨e', he', rfl⟩ := List.mem_map.1 hy; exact hall e' he']
    clear hma
    refine do_al fun ob w3 e3 C3 l3 => ?_
    have E3 := e.trans e3
    have hsz3 := e.size
    refine ⟨fun vs w' => ∃ k : Nat, vs = [.int .i64 (k : Int)] ∧ k ≤ Es.length ∧ Ext w w' ∧ OutI ob w' (encO ((Es.take k).map (·.1))), fun vs _ => match vs with | [.int _ i] => n - i.toNat | _ => 0, ⟨0, rfl, Nat.zero_le _, E3, ⟨none, 0, C3, World.ownsRow_nil _ _ _ _⟩⟩, ?_⟩
    clear z hk
    rw [hn]
    rintro i_ _ w4 ⟨k, hv, hk, e, hI⟩
    simp only [List.cons.injEq, Value.int.injEq, true_and, and_true] at hv
    subst hv
    refine ifB_intro (fun z => ?_) fun z => ?_
    · have z : k < n := by have := of_decide_eq_true z; omega
      have hpre : (encO ((Es.take (k + 1)).map (·.1))).length ≤ 1048576 := Nat.le_trans (by
        conv => rhs; rw [← List.take_append_drop (k + 1) Es, List.map_append]
        exact encO_pre) hsz
      have hk1 : k < Es.length := by omega
      have hO := hin Es[k] (List.getElem_mem hk1)
      have hmE : Es[k] ∈ Es := List.getElem_mem hk1
      have htk : Es.take (k + 1) = Es.take k ++ [Es[k]] := by rw [List.take_append_getElem]
      refine ix_flat (ec := opC) (s := 15) (fun _ => rfl) (by omega) (hl.ext e) hn (k := k) rfl z fun a3 r3 _ => ?_
      generalize Es[k] = E1 at *
      obtain ⟨x, pv, kv⟩ := E1
      obtain ⟨hx, hrd, zp, zk⟩ := hO
      have hrd0 := hrd
      obtain ⟨pp, pc, ep, hp1, hp2, hp3⟩ := hrd.p
      obtain ⟨kp, kc, ek, hk1', hk2, hk3⟩ := hrd.k
      simp only at ep ek hp2 hk2 hp3 hk3 zp zk hp1 hk1' hx
      subst ep ek
      refine ⟨_, r3 0 _ rfl, _, r3 1 _ rfl, _, r3 2 _ rfl, _, r3 3 _ rfl, _, r3 4 _ rfl, _, r3 5 _ rfl, _, r3 6 _ rfl, _, r3 7 _ rfl, _, r3 8 _ rfl, _, r3 9 _ rfl, _, r3 10 _ rfl, _, r3 11 _ rfl, _, r3 12 _ rfl, _, _, _, r3 13 _ rfl, _, _, _, r3 14 _ rfl, do_al fun xb w5 e5 X5 l5 => st15 X5 fun w6 X6 g6 => ?_⟩
      have X6 : OpAt w6 xb x (.slice pp x.pairs.length pc) (.slice kp x.keys.length kc) := X6
      have e46 : Ext w4 w6 := e5.st g6 l5
      have E6 := e.trans e46
      have hI6 : OutI ob w6 _ := (out_ext (S := fun _ => False) hI e46).1
      have sI := out_lt hI (.inl rfl)
      have hse := e.size
      have hnx : ¬ OutOwn ob w6 xb := fun hd => by have := out_lt hI ((out_ownE hI e46 _).1 hd); omega
      have hrow : RowsAt (OutOwn ob) xb w6 x (.slice pp x.pairs.length pc) (.slice kp x.keys.length kc) := by
        refine ⟨⟨pp, pc, rfl, hp1, hp2.ext E6, fun d ed hz => ?_⟩, ⟨kp, kc, rfl, hk1', hk2.ext E6, fun d ed hz => ?_⟩⟩
        · have := hp3 d ed hz
          exact ⟨fun hd => by have := out_ge hI6 hd; omega, by omega, by have := E6.size; omega⟩
        · have := hk3 d ed hz
          exact ⟨fun hd => by have := out_ge hI6 hd; omega, by omega, by have := E6.size; omega⟩
      rw [htk, List.map_append, List.map_cons, List.map_nil, encO_snoc] at hpre
      have hpre : (encO ((Es.take k).map (·.1)) ++ wrB x).length ≤ 1048576 := hpre
      have hlen0 : (encO ((Es.take k).map (·.1))).length ≤ 1048576 := by rw [List.length_append] at hpre; omega
      refine do_call Tryz.call23 (c_opall (OutC ob) hI6 (by show (encO ((Es.take k).map (·.1))).length + 50000 * 20 ≤ 1000000000000; omega) hnx X6 hx hrow zp zk trivial trivial trivial (.inl fun s n s' h => by cases h; exact Nat.le_refl _) (.inl fun s n s' h => by cases h; exact Nat.le_refl _)
        (fun x7 s7 w7 pv7 kv7 hr7 hI7 _ _ _ _ c7 => retS_ret ⟨rfl, ?_⟩) fun ch w7 hn7 _ _ _ _ => by rw [all_outB] at hn7; cases hn7)
      rw [all_outB] at hr7
      cases hr7
      have hI7 : OutI ob w7 (encO ((Es.take k).map (·.1)) ++ wrB x) := hI7
      obtain ⟨p7, c7', hb7, _⟩ := hI7.ex
      refine ⟨_, rfl, _, _, _, hb7.cell (i := 0) rfl rfl, ifB_f (by rw [decide_eq_false]; omega) ?_⟩
      have E7 : Ext w w7 := below_chg E6 c7 (fun k hk hd => by have := out_ge hI6 hd; omega) (fun k hk e => by omega)
      rw [wrap_succ z (by omega)]
      refine ⟨⟨k + 1, rfl, by omega, E7, by rw [htk, List.map_append, List.map_cons, List.map_nil, encO_snoc]; exact hI7⟩, ?_⟩
      show n - ((k + 1 : Nat) : Int).toNat < n - (k : Int).toNat
      omega
    · have z : k = Es.length := by have := of_decide_eq_false z; omega
      rw [z, List.take_length] at hI
      obtain ⟨p7, c7', hb7, hr7⟩ := hI.ex
      refine ⟨_, rfl, _, _, _, hb7.cell (i := 0) rfl rfl, do_bs (Cs.of_row hr7) (fun he => by subst he; exact List.eq_nil_of_length_eq_zero (row_none hr7)) ?_⟩
      have := h w4 e
      rw [hR] at this
      exact this
end Go.Proofs.YtmkpkmdnapccgaaGreatDoor

namespace Go.Proofs.YtmkpkmdnapccgaaGreatDoor
open Go Go.Sh Go.RowKit

theorem c_r37dec {v : Int} {w : World} {R : EW} (hv : In v) (hT : Tab w) (h : ∀ w', Ext w w' → R (.returned (strB (32 :: Go.Sh.dec v))) w') : Calls Tryz.prog 32 #[.int .i64 v] w R := by
  refine sh32_ok _ ?_
  unfold sh32
  have := dec_len hv
  exact do_call Tryz.call35 (c_fmt hv hT fun w1 e1 => retS_ret ⟨_, rfl, do_cat (a := [32]) (by simp only [List.length_cons, List.length_nil]; omega) (h w1 e1)⟩)
theorem ix_names {names : List Bs} {b : Nat} {w : World} {d : Int} {t : TypeId} {n : Nat} {K : Addr → Prop} (hb : Blk w b (strs names).toArray t) (hn : names.length = n) (h0 : 0 ≤ d) (h1 : d < n)
    (k : ∀ a, w.cell? a = some (strB (names.getD d.toNat [])) → K a) : doIx (some (blk b)) n 1 d K := by
  refine ⟨blk b, rfl, h0, h1, k _ ?_⟩
  obtain ⟨a, ha, hc⟩ := cs_blk hb d.toNat (strB (names.getD d.toNat [])) (by
    simp [strs, List.getD_eq_getElem?_getD, List.getElem?_eq_getElem (show d.toNat < names.length by omega)])
  cases ha
  rw [Nat.mul_one]; exact hc
theorem getD_big {names : List Bs} {k : Nat} (h : names.length ≤ k) : names.getD k [] = [] := by
  rw [List.getD_eq_getElem?_getD, List.getElem?_eq_none h]; rfl
theorem c_r37word {d : Int} {w : World} {R : EW} (h0 : 0 ≤ d) (h1 : d < 256) (h : ∀ w', Ext w w' → R (.returned (strB (opNames.getD d.toNat []))) w') : Calls Tryz.prog 31 #[.int .u8 d] w R := by
  refine sh31_ok _ ?_
  unfold sh31
  refine do_al fun b w1 e1 B l1 => ?_
  rw [wrap_of (by omega) (by omega)]
  refine ifB_intro (fun z => ?_) fun z => ?_
  · have z := of_decide_eq_true z
    have := h w1 e1
    rw [getD_big (by show 23 ≤ _; omega)] at this
    exact this
  · have z := of_decide_eq_false z
    exact ix_names (names := opNames) B rfl h0 (by omega) fun a hc => ⟨_, hc, h w1 e1⟩
theorem c_r37policy {d : Int} {w : World} {R : EW} (h0 : 0 ≤ d) (h1 : d < 256) (h : ∀ w', Ext w w' → R (.returned (strB (polNames.getD d.toNat []))) w') : Calls Tryz.prog 33 #[.int .u8 d] w R := by
  refine sh33_ok _ ?_
  unfold sh33
  refine do_al fun b w1 e1 B l1 => ?_
  rw [wrap_of (by omega) (by omega)]
  refine ifB_intro (fun z => ?_) fun z => ?_
  · have z := of_decide_eq_true z
    have := h w1 e1
    rw [getD_big (by show 4 ≤ _; omega)] at this
    exact this
  · have z := of_decide_eq_false z
    exact ix_names (names := polNames) B rfl h0 (by omega) fun a hc => ⟨_, hc, h w1 e1⟩
theorem c_r37kind {d : Int} {w : World} {R : EW} (h0 : 0 ≤ d) (h1 : d < 256) (h : ∀ w', Ext w w' → R (.returned (strB (kindNames.getD d.toNat []))) w') : Calls Tryz.prog 61 #[.int .u8 d] w R := by
  refine sh61_ok _ ?_
  unfold sh61
  refine do_al fun b w1 e1 B l1 => ?_
  rw [wrap_of (by omega) (by omega)]
  refine ifB_intro (fun z => ?_) fun z => ?_
  · have z := of_decide_eq_true z
    have := h w1 e1
    rw [getD_big (by show 6 ≤ _; omega)] at this
    exact this
  · have z := of_decide_eq_false z
    exact ix_names (names := kindNames) B rfl h0 (by omega) fun a hc => ⟨_, hc, h w1 e1⟩
end Go.Proofs.YtmkpkmdnapccgaaGreatDoor

namespace Go.Proofs.YtmkpkmdnapccgaaGreatDoor
open Go Go.Sh Go.RowKit

theorem st11 {w : World} {b : Nat} {a0 a1 a2 a3 a4 a5 a6 a7 a8 a9 a10 v0 v1 v2 v3 v4 v5 v6 v7 v8 v9 v10 : Value} {t : TypeId} {K : World → Prop} (h : Blk w b #[a0, a1, a2, a3, a4, a5, a6, a7, a8, a9, a10] t) (k : ∀ w', Blk w' b #[v0, v1, v2, v3, v4, v5, v6, v7, v8, v9, v10] t → w.grownBy w' (some b) → K w') :
    doSt ((blk b).add 0) v0 w fun w1 => doSt ((blk b).add 1) v1 w1 fun w2 => doSt ((blk b).add 2) v2 w2 fun w3 => doSt ((blk b).add 3) v3 w3 fun w4 => doSt ((blk b).add 4) v4 w4 fun w5 => doSt ((blk b).add 5) v5 w5 fun w6 => doSt ((blk b).add 6) v6 w6 fun w7 => doSt ((blk b).add 7) v7 w7 fun w8 => doSt ((blk b).add 8) v8 w8 fun w9 => doSt ((blk b).add 9) v9 w9 fun w10 => doSt ((blk b).add 10) v10 w10 fun w11 => K w11 := by
  refine do_st h (i := 0) rfl (by simp) fun w1 h1 g1 => ?_
  have h1 : Blk w1 b #[v0, a1, a2, a3, a4, a5, a6, a7, a8, a9, a10] t := h1
  refine do_st h1 (i := 1) rfl (by simp) fun w2 h2 g2 => ?_
  have h2 : Blk w2 b #[v0, v1, a2, a3, a4, a5, a6, a7, a8, a9, a10] t := h2
  refine do_st h2 (i := 2) rfl (by simp) fun w3 h3 g3 => ?_
  have h3 : Blk w3 b #[v0, v1, v2, a3, a4, a5, a6, a7, a8, a9, a10] t := h3
  refine do_st h3 (i := 3) rfl (by simp) fun w4 h4 g4 => ?_
  have h4 : Blk w4 b #[v0, v1, v2, v3, a4, a5, a6, a7, a8, a9, a10] t := h4
  refine do_st h4 (i := 4) rfl (by simp) fun w5 h5 g5 => ?_
  have h5 : Blk w5 b #[v0, v1, v2, v3, v4, a5, a6, a7, a8, a9, a10] t := h5
  refine do_st h5 (i := 5) rfl (by simp) fun w6 h6 g6 => ?_
  have h6 : Blk w6 b #[v0, v1, v2, v3, v4, v5, a6, a7, a8, a9, a10] t := h6
  refine do_st h6 (i := 6) rfl (by simp) fun w7 h7 g7 => ?_
  have h7 : Blk w7 b #[v0, v1, v2, v3, v4, v5, v6, a7, a8, a9, a10] t := h7
  refine do_st h7 (i := 7) rfl (by simp) fun w8 h8 g8 => ?_
  have h8 : Blk w8 b #[v0, v1, v2, v3, v4, v5, v6, v7, a8, a9, a10] t := h8
  refine do_st h8 (i := 8) rfl (by simp) fun w9 h9 g9 => ?_
  have h9 : Blk w9 b #[v0, v1, v2, v3, v4, v5, v6, v7, v8, a9, a10] t := h9
  refine do_st h9 (i := 9) rfl (by simp) fun w10 h10 g10 => ?_
  have h10 : Blk w10 b #[v0, v1, v2, v3, v4, v5, v6, v7, v8, v9, a10] t := h10
  refine do_st h10 (i := 10) rfl (by simp) fun w11 h11 g11 => ?_
  have h11 : Blk w11 b #[v0, v1, v2, v3, v4, v5, v6, v7, v8, v9, v10] t := h11
  exact k w11 h11 (grown_trans (grown_trans (grown_trans (grown_trans (grown_trans (grown_trans (grown_trans (grown_trans (grown_trans (grown_trans (g1) g2) g3) g4) g5) g6) g7) g8) g9) g10) g11)
theorem ep11 {w : World} {b : Nat} {a0 a1 a2 a3 a4 a5 a6 a7 a8 a9 a10 : Value} {t : TypeId} {b0 b1 b2 b3 b4 b5 b6 b7 b8 b9 b10 is : Bool} {R : EW} (h : Blk w b #[a0, a1, a2, a3, a4, a5, a6, a7, a8, a9, a10] t) (k : ∀ w', w.grownBy w' (some b) → R (.returned (.tuple #[.agg #[.bool b0, .bool b1, .bool b2, .bool b3, .bool b4, .bool b5, .bool b6, .bool b7, .bool b8, .bool b9, .bool b10], .bool is])) w') :
    doSt ((blk b).add 0) (.bool b0) w fun w1 => doSt ((blk b).add 1) (.bool b1) w1 fun w2 => doSt ((blk b).add 2) (.bool b2) w2 fun w3 => doSt ((blk b).add 3) (.bool b3) w3 fun w4 => doSt ((blk b).add 4) (.bool b4) w4 fun w5 => doSt ((blk b).add 5) (.bool b5) w5 fun w6 => doSt ((blk b).add 6) (.bool b6) w6 fun w7 => doSt ((blk b).add 7) (.bool b7) w7 fun w8 => doSt ((blk b).add 8) (.bool b8) w8 fun w9 => doSt ((blk b).add 9) (.bool b9) w9 fun w10 => doSt ((blk b).add 10) (.bool b10) w10 fun w11 => ∃ (y0 : Bool), w11.cell? ((blk b).add 0) = some (.bool y0) ∧ (∃ (y1 : Bool), w11.cell? ((blk b).add 1) = some (.bool y1) ∧ (∃ (y2 : Bool), w11.cell? ((blk b).add 2) = some (.bool y2) ∧ (∃ (y3 : Bool), w11.cell? ((blk b).add 3) = some (.bool y3) ∧ (∃ (y4 : Bool), w11.cell? ((blk b).add 4) = some (.bool y4) ∧ (∃ (y5 : Bool), w11.cell? ((blk b).add 5) = some (.bool y5) ∧ (∃ (y6 : Bool), w11.cell? ((blk b).add 6) = some (.bool y6) ∧ (∃ (y7 : Bool), w11.cell? ((blk b).add 7) = some (.bool y7) ∧ (∃ (y8 : Bool), w11.cell? ((blk b).add 8) = some (.bool y8) ∧ (∃ (y9 : Bool), w11.cell? ((blk b).add 9) = some (.bool y9) ∧ (∃ (y10 : Bool), w11.cell? ((blk b).add 10) = some (.bool y10) ∧ (R (.returned (.tuple #[.agg #[.bool y0, .bool y1, .bool y2, .bool y3, .bool y4, .bool y5, .bool y6, .bool y7, .bool y8, .bool y9, .bool y10], .bool is])) w11))))))))))) := by
  refine st11 h fun w' H g => ?_
  exact ⟨_, H.cell (i := 0) rfl rfl, _, H.cell (i := 1) rfl rfl, _, H.cell (i := 2) rfl rfl, _, H.cell (i := 3) rfl rfl, _, H.cell (i := 4) rfl rfl, _, H.cell (i := 5) rfl rfl, _, H.cell (i := 6) rfl rfl, _, H.cell (i := 7) rfl rfl, _, H.cell (i := 8) rfl rfl, _, H.cell (i := 9) rfl rfl, _, H.cell (i := 10) rfl rfl, k w' g⟩
theorem parts_none {d : Int} (h : ¬ (1 ≤ d ∧ d ≤ 22)) : partsOf d = [] := by
  unfold partsOf
  rw [if_neg (by omega), if_neg (by omega), if_neg (by omega), if_neg (by omega), if_neg (by omega), if_neg (by omega), if_neg (by omega), if_neg (by omega), if_neg (by omega), if_neg (by omega), if_neg (by omega)]
theorem c_r37of {d : Int} {w : World} {R : EW} (h : ∀ w', Ext w w' → R (.returned (.tuple #[.agg #[.bool (hasP .a d), .bool (hasP .b d), .bool (hasP .key d), .bool (hasP .val d), .bool (hasP .lo d), .bool (hasP .hi d), .bool (hasP .n d), .bool (hasP .pol d), .bool (hasP .pred d), .bool (hasP .pairs d), .bool (hasP .keys d)], .bool (decide (1 ≤ d ∧ d ≤ 22))])) w') : Calls Tryz.prog 30 #[.int .u8 d] w R := by
  refine sh30_ok _ ?_
  unfold sh30
  refine do_al fun b2 w2 e2 X2 l2 => ?_
  refine ifB_intro (fun z => ?_) fun z1 => ?_
  · obtain rfl : d = 1 := by simpa using z
    exact ep11 X2 fun w3 g3 => h w3 (e2.st g3 l2)
  intro Kg2
  refine ifB_intro (fun z => ?_) fun z2 => ?_
  · obtain rfl : d = 2 := by simpa using z
    simp -zeta -zetaHave only [Kg2]
    refine ifB_t rfl ?_
    exact ep11 X2 fun w3 g3 => h w3 (e2.st g3 l2)
  refine ifB_intro (fun z => ?_) fun z3 => ?_
  · obtain rfl : d = 3 := by simpa using z
    simp -zeta -zetaHave only [Kg2]
    refine ifB_t rfl ?_
    exact ep11 X2 fun w3 g3 => h w3 (e2.st g3 l2)
  refine ifB_intro (fun z => ?_) fun z6 => ?_
  · obtain rfl : d = 6 := by simpa using z
    simp -zeta -zetaHave only [Kg2]
    refine ifB_t rfl ?_
    exact ep11 X2 fun w3 g3 => h w3 (e2.st g3 l2)
  refine ifB_intro (fun z => ?_) fun z7 => ?_
  · obtain rfl : d = 7 := by simpa using z
    simp -zeta -zetaHave only [Kg2]
    refine ifB_t rfl ?_
    exact ep11 X2 fun w3 g3 => h w3 (e2.st g3 l2)
  refine ifB_intro (fun z => ?_) fun z16 => ?_
  · obtain rfl : d = 16 := by simpa using z
    simp -zeta -zetaHave only [Kg2]
    refine ifB_t rfl ?_
    exact ep11 X2 fun w3 g3 => h w3 (e2.st g3 l2)
  simp -zeta -zetaHave only [Kg2]
  refine ifB_intro (fun z => ?_) fun z22 => ?_
  · obtain rfl : d = 22 := by simpa using z
    exact ep11 X2 fun w3 g3 => h w3 (e2.st g3 l2)
  intro Kg4
  refine ifB_intro (fun z => ?_) fun z4 => ?_
  · obtain rfl : d = 4 := by simpa using z
    simp -zeta -zetaHave only [Kg4]
    refine ifB_t rfl ?_
    exact ep11 X2 fun w3 g3 => h w3 (e2.st g3 l2)
  refine ifB_intro (fun z => ?_) fun z5 => ?_
  · obtain rfl : d = 5 := by simpa using z
    simp -zeta -zetaHave only [Kg4]
    refine ifB_t rfl ?_
    exact ep11 X2 fun w3 g3 => h w3 (e2.st g3 l2)
  simp -zeta -zetaHave only [Kg4]
  refine ifB_intro (fun z => ?_) fun z21 => ?_
  · obtain rfl : d = 21 := by simpa using z
    exact ep11 X2 fun w3 g3 => h w3 (e2.st g3 l2)
  refine ifB_intro (fun z => ?_) fun z8 => ?_
  · obtain rfl : d = 8 := by simpa using z
    exact ep11 X2 fun w3 g3 => h w3 (e2.st g3 l2)
  intro Kg9
  refine ifB_intro (fun z => ?_) fun z9 => ?_
  · obtain rfl : d = 9 := by simpa using z
    simp -zeta -zetaHave only [Kg9]
    refine ifB_t rfl ?_
    exact ep11 X2 fun w3 g3 => h w3 (e2.st g3 l2)
  simp -zeta -zetaHave only [Kg9]
  refine ifB_intro (fun z => ?_) fun z10 => ?_
  · obtain rfl : d = 10 := by simpa using z
    exact ep11 X2 fun w3 g3 => h w3 (e2.st g3 l2)
  intro Kg11
  refine ifB_intro (fun z => ?_) fun z11 => ?_
  · obtain rfl : d = 11 := by simpa using z
    simp -zeta -zetaHave only [Kg11]
    refine ifB_t rfl ?_
    exact ep11 X2 fun w3 g3 => h w3 (e2.st g3 l2)
  simp -zeta -zetaHave only [Kg11]
  refine ifB_intro (fun z => ?_) fun z12 => ?_
  · obtain rfl : d = 12 := by simpa using z
    exact ep11 X2 fun w3 g3 => h w3 (e2.st g3 l2)
  refine ifB_intro (fun z => ?_) fun z13 => ?_
  · obtain rfl : d = 13 := by simpa using z
    exact ep11 X2 fun w3 g3 => h w3 (e2.st g3 l2)
  refine ifB_intro (fun z => ?_) fun z14 => ?_
  · obtain rfl : d = 14 := by simpa using z
    exact ep11 X2 fun w3 g3 => h w3 (e2.st g3 l2)
  refine ifB_intro (fun z => ?_) fun z15 => ?_
  · obtain rfl : d = 15 := by simpa using z
    exact ep11 X2 fun w3 g3 => h w3 (e2.st g3 l2)
  refine ifB_intro (fun z => ?_) fun z17 => ?_
  · obtain rfl : d = 17 := by simpa using z
    exact ep11 X2 fun w3 g3 => h w3 (e2.st g3 l2)
  intro Kg18
  refine ifB_intro (fun z => ?_) fun z18 => ?_
  · obtain rfl : d = 18 := by simpa using z
    simp -zeta -zetaHave only [Kg18]
    refine ifB_t rfl ?_
    exact ep11 X2 fun w3 g3 => h w3 (e2.st g3 l2)
  refine ifB_intro (fun z => ?_) fun z19 => ?_
  · obtain rfl : d = 19 := by simpa using z
    simp -zeta -zetaHave only [Kg18]
    refine ifB_t rfl ?_
    exact ep11 X2 fun w3 g3 => h w3 (e2.st g3 l2)
  simp -zeta -zetaHave only [Kg18]
  refine ifB_intro (fun z => ?_) fun z20 => ?_
  · obtain rfl : d = 20 := by simpa using z
    exact ep11 X2 fun w3 g3 => h w3 (e2.st g3 l2)
  simp only [beq_eq_false_iff_ne, ne_eq] at z1 z2 z3 z6 z7 z16 z22 z4 z5 z21 z8 z9 z10 z11 z12 z13 z14 z15 z17 z18 z19 z20
  have hn : ¬ (1 ≤ d ∧ d ≤ 22) := by omega
  have hp := parts_none hn
  refine ep11 X2 fun w3 g3 => ?_
  have := h w3 (e2.st g3 l2)
  unfold hasP at this
  rw [hp, decide_eq_false hn] at this
  exact this
theorem andnot_or (a b : BitVec 64) : b &&& ~~~a = 0#64 ↔ a ||| b = a := by
  constructor
  · intro h
    apply BitVec.eq_of_getLsbD_eq
    intro i hi
    have h1 := congrArg (fun v => v.getLsbD i) h
    simp only [BitVec.getLsbD_and, BitVec.getLsbD_not, BitVec.getLsbD_zero] at h1
    rw [BitVec.getLsbD_or]
    cases ha : a.getLsbD i <;> cases hb : b.getLsbD i <;> simp_all
  · intro h
    apply BitVec.eq_of_getLsbD_eq
    intro i hi
    have h1 := congrArg (fun v => v.getLsbD i) h
    simp only [BitVec.getLsbD_or] at h1
    rw [BitVec.getLsbD_and, BitVec.getLsbD_not, BitVec.getLsbD_zero]
    cases ha : a.getLsbD i <;> cases hb : b.getLsbD i <;> simp_all
theorem U_ofInt (x : BitVec 64) : BitVec.ofInt 64 (U x) = x := by
  apply BitVec.eq_of_toNat_eq
  unfold U
  simp
theorem bAndNot_U (x y : BitVec 64) : bAndNot .u64 (U x) (U y) = U (x &&& ~~~y) := by
  unfold bAndNot
  show IntKind.wrap .u64 ((BitVec.ofInt 64 (U x) &&& ~~~(BitVec.ofInt 64 (U y))).toNat : Int) = _
  rw [U_ofInt, U_ofInt, wrap64u]
  have := (x &&& ~~~y).isLt
  unfold U
  omega
theorem bits_may (a c : Int) : ((bAndNot .u64 (IntKind.wrap .u64 c) (IntKind.wrap .u64 a)) == 0) = decide (BitVec.ofInt 64 a ||| BitVec.ofInt 64 c = BitVec.ofInt 64 a) := by
  rw [wrap_U, wrap_U, bAndNot_U, Bool.eq_iff_iff, beq_iff_eq, decide_eq_true_eq, ← andnot_or]
  constructor
  · intro h; exact U_inj h
  · intro h; rw [h]; rfl
theorem c_r6may {k a c : Int} {f : Bool} {w : World} {R : EW} (h : ∀ w', Ext w w' → R (.returned (.bool (predMay k a c))) w') : Calls Tryz.prog 37 #[.agg #[.int .u8 k, .int .i64 a, .int .i64 c, .bool f]] w R := by
  refine sh37_ok _ _ _ _ ?_
  unfold sh37
  refine do_al fun b2 w2 e2 X2 l2 => ?_
  have h := h w2 e2
  refine ⟨_, X2.cell (i := 0) (add_blk _ _) rfl, ?_⟩
  unfold predMay at h
  refine ifB_intro (fun z => ?_) fun z1 => ?_
  · obtain rfl : k = 1 := by simpa using z
    intro K10
    refine ⟨_, X2.cell (i := 1) (add_blk _ _) rfl, ?_⟩
    refine ifB_intro (fun y => ⟨_, X2.cell (i := 2) (add_blk _ _) rfl, ?_⟩) fun y => ?_
    · have y : a = 0 := by simpa using y
      simp -zeta -zetaHave only [K10]
      rw [if_pos rfl, show decide (a = 0 ∧ c = 0) = (c == 0) by rw [Bool.eq_iff_iff]; simp [y]] at h
      exact h
    · have y : a ≠ 0 := by simpa using y
      rw [if_pos rfl, show decide (a = 0 ∧ c = 0) = false by simp [y]] at h
      exact h
  have z1 : k ≠ 1 := by simpa using z1
  rw [if_neg z1] at h
  intro K15
  refine ifB_intro (fun z => ?_) fun z2 => ?_
  · have z : k = 2 := by simpa using z
    rw [if_pos (.inl z)] at h
    exact h
  have z2 : k ≠ 2 := by simpa using z2
  simp -zeta -zetaHave only [K15]
  refine ifB_intro (fun z => ?_) fun z3 => ?_
  · have z : k = 3 := by simpa using z
    rw [if_pos (.inr z)] at h
    exact h
  have z3 : k ≠ 3 := by simpa using z3
  rw [if_neg (by omega)] at h
  refine ifB_intro (fun z => ?_) fun z4 => ?_
  · obtain rfl : k = 4 := by simpa using z
    rw [if_pos rfl] at h
    intro K18
    refine ⟨_, X2.cell (i := 1) (add_blk _ _) rfl, ?_⟩
    refine ifB_intro (fun y => ⟨_, X2.cell (i := 2) (add_blk _ _) rfl, ?_⟩) fun y => ?_
    · have y := of_decide_eq_true y
      refine ifB_intro (fun x => ⟨_, X2.cell (i := 2) (add_blk _ _) rfl, _, X2.cell (i := 1) (add_blk _ _) rfl, ?_⟩) fun x => ?_
      · have x := of_decide_eq_true x
        simp -zeta -zetaHave only [K18]
        rw [show decide (1 ≤ a ∧ 0 ≤ c ∧ c < a) = decide (c < a) by rw [Bool.eq_iff_iff]; simp; omega] at h
        exact h
      · have x := of_decide_eq_false x
        rw [show decide (1 ≤ a ∧ 0 ≤ c ∧ c < a) = false by simp; omega] at h
        exact h
    · have y := of_decide_eq_false y
      rw [show decide (1 ≤ a ∧ 0 ≤ c ∧ c < a) = false by simp; omega] at h
      exact h
  have z4 : k ≠ 4 := by simpa using z4
  rw [if_neg z4] at h
  refine ifB_intro (fun z => ?_) fun z5 => ?_
  · obtain rfl : k = 5 := by simpa using z
    rw [if_pos rfl] at h
    refine ⟨_, X2.cell (i := 2) (add_blk _ _) rfl, _, X2.cell (i := 1) (add_blk _ _) rfl, ?_⟩
    rw [bits_may]; exact h
  have z5 : k ≠ 5 := by simpa using z5
  rw [if_neg z5] at h
  exact h
end Go.Proofs.YtmkpkmdnapccgaaGreatDoor

