/-
  The ops of bytes: the program's answer, and the document's.
-/
import Derived.Test.YtmkpkmdnapccgaaGreatDoorZ27

set_option maxRecDepth 100000
set_option maxHeartbeats 6400000
namespace Go.Proofs.YtmkpkmdnapccgaaGreatDoor
open Go Go.Sh Go.RowKit

def IfOwn (cb N : Nat) (_ : World) (k : Nat) : Prop := k = cb ∨ k < N
structure IfI (w0 : World) (cb N : Nat) (w : World) (s : Bs) : Prop where
  i : InI cb w s
  g : ∀ k, k < N → k ≠ cb → w.heap[k]? = w0.heap[k]?
  n : N ≤ w.heap.size
section
variable {w0 w w' : World} {cb N b : Nat} {s s' : Bs} {S : Nat → Prop}
theorem if_chg (c : Chg (InOwn cb) S w w') : Chg (IfOwn cb N) S w w' := ⟨c.os, c.tape, c.output, c.size, fun k hk ho hs => c.block k hk (fun e => ho (.inl e)) hs, fun _ _ h1 h2 => h1 h2⟩
theorem if_i (hI : IfI w0 cb N w s) (ho : ¬ IfOwn cb N w b) (hI' : InI cb w' s') (c : Chg (InOwn cb) (· = b) w w') : IfI w0 cb N w' s' :=
  ⟨hI', fun k hk hne => (c.block k (by have := hI.n; omega) hne (fun e => ho (.inr (by omega)))).trans (hI.g k hk hne), Nat.le_trans hI.n c.size⟩
end
def IfB (w0 : World) (cb N : Nat) : CBase inB where
  I := IfI w0 cb N
  own := IfOwn cb N
  lt := fun hI h => by
    rcases h with rfl | h
    · exact Blk.lt hI.i
    · exact Nat.lt_of_lt_of_le h hI.n
  keep := fun {w w' s} hI h => ⟨⟨((InB cb).keep hI.i fun k hk => h k (.inl hk)).1, fun k hk hne => (h k (.inr hk)).trans (hI.g k hk hne), by
    cases N with
    | zero => exact Nat.zero_le _
    | succ n => exact lt_of_same (w := w) (by have := hI.n; omega) (h n (.inr (by omega)))⟩, fun k => Iff.rfl⟩
  len := List.length
  grow := 0
  numIn := (InB cb).numIn
  wordIn := (InB cb).wordIn
  flagIn := (InB cb).flagIn
  manyIn := (InB cb).manyIn
  pairIn := (InB cb).pairIn
def IfC (w0 : World) (cb N : Nat) : Coder inB 77 (.pointer (some (blk cb))) where
  toCBase := IfB w0 cb N
  pre := fun _ _ => True
  nc := (InC cb).nc
  ncw := (InC cb).ncw
  ta := (InC cb).ta
  num := fun {w s b i cs t v R} hI hl ho hb hc hv h hn => (InC cb).num hI.i hl (fun e => ho (.inl e)) hb hc hv (fun v' s' w' hv hI' hb' c' => h v' s' w' hv (if_i hI ho hI' c') hb' (if_chg c')) fun ch u s' w' hv hch hl' hI' hb' c' => hn ch u s' w' hv hch hl' (if_i hI ho hI' c') hb' (if_chg c')
  word := fun {w s b i cs t v names q n cap R} hI hl ho hb hc hv hq hnn hcap hp h hn => (InC cb).word hI.i hl (fun e => ho (.inl e)) hb hc hv hq hnn hcap hp (fun v' s' w' hv hI' hb' c' => h v' s' w' hv (if_i hI ho hI' c') hb' (if_chg c')) fun ch u s' w' hv hch hl' hI' hb' c' => hn ch u s' w' hv hch hl' (if_i hI ho hI' c') hb' (if_chg c')
  flag := fun {w s b i cs t v R} hI hl ho hb hc h hn => (InC cb).flag hI.i hl (fun e => ho (.inl e)) hb hc (fun v' s' w' hv hI' hb' c' => h v' s' w' hv (if_i hI ho hI' c') hb' (if_chg c')) fun ch u s' w' hv hch hl' hI' hb' c' => hn ch u s' w' hv hch hl' (if_i hI ho hI' c') hb' (if_chg c')
  flagD := fun hw {w s b i cs t v u K} hu hI hl ho hb hc h hn => (InC cb).flagD hw hu hI.i hl (fun e => ho (.inl e)) hb hc (fun v' s' w' hv hI' hb' c' => h v' s' w' hv (if_i hI ho hI' c') hb' (if_chg c')) fun ch u' s' w' hv hch hl' hI' hb' c' => hn ch u' s' w' hv hch hl' (if_i hI ho hI' c') hb' (if_chg c')
  many := fun {w s b t v R} hI hl ho hb hv h hn => (InC cb).many hI.i hl (fun e => ho (.inl e)) hb hv (fun v' s' w' hv hI' hb' c' => h v' s' w' hv (if_i hI ho hI' c') hb' (if_chg c')) fun ch s' w' hv hch hl' hI' c' => hn ch s' w' hv hch hl' (if_i hI ho hI' c') (if_chg c')
  pair := fun {w s b t v R} hI hl ho hb hv h hn => (InC cb).pair hI.i hl (fun e => ho (.inl e)) hb hv (fun v' s' w' hv hI' hb' c' => h v' s' w' hv (if_i hI ho hI' c') hb' (if_chg c')) fun ch s' w' hv hch hl' hI' c' => hn ch s' w' hv hch hl' (if_i hI ho hI' c') (if_chg c')

def decR (s : Bs) : List POp × Int := match decO s.length s with
  | some l => (l, 0)
  | none => ([], 7)
theorem decO_step {s t : Bs} {y : POp} (hne : s ≠ []) (hr : allP inB .zero s = some (y, t)) (hm : mayO y = true) : decO s.length s = (decO t.length t).map (y :: ·) := by
  have hlt := allP_lt hr
  obtain ⟨m, hm'⟩ : ∃ m, s.length = m + 1 := ⟨s.length - 1, by omega⟩
  rw [hm', decO, if_neg hne, hr]
  simp only
  rw [if_pos hm, decO_le (Nat.le_refl _) (by omega)]
theorem decO_bad {s : Bs} (hne : s ≠ []) (h : ∀ y t, allP inB .zero s = some (y, t) → mayO y ≠ true) : decO s.length s = none := by
  have hpos := List.length_pos_iff.2 hne
  obtain ⟨m, hm'⟩ : ∃ m, s.length = m + 1 := ⟨s.length - 1, by omega⟩
  rw [hm', decO, if_neg hne]
  cases hr : allP inB .zero s with
  | none => rfl
  | some r => simp only; rw [if_neg (h r.1 r.2 hr)]
theorem dec_more {s t u : Bs} {L : List POp} {y : POp} (hD : decO s.length s = (decO t.length t).map (L ++ ·)) (hs : decO t.length t = (decO u.length u).map (y :: ·)) : decO s.length s = (decO u.length u).map ((L ++ [y]) ++ ·) := by
  rw [hD, hs, Option.map_map]
  congr 1
  funext l
  simp
theorem decR_none {s t : Bs} {L : List POp} (hD : decO s.length s = (decO t.length t).map (L ++ ·)) (hs : decO t.length t = none) : decR s = ([], 7) := by
  unfold decR; rw [hD, hs]; rfl
theorem decR_some {s : Bs} {L : List POp} (hD : decO s.length s = (decO ([] : Bs).length []).map (L ++ ·)) : decR s = (L, 0) := by
  unfold decR; rw [hD]; simp [decO]
theorem back_lenB {x : POp} {s t : Bs} (h : allP inB .zero s = some (x, t)) : x.pairs.length ≤ 4096 ∧ x.keys.length ≤ 4096 := by
  obtain ⟨_, _, ho, hm⟩ := all_inv h
  constructor
  · by_cases hp : Part.pairs ∈ partsOf x.op
    · exact (ho _ hp).1
    · have e : ([] : List (Int × Int)) = x.pairs := hm _ hp
      rw [← e]; simp
  · by_cases hp : Part.keys ∈ partsOf x.op
    · exact (ho _ hp).1
    · have e : ([] : List Int) = x.keys := hm _ hp
      rw [← e]; simp
theorem decR_may {s : Bs} : ∀ x ∈ (decR s).1, May x := by
  unfold decR
  cases h : decO s.length s with
  | none => simp
  | some l => exact fun x hx => ((decO_inv _ _ _ h).2 x hx).1
theorem decR_len {s : Bs} : (decR s).1.length ≤ s.length := by
  unfold decR
  cases h : decO s.length s with
  | none => simp
  | some l =>
    have := (decO_inv _ _ _ h).1
    rw [this]
    clear this h
    induction l with
    | nil => simp
    | cons x l ih =>
      have := List.length_pos_iff.2 (wrB_ne x)
      simp only [encO, List.flatMap_cons, List.length_append, List.length_cons] at ih ⊢
      omega
def leftB (cb : Nat) (w : World) : Nat := match w.cell? (blk cb) with
  | some (.string b) => b.size
  | _ => 0
theorem left_of {cb : Nat} {w : World} {s : Bs} {cs : Array Value} {t : TypeId} (h : Blk w cb cs t) (h0 : cs[0]? = some (strB s)) : leftB cb w = s.length := by
  unfold leftB
  rw [h.cell (i := 0) rfl h0]
  exact strB_size s
theorem c_odec {s : Bs} {w : World} {R : EW} (hl : s.length ≤ 16384)
    (h : ∀ p c (Es : List OpE) w', Ext w w' → Es.map (·.1) = (decR s).1 → Cs w' p (Es.flatMap opC) → (∀ e ∈ Es, OpRd w' e.1 e.2.1 e.2.2) → R (.returned (.tuple #[.slice p (decR s).1.length c, .int .i64 (decR s).2])) w') : Calls Tryz.prog 19 #[strB s] w R := by
  refine sh19_ok _ ?_
  unfold sh19
  refine do_al fun lb w1 e1 L1 l1 => do_al fun eb w2 e2 E2 l2 => ?_
  rw [strB_size]
  refine ifB_f (by rw [decide_eq_false]; omega) (do_al fun cb w3 e3 C3 l3 => ?_)
  have s1 := L1.lt
  have s2 := E2.lt
  have s3 := C3.lt
  have z1 := e1.size
  have z2 := e2.size
  have z3 := e3.size
  have Ew3 := (e1.trans e2).trans e3
  generalize hB : w3.heap.size = B at *
  refine ⟨fun vs w' => ∃ (s' : Bs) (k : Nat) (p : OA) (c : Nat) (Fs : List OpE), vs = [] ∧ InI cb w' s' ∧ Blk w' lb #[.slice p k c] 22 ∧ Blk w' eb #[.int .i64 0] 26 ∧ Fs.length = k ∧ w'.ownsRow B 37 15 (.slice p k c) k (Fs.flatMap opC) ∧ (∀ e ∈ Fs, OpFr w' B (Value.slice p k c).ownBlock e) ∧ Ext w w' ∧ decO s.length s = (decO s'.length s').map (Fs.map (·.1) ++ ·) ∧ k + s'.length ≤ s.length ∧ B ≤ w'.heap.size,
    fun _ w' => leftB cb w', ⟨s, 0, none, 0, [], rfl, C3, (L1.ext e2).ext e3, E2.ext e3, rfl, World.ownsRow_nil _ _ _ _, fun e he => (by cases he), Ew3, by simp, by omega, by omega⟩, ?_⟩
  rintro _ w4 ⟨s', k, p, c, Fs, -, hI, hL, hE, hF, row, fr, E, hD, hks, hB4⟩
  refine ⟨_, rfl, _, Blk.cell (i := 0) hI rfl rfl, ?_⟩
  rw [str_nil]
  have rl := fun b hb => (row.lt b hb)
  refine ifB_intro (fun z => ?_) fun z => ?_
  · have z : s' ≠ [] := by simpa using z
    refine do_al fun xb w5 e5 X5 l5 => ?_
    have X5 : OpAt w5 xb .zero (.slice none 0 0) (.slice none 0 0) := X5
    have z5 := Blk.lt X5
    have E5 := E.trans e5
    generalize hN : w4.heap.size = N at *
    have hI5 : IfI w4 cb N w5 s' := ⟨(in_ext (S := fun _ => False) hI e5).1, fun k hk _ => e5.block k (by omega), by have := e5.size; omega⟩
    have hrow : RowsAt (IfOwn cb N) xb w5 .zero (.slice none 0 0) (.slice none 0 0) := ⟨⟨none, 0, rfl, Nat.le_refl _, cs_nil _ _, fun d e => by cases e⟩, ⟨none, 0, rfl, Nat.le_refl _, cs_nil _ _, fun d e => by cases e⟩⟩
    have hxo : ¬ IfOwn cb N w5 xb := fun hd => by
      rcases hd with hd | hd <;> omega
    have bad : ∀ {ch : List PanicEntry} {w6 : World}, (∀ y t, allP inB .zero s' = some (y, t) → mayO y ≠ true) → NoneCh ch → (∃ s6, IfI w4 cb N w6 s6) → Ext w w6 →
        doDf Tryz.prog (.fn (.func 40) #[.pointer (some (blk lb)), .pointer (some (blk eb))]) #[] (.panicking ch) w6 (fun u w => doEnd u (∃ (xp : OA), ∃ (xn : Nat), ∃ (xc : Nat), w.cell? (blk lb) = some (.slice xp xn xc) ∧ (∃ (x : Int), w.cell? (blk eb) = some (.int .i64 x) ∧ (R (.returned (.tuple #[.slice xp xn xc, .int .i64 x])) w))) fun ch => R (.panicked ch) w) := fun {ch w6} hbad hch hI6 E6 => by
      obtain ⟨s6, hI6⟩ := hI6
      have hL6 : Blk w6 lb #[.slice p k c] 22 := by unfold Blk; rw [hI6.g lb (by omega) (by omega)]; exact hL
      have hE6 : Blk w6 eb #[.int .i64 0] 26 := by unfold Blk; rw [hI6.g eb (by omega) (by omega)]; exact hE
      refine c_dcatch1 hch hL6 hE6 (by omega) fun w7 Z1 Z2 c7 => ⟨_, _, _, Z1.cell (i := 0) rfl rfl, _, Z2.cell (i := 0) rfl rfl, ?_⟩
      have hR := decR_none hD (decO_bad z hbad)
      have := h none 0 [] w7 (below_chg E6 c7 (fun _ _ h => h) (fun k hk e => by rcases e with e | e <;> omega)) (by rw [hR]; rfl) (cs_nil _ _) (fun e he => by cases he)
      rw [hR] at this
      exact this
    refine do_call Tryz.call23 (c_opall (IfC w4 cb N) (s := s') hI5 (by show s'.length + 50000 * 0 ≤ 1000000000000; omega) hxo X5 zero_in hrow (Nat.zero_le _) (Nat.zero_le _) trivial trivial trivial (.inr ⟨rfl, rfl⟩) (.inr ⟨rfl, rfl⟩)
      (fun y s6 w6 pv6 kv6 hr6 hI6 hy6 hrow6 hin6 _ c6 => retS_ret ⟨rfl, ?_⟩) fun ch w6 hn6 hch _ hI6 c6 => bad (fun y t e => by rw [hn6] at e; cases e) hch hI6 ⟨c6.os.trans E5.os, c6.tape.trans E5.tape, c6.output.trans E5.output, Nat.le_trans E5.size c6.size, fun k hk => by obtain ⟨_, hI6⟩ := hI6; exact (hI6.g k (by omega) (by omega)).trans (E.block k hk)⟩)
    have hI6 : IfI w4 cb N w6 s6 := hI6
    have E6 : Ext w w6 := ⟨c6.os.trans E5.os, c6.tape.trans E5.tape, c6.output.trans E5.output, Nat.le_trans E5.size c6.size, fun k hk => (hI6.g k (by omega) (by omega)).trans (E.block k hk)⟩
    have hlen := back_lenB hr6
    have rd6 := rows_rd hrow6
    obtain ⟨p6, d6, hp6, hp6c, hp6s, hp6b⟩ := hrow6.p
    obtain ⟨q6, f6, hk6, hk6c, hk6s, hk6b⟩ := hrow6.k
    subst hp6 hk6
    refine ⟨_, Blk.cell (i := 0) hy6 rfl rfl, _, Blk.cell (i := 1) hy6 rfl rfl, _, Blk.cell (i := 2) hy6 rfl rfl, _, Blk.cell (i := 3) hy6 rfl rfl, _, Blk.cell (i := 4) hy6 rfl rfl, _, Blk.cell (i := 5) hy6 rfl rfl, _, Blk.cell (i := 6) hy6 rfl rfl, _, Blk.cell (i := 7) hy6 rfl rfl, _, Blk.cell (i := 8) hy6 rfl rfl, _, Blk.cell (i := 9) hy6 rfl rfl, _, Blk.cell (i := 10) hy6 rfl rfl, _, Blk.cell (i := 11) hy6 rfl rfl, _, Blk.cell (i := 12) hy6 rfl rfl, _, _, _, Blk.cell (i := 13) hy6 rfl rfl, _, _, _, Blk.cell (i := 14) hy6 rfl rfl, do_call Tryz.call13 (c_check hin6 rd6 (by omega) (by omega) fun w7 e7 => retS_ret ⟨_, rfl, ?_⟩)⟩
    have hI7 : IfI w4 cb N w7 s6 := ⟨(in_ext (S := fun _ => False) hI6.i e7).1, fun k hk hne => (e7.block k (by have := hI6.n; omega)).trans (hI6.g k hk hne), Nat.le_trans hI6.n e7.size⟩
    have E7 := E6.trans e7
    by_cases hm : mayO y = true
    case neg =>
      rw [if_neg hm]
      exact do_call Tryz.call42 (c_must (fun e => by cases e) fun _ => bad (fun y' t e => by rw [hr6] at e; cases e; exact hm) noneCh1 ⟨s6, hI7⟩ E7)
    rw [if_pos hm]
    refine do_call Tryz.call42 (c_must (fun _ => retS_ret ⟨rfl, ?_⟩) fun e => by cases e)
    have hy7 : OpAt w7 xb y (.slice p6 y.pairs.length d6) (.slice q6 y.keys.length f6) := Blk.ext hy6 e7
    have hL7 : Blk w7 lb #[.slice p k c] 22 := by unfold Blk; rw [hI7.g lb (by omega) (by omega)]; exact hL
    have hE7 : Blk w7 eb #[.int .i64 0] 26 := by unfold Blk; rw [hI7.g eb (by omega) (by omega)]; exact hE
    refine ⟨_, _, _, hL7.cell (i := 0) rfl rfl, _, Blk.cell (i := 0) hy7 rfl rfl, _, Blk.cell (i := 1) hy7 rfl rfl, _, Blk.cell (i := 2) hy7 rfl rfl, _, Blk.cell (i := 3) hy7 rfl rfl, _, Blk.cell (i := 4) hy7 rfl rfl, _, Blk.cell (i := 5) hy7 rfl rfl, _, Blk.cell (i := 6) hy7 rfl rfl, _, Blk.cell (i := 7) hy7 rfl rfl, _, Blk.cell (i := 8) hy7 rfl rfl, _, Blk.cell (i := 9) hy7 rfl rfl, _, Blk.cell (i := 10) hy7 rfl rfl, _, Blk.cell (i := 11) hy7 rfl rfl, _, Blk.cell (i := 12) hy7 rfl rfl, _, _, _, Blk.cell (i := 13) hy7 rfl rfl, _, _, _, Blk.cell (i := 14) hy7 rfl rfl, do_al fun yb w8 e8 Y8 l8 => ?_⟩
    have row7 : w7.ownsRow B 37 15 (.slice p k c) k (Fs.flatMap opC) := keep_row row fun b hb => hI7.g b (by have := (rl b hb).2; omega) (by have := (rl b hb).1; omega)
    have fr7 : ∀ e ∈ Fs, OpFr w7 B (Value.slice p k c).ownBlock e := fun e he => (fr e he).keep fun k hk hk2 _ => hI7.g k (by omega) (by omega)
    have s8 := e8.size
    have s7 := e7.size
    have s6' := hI6.n
    refine do_append' elOp (e8.row row7) (m := 1) (cs_blk Y8) (by simp) (by simp [Value.oneCell']) (by simp only [maxLen]; omega) (by omega) (by omega) fun p' c' w9 row9 g9 n9 => retS_ret ⟨_, _, _, rfl, ?_⟩
    have ng : ∀ {k' : Nat}, k' < B → some k' ≠ (Value.slice p k c).ownBlock := fun h e => by have := (rl _ e.symm).1; omega
    have s9 := g9.size
    refine do_st ((hL7.ext e8).grown g9 (ng (by omega))) (i := 0) rfl (by simp) fun w10 h10 g10 => ?_
    have h10 : Blk w10 lb #[.slice p' (k + 1) c'] 22 := h10
    have hI9 : InI cb w10 s6 := Blk.grown (Blk.grown ((in_ext (S := fun _ => False) hI7.i e8).1) g9 (ng (by omega))) g10 (ne_some (by omega))
    have new : OpFr w8 B (Value.slice p k c).ownBlock (y, .slice p6 y.pairs.length d6, .slice q6 y.keys.length f6) := by
      have n6 : OpFr w6 N none (y, .slice p6 y.pairs.length d6, .slice q6 y.keys.length f6) := ⟨⟨p6, d6, rfl, hp6c, hp6s, fun b hb hz => ⟨by
        have := (hp6b b hb hz).1
        exact Nat.le_of_not_lt fun hlt => this (.inr hlt), by simp⟩⟩, ⟨q6, f6, rfl, hk6c, hk6s, fun b hb hz => ⟨by
        have := (hk6b b hb hz).1
        exact Nat.le_of_not_lt fun hlt => this (.inr hlt), by simp⟩⟩⟩
      exact ((n6.ext e7).ext e8).base hB4 fun b hb => by have := (rl b hb).2; omega
    have hlt := allP_lt hr6
    refine ⟨⟨s6, k + 1, p', c', Fs ++ [(y, .slice p6 y.pairs.length d6, .slice q6 y.keys.length f6)], rfl, hI9, h10, ((hE7.ext e8).grown g9 (ng (by omega))).grown g10 (ne_some (by omega)), by simp [hF], ?_, fun e he => ?_, ?_, ?_, by omega, by have := g10.size; omega⟩, ?_⟩
    · simp only [List.flatMap_append, List.flatMap_cons, List.flatMap_nil, List.append_nil]
      exact keep_row row9 fun b hb => g10.block b (row9.lt b hb).2 (ne_some (by have := (row9.lt b hb).1; omega))
    · have h9 : OpFr w9 B (Value.slice p' (k + 1) c').ownBlock e := by
        rcases List.mem_append.1 he with he | he
        · exact ((fr7 e he).ext e8).grow g9 n9
        · obtain rfl : e = (y, .slice p6 y.pairs.length d6, .slice q6 y.keys.length f6) := by simpa using he
          exact new.grow g9 n9
      exact h9.keep fun k' hk hk2 _ => g10.block k' hk2 (ne_some (by omega))
    · exact ((E7.trans e8).grown g9 fun b hb => by have := (rl b hb).1; omega).st g10 l1
    · rw [List.map_append]
      exact dec_more hD (decO_step z hr6 hm)
    · show leftB cb w10 < leftB cb w4
      rw [left_of hI9 rfl, left_of hI rfl]; omega
  · have z : s' = [] := by simpa using z
    subst z
    have hR := decR_some hD
    refine ⟨_, _, _, hL.cell (i := 0) rfl rfl, do_st hL (i := 0) rfl (by simp) fun w5 h5 g5 => do_st (hE.grown g5 (ne_some (by omega))) (i := 0) rfl (by simp) fun w6 h6 g6 => c_dcatch0 ⟨_, _, _, (h5.grown g6 (ne_some (by omega))).cell (i := 0) rfl rfl, _, h6.cell (i := 0) rfl rfl, ?_⟩⟩
    have row5 := keep_row row fun b hb => g5.block b (rl b hb).2 (ne_some (by have := (rl b hb).1; omega))
    have row6 := keep_row row5 fun b hb => g6.block b (row5.lt b hb).2 (ne_some (by have := (rl b hb).1; omega))
    have := h p c Fs w6 ((E.st g5 l1).st g6 (by omega)) (by rw [hR]) (Cs.of_row row6) fun e he => (((fr e he).keep fun k' hk hk2 _ => g5.block k' hk2 (ne_some (by omega))).keep fun k' hk hk2 _ => g6.block k' hk2 (ne_some (by omega))).rd
    rw [hR] at this
    simp only [List.length_map, hF] at this
    exact this
theorem c_rdec {s : Bs} {w : World} {R : EW} (hl : s.length ≤ 16384)
    (h : ∀ p c (Es : List OpE) w', Ext w w' → Es.map (·.1) = (decR s).1 → Cs w' p (Es.flatMap opC) → (∀ e ∈ Es, OpRd w' e.1 e.2.1 e.2.2) → R (.returned (.tuple #[.slice p (decR s).1.length c, .int .i64 (decR s).2])) w') : Calls Tryz.prog 20 #[strB s] w R := by
  refine sh20_ok _ ?_
  unfold sh20
  rw [strB_size]
  refine ifB_f (by rw [decide_eq_false]; omega) (do_al fun tb w1 e1 T1 l1 => ?_)
  have s1 := T1.lt
  have z1 := e1.size
  generalize hB : w1.heap.size = B at *
  refine ⟨fun vs w' => ∃ (s' : Bs) (k : Nat) (p : OA) (c : Nat) (Fs : List OpE), vs = [.slice p k c] ∧ Tk w' tb s' true ∧ Fs.length = k ∧ w'.ownsRow B 37 15 (.slice p k c) k (Fs.flatMap opC) ∧ (∀ e ∈ Fs, OpFr w' B (Value.slice p k c).ownBlock e) ∧ Ext w w' ∧ decO s.length s = (decO s'.length s').map (Fs.map (·.1) ++ ·) ∧ k + s'.length ≤ s.length ∧ B ≤ w'.heap.size,
    fun _ w' => leftB tb w', ⟨s, 0, none, 0, [], rfl, T1, rfl, World.ownsRow_nil _ _ _ _, fun e he => (by cases he), e1, by simp, by omega, by omega⟩, ?_⟩
  rintro p k c _ w4 ⟨s', k0, p0, c0, Fs, hv, hT, hF, row, fr, E, hD, hks, hB4⟩
  simp only [List.cons.injEq, Value.slice.injEq, true_and, and_true] at hv
  obtain ⟨rfl, rfl, rfl⟩ := hv
  refine ⟨_, rfl, _, Blk.cell (i := 0) hT rfl rfl, ?_⟩
  rw [str_nil]
  have rl := fun b hb => (row.lt b hb)
  refine ifB_intro (fun z => ?_) fun z => ?_
  · have z : s' ≠ [] := by simpa using z
    refine do_call Tryz.call43 (c_top hT fun y pv kv s5 f5 w5 hT5 hy5 hn5 hfr c5 => ?_)
    obtain ⟨p6, d6, hp6, _⟩ := hfr.p
    obtain ⟨q6, f6, hk6, _⟩ := hfr.k
    simp only at hp6 hk6
    subst hp6 hk6
    refine retS_ret ⟨_, _, _, _, _, _, _, _, _, _, _, _, _, _, _, _, _, _, _, rfl, do_al fun xb w6 e6 X6 l6 => st15 X6 fun w7 X7 g7 => ?_⟩
    have X7 : OpAt w7 xb y (.slice p6 y.pairs.length d6) (.slice q6 y.keys.length f6) := X7
    have E5 : Ext w w5 := below_chg E c5 (fun k hk e => by have : k = tb := e; omega) (fun _ _ h => h)
    have e57 : Ext w5 w7 := e6.st g7 l6
    have E7 := E5.trans e57
    have hT7 : Tk w7 tb s5 f5 := Blk.ext hT5 e57
    intro K53
    have bad : (∀ y t, allP inB .zero s' = some (y, t) → mayO y ≠ true) → ∀ w', Ext w w' → R (.returned (.tuple #[.slice none 0 0, .int .i64 7])) w' := fun hbad w' E' => by
      have hR := decR_none hD (decO_bad z hbad)
      have := h none 0 [] w' E' (by rw [hR]; rfl) (cs_nil _ _) (fun e he => by cases he)
      rw [hR] at this
      exact this
    refine ⟨_, rfl, _, Blk.cell (i := 1) hT7 rfl rfl, ifB_intro (fun zf => bad (fun y t e => ?_) w7 E7) fun zf => ?_⟩
    · have zf : f5 = false := by simpa using zf
      rw [hn5 zf] at e; cases e
    have zf : f5 = true := by simpa using zf
    subst zf
    have hr6 := hy5 rfl
    refine ⟨_, Blk.cell (i := 0) X7 rfl rfl, _, Blk.cell (i := 1) X7 rfl rfl, _, Blk.cell (i := 2) X7 rfl rfl, _, Blk.cell (i := 3) X7 rfl rfl, _, Blk.cell (i := 4) X7 rfl rfl, _, Blk.cell (i := 5) X7 rfl rfl, _, Blk.cell (i := 6) X7 rfl rfl, _, Blk.cell (i := 7) X7 rfl rfl, _, Blk.cell (i := 8) X7 rfl rfl, _, Blk.cell (i := 9) X7 rfl rfl, _, Blk.cell (i := 10) X7 rfl rfl, _, Blk.cell (i := 11) X7 rfl rfl, _, Blk.cell (i := 12) X7 rfl rfl, _, _, _, Blk.cell (i := 13) X7 rfl rfl, _, _, _, Blk.cell (i := 14) X7 rfl rfl, do_call Tryz.call16 (c_r37may fun w8 e8 => retS_ret ⟨_, rfl, ?_⟩)⟩
    have E8 := E7.trans e8
    by_cases hm : mayO y = true
    case neg =>
      have hm' : mayO y = false := by simpa using hm
      exact ifB_t (by rw [hm']; rfl) (bad (fun y' t e => by rw [hr6] at e; cases e; exact hm) w8 E8)
    refine ifB_f (by rw [hm]; rfl) ?_
    have X8 : OpAt w8 xb y (.slice p6 y.pairs.length d6) (.slice q6 y.keys.length f6) := Blk.ext X7 e8
    refine ⟨_, Blk.cell (i := 0) X8 rfl rfl, _, Blk.cell (i := 1) X8 rfl rfl, _, Blk.cell (i := 2) X8 rfl rfl, _, Blk.cell (i := 3) X8 rfl rfl, _, Blk.cell (i := 4) X8 rfl rfl, _, Blk.cell (i := 5) X8 rfl rfl, _, Blk.cell (i := 6) X8 rfl rfl, _, Blk.cell (i := 7) X8 rfl rfl, _, Blk.cell (i := 8) X8 rfl rfl, _, Blk.cell (i := 9) X8 rfl rfl, _, Blk.cell (i := 10) X8 rfl rfl, _, Blk.cell (i := 11) X8 rfl rfl, _, Blk.cell (i := 12) X8 rfl rfl, _, _, _, Blk.cell (i := 13) X8 rfl rfl, _, _, _, Blk.cell (i := 14) X8 rfl rfl, do_al fun yb w9 e9 Y9 l9 => ?_⟩
    have e59 := (e57.trans e8).trans e9
    have row5 := chg_row c5 row (fun b hb e => by have e : b = tb := e; have := (rl b hb).1; omega) (fun _ _ h => h)
    have fr5 : ∀ e ∈ Fs, OpFr w5 B (Value.slice p k c).ownBlock e := fun e he => (fr e he).keep fun k' hk hk2 _ => c5.block k' hk2 (fun e => by have : k' = tb := e; omega) (fun h => h)
    have s5' := c5.size
    have s9 := e59.size
    refine do_append' elOp (e59.row row5) (m := 1) (cs_blk Y9) (by simp) (by simp [Value.oneCell']) (by simp only [maxLen]; omega) (by omega) (by omega) fun p' c' w10 row10 g10 n10 => retS_ret ⟨_, _, _, rfl, ?_⟩
    have ng : ∀ {k' : Nat}, k' < B → some k' ≠ (Value.slice p k c).ownBlock := fun h e => by have := (rl _ e.symm).1; omega
    have hT10 : Tk w10 tb s5 true := Blk.grown (Blk.ext hT5 e59) g10 (ng (by omega))
    have new : OpFr w9 B (Value.slice p k c).ownBlock (y, .slice p6 y.pairs.length d6, .slice q6 y.keys.length f6) := (hfr.ext e59).base hB4 fun b hb => by have := (rl b hb).2; omega
    have hlt := allP_lt hr6
    refine ⟨⟨s5, k + 1, p', c', Fs ++ [(y, .slice p6 y.pairs.length d6, .slice q6 y.keys.length f6)], rfl, hT10, by simp [hF], ?_, fun e he => ?_, ?_, ?_, by omega, by have := g10.size; omega⟩, ?_⟩
    · simp only [List.flatMap_append, List.flatMap_cons, List.flatMap_nil, List.append_nil]
      exact row10
    · rcases List.mem_append.1 he with he | he
      · exact ((fr5 e he).ext e59).grow g10 n10
      · obtain rfl : e = (y, .slice p6 y.pairs.length d6, .slice q6 y.keys.length f6) := by simpa using he
        exact new.grow g10 n10
    · exact (E5.trans e59).grown g10 fun b hb => by have := (rl b hb).1; omega
    · rw [List.map_append]
      exact dec_more hD (decO_step z hr6 hm)
    · show leftB tb w10 < leftB tb w4
      rw [left_of hT10 rfl, left_of hT rfl]; omega
  · have z : s' = [] := by simpa using z
    subst z
    have hR := decR_some hD
    have := h p c Fs w4 E (by rw [hR]) (Cs.of_row row) fun e he => (fr e he).rd
    rw [hR] at this
    simp only [List.length_map, hF] at this
    exact this
end Go.Proofs.YtmkpkmdnapccgaaGreatDoor

namespace Go.Proofs.YtmkpkmdnapccgaaGreatDoor
open Go Go.Sh Go.RowKit

theorem strB_get {v : Bs} {k : Nat} (h : k < v.length) : (⟨v.toArray⟩ : ByteArray)[k]? = some v[k] := by
  rw [getElem?_pos (⟨v.toArray⟩ : ByteArray) k (by simpa [ByteArray.size] using h)]
  rfl
theorem strB_cut (v : Bs) (i j : Nat) : (⟨v.toArray⟩ : ByteArray).extract i j = ⟨((v.drop i).take (j - i)).toArray⟩ := by
  apply ByteArray.ext
  rw [ByteArray.data_extract]
  simp
theorem do_ss {v : Bs} {i j : Nat} {K : ByteArray → Prop} (h1 : i ≤ j) (h2 : j ≤ v.length) (k : K ⟨((v.drop i).take (j - i)).toArray⟩) : doSs ⟨v.toArray⟩ (i : Int) (j : Int) K := by
  refine ⟨by omega, by omega, by rw [strB_size]; omega, ?_⟩
  rw [show ((i : Nat) : Int).toNat = i by omega, show ((j : Nat) : Int).toNat = j by omega, strB_cut]
  exact k
theorem c_words {s : Bs} {w : World} {R : EW} (hl : s.length ≤ 1000000)
    (h : ∀ a c w', Ext w w' → Cs w' (some a) (strs (splitW s)) → (splitW s).length ≤ c → w.heap.size ≤ a.block → a.block < w'.heap.size → R (.returned (.slice (some a) (splitW s).length c)) w') : Calls Tryz.prog 46 #[strB s] w R := by
  refine sh46_ok _ ?_
  unfold sh46
  refine ⟨fun vs w' => ∃ (L : List Bs) (p : OA) (c i f : Nat), vs = [.slice p L.length c, .int .i64 (f : Int), .int .i64 (i : Int)] ∧ f ≤ i ∧ i ≤ s.length ∧ Ext w w' ∧ w'.ownsRow w.heap.size 9 1 (.slice p L.length c) L.length (strs L) ∧ splitW s = L ++ splitW (s.drop f) ∧ 32 ∉ (s.drop f).take (i - f) ∧ L.length ≤ i,
    fun vs _ => match vs with | [_, _, .int _ i] => s.length - i.toNat | _ => 0, ⟨[], none, 0, 0, 0, rfl, Nat.le_refl _, Nat.zero_le _, ext_refl _, World.ownsRow_nil _ _ _ _, rfl, by simp, Nat.le_refl _⟩, ?_⟩
  rintro p n c f_ i_ _ w2 ⟨L, p0, c0, i, f, hv, hfi, hi, E, row, hS, hb, hLi⟩
  simp only [List.cons.injEq, Value.int.injEq, Value.slice.injEq, true_and, and_true] at hv
  obtain ⟨⟨rfl, rfl, rfl⟩, rfl, rfl⟩ := hv
  rw [strB_size]
  refine ifB_intro (fun z => ?_) fun z => ?_
  · have z : i < s.length := by have := of_decide_eq_true z; omega
    have hget : (s.drop f).take (i + 1 - f) = (s.drop f).take (i - f) ++ [s[i]] := by
      rw [show i + 1 - f = (i - f) + 1 by omega, List.take_add_one, List.getElem?_drop, show f + (i - f) = i by omega, List.getElem?_eq_getElem z]
      rfl
    intro K16
    refine ⟨s[i], by omega, by rw [show ((i : Nat) : Int).toNat = i by omega]; exact strB_get z, ifB_intro (fun z2 => ?_) fun z2 => ?_⟩
    · have z2 : s[i] = 32 := by
        have z2 : (((s[i]).toNat : Nat) : Int) = 32 := by simpa using z2
        exact UInt8.toNat_inj.1 (by show (s[i]).toNat = 32; omega)
      refine do_ss hfi (by omega) (do_al fun b3 w3 e3 B3 l3 => ?_)
      refine do_append' elStr (e3.row row) (m := 1) (cs_blk B3) (by simp) (by simp [Value.oneCell']) (by simp only [maxLen]; omega) (by omega) (by have := E.size; have := e3.size; omega) fun p' c' w4 row4 g4 n4 => retS_ret ⟨_, _, _, rfl, ?_⟩
      rw [wrap_succ z (by omega)]
      refine ⟨⟨L ++ [(s.drop f).take (i - f)], p', c', i + 1, i + 1, by rw [List.length_append, wrap_succ z (by omega)]; rfl, Nat.le_refl _, by omega, (E.trans e3).grown g4 fun b hb => (row.lt b hb).1, ?_, ?_, by simp, by simp; omega⟩, ?_⟩
      · rw [strs_app, List.length_append]; exact row4
      · have hd : s.drop f = (s.drop f).take (i - f) ++ 32 :: s.drop (i + 1) := by
          conv => lhs; rw [← List.take_append_drop (i - f) (s.drop f)]
          rw [List.drop_drop, show f + (i - f) = i by omega, List.drop_eq_getElem_cons z, z2]
        rw [hS]
        conv => lhs; rw [hd, split_app hb]
        simp
      · show s.length - (IntKind.wrap .i64 ((i : Int) + 1)).toNat < s.length - (i : Int).toNat
        rw [wrap_succ z (by omega)]
        omega
    · have z2 : s[i] ≠ 32 := fun e => by rw [e] at z2; cases z2
      refine ⟨⟨L, p, c, i + 1, f, by rw [wrap_succ z (by omega)], by omega, by omega, E, row, hS, ?_, by omega⟩, ?_⟩
      · rw [hget]
        intro hm
        rcases List.mem_append.1 hm with hm | hm
        · exact hb hm
        · exact z2 (by simpa using hm : (32 : UInt8) = s[i]).symm
      · show s.length - (IntKind.wrap .i64 ((i : Int) + 1)).toNat < s.length - (i : Int).toNat
        rw [wrap_succ z (by omega)]
        omega
  · have z : i = s.length := by have := of_decide_eq_false z; omega
    subst z
    refine do_ss hfi (Nat.le_refl _) (do_al fun b3 w3 e3 B3 l3 => ?_)
    refine do_append' elStr (e3.row row) (m := 1) (cs_blk B3) (by simp) (by simp [Value.oneCell']) (by simp only [maxLen]; omega) (by omega) (by have := E.size; have := e3.size; omega) fun p' c' w4 row4 g4 n4 => retS_ret ⟨_, _, _, rfl, ?_⟩
    have hfull : (s.drop f).take (s.length - f) = s.drop f := List.take_of_length_le (by simp)
    have hS' : splitW s = L ++ [(s.drop f).take (s.length - f)] := by
      rw [hfull] at hb ⊢
      rw [hS, split_word hb]
    have hrow : w4.ownsRow w.heap.size 9 1 (.slice p' (splitW s).length c') (splitW s).length (strs (splitW s)) := by
      rw [hS', strs_app, List.length_append]; exact row4
    obtain ⟨g, e, hg1, hg2⟩ := row_some hrow (List.length_pos_iff.2 (splitW_ne s))
    subst e
    have := h (blk g) c' w4 ((E.trans e3).grown g4 fun b hb => (row.lt b hb).1) (Cs.of_row hrow) (row_cap hrow) (row_lt hrow rfl).1 (row_lt hrow rfl).2
    rw [show (splitW s).length = L.length + 1 by rw [hS']; simp] at this
    exact this

structure LsI (tb rb : Nat) (w : World) (s : List Bs) : Prop where
  ex : ∃ a c, a.block = rb ∧ Blk w tb #[.slice (some a) s.length c] 91 ∧ Cs w (some a) (strs s) ∧ s.length ≤ c
  rl : rb < w.heap.size
  ne : tb ≠ rb
  len : ∀ v ∈ s, v.length ≤ 1000000
section
variable {tb rb : Nat} {w w' : World} {s : List Bs}
theorem LsI.lt (h : LsI tb rb w s) : tb < w.heap.size := by
  obtain ⟨_, _, _, h2, _⟩ := h.ex
  exact h2.lt
theorem LsI.keep (h : LsI tb rb w s) (e1 : w'.heap[tb]? = w.heap[tb]?) (e2 : w'.heap[rb]? = w.heap[rb]?) : LsI tb rb w' s := by
  obtain ⟨a, c, h1, h2, h3, h4⟩ := h.ex
  exact ⟨⟨a, c, h1, by unfold Blk; rw [e1]; exact h2, cs_keep h3 (by rw [h1]; exact e2), h4⟩, lt_of_same h.rl e2, h.ne, h.len⟩
theorem LsI.ext (h : LsI tb rb w s) (e : Ext w w') : LsI tb rb w' s := h.keep (e.block _ h.lt) (e.block _ h.rl)
theorem c_lnext {R : EW} (hI : LsI tb rb w s) (h : ∀ w', LsI tb rb w' s.tail → Chg (InOwn tb) (fun _ => False) w w' → R (.returned (strB (s.headD []))) w') : Calls Tryz.prog 48 #[.pointer (some (blk tb))] w R := by
  refine sh48_ok _ ?_
  unfold sh48
  obtain ⟨a, c, h1, h2, h3, h4⟩ := hI.ex
  refine ⟨_, rfl, _, _, _, h2.cell (i := 0) rfl rfl, ?_⟩
  cases s with
  | nil => exact ifB_t rfl (h w hI (.refl _ _ _))
  | cons v t =>
  have hlc : (v :: t).length = t.length + 1 := rfl
  obtain ⟨a', ha, hc⟩ := h3 0 (strB v) rfl
  cases ha
  refine ifB_f (by rw [beq_eq_false_iff_ne]; omega) ⟨_, rfl, _, _, _, h2.cell (i := 0) rfl rfl, ⟨a, rfl, by omega, by omega, _, hc, _, rfl, _, _, _, h2.cell (i := 0) rfl rfl, ?_⟩⟩
  refine sl_tail (n := t.length) h3 h4 (strs_len t) fun a2 ha2 hc2 => ⟨_, rfl, do_st h2 (i := 0) rfl (by simp) fun w1 hb1 g1 => ?_⟩
  have hb1 : Blk w1 tb #[.slice (some a2) t.length (c - 1)] 91 := hb1
  have hr : w1.heap[a2.block]? = w.heap[a2.block]? := by rw [ha2, h1]; exact g1.block rb hI.rl (ne_some (Ne.symm hI.ne))
  exact h w1 ⟨⟨a2, _, ha2.trans h1, hb1, cs_keep hc2 hr, (by omega : t.length ≤ c - 1)⟩, Nat.lt_of_lt_of_le hI.rl g1.size, hI.ne, fun u hu => hI.len u (List.mem_cons_of_mem _ hu)⟩ (in_st g1 (.inl rfl))
theorem head_len (hI : LsI tb rb w s) : (s.headD []).length ≤ 1000000 := by
  cases s with
  | nil => simp
  | cons v t => exact hI.len v (by simp)
theorem in_ext' (e : Ext w w') {S : Nat → Prop} : Chg (InOwn tb) S w w' := ⟨e.os, e.tape, e.output, e.size, fun k hk _ _ => e.block k hk, fun _ _ h1 h2 => h1 h2⟩
structure LsG (w0 : World) (tb : Nat) : Prop where
  g : GOk w0
  e : GErr w0
  t : w0.heap.size ≤ tb
theorem LsG.err {w0 : World} (h : LsG w0 tb) (E : Ext w0 w) : GErr w := h.e.of fun g hg => E.block g (h.g.lt g hg)
theorem LsG.chg {w0 : World} (h : LsG w0 tb) (E : Ext w0 w) (c : Chg (InOwn tb) (fun _ => False) w w') : Ext w0 w' := below_chg E c (fun k hk e => by have e : k = tb := e; have := h.t; omega) (fun _ _ h => h)
theorem c_lnum {w0 : World} {R : EW} (hG : LsG w0 tb) (E : Ext w0 w) (hI : LsI tb rb w s) (h : ∀ w', LsI tb rb w' s.tail → Chg (InOwn tb) (fun _ => False) w w' → R (.returned (.int .i64 (pv (s.headD [])))) w') : Calls Tryz.prog 49 #[.pointer (some (blk tb))] w R := by
  refine sh49_ok _ ?_
  unfold sh49
  refine do_call Tryz.call48 (c_lnext hI fun w1 hI1 c1 => retS_ret ⟨_, rfl, ?_⟩)
  exact do_call Tryz.call68 (c_parseint (Nat.le_trans (head_len hI) (by omega)) (.inl (hG.err (hG.chg E c1))) (fun w2 e2 _ => retS_ret ⟨_, _, rfl, h w2 (hI1.ext e2) (c1.trans (in_ext' e2))⟩) fun N w2 e2 _ => retS_ret ⟨_, _, rfl, h w2 (hI1.ext e2) (c1.trans (in_ext' e2))⟩)
end
theorem cut_drop {v : Bs} {k : Nat} (h : k < v.length) (hc : v[k] ≠ 58) (hi : cutC v = (cutC (v.drop k)).map fun r => (v.take k ++ r.1, r.2)) : cutC v = (cutC (v.drop (k + 1))).map fun r => (v.take (k + 1) ++ r.1, r.2) := by
  have ht : v.take (k + 1) = v.take k ++ [v[k]] := (List.take_append_getElem h).symm
  rw [hi, List.drop_eq_getElem_cons h, cutC, if_neg hc, Option.map_map, ht]
  cases cutC (v.drop (k + 1)) with
  | none => rfl
  | some r =>
    simp only [Option.map_some, Function.comp_apply]
    rw [List.append_assoc]
    rfl
theorem c_rpair {v : Bs} {w : World} {R : EW} (hl : v.length ≤ 1000000) (hG : GOk w) (hE : GErr w) (h : ∀ w', Ext w w' → R (.returned (.agg #[.int .i64 (prL v).1, .int .i64 (prL v).2])) w') : Calls Tryz.prog 50 #[strB v] w R := by
  refine sh50_ok _ ?_
  unfold sh50
  refine do_al fun pb w1 e1 P1 l1 => ?_
  refine ⟨fun vs w' => ∃ k : Nat, vs = [.int .i64 (k : Int)] ∧ k ≤ v.length ∧ Ext w1 w' ∧ cutC v = (cutC (v.drop k)).map fun r => (v.take k ++ r.1, r.2), fun vs _ => match vs with | [.int _ i] => v.length - i.toNat | _ => 0, ⟨0, rfl, Nat.zero_le _, ext_refl _, by simp⟩, ?_⟩
  rintro i_ _ w2 ⟨k, hv, hk, e, hc⟩
  simp only [List.cons.injEq, Value.int.injEq, true_and, and_true] at hv
  subst hv
  rw [strB_size]
  have P2 := P1.ext e
  refine ifB_intro (fun z => ?_) fun z => ?_
  · have z : k < v.length := by have := of_decide_eq_true z; omega
    refine ⟨v[k], by omega, by rw [show ((k : Nat) : Int).toNat = k by omega]; exact strB_get z, ifB_intro (fun z2 => ?_) fun z2 => ?_⟩
    · have z2 : v[k] = 58 := by
        have z2 : (((v[k]).toNat : Nat) : Int) = 58 := by simpa using z2
        exact UInt8.toNat_inj.1 (by show (v[k]).toNat = 58; omega)
      have hcut : cutC v = some (v.take k, v.drop (k + 1)) := by
        rw [hc, List.drop_eq_getElem_cons z, cutC, if_pos z2]; simp
      have E2 := e1.trans e
      refine do_ss (i := 0) (Nat.zero_le _) (by omega) ?_
      rw [show (v.drop 0).take (k - 0) = v.take k by simp]
      have err : ∀ {w'}, Ext w w' → GErr w' := fun E => hE.of fun g hg => E.block g (hG.lt g hg)
      have fin : ∀ w3, Ext w2 w3 → doSs ⟨v.toArray⟩ (IntKind.wrap .i64 ((k : Int) + 1)) ((v.length : Nat) : Int) (fun s15 => doCall Tryz.prog (.func (.func 68) #[] #[]) #[.string s15, .int .i64 10, .int .i64 64] w3 (retS (fun v18 w19 => ∃ (x16 : Int), ∃ (x17 : Value), v18 = (.tuple #[.int .i64 x16, x17] : Value) ∧ (
          doSt ((blk pb).add 0) (.int .i64 (pv (v.take k))) w19 (fun w20 => doSt ((blk pb).add 1) (.int .i64 x16) w20 (fun w21 => ∃ (x22 : Int), w21.cell? ((blk pb).add 0) = some (.int .i64 x22) ∧ (∃ (x23 : Int), w21.cell? ((blk pb).add 1) = some (.int .i64 x23) ∧ (R (.returned (.agg #[.int .i64 x22, .int .i64 x23])) w21)))))) (fun ch w => Kfn R ch [] w))) := fun w3 e3 => by
        rw [wrap_succ z (by omega)]
        refine do_ss (by omega) (Nat.le_refl _) ?_
        rw [show (v.drop (k + 1)).take (v.length - (k + 1)) = v.drop (k + 1) from List.take_of_length_le (by simp)]
        have done : ∀ w4, Ext w3 w4 → doSt ((blk pb).add 0) (.int .i64 (pv (v.take k))) w4 (fun w20 => doSt ((blk pb).add 1) (.int .i64 (pv (v.drop (k + 1)))) w20 (fun w21 => ∃ (x22 : Int), w21.cell? ((blk pb).add 0) = some (.int .i64 x22) ∧ (∃ (x23 : Int), w21.cell? ((blk pb).add 1) = some (.int .i64 x23) ∧ (R (.returned (.agg #[.int .i64 x22, .int .i64 x23])) w21)))) := fun w4 e4 => by
          have E4 := (E2.trans e3).trans e4
          refine do_st (P2.ext (e3.trans e4)) (i := 0) rfl (by simp) fun w5 h5 g5 => do_st h5 (i := 1) rfl (by simp) fun w6 h6 g6 => ⟨_, h6.cell (i := 0) rfl rfl, _, h6.cell (i := 1) rfl rfl, ?_⟩
          have := h w6 ((E4.st g5 l1).st g6 l1)
          unfold prL at this
          rw [hcut] at this
          exact this
        exact do_call Tryz.call68 (c_parseint (by simp; omega) (.inl (err (E2.trans e3))) (fun w4 e4 _ => retS_ret ⟨_, _, rfl, done w4 e4⟩) fun N w4 e4 _ => retS_ret ⟨_, _, rfl, done w4 e4⟩)
      exact do_call Tryz.call68 (c_parseint (by simp; omega) (.inl (err E2)) (fun w3 e3 _ => retS_ret ⟨_, _, rfl, fin w3 e3⟩) fun N w3 e3 _ => retS_ret ⟨_, _, rfl, fin w3 e3⟩)
    · have z2 : v[k] ≠ 58 := fun e => by rw [e] at z2; cases z2
      rw [wrap_succ z (by omega)]
      refine ⟨⟨k + 1, rfl, by omega, e, cut_drop z z2 hc⟩, ?_⟩
      show v.length - ((k + 1 : Nat) : Int).toNat < v.length - (k : Int).toNat
      omega
  · have z : k = v.length := by have := of_decide_eq_false z; omega
    have hcut : cutC v = none := by rw [hc, z, List.drop_length]; rfl
    refine do_st P2 (i := 0) rfl (by simp) fun w5 h5 g5 => do_st h5 (i := 1) rfl (by simp) fun w6 h6 g6 => ⟨_, h6.cell (i := 0) rfl rfl, _, h6.cell (i := 1) rfl rfl, ?_⟩
    have := h w6 (((e1.trans e).st g5 l1).st g6 l1)
    unfold prL at this
    rw [hcut] at this
    exact this
def toldN (what : Int) : List Bs := if what = 0 then opNames else if what = 1 then polNames else kindNames
theorem c_told {what k : Int} {w : World} {R : EW} (h0 : 0 ≤ k) (h1 : k < 256) (h : ∀ w', Ext w w' → R (.returned (strB ((toldN what).getD k.toNat []))) w') : Calls Tryz.prog 67 #[.int .i64 what, .int .u8 k] w R := by
  refine sh67_ok _ _ ?_
  unfold sh67
  unfold toldN at h
  refine ifB_intro (fun z => ?_) fun z => ifB_intro (fun z2 => ?_) fun z2 => ?_
  · have z : what = 0 := by simpa using z
    rw [if_pos z] at h
    exact do_call Tryz.call31 (c_r37word h0 h1 fun w1 e1 => retS_ret ⟨_, rfl, h w1 e1⟩)
  · have z : ¬ what = 0 := by simpa using z
    have z2 : what = 1 := by simpa using z2
    rw [if_neg z, if_pos z2] at h
    exact do_call Tryz.call33 (c_r37policy h0 h1 fun w1 e1 => retS_ret ⟨_, rfl, h w1 e1⟩)
  · have z : ¬ what = 0 := by simpa using z
    have z2 : ¬ what = 1 := by simpa using z2
    rw [if_neg z, if_neg z2] at h
    exact do_call Tryz.call61 (c_r37kind h0 h1 fun w1 e1 => retS_ret ⟨_, rfl, h w1 e1⟩)
theorem c_rnumber {v : Bs} {what : Int} {most : Nat} {w : World} {R : EW} (hm : (toldN what).length = most + 1) (hm2 : most ≤ 200) (h : ∀ w', Ext w w' → R (.returned (.int .u8 ((numW (toldN what) v : Nat) : Int))) w') : Calls Tryz.prog 47 #[strB v, .int .u8 (most : Int), .int .i64 what] w R := by
  refine sh47_ok _ _ _ ?_
  unfold sh47
  have hn : numW (toldN what) v = numG (toldN what) v 1 most := by unfold numW; rw [hm]; rfl
  refine ⟨fun vs w' => ∃ k : Nat, vs = [.int .u8 (k : Int)] ∧ 1 ≤ k ∧ k ≤ most + 1 ∧ Ext w w' ∧ numW (toldN what) v = numG (toldN what) v k (most + 1 - k), fun vs _ => match vs with | [.int _ i] => most + 1 - i.toNat | _ => 0, ⟨1, rfl, Nat.le_refl _, by omega, ext_refl _, hn⟩, ?_⟩
  rintro i_ _ w2 ⟨k, hv, hk1, hk2, e, hg⟩
  simp only [List.cons.injEq, Value.int.injEq, true_and, and_true] at hv
  subst hv
  refine ifB_intro (fun z => ?_) fun z => ?_
  · have z : k ≤ most := by have := of_decide_eq_true z; omega
    have hg' : numG (toldN what) v k (most + 1 - k) = if (toldN what).getD k [] = v then k else numG (toldN what) v (k + 1) (most + 1 - (k + 1)) := by
      rw [show most + 1 - k = (most + 1 - (k + 1)) + 1 by omega, numG]
    refine do_call Tryz.call67 (c_told (by omega) (by omega) fun w3 e3 => retS_ret ⟨_, rfl, ?_⟩)
    rw [strB_eq, show ((k : Nat) : Int).toNat = k by omega]
    refine ifB_intro (fun z2 => ?_) fun z2 => ?_
    · rw [if_pos (of_decide_eq_true z2)] at hg'
      have := h w3 (e.trans e3)
      rw [hg, hg'] at this
      exact this
    · rw [if_neg (of_decide_eq_false z2)] at hg'
      rw [show IntKind.wrap .u8 ((k : Int) + 1) = ((k + 1 : Nat) : Int) by rw [show (k : Int) + 1 = ((k + 1 : Nat) : Int) by omega, wrap_u8 _ (by omega)]]
      refine ⟨⟨k + 1, rfl, by omega, by omega, e.trans e3, by rw [hg, hg']⟩, ?_⟩
      show most + 1 - ((k + 1 : Nat) : Int).toNat < most + 1 - (k : Int).toNat
      omega
  · have z : k = most + 1 := by have := of_decide_eq_false z; omega
    have := h w2 e
    rw [hg, z, Nat.sub_self] at this
    exact this
end Go.Proofs.YtmkpkmdnapccgaaGreatDoor

