/-
  The op of a line, by what would be written (the document's answer).
-/
import Derived.Test.YtmkpkmdnapccgaaGreatDoorZ28
import Derived.Test.YtmkpkmdnapccgaaGreatDoorZ04
import Derived.Test.YtmkpkmdnapccgaaGreatDoorProg
import Derived.Test.YtmkpkmdnapccgaaGreatDoorZ02
import Derived.Test.YtmkpkmdnapccgaaGreatDoorZ05
import Derived.Test.YtmkpkmdnapccgaaGreatDoorZ23
import Derived.Test.YtmkpkmdnapccgaaGreatDoorRows
import Derived.Shelf.Vars
import Derived.SizedLaws
import Derived.Stop.LaidErr
import Derived.MakeChecks
import Derived.LaidLaws

set_option maxRecDepth 100000
set_option maxHeartbeats 6400000
namespace Go.Proofs.YtmkpkmdnapccgaaGreatDoor
open Go Go.Sh Go.RowKit

structure PD (tb rb xb nb zb B0 : Nat) (w0 : World) : Prop where
  z : w0.heap.size ≤ zb
  r : zb < rb
  t : rb < tb
  x : tb < xb
  n : xb < nb
  b : nb < B0
structure PS (nt : TypeId) (nc : Array Value) (T : POp × List Bs) (tb rb xb nb zb B0 : Nat) (w0 w : World) (r : POp × List Bs) (x : POp) (pv' kv : Value) (s : List Bs) : Prop where
  tk : LsI tb rb w s
  ot : OpAt w xb x pv' kv
  nm : Blk w nb nc nt
  zr : OpAt w zb .zero nilV nilV
  pr : w.ownsRow B0 49 2 pv' x.pairs.length (prs x.pairs)
  kr : w.ownsRow B0 2 1 kv x.keys.length (ints x.keys)
  res : r = T
  hs : B0 ≤ w.heap.size
  E : Ext w0 w
section
variable {nt : TypeId} {nc : Array Value} {T : POp × List Bs} {tb rb xb nb zb B0 : Nat} {w0 w : World} {r : POp × List Bs} {x : POp} {pv' kv : Value} {s : List Bs}
theorem PS.lsg (D : PD tb rb xb nb zb B0 w0) (hG : GOk w0) (hE : GErr w0) : LsG w0 tb := ⟨hG, hE, by have := D.z; have := D.r; have := D.t; omega⟩
theorem PS.take (D : PD tb rb xb nb zb B0 w0) (H : PS nt nc T tb rb xb nb zb B0 w0 w r x pv' kv s) {w2 : World} {r' : POp × List Bs} {s' : List Bs} (hT : LsI tb rb w2 s') (c2 : Chg (InOwn tb) (fun _ => False) w w2) (hr : r' = r) : PS nt nc T tb rb xb nb zb B0 w0 w2 r' x pv' kv s' := by
  obtain ⟨d1, d2, d3, d4, d5, d6⟩ := D
  have nt : ∀ {k : Nat}, k ≠ tb → ¬ InOwn tb w k := fun h e => h e
  exact ⟨hT, c2.blk H.ot (nt (by omega)) (fun h => h), c2.blk H.nm (nt (by omega)) (fun h => h), c2.blk H.zr (nt (by omega)) (fun h => h), chg_row c2 H.pr (fun k hk => nt (by have := (H.pr.lt k hk).1; omega)) (fun _ _ h => h),
    chg_row c2 H.kr (fun k hk => nt (by have := (H.kr.lt k hk).1; omega)) (fun _ _ h => h), hr.trans H.res, Nat.le_trans H.hs c2.size, below_chg H.E c2 (fun k hk e => by have e : k = tb := e; omega) (fun _ _ h => h)⟩
theorem PS.ext (H : PS nt nc T tb rb xb nb zb B0 w0 w r x pv' kv s) {w2 : World} (e : Ext w w2) : PS nt nc T tb rb xb nb zb B0 w0 w2 r x pv' kv s :=
  ⟨H.tk.ext e, Blk.ext H.ot e, H.nm.ext e, Blk.ext H.zr e, e.row H.pr, e.row H.kr, H.res, Nat.le_trans H.hs e.size, H.E.trans e⟩
theorem PS.re (H : PS nt nc T tb rb xb nb zb B0 w0 w r x pv' kv s) {r' : POp × List Bs} (h : r' = r) : PS nt nc T tb rb xb nb zb B0 w0 w r' x pv' kv s := ⟨H.tk, H.ot, H.nm, H.zr, H.pr, H.kr, h.trans H.res, H.hs, H.E⟩
theorem PS.set (D : PD tb rb xb nb zb B0 w0) (H : PS nt nc T tb rb xb nb zb B0 w0 w r x pv' kv s) {i : Nat} {v : Value} {y : POp} {a : Addr} {K : World → Prop} (ha : a = ⟨xb, i, none⟩) (hi : i < 15) (hy : (opCells x pv' kv).setIfInBounds i v = opCells y pv' kv) (hp : y.pairs = x.pairs) (hk : y.keys = x.keys)
    (k : ∀ w', PS nt nc T tb rb xb nb zb B0 w0 w' r y pv' kv s → K w') : doSt a v w K := by
  obtain ⟨d1, d2, d3, d4, d5, d6⟩ := D
  refine do_st H.ot ha hi fun w' h2 g2 => k w' ?_
  rw [hy] at h2
  exact ⟨H.tk.keep (g2.block _ H.tk.lt (ne_some (by omega))) (g2.block _ H.tk.rl (ne_some (by omega))), h2, H.nm.grown g2 (ne_some (by omega)), Blk.grown H.zr g2 (ne_some (by omega)), by rw [hp]; exact keep_row H.pr fun b hb => g2.block b (H.pr.lt b hb).2 (ne_some (by have := (H.pr.lt b hb).1; omega)),
    by rw [hk]; exact keep_row H.kr fun b hb => g2.block b (H.kr.lt b hb).2 (ne_some (by have := (H.kr.lt b hb).1; omega)), H.res, Nat.le_trans H.hs g2.size, H.E.st g2 (by omega)⟩
theorem PS.num (D : PD tb rb xb nb zb B0 w0) (hG : LsG w0 tb) (H : PS nt nc T tb rb xb nb zb B0 w0 w r x pv' kv s) {i : Nat} {y : Int → POp} {a : Addr} {K : World → Prop} {Kp : List PanicEntry → World → Prop} (ha : a = ⟨xb, i, none⟩) (hi : i < 15)
    (hy : ∀ v, (opCells x pv' kv).setIfInBounds i (.int .i64 v) = opCells (y v) pv' kv) (hp : ∀ v, (y v).pairs = x.pairs) (hk : ∀ v, (y v).keys = x.keys) (k : ∀ w', PS nt nc T tb rb xb nb zb B0 w0 w' r (y (pv (s.headD []))) pv' kv s.tail → K w') :
    Calls Tryz.prog 49 #[.pointer (some (blk tb))] w (retS (fun v7 w8 => ∃ (x6 : Int), v7 = (.int .i64 x6 : Value) ∧ doSt a (.int .i64 x6) w8 K) Kp) :=
  c_lnum hG H.E H.tk fun w2 hT2 c2 => retS_ret ⟨_, rfl, (H.take D hT2 c2 rfl).set D ha hi (hy _) (hp _) (hk _) fun w3 H3 => k w3 H3⟩
theorem PS.pushP (D : PD tb rb xb nb zb B0 w0) {p : OA} {n c : Nat} (H : PS nt nc T tb rb xb nb zb B0 w0 w r x (.slice p n c) nilV s) (hn : x.pairs.length = n) (hnk : x.keys = []) (hlen : n ≤ 1000000) {b : Nat} {v1 v2 : Int} {t : TypeId} (hb : Blk w b #[.int .i64 v1, .int .i64 v2] t) {bs : Array Bool} {K : World → Prop} {Kp : List PanicEntry → World → Prop}
    {a : Addr} (ha : a = ⟨xb, 13, none⟩) (k : ∀ p' c' w', PS nt nc T tb rb xb nb zb B0 w0 w' r { x with pairs := x.pairs ++ [(v1, v2)] } (.slice p' (n + 1) c') nilV s → K w') :
    doGo Tryz.prog (.builtin .append #[34, 34] 34 bs) #[.slice p n c, .slice (some (blk b)) 1 1] w (retS (fun v w' => ∃ (xp : OA), ∃ (xn : Nat), ∃ (xc : Nat), v = (.slice xp xn xc : Value) ∧ doSt a (.slice xp xn xc) w' K) Kp) := by
  obtain ⟨d1, d2, d3, d4, d5, d6⟩ := D
  have row := H.pr
  rw [hn] at row
  refine do_append' elP row (m := 1) (cs_blk hb) (by simp) (by simp [Value.oneCell']) (by simp only [maxLen]; omega) (by omega) H.hs fun p' c' w2 row2 g2 n2 => retS_ret ⟨p', _, c', rfl, ?_⟩
  have ng : ∀ {k : Nat}, k < B0 → some k ≠ (Value.slice p n c).ownBlock := fun h e => by have := (row.lt _ e.symm).1; omega
  have X2 : OpAt w2 xb x (.slice p n c) nilV := Blk.grown H.ot g2 (ng (by omega))
  refine do_st X2 ha (by decide : 13 < 15) fun w3 X3 g3 => k p' c' w3 ?_
  have X3 : OpAt w3 xb { x with pairs := x.pairs ++ [(v1, v2)] } (.slice p' (n + 1) c') nilV := X3
  have row3 := keep_row row2 fun b hbb => g3.block b (row2.lt b hbb).2 (ne_some (by have := (row2.lt b hbb).1; omega))
  have T2 : LsI tb rb w2 s := H.tk.keep (g2.block _ H.tk.lt (ng (by omega))) (g2.block _ H.tk.rl (ng (by omega)))
  refine ⟨T2.keep (g3.block _ T2.lt (ne_some (by omega))) (g3.block _ T2.rl (ne_some (by omega))), X3, (H.nm.grown g2 (ng (by omega))).grown g3 (ne_some (by omega)), Blk.grown (Blk.grown H.zr g2 (ng (by omega))) g3 (ne_some (by omega)), ?_, ?_, H.res, Nat.le_trans H.hs (Nat.le_trans g2.size g3.size),
    (H.E.grown g2 fun b hb => by have := (row.lt b hb).1; omega).st g3 (by omega)⟩
  · show w3.ownsRow B0 _ 2 _ (x.pairs ++ [(v1, v2)]).length (prs (x.pairs ++ [(v1, v2)]))
    rw [List.length_append, hn]
    have : prs (x.pairs ++ [(v1, v2)]) = prs x.pairs ++ [.int .i64 v1, .int .i64 v2] := by simp [prs]
    rw [this]; exact row3
  · show w3.ownsRow B0 _ 1 _ x.keys.length (ints x.keys)
    rw [hnk]; exact World.ownsRow_nil _ _ _ _
theorem PS.pushK (D : PD tb rb xb nb zb B0 w0) {p : OA} {n c B1 : Nat} (H : PS nt nc T tb rb xb nb zb B0 w0 w r x pv' (.slice p n c) s) (hn : x.keys.length = n) (hlen : n ≤ 1000000) (row : w.ownsRow B1 2 1 (.slice p n c) n (ints x.keys)) (hpB : ∀ b, pv'.ownBlock = some b → b < B1) (hB1 : B0 ≤ B1) (hB : B1 ≤ w.heap.size) {b : Nat} {v1 : Int} {t : TypeId} (hb : Blk w b #[.int .i64 v1] t) {bs : Array Bool} {K : World → Prop} {Kp : List PanicEntry → World → Prop}
    {a : Addr} (ha : a = ⟨xb, 14, none⟩) (k : ∀ p' c' w', PS nt nc T tb rb xb nb zb B0 w0 w' r { x with keys := x.keys ++ [v1] } pv' (.slice p' (n + 1) c') s → w'.ownsRow B1 2 1 (.slice p' (n + 1) c') (n + 1) (ints (x.keys ++ [v1])) → B1 ≤ w'.heap.size → K w') :
    doGo Tryz.prog (.builtin .append #[35, 35] 35 bs) #[.slice p n c, .slice (some (blk b)) 1 1] w (retS (fun v w' => ∃ (xp : OA), ∃ (xn : Nat), ∃ (xc : Nat), v = (.slice xp xn xc : Value) ∧ doSt a (.slice xp xn xc) w' K) Kp) := by
  obtain ⟨d1, d2, d3, d4, d5, d6⟩ := D
  refine do_append' elIo row (m := 1) (cs_blk hb) (by simp) (by simp [Value.oneCell']) (by simp only [maxLen]; omega) (by omega) hB fun p' c' w2 row2 g2 n2 => retS_ret ⟨p', _, c', rfl, ?_⟩
  have ng : ∀ {k : Nat}, k < B1 → some k ≠ (Value.slice p n c).ownBlock := fun h e => by have := (row.lt _ e.symm).1; omega
  have X2 : OpAt w2 xb x pv' (.slice p n c) := Blk.grown H.ot g2 (ng (by omega))
  refine do_st X2 ha (by decide : 14 < 15) fun w3 X3 g3 => k p' c' w3 ?_ ?_ (by have := g2.size; have := g3.size; omega)
  · have X3 : OpAt w3 xb { x with keys := x.keys ++ [v1] } pv' (.slice p' (n + 1) c') := X3
    have row3 := keep_row row2 fun b hbb => g3.block b (row2.lt b hbb).2 (ne_some (by have := (row2.lt b hbb).1; omega))
    have T2 : LsI tb rb w2 s := H.tk.keep (g2.block _ H.tk.lt (ng (by omega))) (g2.block _ H.tk.rl (ng (by omega)))
    refine ⟨T2.keep (g3.block _ T2.lt (ne_some (by omega))) (g3.block _ T2.rl (ne_some (by omega))), X3, (H.nm.grown g2 (ng (by omega))).grown g3 (ne_some (by omega)), Blk.grown (Blk.grown H.zr g2 (ng (by omega))) g3 (ne_some (by omega)), ?_, ?_, H.res, Nat.le_trans H.hs (Nat.le_trans g2.size g3.size),
      (H.E.grown g2 fun b hb => by have := (row.lt b hb).1; omega).st g3 (by omega)⟩
    · have r2 := keep_row H.pr fun b hb => g2.block b (H.pr.lt b hb).2 (ng (hpB b hb))
      exact keep_row r2 fun b hb => g3.block b (r2.lt b hb).2 (ne_some (by have := (r2.lt b hb).1; omega))
    · show w3.ownsRow B0 _ 1 _ (x.keys ++ [v1]).length (ints (x.keys ++ [v1]))
      rw [List.length_append, hn]
      have : ints (x.keys ++ [v1]) = ints x.keys ++ [.int .i64 v1] := by simp [ints]
      rw [this]; exact row_mono row3 hB1
  · have : ints (x.keys ++ [v1]) = ints x.keys ++ [.int .i64 v1] := by simp [ints]
    rw [this]
    exact keep_row row2 fun b hbb => g3.block b (row2.lt b hbb).2 (ne_some (by have := (row2.lt b hbb).1; omega))
end
def leftW (tb : Nat) (w : World) : Nat := match w.cell? (blk tb) with
  | some (.slice _ n _) => n
  | _ => 0
theorem leftW_of {tb rb : Nat} {w : World} {s : List Bs} (h : LsI tb rb w s) : leftW tb w = s.length := by
  obtain ⟨a, c, _, h2, _⟩ := h.ex
  unfold leftW
  rw [h2.cell (i := 0) rfl rfl]
  rfl
theorem predK_cons (x : POp) (f : Bool) (t : List Bs) : lenPredK x f t = lenPredK x f (t.headD [] :: t.tail) := by cases t <;> rfl
theorem lenAll_in (s : List Bs) : InO (lenAll s).1 := by
  have : numW opNames (s.headD []) < 23 := numW_lt (ns := opNames) _ (by decide)
  unfold lenAll
  refine lens_in ?_
  have z := zero_in
  exact ⟨⟨by show 0 ≤ ((numW opNames (s.headD []) : Nat) : Int); omega, by show ((numW opNames (s.headD []) : Nat) : Int) < 256; omega⟩, z.a, z.b, z.key, z.val, z.lo, z.hi, z.n, z.pol, z.pk, z.pa, z.pb, z.pairs, z.keys⟩

theorem c_rp9 {d : Int} {line : Bs} {tb rb xb nb zb B0 : Nat} {w0 : World} {R : EW} (D : PD tb rb xb nb zb B0 w0) (hG : GOk w0) (hE : GErr w0)
    (h : ∀ pv kv w', Ext w0 w' → OpRd w' (parseR line).1 pv kv → R (.returned (.tuple #[opV (parseR line).1 pv kv, .int .i64 (parseR line).2])) w') (hll : line.length ≤ 262144)
    {x : POp} {pv' : Value} {s : List Bs} {w : World} (hk : x.keys = []) (hs : s.length ≤ 300000) (H : PS 67 (nmCells d) (lenAll (splitW line)) tb rb xb nb zb B0 w0 w (lens (FP d 10) x s) x pv' nilV s) : sh22k9 R [strB line, .pointer (some (blk zb)), .pointer (some (blk tb)), .pointer (some (blk xb)), .pointer (some (blk nb))] w := ⟨_, _, _, _, _, rfl, by
  have hG' := PS.lsg D hG hE
  have D0 := D
  obtain ⟨d1, d2, d3, d4, d5, d6⟩ := D0
  unfold sh22b9
  intro K7
  have fin : ∀ (r : POp × List Bs) (x : POp) (pv' kv : Value) (s : List Bs) (w' : World), PS 67 (nmCells d) (lenAll (splitW line)) tb rb xb nb zb B0 w0 w' r x pv' kv s → r.1 = x → K7 w' := fun r x pv' kv s w' H hr => by
    obtain ⟨p, c, rfl⟩ := row_slice H.pr
    obtain ⟨q, c', rfl⟩ := row_slice H.kr
    have hX : (lenAll (splitW line)).1 = x := by rw [← H.res]; exact hr
    have hin : InO x := by rw [← hX]; exact lenAll_in _
    have hrd : OpRd w' x (.slice p x.pairs.length c) (.slice q x.keys.length c') := ⟨⟨p, c, rfl, row_cap H.pr, Cs.of_row H.pr, rd_lt (Cs.of_row H.pr)⟩, ⟨q, c', rfl, row_cap H.kr, Cs.of_row H.kr, rd_lt (Cs.of_row H.kr)⟩⟩
    refine ⟨_, Blk.cell (i := 0) H.ot rfl rfl, _, Blk.cell (i := 1) H.ot rfl rfl, _, Blk.cell (i := 2) H.ot rfl rfl, _, Blk.cell (i := 3) H.ot rfl rfl, _, Blk.cell (i := 4) H.ot rfl rfl, _, Blk.cell (i := 5) H.ot rfl rfl, _, Blk.cell (i := 6) H.ot rfl rfl, _, Blk.cell (i := 7) H.ot rfl rfl, _, Blk.cell (i := 8) H.ot rfl rfl, _, Blk.cell (i := 9) H.ot rfl rfl, _, Blk.cell (i := 10) H.ot rfl rfl, _, Blk.cell (i := 11) H.ot rfl rfl, _, Blk.cell (i := 12) H.ot rfl rfl, _, _, _, Blk.cell (i := 13) H.ot rfl rfl, _, _, _, Blk.cell (i := 14) H.ot rfl rfl, do_call Tryz.call15 (c_r37line (hG.ext H.E).tab hin hrd fun w2 e2 => retS_ret ⟨_, _, rfl, ?_⟩)⟩
    have H2 := H.ext e2
    intro K33
    have no : ¬ (mayO x = true ∧ lineO x = line) → K33 true w2 := fun hno => by
      have hR := parse_no (s := line) (by rw [hX]; exact hno)
      refine ifB_t rfl (st15 H2.zr fun w3 Z3 g3 => ⟨_, Blk.cell (i := 0) Z3 rfl rfl, _, Blk.cell (i := 1) Z3 rfl rfl, _, Blk.cell (i := 2) Z3 rfl rfl, _, Blk.cell (i := 3) Z3 rfl rfl, _, Blk.cell (i := 4) Z3 rfl rfl, _, Blk.cell (i := 5) Z3 rfl rfl, _, Blk.cell (i := 6) Z3 rfl rfl, _, Blk.cell (i := 7) Z3 rfl rfl, _, Blk.cell (i := 8) Z3 rfl rfl, _, Blk.cell (i := 9) Z3 rfl rfl, _, Blk.cell (i := 10) Z3 rfl rfl, _, Blk.cell (i := 11) Z3 rfl rfl, _, Blk.cell (i := 12) Z3 rfl rfl, _, _, _, Blk.cell (i := 13) Z3 rfl rfl, _, _, _, Blk.cell (i := 14) Z3 rfl rfl, ?_⟩)
      have := h nilV nilV w3 (H2.E.st g3 d1) (by rw [hR]; exact zero_rd _)
      rw [hR] at this
      exact this
    by_cases hm : mayO x = true
    case neg =>
      have hL : lineR x = ([], 2) := by unfold lineR; rw [if_neg hm]
      rw [hL]
      exact ifB_t rfl (no fun e => hm e.1)
    have hL : lineR x = (lineO x, 0) := by unfold lineR; rw [if_pos hm]
    rw [hL]
    refine ifB_f rfl ?_
    rw [strB_eq]
    by_cases hl : lineO x = line
    case neg =>
      rw [show (!decide (lineO x = line)) = true by simpa using hl]
      exact no fun e => hl e.2
    rw [show (!decide (lineO x = line)) = false by simpa using hl]
    have hR := parse_yes (s := line) (by rw [hX]; exact hin) (by rw [hX]; exact hm) (by rw [hX]; exact hl)
    rw [hX] at hR
    refine ifB_f rfl ⟨_, Blk.cell (i := 0) H2.ot rfl rfl, _, Blk.cell (i := 1) H2.ot rfl rfl, _, Blk.cell (i := 2) H2.ot rfl rfl, _, Blk.cell (i := 3) H2.ot rfl rfl, _, Blk.cell (i := 4) H2.ot rfl rfl, _, Blk.cell (i := 5) H2.ot rfl rfl, _, Blk.cell (i := 6) H2.ot rfl rfl, _, Blk.cell (i := 7) H2.ot rfl rfl, _, Blk.cell (i := 8) H2.ot rfl rfl, _, Blk.cell (i := 9) H2.ot rfl rfl, _, Blk.cell (i := 10) H2.ot rfl rfl, _, Blk.cell (i := 11) H2.ot rfl rfl, _, Blk.cell (i := 12) H2.ot rfl rfl, _, _, _, Blk.cell (i := 13) H2.ot rfl rfl, _, _, _, Blk.cell (i := 14) H2.ot rfl rfl, st15 H2.zr fun w3 Z3 g3 => ?_⟩
    have Z3 : OpAt w3 zb x (.slice p x.pairs.length c) (.slice q x.keys.length c') := Z3
    have rp := keep_row H2.pr fun b hb => g3.block b (H2.pr.lt b hb).2 (ne_some (by have := (H2.pr.lt b hb).1; omega))
    have rk := keep_row H2.kr fun b hb => g3.block b (H2.kr.lt b hb).2 (ne_some (by have := (H2.kr.lt b hb).1; omega))
    refine ⟨_, Blk.cell (i := 0) Z3 rfl rfl, _, Blk.cell (i := 1) Z3 rfl rfl, _, Blk.cell (i := 2) Z3 rfl rfl, _, Blk.cell (i := 3) Z3 rfl rfl, _, Blk.cell (i := 4) Z3 rfl rfl, _, Blk.cell (i := 5) Z3 rfl rfl, _, Blk.cell (i := 6) Z3 rfl rfl, _, Blk.cell (i := 7) Z3 rfl rfl, _, Blk.cell (i := 8) Z3 rfl rfl, _, Blk.cell (i := 9) Z3 rfl rfl, _, Blk.cell (i := 10) Z3 rfl rfl, _, Blk.cell (i := 11) Z3 rfl rfl, _, Blk.cell (i := 12) Z3 rfl rfl, _, _, _, Blk.cell (i := 13) Z3 rfl rfl, _, _, _, Blk.cell (i := 14) Z3 rfl rfl, ?_⟩
    have := h (.slice p x.pairs.length c) (.slice q x.keys.length c') w3 (H2.E.st g3 d1) (by rw [hR]; exact ⟨⟨p, c, rfl, row_cap rp, Cs.of_row rp, rd_lt (Cs.of_row rp)⟩, ⟨q, c', rfl, row_cap rk, Cs.of_row rk, rd_lt (Cs.of_row rk)⟩⟩)
    rw [hR] at this
    exact this
  by_cases z : hasP .keys d = true
  case neg =>
    have z : hasP .keys d = false := by simpa using z
    refine ⟨fun vs w' => vs = [] ∧ PS 67 (nmCells d) (lenAll (splitW line)) tb rb xb nb zb B0 w0 w' (lens (FP d 10) x s) x pv' nilV s, fun _ _ => 0, ⟨rfl, H⟩, ?_⟩
    rintro _ w3 ⟨-, H3⟩
    intro K127
    exact ⟨_, H3.nm.cell (i := 10) rfl rfl, ifB_f z (fin _ _ _ _ _ _ H3 (by rw [fp_no (i := 10) (q := .keys) rfl z]; rfl))⟩
  refine ⟨fun vs w' => vs = [] ∧ ∃ (L : List Int) (p : OA) (c : Nat) (s' : List Bs), PS 67 (nmCells d) (lenAll (splitW line)) tb rb xb nb zb B0 w0 w' ({ x with keys := L ++ s'.map pv }, ([] : List Bs)) { x with keys := L } pv' (.slice p L.length c) s' ∧ w'.ownsRow w.heap.size 2 1 (.slice p L.length c) L.length (ints L) ∧ w.heap.size ≤ w'.heap.size ∧ L.length + s'.length ≤ s.length,
    fun _ w' => leftW tb w', ⟨rfl, [], none, 0, s, ?_, World.ownsRow_nil _ _ _ _, Nat.le_refl _, by simp⟩, ?_⟩
  · rw [keys_nil hk]
    refine H.re ?_
    rw [fp_yes (i := 10) (q := .keys) rfl z]
    simp only [lens, lenP, hk, List.nil_append]
    rfl
  rintro _ w3 ⟨-, L, p, c, s', H3, row, hw3, hLs⟩
  intro K127
  refine ⟨_, H3.nm.cell (i := 10) rfl rfl, ifB_t z ?_⟩
  obtain ⟨ra, rc, hra, hrb, hrs, hrn⟩ := H3.tk.ex
  refine ⟨_, rfl, _, _, _, hrb.cell (i := 0) rfl rfl, ifB_intro (fun zk => ?_) fun zk => ?_⟩
  case refine_2 =>
    have zk : s' = [] := by
      have := of_decide_eq_false zk
      exact List.eq_nil_of_length_eq_zero (by omega)
    subst zk
    exact fin _ _ _ _ _ _ H3 (by simp)
  have zk : 0 < s'.length := by have := of_decide_eq_true zk; omega
  obtain ⟨v, t, rfl⟩ : ∃ v t, s' = v :: t := by
    cases s' with
    | nil => simp at zk
    | cons v t => exact ⟨v, t, rfl⟩
  refine ⟨?_⟩
  have e4 := ext_drew w3
  have H4 := H3.ext e4
  have row4 := e4.row row
  have hleft := leftW_of H3.tk
  generalize w3.drew = w4 at *
  refine ⟨fun w' => OpAt w' xb { x with keys := L } pv' (.slice p L.length c), H4.ot, _, _, _, fun w' h' => Blk.cell (i := 14) h' rfl rfl, ?_⟩
  refine do_call Tryz.call49 (c_lnum hG' H4.E H4.tk fun w5 hT5 c5 => retS_ret ⟨_, rfl, ?_⟩)
  have H5 := H4.take D (r' := ({ x with keys := (L ++ [pv v]) ++ t.map pv }, ([] : List Bs))) hT5 c5 (by simp)
  have row5 := chg_row c5 row4 (fun j hj => fun e => by have e : j = tb := e; have := (row4.lt j hj).1; have := H.hs; omega) (fun _ _ h => h)
  refine ⟨H5.ot, do_al fun b6 w6 e6 B6 l6 => ⟨(H5.ext e6).ot, ?_⟩⟩
  refine (H5.ext e6).pushK D rfl (by simp only [List.length_cons] at hLs; show L.length ≤ 1000000; omega) (e6.row row5) (fun b hb => (H.pr.lt b hb).2) H.hs (by have := c5.size; have := e6.size; have := e4.size; omega) B6 rfl fun p' c' w7 H7 row7 h7 => ?_
  refine ⟨⟨rfl, L ++ [pv v], p', c', t, by rw [List.length_append]; exact H7, by rw [List.length_append]; exact row7, h7, by simp only [List.length_append, List.length_cons, List.length_nil] at hLs ⊢; omega⟩, ?_⟩
  show leftW tb w7 < leftW tb w3
  rw [hleft, leftW_of H7.tk]
  show t.length < t.length + 1
  omega⟩
theorem c_rp8 {d : Int} {line : Bs} {tb rb xb nb zb B0 : Nat} {w0 : World} {R : EW} (D : PD tb rb xb nb zb B0 w0) (hG : GOk w0) (hE : GErr w0)
    (h : ∀ pv kv w', Ext w0 w' → OpRd w' (parseR line).1 pv kv → R (.returned (.tuple #[opV (parseR line).1 pv kv, .int .i64 (parseR line).2])) w') (hll : line.length ≤ 262144)
    {x : POp} {s : List Bs} {w : World} (hp : x.pairs = []) (hk : x.keys = []) (hs : s.length ≤ 300000) (H : PS 67 (nmCells d) (lenAll (splitW line)) tb rb xb nb zb B0 w0 w (lens (FP d 9) x s) x nilV nilV s) : sh22k8 R [strB line, .pointer (some (blk zb)), .pointer (some (blk tb)), .pointer (some (blk xb)), .pointer (some (blk nb))] w := ⟨_, _, _, _, _, rfl, by
  have hG' := PS.lsg D hG hE
  unfold sh22b8
  by_cases z : hasP .pairs d = true
  case neg =>
    have z : hasP .pairs d = false := by simpa using z
    refine ⟨fun vs w' => vs = [] ∧ PS 67 (nmCells d) (lenAll (splitW line)) tb rb xb nb zb B0 w0 w' (lens (FP d 9) x s) x nilV nilV s, fun _ _ => 0, ⟨rfl, H⟩, ?_⟩
    rintro _ w3 ⟨-, H3⟩
    intro K12
    exact ⟨_, H3.nm.cell (i := 9) rfl rfl, ifB_f z (c_rp9 D hG hE h hll hk hs (H3.re (by rw [fp_no (i := 9) (q := .pairs) rfl z])))⟩
  refine ⟨fun vs w' => vs = [] ∧ ∃ (L : List (Int × Int)) (p : OA) (c : Nat) (s' : List Bs), PS 67 (nmCells d) (lenAll (splitW line)) tb rb xb nb zb B0 w0 w' (lens (FP d 10) { x with pairs := L ++ s'.map prL } ([] : List Bs)) { x with pairs := L } (.slice p L.length c) nilV s' ∧ L.length + s'.length ≤ s.length,
    fun _ w' => leftW tb w', ⟨rfl, [], none, 0, s, ?_, by simp⟩, ?_⟩
  · rw [pairs_nil hp]
    refine H.re ?_
    rw [fp_yes (i := 9) (q := .pairs) rfl z]
    simp only [lens, lenP, hp, List.nil_append]
  rintro _ w3 ⟨-, L, p, c, s', H3, hLs⟩
  intro K12
  refine ⟨_, H3.nm.cell (i := 9) rfl rfl, ifB_t z ?_⟩
  obtain ⟨ra, rc, hra, hrb, hrs, hrn⟩ := H3.tk.ex
  refine ⟨_, rfl, _, _, _, hrb.cell (i := 0) rfl rfl, ifB_intro (fun zk => ?_) fun zk => ?_⟩
  case refine_2 =>
    have zk : s' = [] := by
      have := of_decide_eq_false zk
      exact List.eq_nil_of_length_eq_zero (by omega)
    subst zk
    exact c_rp9 D hG hE h hll (x := { x with pairs := L }) hk (by simp) (H3.re (by simp))
  have zk : 0 < s'.length := by have := of_decide_eq_true zk; omega
  obtain ⟨v, t, rfl⟩ : ∃ v t, s' = v :: t := by
    cases s' with
    | nil => simp at zk
    | cons v t => exact ⟨v, t, rfl⟩
  refine ⟨?_⟩
  have e4 := ext_drew w3
  have H4 := H3.ext e4
  have hleft := leftW_of H3.tk
  generalize w3.drew = w4 at *
  refine ⟨fun w' => OpAt w' xb { x with pairs := L } (.slice p L.length c) nilV, H4.ot, _, _, _, fun w' h' => Blk.cell (i := 13) h' rfl rfl, ?_⟩
  refine do_call Tryz.call48 (c_lnext H4.tk fun w5 hT5 c5 => retS_ret ⟨_, rfl, ?_⟩)
  have H5 := H4.take D (r' := lens (FP d 10) { x with pairs := (L ++ [prL v]) ++ t.map prL } ([] : List Bs)) hT5 c5 (by simp)
  refine ⟨H5.ot, ?_⟩
  refine do_call Tryz.call50 (c_rpair (v := v) (H4.tk.len v (by simp)) (hG.ext H5.E) (hG'.err H5.E) fun w6 e6 => retS_ret ⟨_, _, rfl, ?_⟩)
  have H6 := H5.ext e6
  refine ⟨H6.ot, do_al fun b7 w7 e7 B7 l7 => ⟨(H6.ext e7).ot, ?_⟩⟩
  refine (H6.ext e7).pushP D rfl hk (by simp only [List.length_cons] at hLs; show L.length ≤ 1000000; omega) B7 rfl fun p' c' w8 H8 => ?_
  refine ⟨⟨rfl, L ++ [prL v], p', c', t, by rw [List.length_append]; exact H8, by simp only [List.length_append, List.length_cons, List.length_nil] at hLs ⊢; omega⟩, ?_⟩
  show leftW tb w8 < leftW tb w3
  rw [hleft, leftW_of H8.tk]
  show t.length < t.length + 1
  omega⟩
theorem c_rp7 {d : Int} {line : Bs} {tb rb xb nb zb B0 : Nat} {w0 : World} {R : EW} (D : PD tb rb xb nb zb B0 w0) (hG : GOk w0) (hE : GErr w0)
    (h : ∀ pv kv w', Ext w0 w' → OpRd w' (parseR line).1 pv kv → R (.returned (.tuple #[opV (parseR line).1 pv kv, .int .i64 (parseR line).2])) w') (hll : line.length ≤ 262144)
    {x : POp} {s : List Bs} {w : World} (hp : x.pairs = []) (hk : x.keys = []) (hs : s.length ≤ 300000) (H : PS 67 (nmCells d) (lenAll (splitW line)) tb rb xb nb zb B0 w0 w (lens (FP d 8) x s) x nilV nilV s) : sh22k7 R [strB line, .pointer (some (blk zb)), .pointer (some (blk tb)), .pointer (some (blk xb)), .pointer (some (blk nb))] w := ⟨_, _, _, _, _, rfl, by
  have hG' := PS.lsg D hG hE
  unfold sh22b7
  refine ⟨_, H.nm.cell (i := 8) rfl rfl, ifB_intro (fun z => ?_) fun z => ?_⟩
  case refine_2 => exact c_rp8 D hG hE h hll hp hk hs (H.re (by rw [fp_no (i := 8) (q := .pred) rfl z]))
  have hr : lens (FP d 8) x s = lens (FP d 9) (lenPred x s).1 (lenPred x s).2 := by rw [fp_yes (i := 8) (q := .pred) rfl z]; rfl
  refine do_call Tryz.call48 (c_lnext H.tk fun w2 hT2 c2 => retS_ret ⟨_, rfl, ?_⟩)
  intro K12
  have go : ∀ (f : Bool) (v : Bs) (t : List Bs) (w' : World), t.length ≤ 300000 → PS 67 (nmCells d) (lenAll (splitW line)) tb rb xb nb zb B0 w0 w' (lens (FP d 9) (lenPredK x f (v :: t)).1 (lenPredK x f (v :: t)).2) { x with pnot := f } nilV nilV t → K12 ⟨v.toArray⟩ w' := fun f v t w' ht H => by
    refine do_call Tryz.call47 (c_rnumber (what := 2) (most := 5) (by decide) (by omega) fun w3 e3 => retS_ret ⟨_, rfl, ?_⟩)
    refine (H.ext e3).set D (i := 9) (y := { x with pnot := f, pk := ((numW kindNames v : Nat) : Int) }) rfl (by decide) rfl rfl rfl fun w4 H4 => ⟨_, Blk.cell (i := 9) H4.ot rfl rfl, ifB_intro (fun z2 => ?_) fun z2 => ?_⟩
    · have z2 : ¬ ((numW kindNames v : Nat) : Int) = 1 := by simpa using z2
      refine do_call Tryz.call49 (H4.num D hG' (i := 10) (y := fun u => { x with pnot := f, pk := ((numW kindNames v : Nat) : Int), pa := u }) rfl (by decide) (fun _ => rfl) (fun _ => rfl) (fun _ => rfl) fun w5 H5 => ?_)
      refine do_call Tryz.call49 (H5.num D hG' (i := 11) (y := fun u => { x with pnot := f, pk := ((numW kindNames v : Nat) : Int), pa := pv (t.headD []), pb := u }) rfl (by decide) (fun _ => rfl) (fun _ => rfl) (fun _ => rfl) fun w6 H6 => ?_)
      refine c_rp8 D hG hE h hll (x := { x with pnot := f, pk := ((numW kindNames v : Nat) : Int), pa := pv (t.headD []), pb := pv (t.tail.headD []) }) hp hk (by rw [List.length_tail, List.length_tail]; omega) (H6.re ?_)
      unfold lenPredK
      rw [if_neg (by exact z2)]
      rfl
    · have z2 : ((numW kindNames v : Nat) : Int) = 1 := by simpa using z2
      refine c_rp8 D hG hE h hll (x := { x with pnot := f, pk := ((numW kindNames v : Nat) : Int) }) hp hk ht (H4.re ?_)
      unfold lenPredK
      rw [if_pos (by exact z2)]
      rfl
  rw [show (⟨#[110, 111, 116]⟩ : ByteArray) = ⟨notW.toArray⟩ from rfl, strB_eq]
  refine ifB_intro (fun z2 => ?_) fun z2 => ?_
  · have z2 := of_decide_eq_true z2
    refine (H.take D (r' := lens (FP d 9) (lenPredK x true s.tail).1 (lenPredK x true s.tail).2) hT2 c2 (by rw [hr]; unfold lenPred; rw [if_pos z2])).set D (i := 12) (y := { x with pnot := true }) rfl (by decide) rfl rfl rfl fun w3 H3 => ?_
    refine do_call Tryz.call48 (c_lnext H3.tk fun w4 hT4 c4 => retS_ret ⟨_, rfl, ?_⟩)
    exact go true _ _ w4 (by rw [List.length_tail, List.length_tail]; omega) (H3.take D hT4 c4 (by rw [← predK_cons]))
  · have z2 := of_decide_eq_false z2
    exact go x.pnot _ _ w2 (by rw [List.length_tail]; omega) (H.take D hT2 c2 (by rw [hr]; unfold lenPred; rw [if_neg z2, ← predK_cons]))⟩
theorem c_rp6 {d : Int} {line : Bs} {tb rb xb nb zb B0 : Nat} {w0 : World} {R : EW} (D : PD tb rb xb nb zb B0 w0) (hG : GOk w0) (hE : GErr w0)
    (h : ∀ pv kv w', Ext w0 w' → OpRd w' (parseR line).1 pv kv → R (.returned (.tuple #[opV (parseR line).1 pv kv, .int .i64 (parseR line).2])) w') (hll : line.length ≤ 262144)
    {x : POp} {s : List Bs} {w : World} (hp : x.pairs = []) (hk : x.keys = []) (hs : s.length ≤ 300000) (H : PS 67 (nmCells d) (lenAll (splitW line)) tb rb xb nb zb B0 w0 w (lens (FP d 7) x s) x nilV nilV s) : sh22k6 R [strB line, .pointer (some (blk zb)), .pointer (some (blk tb)), .pointer (some (blk xb)), .pointer (some (blk nb))] w := ⟨_, _, _, _, _, rfl, by
  have hG' := PS.lsg D hG hE
  unfold sh22b6
  refine ⟨_, H.nm.cell (i := 7) rfl rfl, ifB_intro (fun z => ?_) fun z => ?_⟩
  case refine_2 => exact c_rp7 D hG hE h hll hp hk hs (H.re (by rw [fp_no (i := 7) (q := .pol) rfl z]))
  refine do_call Tryz.call48 (c_lnext H.tk fun w2 hT2 c2 => retS_ret ⟨_, rfl, ?_⟩)
  have H2 := H.take D (r' := lens (FP d 8) { x with pol := ((numW polNames (s.headD []) : Nat) : Int) } s.tail) hT2 c2 (by rw [fp_yes (i := 7) (q := .pol) rfl z]; rfl)
  refine do_call Tryz.call47 (c_rnumber (what := 1) (most := 3) (by decide) (by omega) fun w3 e3 => retS_ret ⟨_, rfl, ?_⟩)
  exact (H2.ext e3).set D (i := 8) (y := { x with pol := ((numW polNames (s.headD []) : Nat) : Int) }) rfl (by decide) rfl rfl rfl fun w4 H4 => c_rp7 D hG hE h hll (x := { x with pol := ((numW polNames (s.headD []) : Nat) : Int) }) hp hk (by rw [List.length_tail]; omega) H4⟩
theorem c_rp5 {d : Int} {line : Bs} {tb rb xb nb zb B0 : Nat} {w0 : World} {R : EW} (D : PD tb rb xb nb zb B0 w0) (hG : GOk w0) (hE : GErr w0)
    (h : ∀ pv kv w', Ext w0 w' → OpRd w' (parseR line).1 pv kv → R (.returned (.tuple #[opV (parseR line).1 pv kv, .int .i64 (parseR line).2])) w') (hll : line.length ≤ 262144)
    {x : POp} {s : List Bs} {w : World} (hp : x.pairs = []) (hk : x.keys = []) (hs : s.length ≤ 300000) (H : PS 67 (nmCells d) (lenAll (splitW line)) tb rb xb nb zb B0 w0 w (lens (FP d 6) x s) x nilV nilV s) : sh22k5 R [strB line, .pointer (some (blk zb)), .pointer (some (blk tb)), .pointer (some (blk xb)), .pointer (some (blk nb))] w := ⟨_, _, _, _, _, rfl, by
  have hG' := PS.lsg D hG hE
  unfold sh22b5
  refine ⟨_, H.nm.cell (i := 6) rfl rfl, ifB_intro (fun z => ?_) fun z => ?_⟩
  case refine_2 => exact c_rp6 D hG hE h hll hp hk hs (H.re (by rw [fp_no (i := 6) (q := .n) rfl z]))
  exact do_call Tryz.call49 ((H.re (r' := lens (FP d 7) { x with n := pv (s.headD []) } s.tail) (by rw [fp_yes (i := 6) (q := .n) rfl z]; rfl)).num D hG' (i := 7) (y := fun u => { x with n := u }) rfl (by decide) (fun _ => rfl) (fun _ => rfl) (fun _ => rfl) fun w5 H5 => c_rp6 D hG hE h hll (x := { x with n := pv (s.headD []) }) hp hk (by rw [List.length_tail]; omega) H5)⟩
theorem c_rp4 {d : Int} {line : Bs} {tb rb xb nb zb B0 : Nat} {w0 : World} {R : EW} (D : PD tb rb xb nb zb B0 w0) (hG : GOk w0) (hE : GErr w0)
    (h : ∀ pv kv w', Ext w0 w' → OpRd w' (parseR line).1 pv kv → R (.returned (.tuple #[opV (parseR line).1 pv kv, .int .i64 (parseR line).2])) w') (hll : line.length ≤ 262144)
    {x : POp} {s : List Bs} {w : World} (hp : x.pairs = []) (hk : x.keys = []) (hs : s.length ≤ 300000) (H : PS 67 (nmCells d) (lenAll (splitW line)) tb rb xb nb zb B0 w0 w (lens (FP d 4) x s) x nilV nilV s) : sh22k4 R [strB line, .pointer (some (blk zb)), .pointer (some (blk tb)), .pointer (some (blk xb)), .pointer (some (blk nb))] w := ⟨_, _, _, _, _, rfl, by
  have hG' := PS.lsg D hG hE
  unfold sh22b4
  refine ⟨_, H.nm.cell (i := 4) rfl rfl, ifB_intro (fun z => ?_) fun z => ?_⟩
  case refine_2 => exact c_rp5 D hG hE h hll hp hk hs (H.re (by rw [fp_no (i := 4) (q := .lo) rfl z, fp_no (i := 5) (q := .hi) rfl ((hi_lo d).trans z)]))
  refine do_call Tryz.call49 ((H.re (r' := lens (FP d 5) { x with lo := pv (s.headD []) } s.tail) (by rw [fp_yes (i := 4) (q := .lo) rfl z]; rfl)).num D hG' (i := 5) (y := fun u => { x with lo := u }) rfl (by decide) (fun _ => rfl) (fun _ => rfl) (fun _ => rfl) fun w5 H5 => ?_)
  exact do_call Tryz.call49 ((H5.re (r' := lens (FP d 6) { x with lo := pv (s.headD []), hi := pv (s.tail.headD []) } s.tail.tail) (by rw [fp_yes (i := 5) (q := .hi) rfl ((hi_lo d).trans z)]; rfl)).num D hG' (i := 6) (y := fun u => { x with lo := pv (s.headD []), hi := u }) rfl (by decide) (fun _ => rfl) (fun _ => rfl) (fun _ => rfl) fun w6 H6 => c_rp5 D hG hE h hll (x := { x with lo := pv (s.headD []), hi := pv (s.tail.headD []) }) hp hk (by rw [List.length_tail, List.length_tail]; omega) H6)⟩
theorem c_rp3 {d : Int} {line : Bs} {tb rb xb nb zb B0 : Nat} {w0 : World} {R : EW} (D : PD tb rb xb nb zb B0 w0) (hG : GOk w0) (hE : GErr w0)
    (h : ∀ pv kv w', Ext w0 w' → OpRd w' (parseR line).1 pv kv → R (.returned (.tuple #[opV (parseR line).1 pv kv, .int .i64 (parseR line).2])) w') (hll : line.length ≤ 262144)
    {x : POp} {s : List Bs} {w : World} (hp : x.pairs = []) (hk : x.keys = []) (hs : s.length ≤ 300000) (H : PS 67 (nmCells d) (lenAll (splitW line)) tb rb xb nb zb B0 w0 w (lens (FP d 2) x s) x nilV nilV s) : sh22k3 R [strB line, .pointer (some (blk zb)), .pointer (some (blk tb)), .pointer (some (blk xb)), .pointer (some (blk nb))] w := ⟨_, _, _, _, _, rfl, by
  have hG' := PS.lsg D hG hE
  unfold sh22b3
  have second : ∀ (x : POp) (s : List Bs) (w5 : World), x.pairs = [] → x.keys = [] → s.length ≤ 300000 → PS 67 (nmCells d) (lenAll (splitW line)) tb rb xb nb zb B0 w0 w5 (lens (FP d 3) x s) x nilV nilV s → (∃ (x11 : Bool), w5.cell? ((blk nb).add 3) = some (.bool x11) ∧ (ifB x11 (doCall Tryz.prog (.func (.func 49) #[] #[]) #[.pointer (some (blk tb))] w5 (retS (fun v13 w14 => ∃ (x12 : Int), v13 = (.int .i64 x12 : Value) ∧ (doSt (((blk xb).add 4).add 0) (.int .i64 x12) w14 (fun w15 => sh22k4 R [strB line, .pointer (some (blk zb)), .pointer (some (blk tb)), .pointer (some (blk xb)), .pointer (some (blk nb))] w15))) (fun ch w => Kfn R ch [] w))) (sh22k4 R [strB line, .pointer (some (blk zb)), .pointer (some (blk tb)), .pointer (some (blk xb)), .pointer (some (blk nb))] w5))) := fun x s w5 hp hk hs H5 => ⟨_, H5.nm.cell (i := 3) rfl rfl, ifB_intro (fun z2 => do_call Tryz.call49 ((H5.re (r' := lens (FP d 4) { x with val := pv (s.headD []) } s.tail) (by rw [fp_yes (i := 3) (q := .val) rfl z2]; rfl)).num D hG' (i := 4) (y := fun u => { x with val := u }) rfl (by decide) (fun _ => rfl) (fun _ => rfl) (fun _ => rfl) fun w6 H6 => c_rp4 D hG hE h hll (x := { x with val := pv (s.headD []) }) hp hk (by rw [List.length_tail]; omega) H6)) fun z2 => c_rp4 D hG hE h hll hp hk hs (H5.re (by rw [fp_no (i := 3) (q := .val) rfl z2]))⟩
  refine ⟨_, H.nm.cell (i := 2) rfl rfl, ifB_intro (fun z => ?_) fun z => ?_⟩
  case refine_2 => exact second x s w hp hk hs (H.re (by rw [fp_no (i := 2) (q := .key) rfl z]))
  exact do_call Tryz.call49 ((H.re (r' := lens (FP d 3) { x with key := pv (s.headD []) } s.tail) (by rw [fp_yes (i := 2) (q := .key) rfl z]; rfl)).num D hG' (i := 3) (y := fun u => { x with key := u }) rfl (by decide) (fun _ => rfl) (fun _ => rfl) (fun _ => rfl) fun w5 H5 => second { x with key := pv (s.headD []) } s.tail w5 hp hk (by rw [List.length_tail]; omega) H5)⟩
theorem c_rp2 {d : Int} {line : Bs} {tb rb xb nb zb B0 : Nat} {w0 : World} {R : EW} (D : PD tb rb xb nb zb B0 w0) (hG : GOk w0) (hE : GErr w0)
    (h : ∀ pv kv w', Ext w0 w' → OpRd w' (parseR line).1 pv kv → R (.returned (.tuple #[opV (parseR line).1 pv kv, .int .i64 (parseR line).2])) w') (hll : line.length ≤ 262144)
    {x : POp} {s : List Bs} {w : World} (hp : x.pairs = []) (hk : x.keys = []) (hs : s.length ≤ 300000) (H : PS 67 (nmCells d) (lenAll (splitW line)) tb rb xb nb zb B0 w0 w (lens (FP d 0) x s) x nilV nilV s) : sh22k2 R [strB line, .pointer (some (blk zb)), .pointer (some (blk tb)), .pointer (some (blk xb)), .pointer (some (blk nb))] w := ⟨_, _, _, _, _, rfl, by
  have hG' := PS.lsg D hG hE
  unfold sh22b2
  have second : ∀ (x : POp) (s : List Bs) (w5 : World), x.pairs = [] → x.keys = [] → s.length ≤ 300000 → PS 67 (nmCells d) (lenAll (splitW line)) tb rb xb nb zb B0 w0 w5 (lens (FP d 1) x s) x nilV nilV s → (∃ (x11 : Bool), w5.cell? ((blk nb).add 1) = some (.bool x11) ∧ (ifB x11 (doCall Tryz.prog (.func (.func 49) #[] #[]) #[.pointer (some (blk tb))] w5 (retS (fun v13 w14 => ∃ (x12 : Int), v13 = (.int .i64 x12 : Value) ∧ (doSt (((blk xb).add 2).add 0) (.int .i64 x12) w14 (fun w15 => sh22k3 R [strB line, .pointer (some (blk zb)), .pointer (some (blk tb)), .pointer (some (blk xb)), .pointer (some (blk nb))] w15))) (fun ch w => Kfn R ch [] w))) (sh22k3 R [strB line, .pointer (some (blk zb)), .pointer (some (blk tb)), .pointer (some (blk xb)), .pointer (some (blk nb))] w5))) := fun x s w5 hp hk hs H5 => ⟨_, H5.nm.cell (i := 1) rfl rfl, ifB_intro (fun z2 => do_call Tryz.call49 ((H5.re (r' := lens (FP d 2) { x with b := pv (s.headD []) } s.tail) (by rw [fp_yes (i := 1) (q := .b) rfl z2]; rfl)).num D hG' (i := 2) (y := fun u => { x with b := u }) rfl (by decide) (fun _ => rfl) (fun _ => rfl) (fun _ => rfl) fun w6 H6 => c_rp3 D hG hE h hll (x := { x with b := pv (s.headD []) }) hp hk (by rw [List.length_tail]; omega) H6)) fun z2 => c_rp3 D hG hE h hll hp hk hs (H5.re (by rw [fp_no (i := 1) (q := .b) rfl z2]))⟩
  refine ⟨_, H.nm.cell (i := 0) rfl rfl, ifB_intro (fun z => ?_) fun z => ?_⟩
  case refine_2 => exact second x s w hp hk hs (H.re (by rw [fp_no (i := 0) (q := .a) rfl z]))
  exact do_call Tryz.call49 ((H.re (r' := lens (FP d 1) { x with a := pv (s.headD []) } s.tail) (by rw [fp_yes (i := 0) (q := .a) rfl z]; rfl)).num D hG' (i := 1) (y := fun u => { x with a := u }) rfl (by decide) (fun _ => rfl) (fun _ => rfl) (fun _ => rfl) fun w5 H5 => second { x with a := pv (s.headD []) } s.tail w5 hp hk (by rw [List.length_tail]; omega) H5)⟩
theorem c_rparse {line : Bs} {w : World} {R : EW} (hll : line.length ≤ 262144) (hG : GOk w) (hE : GErr w)
    (h : ∀ pv kv w', Ext w w' → OpRd w' (parseR line).1 pv kv → R (.returned (.tuple #[opV (parseR line).1 pv kv, .int .i64 (parseR line).2])) w') : Calls Tryz.prog 22 #[strB line] w R := by
  refine sh22_ok _ ?_
  unfold sh22
  refine do_al fun zb w1 e1 Z1 l1 => ?_
  rw [strB_size]
  refine ifB_f (by rw [decide_eq_false]; omega) ?_
  refine do_call Tryz.call46 (c_words (by omega) fun a c w2 e2 hcs hlc ha1 ha2 => retS_ret ⟨_, _, _, rfl, do_al fun tb w3 e3 T3 l3 => ?_⟩)
  refine ⟨_, _, _, rfl, ?_⟩
  unfold sh22b1
  have z1 := Z1.lt
  have z2 := e2.size
  have z3 := T3.lt
  have E3 := (e1.trans e2).trans e3
  have hI : LsI tb a.block w3 (splitW line) := ⟨⟨a, c, rfl, T3, hcs.ext e3, hlc⟩, by have := e3.size; omega, by omega, fun v hv => Nat.le_trans (split_len hv) (by omega)⟩
  have hG' : LsG w tb := ⟨hG, hE, by have := e1.size; omega⟩
  refine do_call Tryz.call48 (c_lnext hI fun w4 hI4 c4 => retS_ret ⟨_, rfl, ?_⟩)
  refine do_call Tryz.call47 (c_rnumber (what := 0) (most := 22) (by decide) (by omega) fun w5 e5 => retS_ret ⟨_, rfl, do_al fun xb w6 e6 X6 l6 => st15 X6 fun w7 X7 g7 => ?_⟩)
  refine ⟨_, X7.cell (i := 0) rfl rfl, do_call Tryz.call30 (c_r37of fun w8 e8 => retS_ret ⟨_, _, _, _, _, _, _, _, _, _, _, _, rfl, do_al fun nb w9 e9 N9 l9 => st11 N9 fun w10 N10 g10 => ?_⟩)⟩
  have z4 := c4.size
  have z5 := e5.size
  have z6 := X6.lt
  have z7 := g7.size
  have z8 := e8.size
  have z9 := N9.lt
  have z10 := g10.size
  have X7 : OpAt w7 xb { POp.zero with op := ((numW opNames ((splitW line).headD []) : Nat) : Int) } nilV nilV := X7
  have e89 := e8.trans e9
  have e56 := e5.trans e6
  have E4 : Ext w w4 := below_chg E3 c4 (fun k hk e => by have e : k = tb := e; have := hG'.t; omega) (fun _ _ h => h)
  have Z4 : OpAt w4 zb .zero nilV nilV := c4.blk ((Z1.ext e2).ext e3) (fun e => by have e : zb = tb := e; omega) (fun h => h)
  have Z10 : OpAt w10 zb .zero nilV nilV := Blk.grown (Blk.ext (Blk.grown (Blk.ext Z4 e56) g7 (ne_some (by omega))) e89) g10 (ne_some (by omega))
  have I7 : LsI tb a.block w7 (splitW line).tail := (hI4.ext e56).keep (g7.block _ (by have := (hI4.ext e56).lt; omega) (ne_some (by omega))) (g7.block _ (by have := (hI4.ext e56).rl; omega) (ne_some (by omega)))
  have I9 := I7.ext e89
  have I10 : LsI tb a.block w10 (splitW line).tail := I9.keep (g10.block _ I9.lt (ne_some (by omega))) (g10.block _ I9.rl (ne_some (by omega)))
  have X10 : OpAt w10 xb { POp.zero with op := ((numW opNames ((splitW line).headD []) : Nat) : Int) } nilV nilV := Blk.grown (Blk.ext X7 e89) g10 (ne_some (by omega))
  have D : PD tb a.block xb nb zb w10.heap.size w := ⟨l1, by omega, by omega, by omega, by omega, by omega⟩
  have E10 : Ext w w10 := (((E4.trans e56).st g7 (by have := hG'.t; omega)).trans e89).st g10 (by have := hG'.t; omega)
  have hcnt := split_cnt line
  exact c_rp2 D hG hE h hll rfl rfl (by rw [List.length_tail]; omega) ⟨I10, X10, N10, Z10, World.ownsRow_nil _ _ _ _, World.ownsRow_nil _ _ _ _, by rw [fp_all]; rfl, Nat.le_refl _, E10⟩
end Go.Proofs.YtmkpkmdnapccgaaGreatDoor

namespace Go.Proofs.YtmkpkmdnapccgaaGreatDoor
open Go Go.Sh
def sh5 (s_1 : ByteArray) (line_2 : ByteArray) (R : EW) (w : World) : Prop :=
 let K5 : Bool → World → Prop := fun x3 w4 => 
 ifB x3 (
 doCall Tryz.prog (.func (.func 8) #[] #[]) #[] w4 (retS (fun v7 w8 => ∃ x6, v7 = (.bool x6 : Value) ∧ (
 R (.returned (.bool x6)) w8)) (kN R))) (
 doCall Tryz.prog (.func (.func 19) #[] #[]) #[.string s_1] w4 (retS (fun v13 w14 => ∃ xp9 xn10 xc11 x12, v13 = (.tuple #[.slice xp9 xn10 xc11, .int .i64 x12] : Value) ∧ (
 doCall Tryz.prog (.func (.func 20) #[] #[]) #[.string s_1] w14 (retS (fun v19 w20 => ∃ xp15 xn16 xc17 x18, v19 = (.tuple #[.slice xp15 xn16 xc17, .int .i64 x18] : Value) ∧ (
 doCall Tryz.prog (.func (.func 21) #[] #[]) #[.string line_2] w20 (retS (fun v41 w42 => ∃ x21 x22 x23 x24 x25 x26 x27 x28 x29 x30 x31 x32 x33 xp34 xn35 xc36 xp37 xn38 xc39 x40, v41 = (.tuple #[.agg #[.int .u8 x21, .int .i64 x22, .int .i64 x23, .int .i64 x24, .int .i64 x25, .int .i64 x26, .int .i64 x27, .int .i64 x28, .int .u8 x29, .int .u8 x30, .int .i64 x31, .int .i64 x32, .bool x33, .slice xp34 xn35 xc36, .slice xp37 xn38 xc39], .int .i64 x40] : Value) ∧ (
 doAl (.cells #[.int .u8 0, .int .i64 0, .int .i64 0, .int .i64 0, .int .i64 0, .int .i64 0, .int .i64 0, .int .i64 0, .int .u8 0, .int .u8 0, .int .i64 0, .int .i64 0, .bool false, .slice none 0 0, .slice none 0 0] 37) w42 (fun b43 w44 =>
 doSt ((blk b43).add 0) (.int .u8 x21) w44 (fun w45 =>
 doSt ((blk b43).add 1) (.int .i64 x22) w45 (fun w46 =>
 doSt ((blk b43).add 2) (.int .i64 x23) w46 (fun w47 =>
 doSt ((blk b43).add 3) (.int .i64 x24) w47 (fun w48 =>
 doSt ((blk b43).add 4) (.int .i64 x25) w48 (fun w49 =>
 doSt ((blk b43).add 5) (.int .i64 x26) w49 (fun w50 =>
 doSt ((blk b43).add 6) (.int .i64 x27) w50 (fun w51 =>
 doSt ((blk b43).add 7) (.int .i64 x28) w51 (fun w52 =>
 doSt ((blk b43).add 8) (.int .u8 x29) w52 (fun w53 =>
 doSt ((blk b43).add 9) (.int .u8 x30) w53 (fun w54 =>
 doSt ((blk b43).add 10) (.int .i64 x31) w54 (fun w55 =>
 doSt ((blk b43).add 11) (.int .i64 x32) w55 (fun w56 =>
 doSt ((blk b43).add 12) (.bool x33) w56 (fun w57 =>
 doSt ((blk b43).add 13) (.slice xp34 xn35 xc36) w57 (fun w58 =>
 doSt ((blk b43).add 14) (.slice xp37 xn38 xc39) w58 (fun w59 =>
 doCall Tryz.prog (.func (.func 22) #[] #[]) #[.string line_2] w59 (retS (fun v80 w81 => ∃ x60 x61 x62 x63 x64 x65 x66 x67 x68 x69 x70 x71 x72 xp73 xn74 xc75 xp76 xn77 xc78 x79, v80 = (.tuple #[.agg #[.int .u8 x60, .int .i64 x61, .int .i64 x62, .int .i64 x63, .int .i64 x64, .int .i64 x65, .int .i64 x66, .int .i64 x67, .int .u8 x68, .int .u8 x69, .int .i64 x70, .int .i64 x71, .bool x72, .slice xp73 xn74 xc75, .slice xp76 xn77 xc78], .int .i64 x79] : Value) ∧ (
 doAl (.cells #[.int .u8 0, .int .i64 0, .int .i64 0, .int .i64 0, .int .i64 0, .int .i64 0, .int .i64 0, .int .i64 0, .int .u8 0, .int .u8 0, .int .i64 0, .int .i64 0, .bool false, .slice none 0 0, .slice none 0 0] 37) w81 (fun b82 w83 =>
 doSt ((blk b82).add 0) (.int .u8 x60) w83 (fun w84 =>
 doSt ((blk b82).add 1) (.int .i64 x61) w84 (fun w85 =>
 doSt ((blk b82).add 2) (.int .i64 x62) w85 (fun w86 =>
 doSt ((blk b82).add 3) (.int .i64 x63) w86 (fun w87 =>
 doSt ((blk b82).add 4) (.int .i64 x64) w87 (fun w88 =>
 doSt ((blk b82).add 5) (.int .i64 x65) w88 (fun w89 =>
 doSt ((blk b82).add 6) (.int .i64 x66) w89 (fun w90 =>
 doSt ((blk b82).add 7) (.int .i64 x67) w90 (fun w91 =>
 doSt ((blk b82).add 8) (.int .u8 x68) w91 (fun w92 =>
 doSt ((blk b82).add 9) (.int .u8 x69) w92 (fun w93 =>
 doSt ((blk b82).add 10) (.int .i64 x70) w93 (fun w94 =>
 doSt ((blk b82).add 11) (.int .i64 x71) w94 (fun w95 =>
 doSt ((blk b82).add 12) (.bool x72) w95 (fun w96 =>
 doSt ((blk b82).add 13) (.slice xp73 xn74 xc75) w96 (fun w97 =>
 doSt ((blk b82).add 14) (.slice xp76 xn77 xc78) w97 (fun w98 =>
 let K101 : Bool → World → Prop := fun x99 w100 => 
 R (.returned (.bool x99)) w100
 doCall Tryz.prog (.func (.func 12) #[] #[]) #[.slice xp9 xn10 xc11, .slice xp15 xn16 xc17] w98 (retS (fun v103 w104 => ∃ x102, v103 = (.bool x102 : Value) ∧ (
 ifB x102 (
 ifB ((x12 : Int) == x18) (
 ∃ x105, w104.cell? ((blk b43).add 0) = some (.int .u8 x105) ∧ (
 ∃ x106, w104.cell? ((blk b43).add 1) = some (.int .i64 x106) ∧ (
 ∃ x107, w104.cell? ((blk b43).add 2) = some (.int .i64 x107) ∧ (
 ∃ x108, w104.cell? ((blk b43).add 3) = some (.int .i64 x108) ∧ (
 ∃ x109, w104.cell? ((blk b43).add 4) = some (.int .i64 x109) ∧ (
 ∃ x110, w104.cell? ((blk b43).add 5) = some (.int .i64 x110) ∧ (
 ∃ x111, w104.cell? ((blk b43).add 6) = some (.int .i64 x111) ∧ (
 ∃ x112, w104.cell? ((blk b43).add 7) = some (.int .i64 x112) ∧ (
 ∃ x113, w104.cell? ((blk b43).add 8) = some (.int .u8 x113) ∧ (
 ∃ x114, w104.cell? ((blk b43).add 9) = some (.int .u8 x114) ∧ (
 ∃ x115, w104.cell? ((blk b43).add 10) = some (.int .i64 x115) ∧ (
 ∃ x116, w104.cell? ((blk b43).add 11) = some (.int .i64 x116) ∧ (
 ∃ x117, w104.cell? ((blk b43).add 12) = some (.bool x117) ∧ (
 ∃ xp118 xn119 xc120, w104.cell? ((blk b43).add 13) = some (.slice xp118 xn119 xc120) ∧ (
 ∃ xp121 xn122 xc123, w104.cell? ((blk b43).add 14) = some (.slice xp121 xn122 xc123) ∧ (
 ∃ x124, w104.cell? ((blk b82).add 0) = some (.int .u8 x124) ∧ (
 ∃ x125, w104.cell? ((blk b82).add 1) = some (.int .i64 x125) ∧ (
 ∃ x126, w104.cell? ((blk b82).add 2) = some (.int .i64 x126) ∧ (
 ∃ x127, w104.cell? ((blk b82).add 3) = some (.int .i64 x127) ∧ (
 ∃ x128, w104.cell? ((blk b82).add 4) = some (.int .i64 x128) ∧ (
 ∃ x129, w104.cell? ((blk b82).add 5) = some (.int .i64 x129) ∧ (
 ∃ x130, w104.cell? ((blk b82).add 6) = some (.int .i64 x130) ∧ (
 ∃ x131, w104.cell? ((blk b82).add 7) = some (.int .i64 x131) ∧ (
 ∃ x132, w104.cell? ((blk b82).add 8) = some (.int .u8 x132) ∧ (
 ∃ x133, w104.cell? ((blk b82).add 9) = some (.int .u8 x133) ∧ (
 ∃ x134, w104.cell? ((blk b82).add 10) = some (.int .i64 x134) ∧ (
 ∃ x135, w104.cell? ((blk b82).add 11) = some (.int .i64 x135) ∧ (
 ∃ x136, w104.cell? ((blk b82).add 12) = some (.bool x136) ∧ (
 ∃ xp137 xn138 xc139, w104.cell? ((blk b82).add 13) = some (.slice xp137 xn138 xc139) ∧ (
 ∃ xp140 xn141 xc142, w104.cell? ((blk b82).add 14) = some (.slice xp140 xn141 xc142) ∧ (
 doCall Tryz.prog (.func (.func 17) #[] #[]) #[.agg #[.int .u8 x105, .int .i64 x106, .int .i64 x107, .int .i64 x108, .int .i64 x109, .int .i64 x110, .int .i64 x111, .int .i64 x112, .int .u8 x113, .int .u8 x114, .int .i64 x115, .int .i64 x116, .bool x117, .slice xp118 xn119 xc120, .slice xp121 xn122 xc123], .agg #[.int .u8 x124, .int .i64 x125, .int .i64 x126, .int .i64 x127, .int .i64 x128, .int .i64 x129, .int .i64 x130, .int .i64 x131, .int .u8 x132, .int .u8 x133, .int .i64 x134, .int .i64 x135, .bool x136, .slice xp137 xn138 xc139, .slice xp140 xn141 xc142]] w104 (retS (fun v144 w145 => ∃ x143, v144 = (.bool x143 : Value) ∧ (
 ifB x143 (
 ifB ((x40 : Int) == x79) (
 doCall Tryz.prog (.func (.func 8) #[] #[]) #[] w145 (retS (fun v147 w148 => ∃ x146, v147 = (.bool x146 : Value) ∧ (
 K101 x146 w148)) (kN R))) (
 R (.returned (.bool false)) w145)) (
 R (.returned (.bool false)) w145))) (kN R))))))))))))))))))))))))))))))))) (
 R (.returned (.bool false)) w104)) (
 R (.returned (.bool false)) w104))) (kN R)))))))))))))))))))) (kN R)))))))))))))))))))) (kN R)))) (kN R)))) (kN R)))
 ifB (decide ((((s_1.size : Nat) : Int) : Int) > 16384)) (
 doCall Tryz.prog (.func (.func 8) #[] #[]) #[] w (retS (fun v150 w151 => ∃ x149, v150 = (.bool x149 : Value) ∧ (
 R (.returned (.bool x149)) w151)) (kN R))) (
 K5 (decide ((((line_2.size : Nat) : Int) : Int) > 16384)) w)
theorem sh5_ok (s_1 : ByteArray) (line_2 : ByteArray) {R : EW} {w : World} : sh5 s_1 line_2 R w → Calls Tryz.prog 5 #[.string s_1, .string line_2] w R :=
  ceq Tryz.func5 (by kernel_rfl) (by kernel_rfl)
end Go.Proofs.YtmkpkmdnapccgaaGreatDoor

namespace Go.Proofs.YtmkpkmdnapccgaaGreatDoor
open Go Go.Sh Go.RowKit

theorem c_opReads {s line : Bs} {w : World} {R : EW} (hG : GOk w) (hE : GErr w) (h : ∀ w', Ext w w' → R (.returned (.bool true)) w') : Calls Tryz.prog 5 #[strB s, strB line] w R := by
  refine sh5_ok _ _ ?_
  unfold sh5
  intro K5
  rw [strB_size s, strB_size line]
  refine ifB_intro (fun _ => do_call Tryz.call8 (c_alive37 hG fun w2 e2 => retS_ret ⟨_, rfl, h w2 e2⟩)) fun z => ifB_intro (fun _ => do_call Tryz.call8 (c_alive37 hG fun w2 e2 => retS_ret ⟨_, rfl, h w2 e2⟩)) fun z2 => ?_
  have z : s.length ≤ 16384 := by have := of_decide_eq_false z; omega
  have z2 : line.length ≤ 16384 := by have := of_decide_eq_false z2; omega
  have err : ∀ {w'}, Ext w w' → GErr w' := fun E => hE.of fun g hg => E.block g (hG.lt g hg)
  refine do_call Tryz.call19 (c_odec z fun p c Es w1 e1 hEs hcs hrd => retS_ret ⟨_, _, _, _, rfl, ?_⟩)
  refine do_call Tryz.call20 (c_rdec z fun q d Fs w2 e2 hFs hcs2 hrd2 => retS_ret ⟨_, _, _, _, rfl, ?_⟩)
  have E2 := e1.trans e2
  have hpl := parse_len line
  refine do_call Tryz.call21 (c_oparse (s := line) (by omega) (hG.ext E2) (.inl (err E2)) fun pv kv w3 e3 hr3 => ?_)
  obtain ⟨⟨p1, c1, hp1, _, hp2, _⟩, ⟨q1, d1, hq1, _, hq2, _⟩⟩ := hr3
  subst hp1 hq1
  refine retS_ret ⟨_, _, _, _, _, _, _, _, _, _, _, _, _, _, _, _, _, _, _, _, rfl, do_al fun xb w4 e4 X4 l4 => st15 X4 fun w5 X5 g5 => ?_⟩
  have X5 : OpAt w5 xb (parseR line).1 (.slice p1 (parseR line).1.pairs.length c1) (.slice q1 (parseR line).1.keys.length d1) := X5
  have e35 : Ext w3 w5 := e4.st g5 l4
  have E5 := (E2.trans e3).trans e35
  refine do_call Tryz.call22 (c_rparse (line := line) (by omega) (hG.ext E5) (err E5) fun pv kv w6 e6 hr6 => ?_)
  obtain ⟨⟨p6, c6, hp6, _, hp7, _⟩, ⟨q6, d6, hq6, _, hq7, _⟩⟩ := hr6
  subst hp6 hq6
  refine retS_ret ⟨_, _, _, _, _, _, _, _, _, _, _, _, _, _, _, _, _, _, _, _, rfl, do_al fun yb w7 e7 Y7 l7 => st15 Y7 fun w8 Y8 g8 => ?_⟩
  have Y8 : OpAt w8 yb (parseR line).1 (.slice p6 (parseR line).1.pairs.length c6) (.slice q6 (parseR line).1.keys.length d6) := Y8
  have e68 : Ext w6 w8 := e7.st g8 l7
  have e58 := e6.trans e68
  have e38 := e35.trans e58
  have e28 := e3.trans e38
  have E8 := E2.trans e28
  intro K101
  have hnE : Es.length = (decR s).1.length := by rw [← hEs, List.length_map]
  have hnF : Fs.length = (decR s).1.length := by rw [← hFs, List.length_map]
  have hdl := decR_len (s := s)
  refine do_call Tryz.call12 (c_sameops (Es := Es) (Fs := Fs) (by omega) hnE hnF (hcs.ext (e2.trans e28)) (hcs2.ext e28) (hEs.trans hFs.symm) (fun e he => ⟨(hrd e he).ext (e2.trans e28), ?_⟩) (fun e he => (hrd2 e he).ext e28) fun w9 e9 => retS_ret ⟨_, rfl, ifB_t rfl (ifB_t (beq_self_eq_true _) ?_)⟩)
  · have hm : e.1 ∈ (decR s).1 := by rw [← hEs]; exact List.mem_map.2 ⟨e, he, rfl⟩
    have := decR_may _ hm
    have h1 := this.pairs
    have h2 := this.keys
    omega
  have X9 : OpAt w9 xb (parseR line).1 (.slice p1 (parseR line).1.pairs.length c1) (.slice q1 (parseR line).1.keys.length d1) := Blk.ext X5 (e58.trans e9)
  have Y9 : OpAt w9 yb (parseR line).1 (.slice p6 (parseR line).1.pairs.length c6) (.slice q6 (parseR line).1.keys.length d6) := Blk.ext Y8 e9
  refine ⟨_, Blk.cell (i := 0) X9 rfl rfl, _, Blk.cell (i := 1) X9 rfl rfl, _, Blk.cell (i := 2) X9 rfl rfl, _, Blk.cell (i := 3) X9 rfl rfl, _, Blk.cell (i := 4) X9 rfl rfl, _, Blk.cell (i := 5) X9 rfl rfl, _, Blk.cell (i := 6) X9 rfl rfl, _, Blk.cell (i := 7) X9 rfl rfl, _, Blk.cell (i := 8) X9 rfl rfl, _, Blk.cell (i := 9) X9 rfl rfl, _, Blk.cell (i := 10) X9 rfl rfl, _, Blk.cell (i := 11) X9 rfl rfl, _, Blk.cell (i := 12) X9 rfl rfl, _, _, _, Blk.cell (i := 13) X9 rfl rfl, _, _, _, Blk.cell (i := 14) X9 rfl rfl, _, Blk.cell (i := 0) Y9 rfl rfl, _, Blk.cell (i := 1) Y9 rfl rfl, _, Blk.cell (i := 2) Y9 rfl rfl, _, Blk.cell (i := 3) Y9 rfl rfl, _, Blk.cell (i := 4) Y9 rfl rfl, _, Blk.cell (i := 5) Y9 rfl rfl, _, Blk.cell (i := 6) Y9 rfl rfl, _, Blk.cell (i := 7) Y9 rfl rfl, _, Blk.cell (i := 8) Y9 rfl rfl, _, Blk.cell (i := 9) Y9 rfl rfl, _, Blk.cell (i := 10) Y9 rfl rfl, _, Blk.cell (i := 11) Y9 rfl rfl, _, Blk.cell (i := 12) Y9 rfl rfl, _, _, _, Blk.cell (i := 13) Y9 rfl rfl, _, _, _, Blk.cell (i := 14) Y9 rfl rfl, ?_⟩
  refine do_call Tryz.call17 (c_r37same (by omega) (by omega) (hp2.ext (e38.trans e9)) (hq2.ext (e38.trans e9)) (hp7.ext (e68.trans e9)) (hq7.ext (e68.trans e9)) fun w10 e10 => retS_ret ⟨_, rfl, ifB_t rfl (ifB_t (beq_self_eq_true _) ?_)⟩)
  exact do_call Tryz.call8 (c_alive37 (hG.ext ((E8.trans e9).trans e10)) fun w11 e11 => retS_ret ⟨_, rfl, h w11 (((E8.trans e9).trans e10).trans e11)⟩)
end Go.Proofs.YtmkpkmdnapccgaaGreatDoor

namespace Go.Proofs.YtmkpkmdnapccgaaGreatDoor
open Go Go.Sh Go.RowKit

theorem handed_laid {H : Type} {enc : TypeId × Value → H} {a : Assume} {C : Checked} {os : Os} {f : FuncId} {fn : Func} {s : ChangeSpec} {conds : List PathCond} {apart fresh handsOn again : Bool} {X : World → Prop}
    (hX : ∀ w w' : World, w.heap = w'.heap → X w → X w')
    (own : ownKnob C.prog.godebug = none) (started : os.Started) (noInit : C.prog.inits.idxOf? f = none) (hfn : C.prog.funcs[f]? = some fn)
    (witness : ∃ (w : World) (tape : Tape) (i : Input), w.os = os ∧ (w.forCall tape i).Shaped C.prog ∧ i.vars = [] ∧ Input.okWide C.prog (w.forCall tape i) .any w.heap.size f i ∧
      ((s.pre enc C.prog fn conds apart (w.forCall tape i).memory i.args ∧ X (w.forCall tape i).memory) ∧ sizedMet enc C.prog fn (OpenSpec.ofChange s) apart (w.forCall tape i).memory i.args) ∧ a.holds C.prog (lone (Frame.enter C.prog f i.args .normal) [] (w.forCall tape i)))
    (contract : ∀ (W : World) (base : Nat) (args : Array Value) (ds gs : List (DataW H)) (before : List MemPlace),
      (∀ (j : Nat) t v, fn.params[j]? = some t → args[j]? = some v → Value.okWide C.prog W .any base t v) →
      DataW.Whole enc C.prog fn.params.toList s.vars apart W args.toList ds gs before →
      (DataW.weightsEach C.prog (fn.params.toList ++ s.plain.varTypes C.prog) (ds ++ gs)).all (· ≤ reachBytes) = true → X W → W.ShapedOpen C.prog →
      Calls C.prog f args W fun e W' => ∃ v, e = .returned v ∧ s.post enc C.prog fn apart fresh handsOn again W args v W') :
    ReturnsInHanded a C os f .any (fun w args => (s.pre enc C.prog fn conds apart w args ∧ X w) ∧ sizedMet enc C.prog fn (OpenSpec.ofChange s) apart w args) (s.post enc C.prog fn apart fresh handsOn again) := by
  refine returnsInHanded_of_calls own started noInit witness ?_
  intro w tape i _ hsh _ hok hpre _
  obtain ⟨_, _, _, fn', hfn', _, _, _, _, hval⟩ := hok
  have e : fn' = fn := Option.some.inj (hfn'.symm.trans hfn)
  subst e
  obtain ⟨⟨⟨ds, gs, before, hw, hc⟩, hx⟩, hz⟩ := hpre
  have hw' := DataW.Whole.of_heap (w' := w.forCall tape i) (by rfl) hw
  refine (contract (w.forCall tape i) w.heap.size i.args ds gs before hval hw' (hz.weights hw) (hX _ _ (by rfl) hx) hsh).mono fun e W' ⟨v, he, hp⟩ => ?_
  subst he
  exact ChangeSpec.post_blind hp
theorem g_lt {W : World} (h : W.ShapedOpen Tryz.prog) : ∀ g ∈ gls, g < W.heap.size := fun g hg => by
  obtain ⟨o, _, ho, _⟩ := h.2 Tryz.prog.globals.size (Nat.le_refl _) (of_decide_eq_true (by kernel_rfl))
  have hs := (Array.getElem?_eq_some_iff.1 ho).1
  have h4 : 4 ≤ Tryz.prog.globals.size := of_decide_eq_true (by kernel_rfl)
  simp only [gls, gT, gM, gS, gR, List.mem_cons, List.not_mem_nil, or_false] at hg
  omega
theorem g_max {W : World} (h : W.ShapedOpen Tryz.prog) : ∃ m, W.cell? ⟨gM, 0, none⟩ = some (.int .i64 m) :=
  Proofs.cell_of_shapedOpen_int (t := 3) (zero := #[.int .i64 0]) h (of_decide_eq_true (by kernel_rfl)) (by kernel_rfl) rfl (by kernel_rfl) (by kernel_rfl) Tryz.underlying3
theorem g_tab {W : World} {r : List (String × DataW Unit)} (h : laidMet Tryz.prog (("internal/strconv.uint64pow10", Rows.laid_internal_strconv_uint64pow10) :: r) W) : Tab W :=
  Lib.tabIs_of_head (g := gT) (t := 165) (e := 127) (n := 20) tab_global (by kernel_rfl) Tryz.underlying165 Tryz.underlying127 (by kernel_rfl) (by kernel_rfl) h
end Go.Proofs.YtmkpkmdnapccgaaGreatDoor

namespace Go.Proofs.YtmkpkmdnapccgaaGreatDoor
open Go Go.Sh Go.RowKit

theorem row_es (u : TypeId) (h : Tryz.prog.typeName? 3 u = some "*errors.errorString") : u = 195 :=
  typeName_ptr_named (nm := "errors.errorString") (by rw [show "*" ++ "errors.errorString" = "*errors.errorString" by decide]; kernel_rfl) (by kernel_rfl) (by decide) u (by rw [show "*" ++ "errors.errorString" = "*errors.errorString" by decide]; exact h)
theorem err_of {W : World} {n : String} {g : Nat} {text : List UInt8} {r : List (String × DataW Unit)} (hg : Tryz.prog.globalNamed n = some g) (ht : (Tryz.prog.globals[g]?).map (·.type) = some 124)
    (h : laidMet Tryz.prog ((n, .iface "*errors.errorString" (.ptr (.agg [.lit (.string text)]))) :: r) W) : ErrV W g := by
  obtain ⟨a0, sa, hva, _⟩ := laid_sentinel h hg ht Tryz.underlying124 row_es Tryz.underlying195 Tryz.underlying197 rfl rfl Tryz.underlying9 (by kernel_rfl) (by kernel_rfl)
  exact ⟨_, World.var?_cell hg hva 0, .inr ⟨_, _, rfl⟩⟩
theorem c_opReadsB {a0 a1 : ByteArray} {w : World} {R : EW} (hG : GOk w) (hE : GErr w) (h : ∀ w', Ext w w' → R (.returned (.bool true)) w') : Calls Tryz.prog 5 #[.string a0, .string a1] w R := by
  obtain ⟨⟨l0⟩⟩ := a0
  obtain ⟨⟨l1⟩⟩ := a1
  exact c_opReads hG hE h
end Go.Proofs.YtmkpkmdnapccgaaGreatDoor

