/-
  An op that is taken (the document's answer).
-/
import Derived.Test.YtmkpkmdnapccgaaGreatDoorZ26

set_option maxRecDepth 100000
set_option maxHeartbeats 6400000
namespace Go.Proofs.YtmkpkmdnapccgaaGreatDoor
open Go Go.Sh Go.RowKit

structure OpFr (w : World) (B : Nat) (r : Option Nat) (e : OpE) : Prop where
  p : ∃ a c, e.2.1 = .slice a e.1.pairs.length c ∧ e.1.pairs.length ≤ c ∧ Cs w a (prs e.1.pairs) ∧ ∀ d, a = some d → prs e.1.pairs ≠ [] → B ≤ d.block ∧ r ≠ some d.block
  k : ∃ a c, e.2.2 = .slice a e.1.keys.length c ∧ e.1.keys.length ≤ c ∧ Cs w a (ints e.1.keys) ∧ ∀ d, a = some d → ints e.1.keys ≠ [] → B ≤ d.block ∧ r ≠ some d.block
theorem cs_kept {w w' : World} {p : OA} {vs : List Value} (h : Cs w p vs) (hk : ∀ a, p = some a → vs ≠ [] → w'.heap[a.block]? = w.heap[a.block]?) : Cs w' p vs := fun i v hv => by
  obtain ⟨a, ha, hc⟩ := h i v hv
  refine ⟨a, ha, ?_⟩
  have e := hk a ha (by rintro rfl; simp at hv)
  rw [World.cell?_of_block (show w'.heap[(a.add i).block]? = w.heap[(a.add i).block]? by rw [add_block]; exact e)]
  exact hc
theorem OpFr.keep {w w' : World} {B : Nat} {r : Option Nat} {e : OpE} (h : OpFr w B r e) (hk : ∀ k, B ≤ k → k < w.heap.size → r ≠ some k → w'.heap[k]? = w.heap[k]?) : OpFr w' B r e := by
  obtain ⟨a, c, h1, h2, h3, h4⟩ := h.p
  obtain ⟨b, d, g1, g2, g3, g4⟩ := h.k
  exact ⟨⟨a, c, h1, h2, cs_kept h3 fun x hx hz => hk _ (h4 x hx hz).1 (rd_lt h3 x hx hz) (h4 x hx hz).2, h4⟩, ⟨b, d, g1, g2, cs_kept g3 fun x hx hz => hk _ (g4 x hx hz).1 (rd_lt g3 x hx hz) (g4 x hx hz).2, g4⟩⟩
theorem OpFr.ext {w w' : World} {B : Nat} {r : Option Nat} {e : OpE} (h : OpFr w B r e) (E : Ext w w') : OpFr w' B r e := h.keep fun k _ hk _ => E.block k hk
theorem OpFr.grow {w w' : World} {B : Nat} {r r' : Option Nat} {e : OpE} (h : OpFr w B r e) (g : w.grownBy w' r) (hr : ∀ b, r' = some b → r = some b ∨ w.heap.size ≤ b) : OpFr w' B r' e := by
  have h' := h.keep fun k _ hk hn => g.block k hk fun e => hn e.symm
  obtain ⟨a, c, _, _, f3, f4⟩ := h.p
  obtain ⟨b, d, _, _, k3, k4⟩ := h.k
  obtain ⟨a', c', h1, h2, h3, h4⟩ := h'.p
  obtain ⟨b', d', g1, g2, g3, g4⟩ := h'.k
  refine ⟨⟨a', c', h1, h2, h3, fun x hx hz => ⟨(h4 x hx hz).1, fun he => ?_⟩⟩, ⟨b', d', g1, g2, g3, fun x hx hz => ⟨(g4 x hx hz).1, fun he => ?_⟩⟩⟩
  · obtain ⟨a2, c2, e1, _, e3, e4⟩ := h.p
    rw [h1] at e1
    cases e1
    rcases hr _ he with hh | hh
    · exact (e4 x hx hz).2 hh
    · have := rd_lt e3 x hx hz; omega
  · obtain ⟨a2, c2, e1, _, e3, e4⟩ := h.k
    rw [g1] at e1
    cases e1
    rcases hr _ he with hh | hh
    · exact (e4 x hx hz).2 hh
    · have := rd_lt e3 x hx hz; omega
theorem OpFr.base {w : World} {B B' : Nat} {r : Option Nat} {e : OpE} (h : OpFr w B none e) (hB : B' ≤ B) (hr : ∀ b, r = some b → b < B) : OpFr w B' r e := by
  obtain ⟨a, c, h1, h2, h3, h4⟩ := h.p
  obtain ⟨b, d, g1, g2, g3, g4⟩ := h.k
  exact ⟨⟨a, c, h1, h2, h3, fun x hx hz => ⟨Nat.le_trans hB (h4 x hx hz).1, fun e => by have := hr _ e; have := (h4 x hx hz).1; omega⟩⟩, ⟨b, d, g1, g2, g3, fun x hx hz => ⟨Nat.le_trans hB (g4 x hx hz).1, fun e => by have := hr _ e; have := (g4 x hx hz).1; omega⟩⟩⟩
theorem OpFr.rd {w : World} {B : Nat} {r : Option Nat} {e : OpE} (h : OpFr w B r e) : OpRd w e.1 e.2.1 e.2.2 := by
  obtain ⟨a, c, h1, h2, h3, h4⟩ := h.p
  obtain ⟨b, d, g1, g2, g3, g4⟩ := h.k
  exact ⟨⟨a, c, h1, h2, h3, rd_lt h3⟩, ⟨b, d, g1, g2, g3, rd_lt g3⟩⟩

abbrev nilV : Value := .slice none 0 0
def FP (d : Int) (i : Nat) : List Part := (fixP.drop i).filter fun q => hasP q d
theorem fp_all (d : Int) : FP d 0 = partsOf d := fix_parts d
theorem fp_yes {d : Int} {i : Nat} {q : Part} (hd : fixP.drop i = q :: fixP.drop (i + 1)) (h : hasP q d = true) : FP d i = q :: FP d (i + 1) := by
  unfold FP; rw [hd]; exact List.filter_cons_of_pos (p := fun q => hasP q d) h
theorem fp_no {d : Int} {i : Nat} {q : Part} (hd : fixP.drop i = q :: fixP.drop (i + 1)) (h : hasP q d = false) : FP d i = FP d (i + 1) := by
  unfold FP; rw [hd]; exact List.filter_cons_of_neg (p := fun q => hasP q d) (by rw [h]; decide)
def nmCells (d : Int) : Array Value := #[.bool (hasP .a d), .bool (hasP .b d), .bool (hasP .key d), .bool (hasP .val d), .bool (hasP .lo d), .bool (hasP .hi d), .bool (hasP .n d), .bool (hasP .pol d), .bool (hasP .pred d), .bool (hasP .pairs d), .bool (hasP .keys d)]
structure TD (tb xb nb zb B0 : Nat) (w0 : World) : Prop where
  t : tb < w0.heap.size
  x : w0.heap.size ≤ xb ∧ xb < B0
  n : w0.heap.size ≤ nb ∧ nb < B0
  z : w0.heap.size ≤ zb ∧ zb < B0
  xn : xb ≠ nb
  xz : xb ≠ zb
structure TS (nt : TypeId) (nc : Array Value) (G : Option (POp × Bs)) (tb xb nb zb B0 : Nat) (w0 w : World) (r : Option (POp × Bs)) (x : POp) (pv kv : Value) (s : Bs) (f : Bool) : Prop where
  tk : Tk w tb s f
  ot : OpAt w xb x pv kv
  nm : Blk w nb nc nt
  zr : OpAt w zb .zero nilV nilV
  pr : w.ownsRow B0 49 2 pv x.pairs.length (prs x.pairs)
  kr : w.ownsRow B0 2 1 kv x.keys.length (ints x.keys)
  res : f = true → r = G
  bad : f = false → G = none
  hs : B0 ≤ w.heap.size
  c : Chg (InOwn tb) (fun k => w0.heap.size ≤ k) w0 w
theorem in_gr {cb : Nat} {w w' : World} {r : Option Nat} (g : w.grownBy w' r) {S : Nat → Prop} (hb : ∀ b, r = some b → S b) : Chg (InOwn cb) S w w' :=
  ⟨g.os, g.tape, g.output, g.size, fun k hk _ hs => g.block k hk fun e => hs (hb _ e.symm), fun _ _ h1 _ => h1 ‹_›⟩
section
variable {nt : TypeId} {nc : Array Value} {G : Option (POp × Bs)} {tb xb nb zb B0 : Nat} {w0 w : World} {r : Option (POp × Bs)} {x : POp} {pv kv : Value} {s : Bs} {f : Bool}
theorem TS.take (D : TD tb xb nb zb B0 w0) (H : TS nt nc G tb xb nb zb B0 w0 w r x pv kv s f) {w2 : World} {r' : Option (POp × Bs)} {s' : Bs} {f' : Bool} (hT : Tk w2 tb s' f') (c2 : Chg (InOwn tb) (fun _ => False) w w2) (hres : f' = true → r' = G) (hbad : f' = false → G = none) :
    TS nt nc G tb xb nb zb B0 w0 w2 r' x pv kv s' f' := by
  have ht := D.t
  have hx := D.x
  have hn := D.n
  have hz := D.z
  have nt : ∀ {k : Nat}, w0.heap.size ≤ k → ¬ InOwn tb w k := fun h e => by have : _ = tb := e; omega
  exact ⟨hT, c2.blk H.ot (nt hx.1) (fun h => h), c2.blk H.nm (nt hn.1) (fun h => h), c2.blk H.zr (nt hz.1) (fun h => h), chg_row c2 H.pr (fun k hk => nt (by have := (H.pr.lt k hk).1; omega)) (fun _ _ h => h),
    chg_row c2 H.kr (fun k hk => nt (by have := (H.kr.lt k hk).1; omega)) (fun _ _ h => h), hres, hbad, Nat.le_trans H.hs c2.size, H.c.trans (c2.mono fun _ h => h.elim)⟩
theorem TS.ext (H : TS nt nc G tb xb nb zb B0 w0 w r x pv kv s f) {w2 : World} (e : Ext w w2) : TS nt nc G tb xb nb zb B0 w0 w2 r x pv kv s f :=
  ⟨Blk.ext H.tk e, Blk.ext H.ot e, H.nm.ext e, Blk.ext H.zr e, e.row H.pr, e.row H.kr, H.res, H.bad, Nat.le_trans H.hs e.size, H.c.trans ⟨e.os, e.tape, e.output, e.size, fun k hk _ _ => e.block k hk, fun _ _ h1 h2 => h1 h2⟩⟩
theorem TS.re (H : TS nt nc G tb xb nb zb B0 w0 w r x pv kv s f) {r' : Option (POp × Bs)} (h : f = true → r' = r) : TS nt nc G tb xb nb zb B0 w0 w r' x pv kv s f :=
  ⟨H.tk, H.ot, H.nm, H.zr, H.pr, H.kr, fun e => (h e).trans (H.res e), H.bad, H.hs, H.c⟩
theorem TS.flag (D : TD tb xb nb zb B0 w0) (H : TS nt nc G tb xb nb zb B0 w0 w r x pv kv s f) {f' : Bool} {r' : Option (POp × Bs)} {a : Addr} {K : World → Prop} (ha : a = ⟨tb, 1, none⟩) (hres : f' = true → r' = G) (hbad : f' = false → G = none) (k : ∀ w', TS nt nc G tb xb nb zb B0 w0 w' r' x pv kv s f' → K w') : doSt a (.bool f') w K :=
  do_st H.tk ha (by decide : 1 < 2) fun w' h2 g2 => k w' (H.take D h2 (in_st g2 (.inl rfl)) hres hbad)
theorem TS.set (D : TD tb xb nb zb B0 w0) (H : TS nt nc G tb xb nb zb B0 w0 w r x pv kv s f) {i : Nat} {v : Value} {y : POp} {a : Addr} {K : World → Prop} (ha : a = ⟨xb, i, none⟩) (hi : i < 15) (hy : (opCells x pv kv).setIfInBounds i v = opCells y pv kv) (hp : y.pairs = x.pairs) (hk : y.keys = x.keys)
    (k : ∀ w', TS nt nc G tb xb nb zb B0 w0 w' r y pv kv s f → K w') : doSt a v w K := by
  have ht := D.t
  have hx := D.x
  have hxn := D.xn
  have hxz := D.xz
  refine do_st H.ot ha hi fun w' h2 g2 => k w' ?_
  rw [hy] at h2
  exact ⟨Blk.grown H.tk g2 (ne_some (by omega)), h2, H.nm.grown g2 (ne_some (Ne.symm hxn)), Blk.grown H.zr g2 (ne_some (Ne.symm hxz)), by rw [hp]; exact keep_row H.pr fun b hb => g2.block b (H.pr.lt b hb).2 (ne_some (by have := (H.pr.lt b hb).1; omega)),
    by rw [hk]; exact keep_row H.kr fun b hb => g2.block b (H.kr.lt b hb).2 (ne_some (by have := (H.kr.lt b hb).1; omega)), H.res, H.bad, Nat.le_trans H.hs g2.size, H.c.trans (in_st g2 (.inr (.inl hx.1)))⟩
theorem TS.num (D : TD tb xb nb zb B0 w0) (H : TS nt nc G tb xb nb zb B0 w0 w r x pv kv s f) {i : Nat} {y : Int → POp} {a : Addr} {Kr : Int × Bs → Option (POp × Bs)} {K : World → Prop} {Kp : List PanicEntry → World → Prop} (hr : f = true → r = (numD s).bind Kr) (ha : a = ⟨xb, i, none⟩) (hi : i < 15)
    (hy : ∀ v, (opCells x pv kv).setIfInBounds i (.int .i64 v) = opCells (y v) pv kv) (hp : ∀ v, (y v).pairs = x.pairs) (hk : ∀ v, (y v).keys = x.keys) (k : ∀ v s' f' w', TS nt nc G tb xb nb zb B0 w0 w' (Kr (v, s')) (y v) pv kv s' f' → K w') :
    Calls Tryz.prog 64 #[.pointer (some (blk tb))] w (retS (fun v7 w8 => ∃ (x6 : Int), v7 = (.int .i64 x6 : Value) ∧ doSt a (.int .i64 x6) w8 K) Kp) :=
  c_tnum H.tk fun v s' f' w2 hN hT2 c2 => retS_ret ⟨_, rfl, (H.take D (r' := Kr (v, s')) hT2 c2 (fun e => by
      obtain ⟨hf, hv⟩ := hN.1 e
      rw [← H.res hf, hr hf, hv]; rfl) (fun e => by
      cases hf : f with
      | false => exact H.bad hf
      | true => rw [← H.res hf, hr hf, (hN.2 e).2 hf]; rfl)).set D ha hi (hy v) (hp v) (hk v) fun w3 H3 => k v s' f' w3 H3⟩
theorem TS.byte (D : TD tb xb nb zb B0 w0) (H : TS nt nc G tb xb nb zb B0 w0 w r x pv kv s f) {i : Nat} {y : Int → POp} {a : Addr} {ns : List Bs} {u : Int} {Kr : Int × Bs → Option (POp × Bs)} {K : World → Prop} {Kp : List PanicEntry → World → Prop} (hr : f = true → r = (inB.word ns u s).bind Kr) (ha : a = ⟨xb, i, none⟩) (hi : i < 15)
    (hy : ∀ v, (opCells x pv kv).setIfInBounds i (.int .u8 v) = opCells (y v) pv kv) (hp : ∀ v, (y v).pairs = x.pairs) (hk : ∀ v, (y v).keys = x.keys) (k : ∀ v s' f' w', TS nt nc G tb xb nb zb B0 w0 w' (Kr (v, s')) (y v) pv kv s' f' → K w') :
    Calls Tryz.prog 63 #[.pointer (some (blk tb))] w (retS (fun v7 w8 => ∃ (x6 : Int), v7 = (.int .u8 x6 : Value) ∧ doSt a (.int .u8 x6) w8 K) Kp) :=
  c_tbyte H.tk fun v s' f' w2 hN hT2 c2 => retS_ret ⟨_, rfl, (H.take D (r' := Kr (v, s')) hT2 c2 (fun e => by
      obtain ⟨hf, b, hs, hv⟩ := hN.1 e
      rw [← H.res hf, hr hf, hs, hv]; rfl) (fun e => by
      cases hf : f with
      | false => exact H.bad hf
      | true => rw [← H.res hf, hr hf, (hN.2 e).2 hf]; rfl)).set D ha hi (hy v) (hp v) (hk v) fun w3 H3 => k v s' f' w3 H3⟩
theorem TS.pushP (D : TD tb xb nb zb B0 w0) {p : OA} {n c : Nat} (H : TS nt nc G tb xb nb zb B0 w0 w r x (.slice p n c) nilV s f) (hn : x.pairs.length = n) (hnk : x.keys = []) (hlen : n ≤ 100000) {b : Nat} {v1 v2 : Int} {t : TypeId} (hb : Blk w b #[.int .i64 v1, .int .i64 v2] t) {bs : Array Bool} {K : World → Prop} {Kp : List PanicEntry → World → Prop}
    {a : Addr} (ha : a = ⟨xb, 13, none⟩) (k : ∀ p' c' w', TS nt nc G tb xb nb zb B0 w0 w' r { x with pairs := x.pairs ++ [(v1, v2)] } (.slice p' (n + 1) c') nilV s f → K w') :
    doGo Tryz.prog (.builtin .append #[34, 34] 34 bs) #[.slice p n c, .slice (some (blk b)) 1 1] w (retS (fun v w' => ∃ (xp : OA), ∃ (xn : Nat), ∃ (xc : Nat), v = (.slice xp xn xc : Value) ∧ doSt a (.slice xp xn xc) w' K) Kp) := by
  have ht := D.t
  have hx := D.x
  have hn' := D.n
  have hz := D.z
  have hxn := D.xn
  have hxz := D.xz
  have row := H.pr
  rw [hn] at row
  refine do_append' elP row (m := 1) (cs_blk hb) (by simp) (by simp [Value.oneCell']) (by simp only [maxLen]; omega) (by omega) H.hs fun p' c' w2 row2 g2 n2 => retS_ret ⟨p', _, c', rfl, ?_⟩
  have ng : ∀ {k : Nat}, k < B0 → some k ≠ (Value.slice p n c).ownBlock := fun h e => by have := (row.lt _ e.symm).1; omega
  have X2 : OpAt w2 xb x (.slice p n c) nilV := Blk.grown H.ot g2 (ng (by omega))
  refine do_st X2 ha (by decide : 13 < 15) fun w3 X3 g3 => k p' c' w3 ?_
  have X3 : OpAt w3 xb { x with pairs := x.pairs ++ [(v1, v2)] } (.slice p' (n + 1) c') nilV := X3
  have row3 := keep_row row2 fun b hbb => g3.block b (row2.lt b hbb).2 (ne_some (by have := (row2.lt b hbb).1; omega))
  refine ⟨Blk.grown (Blk.grown H.tk g2 (ng (by omega))) g3 (ne_some (by omega)), X3, (H.nm.grown g2 (ng (by omega))).grown g3 (ne_some (Ne.symm hxn)), Blk.grown (Blk.grown H.zr g2 (ng (by omega))) g3 (ne_some (Ne.symm hxz)), ?_, ?_, H.res, H.bad, Nat.le_trans H.hs (Nat.le_trans g2.size g3.size),
    (H.c.trans (in_gr g2 fun b hb => by have := (row.lt b hb).1; show w0.heap.size ≤ b; omega)).trans (in_st g3 (.inr (.inl hx.1)))⟩
  · show w3.ownsRow B0 _ 2 _ (x.pairs ++ [(v1, v2)]).length (prs (x.pairs ++ [(v1, v2)]))
    rw [List.length_append, hn]
    have : prs (x.pairs ++ [(v1, v2)]) = prs x.pairs ++ [.int .i64 v1, .int .i64 v2] := by simp [prs]
    rw [this]; exact row3
  · show w3.ownsRow B0 _ 1 _ x.keys.length (ints x.keys)
    rw [hnk]; exact World.ownsRow_nil _ _ _ _
theorem TS.pushK (D : TD tb xb nb zb B0 w0) {p : OA} {n c B1 : Nat} (H : TS nt nc G tb xb nb zb B0 w0 w r x pv (.slice p n c) s f) (hn : x.keys.length = n) (hlen : n ≤ 100000) (row : w.ownsRow B1 2 1 (.slice p n c) n (ints x.keys)) (hpB : ∀ b, pv.ownBlock = some b → b < B1) (hB1 : B0 ≤ B1) (hB : B1 ≤ w.heap.size) {b : Nat} {v1 : Int} {t : TypeId} (hb : Blk w b #[.int .i64 v1] t) {bs : Array Bool} {K : World → Prop} {Kp : List PanicEntry → World → Prop}
    {a : Addr} (ha : a = ⟨xb, 14, none⟩) (k : ∀ p' c' w', TS nt nc G tb xb nb zb B0 w0 w' r { x with keys := x.keys ++ [v1] } pv (.slice p' (n + 1) c') s f → w'.ownsRow B1 2 1 (.slice p' (n + 1) c') (n + 1) (ints (x.keys ++ [v1])) → B1 ≤ w'.heap.size → K w') :
    doGo Tryz.prog (.builtin .append #[35, 35] 35 bs) #[.slice p n c, .slice (some (blk b)) 1 1] w (retS (fun v w' => ∃ (xp : OA), ∃ (xn : Nat), ∃ (xc : Nat), v = (.slice xp xn xc : Value) ∧ doSt a (.slice xp xn xc) w' K) Kp) := by
  have ht := D.t
  have hx := D.x
  have hn' := D.n
  have hz := D.z
  have hxn := D.xn
  have hxz := D.xz
  refine do_append' elIo row (m := 1) (cs_blk hb) (by simp) (by simp [Value.oneCell']) (by simp only [maxLen]; omega) (by omega) hB fun p' c' w2 row2 g2 n2 => retS_ret ⟨p', _, c', rfl, ?_⟩
  have ng : ∀ {k : Nat}, k < B1 → some k ≠ (Value.slice p n c).ownBlock := fun h e => by have := (row.lt _ e.symm).1; omega
  have X2 : OpAt w2 xb x pv (.slice p n c) := Blk.grown H.ot g2 (ng (by omega))
  refine do_st X2 ha (by decide : 14 < 15) fun w3 X3 g3 => k p' c' w3 ?_ ?_ (by have := g2.size; have := g3.size; omega)
  · have X3 : OpAt w3 xb { x with keys := x.keys ++ [v1] } pv (.slice p' (n + 1) c') := X3
    have row3 := keep_row row2 fun b hbb => g3.block b (row2.lt b hbb).2 (ne_some (by have := (row2.lt b hbb).1; omega))
    refine ⟨Blk.grown (Blk.grown H.tk g2 (ng (by omega))) g3 (ne_some (by omega)), X3, (H.nm.grown g2 (ng (by omega))).grown g3 (ne_some (Ne.symm hxn)), Blk.grown (Blk.grown H.zr g2 (ng (by omega))) g3 (ne_some (Ne.symm hxz)), ?_, ?_, H.res, H.bad, Nat.le_trans H.hs (Nat.le_trans g2.size g3.size),
      (H.c.trans (in_gr g2 fun b hb => by have := (row.lt b hb).1; show w0.heap.size ≤ b; omega)).trans (in_st g3 (.inr (.inl hx.1)))⟩
    · have r2 := keep_row H.pr fun b hb => g2.block b (H.pr.lt b hb).2 (ng (hpB b hb))
      exact keep_row r2 fun b hb => g3.block b (r2.lt b hb).2 (ne_some (by have := (r2.lt b hb).1; omega))
    · show w3.ownsRow B0 _ 1 _ (x.keys ++ [v1]).length (ints (x.keys ++ [v1]))
      rw [List.length_append, hn]
      have : ints (x.keys ++ [v1]) = ints x.keys ++ [.int .i64 v1] := by simp [ints]
      rw [this]; exact row_mono row3 hB1
  · have : ints (x.keys ++ [v1]) = ints x.keys ++ [.int .i64 v1] := by simp [ints]
    rw [this]
    exact keep_row row2 fun b hbb => g3.block b (row2.lt b hbb).2 (ne_some (by have := (row2.lt b hbb).1; omega))
end
theorem hr_num {q : Part} {ps : List Part} {g : Int → POp} {x : POp} {s : Bs} (hp : partP inB q x s = (numD s).bind fun r => some (g r.1, r.2)) : partsP inB (q :: ps) x s = (numD s).bind fun r => partsP inB ps (g r.1) r.2 := by
  rw [partsP, hp]
  cases numD s <;> rfl
theorem hr_word {q : Part} {ps : List Part} {ns : List Bs} {u : Int} {g : Int → POp} {x : POp} {s : Bs} (hp : partP inB q x s = (inB.word ns u s).bind fun r => some (g r.1, r.2)) : partsP inB (q :: ps) x s = (inB.word ns u s).bind fun r => partsP inB ps (g r.1) r.2 := by
  rw [partsP, hp]
  cases inB.word ns u s <;> rfl
theorem keys_nil {x : POp} (h : x.keys = []) : { x with keys := [] } = x := by
  cases x; simp only at h; subst h; rfl
theorem pairs_nil {x : POp} (h : x.pairs = []) : { x with pairs := [] } = x := by
  cases x; simp only at h; subst h; rfl
theorem keys_step {n k : Nat} {L : List Int} {s : Bs} (hk : k < n) (hL : L.length = k) : keysP inB (n - k) k L s = (numD s).bind fun r => keysP inB (n - (k + 1)) (k + 1) (L ++ [r.1]) r.2 := by
  rw [show n - k = (n - (k + 1)) + 1 by omega, keysP]
  simp only [hL, if_true]
  rfl
theorem pairs_step {n k : Nat} {L : List (Int × Int)} {s : Bs} (hk : k < n) (hL : L.length = k) : pairsP inB (n - k) k L s = (numD s).bind fun r => (numD r.2).bind fun q => pairsP inB (n - (k + 1)) (k + 1) (L ++ [(r.1, q.1)]) q.2 := by
  rw [show n - k = (n - (k + 1)) + 1 by omega, pairsP]
  simp only [hL, if_true, inB, Option.bind_assoc, Option.bind_some]
theorem keys_part {q : Part} {ps : List Part} {x : POp} {s : Bs} (hq : q = .keys) (hk : x.keys = []) : partsP inB (q :: ps) x s = (inB.many 0 s).bind fun r => (keysP inB r.1 0 [] r.2).bind fun q => partsP inB ps { x with keys := q.1 } q.2 := by
  subst hq
  simp only [partsP, partP, hk, List.length_nil, Option.bind_assoc, Option.bind_some]
theorem pairs_part {q : Part} {ps : List Part} {x : POp} {s : Bs} (hq : q = .pairs) (hk : x.pairs = []) : partsP inB (q :: ps) x s = (inB.many 0 s).bind fun r => (pairsP inB r.1 0 [] r.2).bind fun q => partsP inB ps { x with pairs := q.1 } q.2 := by
  subst hq
  simp only [partsP, partP, hk, List.length_nil, Option.bind_assoc, Option.bind_some]
theorem pred_part {ps : List Part} {x : POp} {s : Bs} : partsP inB (.pred :: ps) x s = (inB.word kindNames x.pk s).bind fun q => (numD q.2).bind fun u => (numD u.2).bind fun v => (inB.flag x.pnot v.2).bind fun r => partsP inB ps { x with pk := q.1, pa := u.1, pb := v.1, pnot := r.1 } r.2 := by
  simp only [partsP, partP, predP]
  rw [if_neg (by decide : ¬ inB.words = true)]
  simp only [Option.bind_assoc, Option.bind_some]
  rfl
end Go.Proofs.YtmkpkmdnapccgaaGreatDoor

namespace Go.Proofs.YtmkpkmdnapccgaaGreatDoor
open Go Go.Sh Go.RowKit

theorem c_top10 {d : Int} {s0 : Bs} {tb xb nb zb B0 : Nat} {w0 : World} {R : EW} (D : TD tb xb nb zb B0 w0)
    (h : ∀ x pv kv s' f' w', Tk w' tb s' f' → (f' = true → allP inB .zero s0 = some (x, s')) → (f' = false → allP inB .zero s0 = none) → OpFr w' w0.heap.size none (x, pv, kv) → Chg (InOwn tb) (fun k => w0.heap.size ≤ k) w0 w' → R (.returned (opV x pv kv)) w')
    {x : POp} {pv : Value} {s : Bs} {f : Bool} {w' : World} (hk : x.keys = []) (H : TS 67 (nmCells d) (allP inB .zero s0) tb xb nb zb B0 w0 w' (partsP inB (FP d 10) x s) x pv nilV s f) : sh43k10 R [.pointer (some (blk tb)), .pointer (some (blk zb)), .pointer (some (blk xb)), .pointer (some (blk nb))] w' := ⟨_, _, _, _, rfl, by
  unfold sh43b10
  intro K6
  have hx := D.x
  have hz := D.z
  have ht := D.t
  have fin : ∀ (r : Option (POp × Bs)) (x : POp) (pv kv : Value) (s : Bs) (f : Bool) (w' : World), TS 67 (nmCells d) (allP inB .zero s0) tb xb nb zb B0 w0 w' r x pv kv s f → (f = true → r = some (x, s)) → K6 w' := fun r x pv kv s f w' H hr => by
    obtain ⟨p, c, rfl⟩ := row_slice H.pr
    obtain ⟨q, c', rfl⟩ := row_slice H.kr
    refine ⟨_, Blk.cell (i := 0) H.ot rfl rfl, _, Blk.cell (i := 1) H.ot rfl rfl, _, Blk.cell (i := 2) H.ot rfl rfl, _, Blk.cell (i := 3) H.ot rfl rfl, _, Blk.cell (i := 4) H.ot rfl rfl, _, Blk.cell (i := 5) H.ot rfl rfl, _, Blk.cell (i := 6) H.ot rfl rfl, _, Blk.cell (i := 7) H.ot rfl rfl, _, Blk.cell (i := 8) H.ot rfl rfl, _, Blk.cell (i := 9) H.ot rfl rfl, _, Blk.cell (i := 10) H.ot rfl rfl, _, Blk.cell (i := 11) H.ot rfl rfl, _, Blk.cell (i := 12) H.ot rfl rfl, _, _, _, Blk.cell (i := 13) H.ot rfl rfl, _, _, _, Blk.cell (i := 14) H.ot rfl rfl, st15 H.zr fun w2 Z2 g2 => ?_⟩
    have Z2 : OpAt w2 zb x (.slice p x.pairs.length c) (.slice q x.keys.length c') := Z2
    have rp := keep_row H.pr fun b hb => g2.block b (H.pr.lt b hb).2 (ne_some (by have := (H.pr.lt b hb).1; omega))
    have rk := keep_row H.kr fun b hb => g2.block b (H.kr.lt b hb).2 (ne_some (by have := (H.kr.lt b hb).1; omega))
    refine ⟨_, Blk.cell (i := 0) Z2 rfl rfl, _, Blk.cell (i := 1) Z2 rfl rfl, _, Blk.cell (i := 2) Z2 rfl rfl, _, Blk.cell (i := 3) Z2 rfl rfl, _, Blk.cell (i := 4) Z2 rfl rfl, _, Blk.cell (i := 5) Z2 rfl rfl, _, Blk.cell (i := 6) Z2 rfl rfl, _, Blk.cell (i := 7) Z2 rfl rfl, _, Blk.cell (i := 8) Z2 rfl rfl, _, Blk.cell (i := 9) Z2 rfl rfl, _, Blk.cell (i := 10) Z2 rfl rfl, _, Blk.cell (i := 11) Z2 rfl rfl, _, Blk.cell (i := 12) Z2 rfl rfl, _, _, _, Blk.cell (i := 13) Z2 rfl rfl, _, _, _, Blk.cell (i := 14) Z2 rfl rfl, h x _ _ s f w2 (Blk.grown H.tk g2 (ne_some (by omega))) (fun e => by rw [← H.res e, hr e]) H.bad ⟨⟨p, c, rfl, row_cap rp, Cs.of_row rp, fun b hb _ => ⟨by have := (row_lt rp hb).1; omega, by simp⟩⟩, ⟨q, c', rfl, row_cap rk, Cs.of_row rk, fun b hb _ => ⟨by have := (row_lt rk hb).1; omega, by simp⟩⟩⟩ (H.c.trans (in_st g2 (.inr (.inl hz.1))))⟩
  refine ⟨_, H.nm.cell (i := 10) rfl rfl, ifB_intro (fun z => ?_) fun z => ?_⟩
  case refine_2 => exact fin _ x pv nilV s f w' H fun _ => by rw [fp_no (i := 10) (q := .keys) rfl z]; rfl
  refine do_call Tryz.call65 (c_tmany H.tk fun n s2 f2 w2 hM hn4 hT2 c2 => retS_ret ⟨_, rfl, ?_⟩)
  have H2 : TS 67 (nmCells d) (allP inB .zero s0) tb xb nb zb B0 w0 w2 ((keysP inB n 0 [] s2).bind fun q => partsP inB (FP d 11) { x with keys := q.1 } q.2) { x with keys := [] } pv nilV s2 f2 := by
    rw [keys_nil hk]
    refine H.take D hT2 c2 (fun e => ?_) fun e => ?_
    · obtain ⟨hf, hv⟩ := hM.1 e
      rw [← H.res hf, fp_yes (i := 10) (q := .keys) rfl z, keys_part rfl hk, hv]; rfl
    · cases hf : f with
      | false => exact H.bad hf
      | true => rw [← H.res hf, fp_yes (i := 10) (q := .keys) rfl z, keys_part rfl hk, (hM.2 e).2 hf]; rfl
  refine ⟨fun vs w' => ∃ (k : Nat) (L : List Int) (p : OA) (c : Nat) (s' : Bs) (f' : Bool), vs = [.int .i64 (k : Int)] ∧ k ≤ n ∧ L.length = k ∧ TS 67 (nmCells d) (allP inB .zero s0) tb xb nb zb B0 w0 w' ((keysP inB (n - k) k L s').bind fun q => partsP inB (FP d 11) { x with keys := q.1 } q.2) { x with keys := L } pv (.slice p k c) s' f' ∧ w'.ownsRow w2.heap.size 2 1 (.slice p k c) k (ints L) ∧ w2.heap.size ≤ w'.heap.size,
    fun vs _ => match vs with | [.int _ i] => n - i.toNat | _ => 0, ⟨0, [], none, 0, s2, f2, rfl, Nat.zero_le _, rfl, H2, World.ownsRow_nil _ _ _ _, Nat.le_refl _⟩, ?_⟩
  rintro i_ _ w3 ⟨k, L, p, c, s3, f3, hv, hkn, hL, H3, row, hw3⟩
  simp only [List.cons.injEq, Value.int.injEq, true_and, and_true] at hv
  subst hv
  intro K71
  have exit : (f3 = true → k = n) → K6 w3 := fun he => fin _ _ _ _ _ _ _ H3 fun e => by
    rw [he e, Nat.sub_self]; rfl
  refine ifB_intro (fun zk => ?_) fun zk => exit fun _ => by have := of_decide_eq_false zk; omega
  have zk : k < n := by have := of_decide_eq_true zk; omega
  refine ⟨_, rfl, _, Blk.cell (i := 1) H3.tk rfl rfl, ifB_intro (fun zf => ?_) fun zf => exit fun e => by rw [e] at zf; cases zf⟩
  refine ⟨?_⟩
  have e4 := ext_drew w3
  have H4 := H3.ext e4
  have row4 := e4.row row
  generalize w3.drew = w4 at *
  refine ⟨fun w' => OpAt w' xb { x with keys := L } pv (.slice p k c), H4.ot, _, _, _, fun w' h' => Blk.cell (i := 14) h' rfl rfl, ?_⟩
  refine do_call Tryz.call64 (c_tnum H4.tk fun v s5 f5 w5 hN hT5 c5 => retS_ret ⟨_, rfl, ?_⟩)
  have H5 : TS 67 (nmCells d) (allP inB .zero s0) tb xb nb zb B0 w0 w5 ((keysP inB (n - (k + 1)) (k + 1) (L ++ [v]) s5).bind fun q => partsP inB (FP d 11) { x with keys := q.1 } q.2) { x with keys := L } pv (.slice p k c) s5 f5 := H4.take D hT5 c5 (fun e => by
      obtain ⟨hf, hv⟩ := hN.1 e
      rw [← H4.res hf, keys_step zk hL, hv]; rfl) (fun e => by
      cases hf : f3 with
      | false => exact H4.bad hf
      | true => rw [← H4.res hf, keys_step zk hL, (hN.2 e).2 hf]; rfl)
  have row5 := chg_row c5 row4 (fun j hj => fun e => by have e : j = tb := e; have := (row4.lt j hj).1; have := H2.hs; omega) (fun _ _ h => h)
  refine ⟨H5.ot, do_al fun b6 w6 e6 B6 l6 => ⟨(H5.ext e6).ot, ?_⟩⟩
  refine (H5.ext e6).pushK D hL (by omega) (e6.row row5) (fun b hb => (H2.pr.lt b hb).2) H2.hs (by have := c5.size; have := e6.size; have := e4.size; omega) B6 rfl fun p' c' w7 H7 row7 h7 => ?_
  rw [wrap_succ zk (by omega)]
  refine ⟨⟨k + 1, L ++ [v], p', c', s5, f5, rfl, by omega, by simp [hL], H7, row7, h7⟩, ?_⟩
  show n - ((k + 1 : Nat) : Int).toNat < n - (k : Int).toNat
  omega⟩
theorem c_top9 {d : Int} {s0 : Bs} {tb xb nb zb B0 : Nat} {w0 : World} {R : EW} (D : TD tb xb nb zb B0 w0)
    (h : ∀ x pv kv s' f' w', Tk w' tb s' f' → (f' = true → allP inB .zero s0 = some (x, s')) → (f' = false → allP inB .zero s0 = none) → OpFr w' w0.heap.size none (x, pv, kv) → Chg (InOwn tb) (fun k => w0.heap.size ≤ k) w0 w' → R (.returned (opV x pv kv)) w')
    {x : POp} {s : Bs} {f : Bool} {w' : World} (hp : x.pairs = []) (hk : x.keys = []) (H : TS 67 (nmCells d) (allP inB .zero s0) tb xb nb zb B0 w0 w' (partsP inB (FP d 9) x s) x nilV nilV s f) : sh43k9 R [.pointer (some (blk tb)), .pointer (some (blk zb)), .pointer (some (blk xb)), .pointer (some (blk nb))] w' := ⟨_, _, _, _, rfl, by
  unfold sh43b9
  have hx := D.x
  have ht := D.t
  refine ⟨_, H.nm.cell (i := 9) rfl rfl, ifB_intro (fun z => ?_) fun z => ?_⟩
  case refine_2 => exact c_top10 D h hk (H.re fun _ => by rw [fp_no (i := 9) (q := .pairs) rfl z])
  refine do_call Tryz.call65 (c_tmany H.tk fun n s2 f2 w2 hM hn4 hT2 c2 => retS_ret ⟨_, rfl, ?_⟩)
  have H2 : TS 67 (nmCells d) (allP inB .zero s0) tb xb nb zb B0 w0 w2 ((pairsP inB n 0 [] s2).bind fun q => partsP inB (FP d 10) { x with pairs := q.1 } q.2) { x with pairs := [] } nilV nilV s2 f2 := by
    rw [pairs_nil hp]
    refine H.take D hT2 c2 (fun e => ?_) fun e => ?_
    · obtain ⟨hf, hv⟩ := hM.1 e
      rw [← H.res hf, fp_yes (i := 9) (q := .pairs) rfl z, pairs_part rfl hp, hv]; rfl
    · cases hf : f with
      | false => exact H.bad hf
      | true => rw [← H.res hf, fp_yes (i := 9) (q := .pairs) rfl z, pairs_part rfl hp, (hM.2 e).2 hf]; rfl
  refine ⟨fun vs w' => ∃ (k : Nat) (L : List (Int × Int)) (p : OA) (c : Nat) (s' : Bs) (f' : Bool), vs = [.int .i64 (k : Int)] ∧ k ≤ n ∧ L.length = k ∧ TS 67 (nmCells d) (allP inB .zero s0) tb xb nb zb B0 w0 w' ((pairsP inB (n - k) k L s').bind fun q => partsP inB (FP d 10) { x with pairs := q.1 } q.2) { x with pairs := L } (.slice p k c) nilV s' f',
    fun vs _ => match vs with | [.int _ i] => n - i.toNat | _ => 0, ⟨0, [], none, 0, s2, f2, rfl, Nat.zero_le _, rfl, H2⟩, ?_⟩
  rintro i_ _ w3 ⟨k, L, p, c, s3, f3, hv, hkn, hL, H3⟩
  simp only [List.cons.injEq, Value.int.injEq, true_and, and_true] at hv
  subst hv
  intro K16
  have exit : (f3 = true → k = n) → sh43k10 R [.pointer (some (blk tb)), .pointer (some (blk zb)), .pointer (some (blk xb)), .pointer (some (blk nb))] w3 := fun he => c_top10 D h (x := { x with pairs := L }) hk (H3.re fun e => by
    rw [he e, Nat.sub_self]; rfl)
  refine ifB_intro (fun zk => ?_) fun zk => exit fun _ => by have := of_decide_eq_false zk; omega
  have zk : k < n := by have := of_decide_eq_true zk; omega
  refine ⟨_, rfl, _, Blk.cell (i := 1) H3.tk rfl rfl, ifB_intro (fun zf => ?_) fun zf => exit fun e => by rw [e] at zf; cases zf⟩
  refine do_call Tryz.call64 (c_tnum H3.tk fun v1 s4 f4 w4 hN hT4 c4 => retS_ret ⟨_, rfl, ⟨?_⟩⟩)
  have H4 : TS 67 (nmCells d) (allP inB .zero s0) tb xb nb zb B0 w0 w4 (((numD s4).bind fun q => pairsP inB (n - (k + 1)) (k + 1) (L ++ [(v1, q.1)]) q.2).bind fun q => partsP inB (FP d 10) { x with pairs := q.1 } q.2) { x with pairs := L } (.slice p k c) nilV s4 f4 := H3.take D hT4 c4 (fun e => by
      obtain ⟨hf, hv⟩ := hN.1 e
      rw [← H3.res hf, pairs_step zk hL, hv]; rfl) (fun e => by
      cases hf : f3 with
      | false => exact H3.bad hf
      | true => rw [← H3.res hf, pairs_step zk hL, (hN.2 e).2 hf]; rfl)
  have H4 := H4.ext (ext_drew w4)
  generalize w4.drew = w5 at *
  refine ⟨fun w' => OpAt w' xb { x with pairs := L } (.slice p k c) nilV, H4.ot, _, _, _, fun w' h' => Blk.cell (i := 13) h' rfl rfl, ?_⟩
  refine do_call Tryz.call64 (c_tnum H4.tk fun v2 s6 f6 w6 hN6 hT6 c6 => retS_ret ⟨_, rfl, ?_⟩)
  have H6 : TS 67 (nmCells d) (allP inB .zero s0) tb xb nb zb B0 w0 w6 ((pairsP inB (n - (k + 1)) (k + 1) (L ++ [(v1, v2)]) s6).bind fun q => partsP inB (FP d 10) { x with pairs := q.1 } q.2) { x with pairs := L } (.slice p k c) nilV s6 f6 := H4.take D hT6 c6 (fun e => by
      obtain ⟨hf, hv⟩ := hN6.1 e
      rw [← H4.res hf, hv]; rfl) (fun e => by
      cases hf : f4 with
      | false => exact H4.bad hf
      | true => rw [← H4.res hf, (hN6.2 e).2 hf]; rfl)
  refine ⟨H6.ot, do_al fun b7 w7 e7 B7 l7 => ⟨(H6.ext e7).ot, ?_⟩⟩
  refine (H6.ext e7).pushP D hL hk (by omega) B7 rfl fun p' c' w8 H8 => ?_
  rw [wrap_succ zk (by omega)]
  refine ⟨⟨k + 1, L ++ [(v1, v2)], p', c', s6, f6, rfl, by omega, by simp [hL], H8⟩, ?_⟩
  show n - ((k + 1 : Nat) : Int).toNat < n - (k : Int).toNat
  omega⟩
theorem c_top8 {d : Int} {s0 : Bs} {tb xb nb zb B0 : Nat} {w0 : World} {R : EW} (D : TD tb xb nb zb B0 w0)
    (h : ∀ x pv kv s' f' w', Tk w' tb s' f' → (f' = true → allP inB .zero s0 = some (x, s')) → (f' = false → allP inB .zero s0 = none) → OpFr w' w0.heap.size none (x, pv, kv) → Chg (InOwn tb) (fun k => w0.heap.size ≤ k) w0 w' → R (.returned (opV x pv kv)) w')
    {x : POp} {s : Bs} {f : Bool} {w' : World} (hp : x.pairs = []) (hk : x.keys = []) (H : TS 67 (nmCells d) (allP inB .zero s0) tb xb nb zb B0 w0 w' (partsP inB (FP d 8) x s) x nilV nilV s f) : sh43k8 R [.pointer (some (blk tb)), .pointer (some (blk zb)), .pointer (some (blk xb)), .pointer (some (blk nb))] w' := ⟨_, _, _, _, rfl, by
  unfold sh43b8
  refine ⟨_, H.nm.cell (i := 8) rfl rfl, ifB_intro (fun z => ?_) fun z => ?_⟩
  case refine_2 => exact c_top9 D h hp hk (H.re fun _ => by rw [fp_no (i := 8) (q := .pred) rfl z])
  refine do_call Tryz.call63 (H.byte D (i := 9) (y := fun v => { x with pk := v }) (fun _ => by rw [fp_yes (i := 8) (q := .pred) rfl z, pred_part]) rfl (by decide) (fun _ => rfl) (fun _ => rfl) (fun _ => rfl) fun v1 s1 f1 w1 H1 => ?_)
  refine do_call Tryz.call64 (H1.num D (i := 10) (y := fun v => { x with pk := v1, pa := v }) (fun _ => rfl) rfl (by decide) (fun _ => rfl) (fun _ => rfl) (fun _ => rfl) fun v2 s2 f2 w2 H2 => ?_)
  refine do_call Tryz.call64 (H2.num D (i := 11) (y := fun v => { x with pk := v1, pa := v2, pb := v }) (fun _ => rfl) rfl (by decide) (fun _ => rfl) (fun _ => rfl) (fun _ => rfl) fun v3 s3 f3 w3 H3 => ?_)
  refine do_call Tryz.call63 (c_tbyte H3.tk fun v4 s4 f4 w4 hN hT4 c4 => retS_ret ⟨_, rfl, ?_⟩)
  have H4 : TS 67 (nmCells d) (allP inB .zero s0) tb xb nb zb B0 w0 w4 (if v4 < 2 then partsP inB (FP d 9) { x with pk := v1, pa := v2, pb := v3, pnot := v4 == 1 } s4 else none) { x with pk := v1, pa := v2, pb := v3 } nilV nilV s4 f4 := H3.take D hT4 c4 (fun e => by
      obtain ⟨hf, b, hs, hv⟩ := hN.1 e
      rw [← H3.res hf, hs, hv, one_eq]
      show _ = ((if b.toNat < 2 then some (b == 1, s4) else none : Option (Bool × Bs))).bind _
      by_cases hb : b.toNat < 2
      · rw [if_pos hb, if_pos (by omega)]; rfl
      · rw [if_neg hb, if_neg (by omega)]; rfl) (fun e => by
      cases hf : f3 with
      | false => exact H3.bad hf
      | true => rw [← H3.res hf, (hN.2 e).2 hf]; rfl)
  refine H4.set D (i := 12) (y := { x with pk := v1, pa := v2, pb := v3, pnot := v4 == 1 }) rfl (by decide) rfl rfl rfl fun w5 H5 => ⟨_, rfl, _, Blk.cell (i := 1) H5.tk rfl rfl, ifB_intro (fun zf => ⟨_, rfl, ?_⟩) fun zf => ⟨_, rfl, ?_⟩⟩
  · have hG := H5.res zf
    refine H5.flag D rfl (r' := partsP inB (FP d 9) { x with pk := v1, pa := v2, pb := v3, pnot := v4 == 1 } s4) (fun e => ?_) (fun e => ?_) fun w6 H6 => c_top9 D h (x := { x with pk := v1, pa := v2, pb := v3, pnot := v4 == 1 }) hp hk H6
    · rw [if_pos (of_decide_eq_true e)] at hG; exact hG
    · rw [if_neg (of_decide_eq_false e)] at hG; exact hG.symm
  · exact H5.flag D rfl (r' := partsP inB (FP d 9) { x with pk := v1, pa := v2, pb := v3, pnot := v4 == 1 } s4) (fun e => by cases e) (fun _ => H5.bad zf) fun w6 H6 => c_top9 D h (x := { x with pk := v1, pa := v2, pb := v3, pnot := v4 == 1 }) hp hk H6⟩
theorem c_top7 {d : Int} {s0 : Bs} {tb xb nb zb B0 : Nat} {w0 : World} {R : EW} (D : TD tb xb nb zb B0 w0)
    (h : ∀ x pv kv s' f' w', Tk w' tb s' f' → (f' = true → allP inB .zero s0 = some (x, s')) → (f' = false → allP inB .zero s0 = none) → OpFr w' w0.heap.size none (x, pv, kv) → Chg (InOwn tb) (fun k => w0.heap.size ≤ k) w0 w' → R (.returned (opV x pv kv)) w')
    {x : POp} {s : Bs} {f : Bool} {w' : World} (hp : x.pairs = []) (hk : x.keys = []) (H : TS 67 (nmCells d) (allP inB .zero s0) tb xb nb zb B0 w0 w' (partsP inB (FP d 7) x s) x nilV nilV s f) : sh43k7 R [.pointer (some (blk tb)), .pointer (some (blk zb)), .pointer (some (blk xb)), .pointer (some (blk nb))] w' := ⟨_, _, _, _, rfl, by
  unfold sh43b7
  refine ⟨_, H.nm.cell (i := 7) rfl rfl, ifB_intro (fun z => ?_) fun z => ?_⟩
  case refine_2 => exact c_top8 D h hp hk (H.re fun _ => by rw [fp_no (i := 7) (q := .pol) rfl z])
  exact do_call Tryz.call63 (H.byte D (i := 8) (y := fun v => { x with pol := v }) (fun _ => by rw [fp_yes (i := 7) (q := .pol) rfl z, hr_word (ns := polNames) (u := x.pol) (g := fun v => { x with pol := v }) rfl]) rfl (by decide) (fun _ => rfl) (fun _ => rfl) (fun _ => rfl) fun v1 s1 f1 w1 H1 => c_top8 D h (x := { x with pol := v1 }) hp hk H1)⟩
theorem c_top6 {d : Int} {s0 : Bs} {tb xb nb zb B0 : Nat} {w0 : World} {R : EW} (D : TD tb xb nb zb B0 w0)
    (h : ∀ x pv kv s' f' w', Tk w' tb s' f' → (f' = true → allP inB .zero s0 = some (x, s')) → (f' = false → allP inB .zero s0 = none) → OpFr w' w0.heap.size none (x, pv, kv) → Chg (InOwn tb) (fun k => w0.heap.size ≤ k) w0 w' → R (.returned (opV x pv kv)) w')
    {x : POp} {s : Bs} {f : Bool} {w' : World} (hp : x.pairs = []) (hk : x.keys = []) (H : TS 67 (nmCells d) (allP inB .zero s0) tb xb nb zb B0 w0 w' (partsP inB (FP d 6) x s) x nilV nilV s f) : sh43k6 R [.pointer (some (blk tb)), .pointer (some (blk zb)), .pointer (some (blk xb)), .pointer (some (blk nb))] w' := ⟨_, _, _, _, rfl, by
  unfold sh43b6
  refine ⟨_, H.nm.cell (i := 6) rfl rfl, ifB_intro (fun z => ?_) fun z => ?_⟩
  case refine_2 => exact c_top7 D h hp hk (H.re fun _ => by rw [fp_no (i := 6) (q := .n) rfl z])
  exact do_call Tryz.call64 (H.num D (i := 7) (y := fun v => { x with n := v }) (fun _ => by rw [fp_yes (i := 6) (q := .n) rfl z, hr_num (g := fun v => { x with n := v }) rfl]) rfl (by decide) (fun _ => rfl) (fun _ => rfl) (fun _ => rfl) fun v1 s1 f1 w1 H1 => c_top7 D h (x := { x with n := v1 }) hp hk H1)⟩
theorem c_top5 {d : Int} {s0 : Bs} {tb xb nb zb B0 : Nat} {w0 : World} {R : EW} (D : TD tb xb nb zb B0 w0)
    (h : ∀ x pv kv s' f' w', Tk w' tb s' f' → (f' = true → allP inB .zero s0 = some (x, s')) → (f' = false → allP inB .zero s0 = none) → OpFr w' w0.heap.size none (x, pv, kv) → Chg (InOwn tb) (fun k => w0.heap.size ≤ k) w0 w' → R (.returned (opV x pv kv)) w')
    {x : POp} {s : Bs} {f : Bool} {w' : World} (hp : x.pairs = []) (hk : x.keys = []) (H : TS 67 (nmCells d) (allP inB .zero s0) tb xb nb zb B0 w0 w' (partsP inB (FP d 4) x s) x nilV nilV s f) : sh43k5 R [.pointer (some (blk tb)), .pointer (some (blk zb)), .pointer (some (blk xb)), .pointer (some (blk nb))] w' := ⟨_, _, _, _, rfl, by
  unfold sh43b5
  refine ⟨_, H.nm.cell (i := 4) rfl rfl, ifB_intro (fun z => ?_) fun z => ?_⟩
  case refine_2 => exact c_top6 D h hp hk (H.re fun _ => by rw [fp_no (i := 4) (q := .lo) rfl z, fp_no (i := 5) (q := .hi) rfl ((hi_lo d).trans z)])
  refine do_call Tryz.call64 (H.num D (i := 5) (y := fun v => { x with lo := v }) (fun _ => by rw [fp_yes (i := 4) (q := .lo) rfl z, hr_num (g := fun v => { x with lo := v }) rfl]) rfl (by decide) (fun _ => rfl) (fun _ => rfl) (fun _ => rfl) fun v1 s1 f1 w1 H1 => ?_)
  exact do_call Tryz.call64 (H1.num D (i := 6) (y := fun v => { x with lo := v1, hi := v }) (fun _ => by rw [fp_yes (i := 5) (q := .hi) rfl ((hi_lo d).trans z), hr_num (x := { x with lo := v1 }) (g := fun v => { x with lo := v1, hi := v }) rfl]) rfl (by decide) (fun _ => rfl) (fun _ => rfl) (fun _ => rfl) fun v2 s2 f2 w2 H2 => c_top6 D h (x := { x with lo := v1, hi := v2 }) hp hk H2)⟩
theorem c_top4 {d : Int} {s0 : Bs} {tb xb nb zb B0 : Nat} {w0 : World} {R : EW} (D : TD tb xb nb zb B0 w0)
    (h : ∀ x pv kv s' f' w', Tk w' tb s' f' → (f' = true → allP inB .zero s0 = some (x, s')) → (f' = false → allP inB .zero s0 = none) → OpFr w' w0.heap.size none (x, pv, kv) → Chg (InOwn tb) (fun k => w0.heap.size ≤ k) w0 w' → R (.returned (opV x pv kv)) w')
    {x : POp} {s : Bs} {f : Bool} {w' : World} (hp : x.pairs = []) (hk : x.keys = []) (H : TS 67 (nmCells d) (allP inB .zero s0) tb xb nb zb B0 w0 w' (partsP inB (FP d 3) x s) x nilV nilV s f) : sh43k4 R [.pointer (some (blk tb)), .pointer (some (blk zb)), .pointer (some (blk xb)), .pointer (some (blk nb))] w' := ⟨_, _, _, _, rfl, by
  unfold sh43b4
  refine ⟨_, H.nm.cell (i := 3) rfl rfl, ifB_intro (fun z => ?_) fun z => ?_⟩
  case refine_2 => exact c_top5 D h hp hk (H.re fun _ => by rw [fp_no (i := 3) (q := .val) rfl z])
  exact do_call Tryz.call64 (H.num D (i := 4) (y := fun v => { x with val := v }) (fun _ => by rw [fp_yes (i := 3) (q := .val) rfl z, hr_num (g := fun v => { x with val := v }) rfl]) rfl (by decide) (fun _ => rfl) (fun _ => rfl) (fun _ => rfl) fun v1 s1 f1 w1 H1 => c_top5 D h (x := { x with val := v1 }) hp hk H1)⟩
theorem c_top3 {d : Int} {s0 : Bs} {tb xb nb zb B0 : Nat} {w0 : World} {R : EW} (D : TD tb xb nb zb B0 w0)
    (h : ∀ x pv kv s' f' w', Tk w' tb s' f' → (f' = true → allP inB .zero s0 = some (x, s')) → (f' = false → allP inB .zero s0 = none) → OpFr w' w0.heap.size none (x, pv, kv) → Chg (InOwn tb) (fun k => w0.heap.size ≤ k) w0 w' → R (.returned (opV x pv kv)) w')
    {x : POp} {s : Bs} {f : Bool} {w' : World} (hp : x.pairs = []) (hk : x.keys = []) (H : TS 67 (nmCells d) (allP inB .zero s0) tb xb nb zb B0 w0 w' (partsP inB (FP d 2) x s) x nilV nilV s f) : sh43k3 R [.pointer (some (blk tb)), .pointer (some (blk zb)), .pointer (some (blk xb)), .pointer (some (blk nb))] w' := ⟨_, _, _, _, rfl, by
  unfold sh43b3
  refine ⟨_, H.nm.cell (i := 2) rfl rfl, ifB_intro (fun z => ?_) fun z => ?_⟩
  case refine_2 => exact c_top4 D h hp hk (H.re fun _ => by rw [fp_no (i := 2) (q := .key) rfl z])
  exact do_call Tryz.call64 (H.num D (i := 3) (y := fun v => { x with key := v }) (fun _ => by rw [fp_yes (i := 2) (q := .key) rfl z, hr_num (g := fun v => { x with key := v }) rfl]) rfl (by decide) (fun _ => rfl) (fun _ => rfl) (fun _ => rfl) fun v1 s1 f1 w1 H1 => c_top4 D h (x := { x with key := v1 }) hp hk H1)⟩
theorem c_top2 {d : Int} {s0 : Bs} {tb xb nb zb B0 : Nat} {w0 : World} {R : EW} (D : TD tb xb nb zb B0 w0)
    (h : ∀ x pv kv s' f' w', Tk w' tb s' f' → (f' = true → allP inB .zero s0 = some (x, s')) → (f' = false → allP inB .zero s0 = none) → OpFr w' w0.heap.size none (x, pv, kv) → Chg (InOwn tb) (fun k => w0.heap.size ≤ k) w0 w' → R (.returned (opV x pv kv)) w')
    {x : POp} {s : Bs} {f : Bool} {w' : World} (hp : x.pairs = []) (hk : x.keys = []) (H : TS 67 (nmCells d) (allP inB .zero s0) tb xb nb zb B0 w0 w' (partsP inB (FP d 1) x s) x nilV nilV s f) : sh43k2 R [.pointer (some (blk tb)), .pointer (some (blk zb)), .pointer (some (blk xb)), .pointer (some (blk nb))] w' := ⟨_, _, _, _, rfl, by
  unfold sh43b2
  refine ⟨_, H.nm.cell (i := 1) rfl rfl, ifB_intro (fun z => ?_) fun z => ?_⟩
  case refine_2 => exact c_top3 D h hp hk (H.re fun _ => by rw [fp_no (i := 1) (q := .b) rfl z])
  exact do_call Tryz.call64 (H.num D (i := 2) (y := fun v => { x with b := v }) (fun _ => by rw [fp_yes (i := 1) (q := .b) rfl z, hr_num (g := fun v => { x with b := v }) rfl]) rfl (by decide) (fun _ => rfl) (fun _ => rfl) (fun _ => rfl) fun v1 s1 f1 w1 H1 => c_top3 D h (x := { x with b := v1 }) hp hk H1)⟩
theorem c_top1 {d : Int} {s0 : Bs} {tb xb nb zb B0 : Nat} {w0 : World} {R : EW} (D : TD tb xb nb zb B0 w0)
    (h : ∀ x pv kv s' f' w', Tk w' tb s' f' → (f' = true → allP inB .zero s0 = some (x, s')) → (f' = false → allP inB .zero s0 = none) → OpFr w' w0.heap.size none (x, pv, kv) → Chg (InOwn tb) (fun k => w0.heap.size ≤ k) w0 w' → R (.returned (opV x pv kv)) w')
    {x : POp} {s : Bs} {f : Bool} {w' : World} (hp : x.pairs = []) (hk : x.keys = []) (H : TS 67 (nmCells d) (allP inB .zero s0) tb xb nb zb B0 w0 w' (partsP inB (FP d 0) x s) x nilV nilV s f) : sh43k1 R [.pointer (some (blk tb)), .pointer (some (blk zb)), .pointer (some (blk xb)), .pointer (some (blk nb))] w' := ⟨_, _, _, _, rfl, by
  unfold sh43b1
  refine ⟨_, H.nm.cell (i := 0) rfl rfl, ifB_intro (fun z => ?_) fun z => ?_⟩
  case refine_2 => exact c_top2 D h hp hk (H.re fun _ => by rw [fp_no (i := 0) (q := .a) rfl z])
  exact do_call Tryz.call64 (H.num D (i := 1) (y := fun v => { x with a := v }) (fun _ => by rw [fp_yes (i := 0) (q := .a) rfl z, hr_num (g := fun v => { x with a := v }) rfl]) rfl (by decide) (fun _ => rfl) (fun _ => rfl) (fun _ => rfl) fun v1 s1 f1 w1 H1 => c_top2 D h (x := { x with a := v1 }) hp hk H1)⟩
theorem c_top {tb : Nat} {s : Bs} {w : World} {R : EW} (hT : Tk w tb s true)
    (h : ∀ x pv kv s' f' w', Tk w' tb s' f' → (f' = true → allP inB .zero s = some (x, s')) → (f' = false → allP inB .zero s = none) → OpFr w' w.heap.size none (x, pv, kv) → Chg (InOwn tb) (fun _ => False) w w' → R (.returned (opV x pv kv)) w') : Calls Tryz.prog 43 #[.pointer (some (blk tb))] w R := by
  have h' : ∀ x pv kv s' f' w', Tk w' tb s' f' → (f' = true → allP inB .zero s = some (x, s')) → (f' = false → allP inB .zero s = none) → OpFr w' w.heap.size none (x, pv, kv) → Chg (InOwn tb) (fun k => w.heap.size ≤ k) w w' → R (.returned (opV x pv kv)) w' := fun x pv kv s' f' w' a b c d e => h x pv kv s' f' w' a b c d (e.cut fun k hk hs => by omega)
  clear h
  refine sh43_ok _ ?_
  unfold sh43
  have ht := Blk.lt hT
  refine do_al fun zb w1 e1 Z1 l1 => ?_
  have hT1 : Tk w1 tb s true := Blk.ext hT e1
  refine do_call Tryz.call63 (c_tbyte hT1 fun d s1 f1 w2 hB hT2 c2 => retS_ret ⟨_, rfl, do_al fun xb w3 e3 X3 l3 => st15 X3 fun w4 X4 g4 => ?_⟩)
  refine ⟨_, X4.cell (i := 0) rfl rfl, do_call Tryz.call30 (c_r37of fun w5 e5 => retS_ret ⟨_, _, _, _, _, _, _, _, _, _, _, _, rfl, do_al fun nb w6 e6 N6 l6 => st11 N6 fun w7 N7 g7 => ?_⟩)⟩
  have z1 := Z1.lt
  have z2 := c2.size
  have z3 := X3.lt
  have z4 := g4.size
  have z5 := e5.size
  have z6 := N6.lt
  have z7 := g7.size
  have z8 := e1.size
  have X4 : OpAt w4 xb { POp.zero with op := d } nilV nilV := X4
  have e36 := e5.trans e6
  have X7 : OpAt w7 xb { POp.zero with op := d } nilV nilV := Blk.grown (Blk.ext X4 e36) g7 (ne_some (by omega))
  have Z2 : OpAt w2 zb .zero nilV nilV := c2.blk Z1 (fun e => by have : zb = tb := e; omega) (fun h => h)
  have Z7 : OpAt w7 zb .zero nilV nilV := Blk.grown (Blk.ext (Blk.grown (Blk.ext Z2 e3) g4 (ne_some (by omega))) e36) g7 (ne_some (by omega))
  have T7 : Tk w7 tb s1 f1 := Blk.grown (Blk.ext (Blk.grown (Blk.ext hT2 e3) g4 (ne_some (by omega))) e36) g7 (ne_some (by omega))
  have D : TD tb xb nb zb w7.heap.size w := ⟨ht, ⟨by omega, by omega⟩, ⟨by omega, by omega⟩, ⟨l1, by omega⟩, by omega, by omega⟩
  have ce : ∀ {a b : World}, Ext a b → Chg (InOwn tb) (fun k => w.heap.size ≤ k) a b := fun e => ⟨e.os, e.tape, e.output, e.size, fun k hk _ _ => e.block k hk, fun _ _ h1 h2 => h1 h2⟩
  have c7 : Chg (InOwn tb) (fun k => w.heap.size ≤ k) w w7 := (((((ce e1).trans (c2.mono fun _ h => h.elim)).trans (ce e3)).trans (in_st g4 (.inr (.inl (by omega))))).trans (ce e36)).trans (in_st g7 (.inr (.inl (by omega))))
  have H : TS 67 (nmCells d) (allP inB .zero s) tb xb nb zb w7.heap.size w w7 (partsP inB (FP d 0) { POp.zero with op := d } s1) { POp.zero with op := d } nilV nilV s1 f1 := by
    refine ⟨T7, X7, N7, Z7, World.ownsRow_nil _ _ _ _, World.ownsRow_nil _ _ _ _, fun e => ?_, fun e => ?_, Nat.le_refl _, c7⟩
    · obtain ⟨_, b, hs, hv⟩ := hB.1 e
      subst hs hv
      rw [fp_all]; rfl
    · have := (hB.2 e).2 rfl
      subst this
      rfl
  exact c_top1 D h' rfl rfl H
end Go.Proofs.YtmkpkmdnapccgaaGreatDoor

