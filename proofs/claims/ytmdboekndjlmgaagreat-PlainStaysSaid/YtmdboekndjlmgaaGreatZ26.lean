/-
  A book of versions, in memory; what is made of them.
-/
import Derived.Test.YtmdboekndjlmgaaGreatZ21
import Derived.Test.YtmdboekndjlmgaaGreatZ25

set_option maxRecDepth 100000
set_option maxHeartbeats 6400000
namespace Go.Proofs.YtmdboekndjlmgaaGreat
open Go Go.Sh Go.RowKit

theorem st7 {w : World} {b : Nat} {a0 a1 a2 a3 a4 a5 a6 v0 v1 v2 v3 v4 v5 v6 : Value} {t : TypeId} {K : World → Prop} (h : Blk w b #[a0, a1, a2, a3, a4, a5, a6] t) (k : ∀ w', Blk w' b #[v0, v1, v2, v3, v4, v5, v6] t → w.grownBy w' (some b) → K w') :
    doSt ((blk b).add 0) v0 w fun w1 => doSt ((blk b).add 1) v1 w1 fun w2 => doSt ((blk b).add 2) v2 w2 fun w3 => doSt ((blk b).add 3) v3 w3 fun w4 => doSt ((blk b).add 4) v4 w4 fun w5 => doSt ((blk b).add 5) v5 w5 fun w6 => doSt ((blk b).add 6) v6 w6 fun w7 => K w7 := by
  refine do_st h (i := 0) rfl (by simp) fun w1 h1 g1 => ?_
  have h1 : Blk w1 b #[v0, a1, a2, a3, a4, a5, a6] t := h1
  refine do_st h1 (i := 1) rfl (by simp) fun w2 h2 g2 => ?_
  have h2 : Blk w2 b #[v0, v1, a2, a3, a4, a5, a6] t := h2
  refine do_st h2 (i := 2) rfl (by simp) fun w3 h3 g3 => ?_
  have h3 : Blk w3 b #[v0, v1, v2, a3, a4, a5, a6] t := h3
  refine do_st h3 (i := 3) rfl (by simp) fun w4 h4 g4 => ?_
  have h4 : Blk w4 b #[v0, v1, v2, v3, a4, a5, a6] t := h4
  refine do_st h4 (i := 4) rfl (by simp) fun w5 h5 g5 => ?_
  have h5 : Blk w5 b #[v0, v1, v2, v3, v4, a5, a6] t := h5
  refine do_st h5 (i := 5) rfl (by simp) fun w6 h6 g6 => ?_
  have h6 : Blk w6 b #[v0, v1, v2, v3, v4, v5, a6] t := h6
  refine do_st h6 (i := 6) rfl (by simp) fun w7 h7 g7 => ?_
  have h7 : Blk w7 b #[v0, v1, v2, v3, v4, v5, v6] t := h7
  exact k _ h7 (grown_trans (grown_trans (grown_trans (grown_trans (grown_trans (grown_trans g1 g2) g3) g4) g5) g6) g7)
def BkOwn (bb : Nat) (w : World) (k : Nat) : Prop := k = bb ∨ ∃ a n c, w.cell? ⟨bb, 1, none⟩ = some (.slice (some a) n c) ∧ a.block = k
theorem bk_own {bb : Nat} {w : World} {u : Value} {p : OA} {n c : Nat} {t : TypeId} (hb : Blk w bb #[u, .slice p n c] t) (k : Nat) : BkOwn bb w k ↔ k = bb ∨ (Value.slice p n c).ownBlock = some k := by
  unfold BkOwn
  rw [hb.cell (i := 1) rfl rfl, own_blk]
  constructor
  · rintro (h | ⟨a, n', c', h, e⟩)
    · exact .inl h
    · injection h with h
      injection h with h1 h2 h3
      exact .inr ⟨a, h1, e⟩
  · rintro (h | ⟨a, h, e⟩)
    · exact .inl h
    · subst h
      exact .inr ⟨a, n, c, rfl, e⟩
theorem prs_ne {l : List Pr} (h : l.length ≠ 0) : prs l ≠ [] := fun e => h (by cases l with | nil => rfl | cons x l => simp [prs] at e)
def BlkIn (P : Nat → Prop) (v : Value) : Prop := ∀ a n c, v = .slice (some a) n c → n ≠ 0 → P a.block
structure BookN (P : Nat → Prop) (w : World) (bb : Nat) (o : Int) (L : Rows) : Prop where
  ex : ∃ (p : OA) (c : Nat) (vs : List Value), Blk w bb #[.int .u8 o, .slice p L.length c] 70 ∧ (w.ownsRow 0 22 1 (.slice p L.length c) L.length vs ∧ (Value.slice p L.length c).ownBlock ≠ some bb) ∧
    ∀ (i : Nat) (l : List Pr), L[i]? = some l → ∃ v, vs[i]? = some v ∧ RowAt (BkOwn bb) bb w v l.length (prs l) ∧ BlkIn P v
abbrev BookAt (w : World) (bb : Nat) (o : Int) (L : Rows) : Prop := BookN (fun k => k < w.heap.size) w bb o L
section
variable {P : Nat → Prop} {w w' : World} {bb : Nat} {o : Int} {L : Rows}
theorem BookN.top (h : BookN P w bb o L) : BookN (fun k => P k ∧ k < w.heap.size) w bb o L := by
  obtain ⟨p, c, vs, hb, hr, hv⟩ := h.ex
  refine ⟨p, c, vs, hb, hr, fun i l hl => ?_⟩
  obtain ⟨v, h1, h2, h4⟩ := hv i l hl
  obtain ⟨q, c', rfl, g1, g2, g3⟩ := h2
  exact ⟨_, h1, ⟨q, c', rfl, g1, g2, g3⟩, fun a n c e hz => ⟨h4 a n c e hz, by cases e; exact (g3 a rfl (prs_ne hz)).2.2⟩⟩
theorem BookN.up (h : BookN P w bb o L) {Q : Nat → Prop} (hM : ∀ k, P k → Q k) : BookN Q w bb o L := by
  obtain ⟨p, c, vs, hb, hr, hv⟩ := h.ex
  refine ⟨p, c, vs, hb, hr, fun i l hl => ?_⟩
  obtain ⟨v, h1, h2, h3⟩ := hv i l hl
  exact ⟨_, h1, h2, fun a n c e hz => hM _ (h3 a n c e hz)⟩
theorem BookN.lt (h : BookN P w bb o L) {k : Nat} (hk : BkOwn bb w k) : k < w.heap.size := by
  obtain ⟨p, c, vs, hb, hr, _⟩ := h.ex
  rcases (bk_own hb k).1 hk with rfl | hk
  · exact hb.lt
  · exact (hr.1.lt k hk).2
theorem BookN.own (h : BookN P w bb o L) (hk : ∀ k, BkOwn bb w k → w'.heap[k]? = w.heap[k]?) : ∀ k, BkOwn bb w' k ↔ BkOwn bb w k := fun k => by
  obtain ⟨p, c, vs, hb, hr, _⟩ := h.ex
  have hb' : Blk w' bb #[.int .u8 o, .slice p L.length c] 70 := by unfold Blk; rw [hk bb (.inl rfl)]; exact hb
  rw [bk_own hb', bk_own hb]
theorem BookN.keep (h : BookN P w bb o L) (hk : ∀ k, BkOwn bb w k ∨ (P k ∧ k < w.heap.size) → w'.heap[k]? = w.heap[k]?) (hs : w.heap.size ≤ w'.heap.size) : BookN P w' bb o L := by
  have ho := h.own (w' := w') fun k hk' => hk k (.inl hk')
  obtain ⟨p, c, vs, hb, hr, hv⟩ := h.ex
  have hb' : Blk w' bb #[.int .u8 o, .slice p L.length c] 70 := by unfold Blk; rw [hk bb (.inl (.inl rfl))]; exact hb
  refine ⟨p, c, vs, hb', ⟨keep_row hr.1 fun b hbb => hk b (.inl ((bk_own hb b).2 (.inr hbb))), hr.2⟩, fun i l hl => ?_⟩
  obtain ⟨v, h1, ⟨q, c', rfl, g1, g2, g3⟩, h3⟩ := hv i l hl
  refine ⟨_, h1, ⟨q, c', rfl, g1, fun j u hu => ?_, fun a ha hz => ⟨fun hx => (g3 a ha hz).1 ((ho _).1 hx), (g3 a ha hz).2.1, Nat.lt_of_lt_of_le (g3 a ha hz).2.2 hs⟩⟩, h3⟩
  obtain ⟨a, ha, hc⟩ := g2 j u hu
  subst ha
  refine ⟨a, rfl, ?_⟩
  rw [World.cell?_of_block (hk _ (.inr ⟨by rw [add_block]; exact h3 a _ _ rfl (fun e => by rw [List.length_eq_zero_iff.1 e] at hu; simp [prs] at hu), World.block_lt_of_cell? _ _ hc⟩))]
  exact hc
theorem BookN.st {r : Option Nat} (h : BookN P w bb o L) (g : w.grownBy w' r) (hr : ∀ b, r = some b → ¬ P b ∧ ¬ BkOwn bb w b) : BookN P w' bb o L ∧ ∀ k, BkOwn bb w' k ↔ BkOwn bb w k := by
  have hk : ∀ k, BkOwn bb w k ∨ (P k ∧ k < w.heap.size) → w'.heap[k]? = w.heap[k]? := fun k hk => by
    rcases hk with hk | ⟨hk, hs⟩
    · exact g.block k (h.lt hk) fun e => (hr k e.symm).2 hk
    · exact g.block k hs fun e => (hr k e.symm).1 hk
  exact ⟨h.keep hk g.size, h.own fun k h => hk k (.inl h)⟩
theorem BookN.ext (h : BookN P w bb o L) (e : Ext w w') : BookN P w' bb o L := h.keep (fun k hk => e.block k (hk.elim h.lt And.right)) e.size
theorem BookN.chg {S : Nat → Prop} (h : BookN P w bb o L) (e : Ext w w') : Chg (BkOwn bb) S w w' :=
  ⟨e.os, e.tape, e.output, e.size, fun k hk _ _ => e.block k hk, fun k _ h1 h2 => h1 ((h.own (fun j hj => e.block j (h.lt hj)) k).1 h2)⟩
theorem BookN.own_ext (h : BookN P w bb o L) (e : Ext w w') (k : Nat) : BkOwn bb w' k ↔ BkOwn bb w k := h.own (fun j hj => e.block j (h.lt hj)) k
theorem BookN.ord (h : BookN P w bb o L) : w.cell? ⟨bb, 0, none⟩ = some (.int .u8 o) := by
  obtain ⟨p, c, vs, hb, _⟩ := h.ex
  exact hb.cell (i := 0) rfl rfl
end
theorem hi_no {P own : Nat → Prop} {xb : Nat} {r : Option Nat} (h : ∀ b, r = some b → xb ≤ b ∧ ¬ own b) : ∀ b, r = some b → ¬ (P b ∧ b < xb) ∧ ¬ own b := fun b hb => ⟨fun hp => by have := (h b hb).1; omega, (h b hb).2⟩
theorem chg_hi {own : World → Nat → Prop} {S : Nat → Prop} {w0 w w' : World} {r : Option Nat} (c : Chg own S w0 w) (g : w.grownBy w' r) (hr : ∀ b, r = some b → w0.heap.size ≤ b) (ho : ∀ k, own w' k → own w k) : Chg own S w0 w' :=
  ⟨g.os.trans c.os, g.tape.trans c.tape, g.output.trans c.output, Nat.le_trans c.size g.size, fun k hk h1 h2 => by
    rw [g.block k (Nat.lt_of_lt_of_le hk c.size) (fun e => by have := hr k e.symm; omega), c.block k hk h1 h2], fun k hk h1 h2 => c.out k hk h1 (ho k h2)⟩
theorem elV : ElT Tryz.prog 55 22 (.slice none 0 0) 1 24 := ⟨Tryz.underlying55, ⟨_, Tryz.type22, by kernel_rfl, by kernel_rfl, by kernel_rfl⟩, rfl, by omega⟩
theorem elNi : ElT Tryz.prog 32 3 (.int .i64 0) 1 8 := ⟨Tryz.underlying32, ⟨_, Tryz.type3, by kernel_rfl, by kernel_rfl, by kernel_rfl⟩, rfl, by omega⟩
theorem blk_inj2 {w : World} {b : Nat} {x y x' y' : Value} {t t' : TypeId} (h : Blk w b #[x, y] t) (k : Blk w b #[x', y'] t') : x = x' ∧ y = y' := by
  unfold Blk at h k
  rw [h] at k
  injection k with k
  injection k with k
  simpa using k
theorem bk_app {P : Nat → Prop} {w : World} {bb : Nat} {o : Int} {L : Rows} {l : List Pr} {v : Value} {nb : Nat} {p : OA} {n c : Nat} {u : Value} {t : TypeId} {bs : Array Bool} {K : World → Prop} {Kp : List PanicEntry → World → Prop} (hB : BookN P w bb o L) (hl : L.length ≤ 5000)
    (hx : Cs w (some (blk nb)) [v]) (hv : RowAt (BkOwn bb) bb w v l.length (prs l)) (hvN : BlkIn P v) (hb : Blk w bb #[u, .slice p n c] t) (h : ∀ w', BookN P w' bb o (L ++ [l]) → Chg (BkOwn bb) (fun _ => False) w w' → K w') :
    doGo Tryz.prog (.builtin .append #[55, 55] 55 bs) #[.slice p n c, .slice (some (blk nb)) 1 1] w (retS (fun v' w' => ∃ (a : OA) (b d : Nat), v' = (.slice a b d : Value) ∧ (∃ q : Addr, (some (blk bb) : OA) = some q ∧ doSt ((q.add 1).add 0) (.slice a b d) w' K)) Kp) := by
  obtain ⟨p0, c0, vs, hb0, hr, hvs⟩ := hB.ex
  obtain ⟨_, e⟩ := blk_inj2 hb hb0
  injection e with e1 e2 e3
  subst e1 e2 e3
  obtain ⟨pv, cv, rfl, hnc, hcv, hav⟩ := hv
  refine do_append' elV hr.1 hx (by simp) (by simp [Value.oneCell']) (by simp only [maxLen]; omega) (by omega) (Nat.zero_le _) fun p' c' w' h2 g n10 => retS_ret ⟨p', _, c', rfl, _, rfl, ?_⟩
  have hne : some bb ≠ (Value.slice p L.length c).ownBlock := fun e => hr.2 e.symm
  have hn2 : (Value.slice p' (L.length + 1) c').ownBlock ≠ some bb := fun e => by
    rcases n10 bb e with h | h
    · exact hr.2 h
    · have := hb0.lt; omega
  have hb' := hb0.grown g hne
  refine do_st hb' (i := 1) rfl (by simp) fun w'' h3 g3 => ?_
  have h3 : Blk w'' bb #[.int .u8 o, .slice p' (L.length + 1) c'] 70 := h3
  have hr3 := h2.kept g3 (.inr hn2)
  have own3 : ∀ k, k < w.heap.size → ¬ BkOwn bb w k → ¬ BkOwn bb w'' k := fun k hk ho hk' => by
    rcases (bk_own h3 k).1 hk' with rfl | hk'
    · exact ho (.inl rfl)
    · rcases n10 k hk' with h | h
      · exact ho ((bk_own hb0 k).2 (.inr h))
      · omega
  have hc : Chg (BkOwn bb) (fun _ => False) w w'' := ⟨g3.os.trans g.os, g3.tape.trans g.tape, g3.output.trans g.output, Nat.le_trans g.size g3.size, fun k hk ho _ => by
    rw [g3.block k (Nat.lt_of_lt_of_le hk g.size) (fun e => ho (by cases e; exact .inl rfl)), g.block k hk fun e => ho ((bk_own hb0 k).2 (.inr e.symm))], own3⟩
  have hlen : vs.length = L.length := by have := hr.1.1; simpa using this
  refine h w'' ⟨p', c', vs ++ [.slice pv l.length cv], by rw [List.length_append]; exact h3, by rw [List.length_append]; exact ⟨hr3, hn2⟩, fun i m hm => ?_⟩ hc
  by_cases hi : i < L.length
  · rw [List.getElem?_append_left hi] at hm
    obtain ⟨v, hv1, hv2, hv3⟩ := hvs i m hm
    exact ⟨v, by rw [List.getElem?_append_left (by omega)]; exact hv1, hv2.chg (chg0 hc), hv3⟩
  · rw [List.getElem?_append_right (by omega)] at hm
    have hi0 : i - L.length = 0 := by
      rcases Nat.eq_zero_or_pos (i - L.length) with h | h
      · exact h
      · rw [List.getElem?_eq_none (by simp; omega)] at hm; cases hm
    rw [hi0] at hm
    obtain rfl : l = m := by simpa using hm
    refine ⟨_, by rw [List.getElem?_append_right (by omega), show i - vs.length = 0 by omega]; rfl, ?_⟩
    exact ⟨RowAt.chg ⟨pv, cv, rfl, hnc, hcv, hav⟩ (chg0 hc), hvN⟩
def AbN (N : Nat) (v : Value) : Prop := ∀ a n c, v = .slice (some a) n c → N ≤ a.block
structure RepAt (N bb : Nat) (w : World) (v : Value) (r : Rep) : Prop where
  ex : ∃ nv pv, v = .agg #[.int .i64 r.err, .bool r.is, .int .i64 r.key, .int .i64 r.val, .int .i64 r.n, nv, pv] ∧ RowAt (BkOwn bb) bb w nv r.new.length (ints r.new) ∧ RowAt (BkOwn bb) bb w pv r.pairs.length (prs r.pairs) ∧ AbN N nv ∧ AbN N pv
theorem rowAt_nil (own : World → Nat → Prop) (xb : Nat) (w : World) : RowAt own xb w (.slice none 0 0) 0 [] := ⟨none, 0, rfl, Nat.le_refl _, cs_nil _ _, fun d e => by cases e⟩
theorem RowAt.own_row {own : World → Nat → Prop} {bb : Nat} {w : World} {p : OA} {n c e size base : Nat} {xs : List Value} (h : w.ownsRow base e size (.slice p n c) n xs) (ho : ∀ k, own w k → k < base ∨ w.heap.size ≤ k) (hb : bb < base) : RowAt own bb w (.slice p n c) n xs :=
  ⟨p, c, rfl, row_cap h, Cs.of_row h, fun a ha _ => by
    have := row_lt h ha
    exact ⟨fun hk => by have := ho _ hk; omega, by omega, this.2⟩⟩
def rep0 (r : Rep) : Value := .agg #[.int .i64 r.err, .bool r.is, .int .i64 r.key, .int .i64 r.val, .int .i64 r.n, .slice none 0 0, .slice none 0 0]
theorem c_made {P : Nat → Prop} {bb : Nat} {o : Int} {L ls : Rows} {r : Rep} {vs : List Value} {q : OA} {n c : Nat} {w : World} {R : EW} (hB : BookN P w bb o L) (hL : L.length ≤ 4500) (hls : ls.length ≤ 4) (hn : ls.length = n) (hq : Cs w q vs) (hqo : ∀ a, q = some a → ¬ BkOwn bb w a.block ∧ a.block < w.heap.size)
    (hvs : ∀ (i : Nat) (l : List Pr), ls[i]? = some l → ∃ v, vs[i]? = some v ∧ RowAt (BkOwn bb) bb w v l.length (prs l) ∧ BlkIn P v) (hnew : r.new = []) (hpr : r.pairs = [])
    (h : ∀ v w', RepAt w.heap.size bb w' v (madeP r L ls).1 → BookN P w' bb o (madeP r L ls).2 → Chg (BkOwn bb) (fun _ => False) w w' → R (.returned v) w') :
    Calls Tryz.prog 98 #[.pointer (some (blk bb)), rep0 r, .slice q n c] w R := by
  refine sh98_ok _ _ _ _ _ _ _ _ _ _ _ _ _ _ _ ?_
  unfold sh98
  refine ⟨⟨?_⟩⟩
  have e1 := ext_alloc w (.cells #[.int .i64 r.err, .bool r.is, .int .i64 r.key, .int .i64 r.val, .int .i64 r.n, .slice none 0 0, .slice none 0 0] 34)
  have X1 := blk_alloc w #[.int .i64 r.err, .bool r.is, .int .i64 r.key, .int .i64 r.val, .int .i64 r.n, .slice none 0 0, .slice none 0 0] 34
  generalize w.alloc (.cells #[.int .i64 r.err, .bool r.is, .int .i64 r.key, .int .i64 r.val, .int .i64 r.n, .slice none 0 0, .slice none 0 0] 34) = w1 at *
  have e2 := ext_alloc w1 (.cells #[.int .i64 0, .bool false, .int .i64 0, .int .i64 0, .int .i64 0, .slice none 0 0, .slice none 0 0] 34)
  have Y2 := blk_alloc w1 #[.int .i64 0, .bool false, .int .i64 0, .int .i64 0, .int .i64 0, .slice none 0 0, .slice none 0 0] 34
  generalize w1.alloc (.cells #[.int .i64 0, .bool false, .int .i64 0, .int .i64 0, .int .i64 0, .slice none 0 0, .slice none 0 0] 34) = w2 at *
  have l1 := X1.lt
  have l2 := Y2.lt
  have X2 := X1.ext e2
  have E2 := e1.trans e2
  have B2 : BookN (fun k => P k ∧ k < w.heap.size) w2 bb o L := hB.top.ext E2
  have hbb : bb < w.heap.size := hB.lt (.inl rfl)
  have own2 := hB.own_ext E2
  have c2 : Chg (BkOwn bb) (fun _ => False) w w2 := hB.chg E2
  generalize hxb : w.heap.size = xb at *
  generalize hyb : w1.heap.size = yb at *
  refine ⟨fun vs' w' => ∃ (k : Nat) (pn : OA) (cn : Nat), vs' = [.int .i64 (k : Int)] ∧ k ≤ n ∧ Blk w' xb #[.int .i64 r.err, .bool r.is, .int .i64 r.key, .int .i64 r.val, .int .i64 r.n, .slice pn k cn, .slice none 0 0] 34 ∧
      w'.ownsRow (yb + 1) 3 1 (.slice pn k cn) k (ints ((List.range k).map fun i => ((L.length + i : Nat) : Int))) ∧ (∀ b, (Value.slice pn k cn).ownBlock = some b → ¬ BkOwn bb w' b) ∧ Blk w' yb #[.int .i64 0, .bool false, .int .i64 0, .int .i64 0, .int .i64 0, .slice none 0 0, .slice none 0 0] 34 ∧
      BookN (fun k => P k ∧ k < xb) w' bb o (L ++ ls.take k) ∧ Chg (BkOwn bb) (fun _ => False) w w' ∧ ¬ BkOwn bb w' xb ∧ ¬ BkOwn bb w' yb,
    fun vs' _ => match vs' with | [.int _ i] => n - i.toNat | _ => 0, ⟨0, none, 0, rfl, Nat.zero_le _, X2, World.ownsRow_nil _ _ _ _, fun b hb => by simp [Value.ownBlock] at hb, Y2, by rw [List.take_zero, List.append_nil]; exact B2, c2, fun hk => by have := hB.lt ((own2 _).1 hk); omega, fun hk => by have := hB.lt ((own2 _).1 hk); omega⟩, ?_⟩
  rintro _ _ w3 ⟨k, pn, cn, hv, hk, X3, N3, no3, Y3, B3, c3, nx3, ny3⟩
  simp only [List.cons.injEq, Value.int.injEq, true_and, and_true] at hv
  subst hv
  have hlen3 : (L ++ ls.take k).length = L.length + k := by rw [List.length_append, List.length_take]; omega
  refine ifB_intro (fun z => ?_) fun z => ?_
  · have z : k < n := by have := of_decide_eq_true z; omega
    have hkl : k < ls.length := by omega
    obtain ⟨v, hvk, hrv, hvP⟩ := hvs k ls[k] (List.getElem?_eq_getElem hkl)
    obtain ⟨a, ha, hca⟩ := hq k v hvk
    obtain ⟨hao, hal⟩ := hqo a ha
    have hca3 : w3.cell? (a.add k) = some v := c3.cell hca (by rw [add_block]; exact hao) fun h => h
    obtain ⟨pv, cv, rfl, hnv, hcv, hpv⟩ := hrv
    refine ⟨a, ha, by omega, by omega, ?_⟩
    rw [Int.toNat_natCast, Nat.mul_one]
    refine ⟨_, _, _, hca3, ⟨?_⟩⟩
    have e4 := ext_drew w3
    have X4 := X3.ext e4
    have Y4 := Y3.ext e4
    have B4 := B3.ext e4
    have N4 := e4.row N3
    have own4 := B3.own_ext e4
    have c4 : Chg (BkOwn bb) (fun _ => False) w w3.drew := c3.trans (B3.chg e4)
    have no4 : ∀ b, (Value.slice pn k cn).ownBlock = some b → ¬ BkOwn bb w3.drew b := fun b hb hk => no3 b hb ((own4 b).1 hk)
    have nx4 : ¬ BkOwn bb w3.drew xb := fun hk => nx3 ((own4 _).1 hk)
    have ny4 : ¬ BkOwn bb w3.drew yb := fun hk => ny3 ((own4 _).1 hk)
    generalize w3.drew = w4 at *
    obtain ⟨p4, d4, us4, hb4, _, _⟩ := B4.ex
    rw [hlen3] at hb4
    refine ⟨fun w' => Blk w' xb #[.int .i64 r.err, .bool r.is, .int .i64 r.key, .int .i64 r.val, .int .i64 r.n, .slice pn k cn, .slice none 0 0] 34 ∧ Blk w' bb #[.int .u8 o, .slice p4 (L.length + k) d4] 70, ⟨X4, hb4⟩, _, _, _, fun w' h' => h'.1.cell (i := 5) rfl rfl, _, rfl, _, _, _, fun w' h' => h'.2.cell (i := 1) rfl rfl, ⟨?_⟩⟩
    have e5 := ext_alloc w4 (.cells #[.int .i64 ((L.length + k : Nat) : Int)] 3)
    have hx5 := cs_alloc w4 #[.int .i64 ((L.length + k : Nat) : Int)] 3
    have X5 := X4.ext e5
    have Y5 := Y4.ext e5
    have B5 := B4.ext e5
    have N5 := e5.row N4
    have own5 := B4.own_ext e5
    have c5 : Chg (BkOwn bb) (fun _ => False) w _ := c4.trans (B4.chg e5)
    have no5 : ∀ b, (Value.slice pn k cn).ownBlock = some b → ¬ BkOwn bb (w4.alloc (.cells #[.int .i64 ((L.length + k : Nat) : Int)] 3)) b := fun b hb hk => no4 b hb ((own5 b).1 hk)
    have nx5 : ¬ BkOwn bb (w4.alloc (.cells #[.int .i64 ((L.length + k : Nat) : Int)] 3)) xb := fun hk => nx4 ((own5 _).1 hk)
    have ny5 : ¬ BkOwn bb (w4.alloc (.cells #[.int .i64 ((L.length + k : Nat) : Int)] 3)) yb := fun hk => ny4 ((own5 _).1 hk)
    have hb5 := hb4.ext e5
    have z5 : yb + 1 ≤ w4.heap.size := by have := Y4.lt; omega
    generalize w4.alloc (.cells #[.int .i64 ((L.length + k : Nat) : Int)] 3) = w5 at *
    refine ⟨⟨X5, hb5⟩, ?_⟩
    refine do_append' elNi N5 hx5 (by simp) (by simp [Value.oneCell']) (by simp only [maxLen]; omega) (by omega) (Nat.le_trans z5 e5.size) fun pn' cn' w6 N6 g6 n6 => retS_ret ⟨_, _, _, rfl, ?_⟩
    have hN5 := N5.lt
    have X6 := X5.grown g6 (fun e => by have := (hN5 _ e.symm).1; omega)
    have Y6 := Y5.grown g6 (fun e => by have := (hN5 _ e.symm).1; omega)
    have hr6 : ∀ b, (Value.slice pn k cn).ownBlock = some b → xb ≤ b ∧ ¬ BkOwn bb w5 b := fun b hb => ⟨by have := (hN5 b hb).1; omega, no5 b hb⟩
    have B6 := B5.st g6 (hi_no hr6)
    have hb6 : Blk w6 bb #[.int .u8 o, .slice p4 (L.length + k) d4] 70 := hb5.grown g6 fun e => (hr6 bb e.symm).2 (.inl rfl)
    have c6 := chg_hi c5 g6 (fun b hb => by rw [hxb]; exact (hr6 b hb).1) fun j hj => (B6.2 j).1 hj
    have nx6 : ¬ BkOwn bb w6 xb := fun hk => nx5 ((B6.2 _).1 hk)
    have ny6 : ¬ BkOwn bb w6 yb := fun hk => ny5 ((B6.2 _).1 hk)
    refine ⟨⟨X6, hb6⟩, do_st X6 (i := 5) rfl (by simp) fun w7 X7 g7 => ?_⟩
    have X7 : Blk w7 xb #[.int .i64 r.err, .bool r.is, .int .i64 r.key, .int .i64 r.val, .int .i64 r.n, .slice pn' (k + 1) cn', .slice none 0 0] 34 := X7
    have hN6 := N6.lt
    have N7 := N6.kept g7 (.inr fun e => by have := (hN6 _ e).1; omega)
    have Y7 := Y6.grown g7 (ne_some (by omega))
    have hr7 : ∀ b, some xb = some b → xb ≤ b ∧ ¬ BkOwn bb w6 b := fun b hb => by cases hb; exact ⟨Nat.le_refl _, nx6⟩
    have B7 := B6.1.st g7 (hi_no hr7)
    have hb7 := hb6.grown g7 (ne_some (by omega))
    have c7 := chg_hi c6 g7 (fun b hb => by rw [hxb]; exact (hr7 b hb).1) fun j hj => (B7.2 j).1 hj
    have nx7 : ¬ BkOwn bb w7 xb := fun hk => nx6 ((B7.2 _).1 hk)
    have ny7 : ¬ BkOwn bb w7 yb := fun hk => ny6 ((B7.2 _).1 hk)
    have no7 : ∀ b, (Value.slice pn' (k + 1) cn').ownBlock = some b → ¬ BkOwn bb w7 b := fun b hb hk => by
      have h6 := (B7.2 b).1 hk
      have h5 := (B6.2 b).1 h6
      rcases n6 b hb with h | h
      · exact no5 b h h5
      · have := B5.lt h5; omega
    refine ⟨_, rfl, _, _, _, hb7.cell (i := 1) rfl rfl, ⟨?_⟩⟩
    have e8 := ext_alloc w7 (.cells #[.slice pv ls[k].length cv] 22)
    have hx8 := cs_alloc w7 #[.slice pv ls[k].length cv] 22
    have c8 := c7.trans (B7.1.chg (S := fun _ => False) e8)
    have B8 := B7.1.ext e8
    have hrv8 := RowAt.chg (xb := bb) ⟨pv, cv, rfl, hnv, hcv, hpv⟩ (chg0 c8)
    have N8 := e8.row N7
    have X8 := X7.ext e8
    have Y8 := Y7.ext e8
    have hb8 := hb7.ext e8
    have own8 := B7.1.own_ext e8
    have no8 : ∀ b, (Value.slice pn' (k + 1) cn').ownBlock = some b → ¬ BkOwn bb (w7.alloc (.cells #[.slice pv ls[k].length cv] 22)) b := fun b hb hk => no7 b hb ((own8 b).1 hk)
    have nx8 : ¬ BkOwn bb (w7.alloc (.cells #[.slice pv ls[k].length cv] 22)) xb := fun hk => nx7 ((own8 _).1 hk)
    have ny8 : ¬ BkOwn bb (w7.alloc (.cells #[.slice pv ls[k].length cv] 22)) yb := fun hk => ny7 ((own8 _).1 hk)
    generalize w7.alloc (.cells #[.slice pv ls[k].length cv] 22) = w8 at *
    refine bk_app (l := ls[k]) B8 (by omega) hx8 hrv8 (fun a n c e hz => ⟨hvP a n c e hz, by cases e; have := (hpv a rfl (prs_ne hz)).2.2; omega⟩) hb8 fun w9 B9 c9 => ?_
    have X9 : Blk w9 xb _ _ := c9.blk X8 nx8 fun h => h
    have Y9 : Blk w9 yb _ _ := c9.blk Y8 ny8 fun h => h
    have N9 := chg_row c9 N8 no8 (fun _ _ h => h)
    have l8 : xb < w8.heap.size ∧ yb < w8.heap.size := ⟨X8.lt, Y8.lt⟩
    rw [wrap_succ (n := 10) (by omega) (by omega)]
    refine ⟨⟨k + 1, pn', cn', rfl, by omega, X9, ?_, fun b hb => c9.out b (N8.lt b hb).2 (no8 b hb), Y9, ?_, c8.trans c9, c9.out _ l8.1 nx8, c9.out _ l8.2 ny8⟩, ?_⟩
    · rw [List.range_succ, List.map_append, ints_append]
      exact N9
    · rw [← List.take_append_getElem hkl, ← List.append_assoc]
      exact B9
    · show n - ((k + 1 : Nat) : Int).toNat < n - (k : Int).toNat
      omega
  · have z : k = n := by have := of_decide_eq_false z; omega
    subst z
    have ht : ls.take k = ls := List.take_of_length_le (by omega)
    rw [ht] at B3
    refine ⟨_, X3.cell (i := 0) rfl rfl, _, X3.cell (i := 1) rfl rfl, _, X3.cell (i := 2) rfl rfl, _, X3.cell (i := 3) rfl rfl, _, X3.cell (i := 4) rfl rfl, _, _, _, X3.cell (i := 5) rfl rfl, _, _, _, X3.cell (i := 6) rfl rfl, st7 Y3 fun w4 Y4 g4 => ?_⟩
    have hr4 : ∀ b, some yb = some b → xb ≤ b ∧ ¬ BkOwn bb w3 b := fun b hb => by cases hb; exact ⟨by omega, ny3⟩
    have B4 := B3.st g4 (hi_no hr4)
    have c4 := chg_hi c3 g4 (fun b hb => by rw [hxb]; exact (hr4 b hb).1) fun j hj => (B4.2 j).1 hj
    have hN3 := N3.lt
    have N4 := N3.kept g4 (.inr fun e => by have := (hN3 _ e).1; omega)
    refine ⟨_, Y4.cell (i := 0) rfl rfl, _, Y4.cell (i := 1) rfl rfl, _, Y4.cell (i := 2) rfl rfl, _, Y4.cell (i := 3) rfl rfl, _, Y4.cell (i := 4) rfl rfl, _, _, _, Y4.cell (i := 5) rfl rfl, _, _, _, Y4.cell (i := 6) rfl rfl, h _ w4 ⟨_, _, rfl, ?_, ?_, fun a n' c' e => by injection e with e1 e2 e3; have := (row_lt N4 e1).1; omega, fun a n' c' e => by cases e⟩ (B4.1.up fun k h => h.1) c4⟩
    · show RowAt (BkOwn bb) bb w4 _ ((List.range ls.length).map fun i => ((L.length + i : Nat) : Int)).length _
      rw [List.length_map, List.length_range, hn]
      refine ⟨pn, cn, rfl, row_cap N4, ?_, fun a ha _ => ?_⟩
      · have := Cs.of_row N4
        show Cs w4 pn (ints ((List.range ls.length).map fun i => ((L.length + i : Nat) : Int)))
        rw [hn]; exact this
      · have hlt := row_lt N4 ha
        have hno := no3 a.block (by subst ha; rfl)
        exact ⟨fun hk => hno ((B4.2 _).1 hk), by omega, hlt.2⟩
    · show RowAt (BkOwn bb) bb w4 _ r.pairs.length (prs r.pairs)
      rw [hpr]; exact rowAt_nil _ _ _
end Go.Proofs.YtmdboekndjlmgaaGreat

namespace Go.Proofs.YtmdboekndjlmgaaGreat
open Go Go.Sh Go.RowKit

theorem ep7 {w : World} {b : Nat} {a0 a1 a2 a3 a4 a5 a6 : Value} {t : TypeId} {x0 : Int} {x1 : Bool} {x2 x3 x4 : Int} {p5 : OA} {n5 c5 : Nat} {p6 : OA} {n6 c6 : Nat} {R : EW} (h : Blk w b #[a0, a1, a2, a3, a4, a5, a6] t) (k : ∀ w', w.grownBy w' (some b) → R (.returned (.agg #[.int .i64 x0, .bool x1, .int .i64 x2, .int .i64 x3, .int .i64 x4, .slice p5 n5 c5, .slice p6 n6 c6])) w') :
    doSt ((blk b).add 0) (.int .i64 x0) w fun w1 => doSt ((blk b).add 1) (.bool x1) w1 fun w2 => doSt ((blk b).add 2) (.int .i64 x2) w2 fun w3 => doSt ((blk b).add 3) (.int .i64 x3) w3 fun w4 => doSt ((blk b).add 4) (.int .i64 x4) w4 fun w5 => doSt ((blk b).add 5) (.slice p5 n5 c5) w5 fun w6 => doSt ((blk b).add 6) (.slice p6 n6 c6) w6 fun w7 => ∃ (y0 : Int), w7.cell? ((blk b).add 0) = some (.int .i64 y0) ∧ (∃ (y1 : Bool), w7.cell? ((blk b).add 1) = some (.bool y1) ∧ (∃ (y2 : Int), w7.cell? ((blk b).add 2) = some (.int .i64 y2) ∧ (∃ (y3 : Int), w7.cell? ((blk b).add 3) = some (.int .i64 y3) ∧ (∃ (y4 : Int), w7.cell? ((blk b).add 4) = some (.int .i64 y4) ∧ (∃ (q5 : OA), ∃ (m5 : Nat), ∃ (d5 : Nat), w7.cell? ((blk b).add 5) = some (.slice q5 m5 d5) ∧ (∃ (q6 : OA), ∃ (m6 : Nat), ∃ (d6 : Nat), w7.cell? ((blk b).add 6) = some (.slice q6 m6 d6) ∧ (R (.returned (.agg #[.int .i64 y0, .bool y1, .int .i64 y2, .int .i64 y3, .int .i64 y4, .slice q5 m5 d5, .slice q6 m6 d6])) w7))))))) := by
  refine st7 h fun w' H g => ?_
  exact ⟨_, H.cell (i := 0) rfl rfl, _, H.cell (i := 1) rfl rfl, _, H.cell (i := 2) rfl rfl, _, H.cell (i := 3) rfl rfl, _, H.cell (i := 4) rfl rfl, _, _, _, H.cell (i := 5) rfl rfl, _, _, _, H.cell (i := 6) rfl rfl, k w' g⟩
theorem RepAt.st {N bb : Nat} {w w' : World} {v : Value} {r : Rep} {b : Nat} (h : RepAt N bb w v r) (g : w.grownBy w' (some b)) (hb : b < N) (ho : ∀ k, BkOwn bb w' k → BkOwn bb w k) : RepAt N bb w' v r := by
  obtain ⟨nv, pv, rfl, ⟨q1, c1, rfl, a1, a2, a3⟩, ⟨q2, c2, rfl, b1, b2, b3⟩, n1, n2⟩ := h.ex
  refine ⟨_, _, rfl, ⟨q1, c1, rfl, a1, cs_grown a2 g fun a ha hz => ?_, fun a ha hz => ⟨fun hk => (a3 a ha hz).1 (ho _ hk), (a3 a ha hz).2.1, Nat.lt_of_lt_of_le (a3 a ha hz).2.2 g.size⟩⟩, ⟨q2, c2, rfl, b1, cs_grown b2 g fun a ha hz => ?_, fun a ha hz => ⟨fun hk => (b3 a ha hz).1 (ho _ hk), (b3 a ha hz).2.1, Nat.lt_of_lt_of_le (b3 a ha hz).2.2 g.size⟩⟩, n1, n2⟩
  · have := n1 a _ _ (by rw [ha]); omega
  · have := n2 a _ _ (by rw [ha]); omega
theorem RepAt.mono {N M bb : Nat} {w : World} {v : Value} {r : Rep} (h : RepAt N bb w v r) (hM : M ≤ N) : RepAt M bb w v r := by
  obtain ⟨nv, pv, e, h1, h2, n1, n2⟩ := h.ex
  exact ⟨nv, pv, e, h1, h2, fun a n c e => Nat.le_trans hM (n1 a n c e), fun a n c e => Nat.le_trans hM (n2 a n c e)⟩
theorem RowAt.ext' {P : Nat → Prop} {bb : Nat} {w w' : World} {o : Int} {L : Rows} {v : Value} {n : Nat} {xs : List Value} (h : RowAt (BkOwn bb) bb w v n xs) (hB : BookN P w bb o L) (e : Ext w w') : RowAt (BkOwn bb) bb w' v n xs := h.chg (hB.chg e)
theorem repAt0 {N bb : Nat} {w : World} {r : Rep} (h1 : r.new = []) (h2 : r.pairs = []) : RepAt N bb w (rep0 r) r :=
  ⟨_, _, rfl, by rw [h1]; exact rowAt_nil _ _ _, by rw [h2]; exact rowAt_nil _ _ _, fun a n c e => (by cases e), fun a n c e => (by cases e)⟩
theorem rep_end {P : Nat → Prop} {bb M b : Nat} {o : Int} {L : Rows} {r : Rep} {w0 w : World} {v : Value} {a0 a1 a2 a3 a4 a5 a6 : Value} {t : TypeId} {R : EW} {C : World → Prop} (hR : RepAt M bb w v r) (hB : BookN P w bb o L) (hC : Chg (BkOwn bb) (fun _ => False) w0 w) (hY : Blk w b #[a0, a1, a2, a3, a4, a5, a6] t)
    (hM : b < M) (hN : w0.heap.size ≤ b) (hP : ¬ P b) (nr : ¬ BkOwn bb w b) (hc : C w) (h : ∀ v w', RepAt b bb w' v r → BookN P w' bb o L → Chg (BkOwn bb) (fun _ => False) w0 w' → R (.returned v) w') :
    ∃ (x0 : Int), ∃ (x1 : Bool), ∃ (x2 : Int), ∃ (x3 : Int), ∃ (x4 : Int), ∃ (p5 : OA), ∃ (n5 : Nat), ∃ (c5 : Nat), ∃ (p6 : OA), ∃ (n6 : Nat), ∃ (c6 : Nat), v = (.agg #[.int .i64 x0, .bool x1, .int .i64 x2, .int .i64 x3, .int .i64 x4, .slice p5 n5 c5, .slice p6 n6 c6] : Value) ∧ (C w ∧ (doSt ((blk b).add 0) (.int .i64 x0) w fun w1 => doSt ((blk b).add 1) (.bool x1) w1 fun w2 => doSt ((blk b).add 2) (.int .i64 x2) w2 fun w3 => doSt ((blk b).add 3) (.int .i64 x3) w3 fun w4 => doSt ((blk b).add 4) (.int .i64 x4) w4 fun w5 => doSt ((blk b).add 5) (.slice p5 n5 c5) w5 fun w6 => doSt ((blk b).add 6) (.slice p6 n6 c6) w6 fun w7 => ∃ (y0 : Int), w7.cell? ((blk b).add 0) = some (.int .i64 y0) ∧ (∃ (y1 : Bool), w7.cell? ((blk b).add 1) = some (.bool y1) ∧ (∃ (y2 : Int), w7.cell? ((blk b).add 2) = some (.int .i64 y2) ∧ (∃ (y3 : Int), w7.cell? ((blk b).add 3) = some (.int .i64 y3) ∧ (∃ (y4 : Int), w7.cell? ((blk b).add 4) = some (.int .i64 y4) ∧ (∃ (q5 : OA), ∃ (m5 : Nat), ∃ (d5 : Nat), w7.cell? ((blk b).add 5) = some (.slice q5 m5 d5) ∧ (∃ (q6 : OA), ∃ (m6 : Nat), ∃ (d6 : Nat), w7.cell? ((blk b).add 6) = some (.slice q6 m6 d6) ∧ (R (.returned (.agg #[.int .i64 y0, .bool y1, .int .i64 y2, .int .i64 y3, .int .i64 y4, .slice q5 m5 d5, .slice q6 m6 d6])) w7))))))))) := by
  obtain ⟨nv, pv, e, ⟨q1, c1, rfl, a1, a2, a3⟩, ⟨q2, c2, rfl, b1, b2, b3⟩, n1, n2⟩ := hR.ex
  refine ⟨_, _, _, _, _, _, _, _, _, _, _, e, hc, ep7 hY fun w' g => ?_⟩
  have B := hB.st g fun k hk => by cases hk; exact ⟨hP, nr⟩
  rw [← e]
  exact h v w' ((hR.st g hM fun k hk => (B.2 k).1 hk).mono (by omega)) B.1 (chg_hi hC g (fun k hk => by cases hk; exact hN) fun k hk => (B.2 k).1 hk)
theorem rep_end' {P : Nat → Prop} {bb M b : Nat} {o : Int} {L : Rows} {r : Rep} {w0 w : World} {v : Value} {a0 a1 a2 a3 a4 a5 a6 : Value} {t : TypeId} {R : EW} (hR : RepAt M bb w v r) (hB : BookN P w bb o L) (hC : Chg (BkOwn bb) (fun _ => False) w0 w) (hY : Blk w b #[a0, a1, a2, a3, a4, a5, a6] t)
    (hM : b < M) (hN : w0.heap.size ≤ b) (hP : ¬ P b) (nr : ¬ BkOwn bb w b) (h : ∀ v w', RepAt b bb w' v r → BookN P w' bb o L → Chg (BkOwn bb) (fun _ => False) w0 w' → R (.returned v) w') :
    ∃ (x0 : Int), ∃ (x1 : Bool), ∃ (x2 : Int), ∃ (x3 : Int), ∃ (x4 : Int), ∃ (p5 : OA), ∃ (n5 : Nat), ∃ (c5 : Nat), ∃ (p6 : OA), ∃ (n6 : Nat), ∃ (c6 : Nat), v = (.agg #[.int .i64 x0, .bool x1, .int .i64 x2, .int .i64 x3, .int .i64 x4, .slice p5 n5 c5, .slice p6 n6 c6] : Value) ∧ (doSt ((blk b).add 0) (.int .i64 x0) w fun w1 => doSt ((blk b).add 1) (.bool x1) w1 fun w2 => doSt ((blk b).add 2) (.int .i64 x2) w2 fun w3 => doSt ((blk b).add 3) (.int .i64 x3) w3 fun w4 => doSt ((blk b).add 4) (.int .i64 x4) w4 fun w5 => doSt ((blk b).add 5) (.slice p5 n5 c5) w5 fun w6 => doSt ((blk b).add 6) (.slice p6 n6 c6) w6 fun w7 => ∃ (y0 : Int), w7.cell? ((blk b).add 0) = some (.int .i64 y0) ∧ (∃ (y1 : Bool), w7.cell? ((blk b).add 1) = some (.bool y1) ∧ (∃ (y2 : Int), w7.cell? ((blk b).add 2) = some (.int .i64 y2) ∧ (∃ (y3 : Int), w7.cell? ((blk b).add 3) = some (.int .i64 y3) ∧ (∃ (y4 : Int), w7.cell? ((blk b).add 4) = some (.int .i64 y4) ∧ (∃ (q5 : OA), ∃ (m5 : Nat), ∃ (d5 : Nat), w7.cell? ((blk b).add 5) = some (.slice q5 m5 d5) ∧ (∃ (q6 : OA), ∃ (m6 : Nat), ∃ (d6 : Nat), w7.cell? ((blk b).add 6) = some (.slice q6 m6 d6) ∧ (R (.returned (.agg #[.int .i64 y0, .bool y1, .int .i64 y2, .int .i64 y3, .int .i64 y4, .slice q5 m5 d5, .slice q6 m6 d6])) w7)))))))) := by
  obtain ⟨x0, x1, x2, x3, x4, p5, n5, c5, p6, n6, c6, e, _, k⟩ := rep_end (C := fun _ => True) hR hB hC hY hM hN hP nr trivial h
  exact ⟨x0, x1, x2, x3, x4, p5, n5, c5, p6, n6, c6, e, k⟩
theorem c_counted {P : Nat → Prop} {bb : Nat} {o e : Int} {L : Rows} {l : List Pr} {q : OA} {n c : Nat} {w : World} {R : EW} (hB : BookN P w bb o L) (hL : L.length ≤ 4500) (hl : RowAt (BkOwn bb) bb w (.slice q n c) l.length (prs l)) (hq : BlkIn P (.slice q n c))
    (h : ∀ v w', RepAt w.heap.size bb w' v (countP L l).1 → BookN P w' bb o (countP L l).2 → Chg (BkOwn bb) (fun _ => False) w w' → R (.returned v) w') :
    Calls Tryz.prog 105 #[.pointer (some (blk bb)), .slice q n c, .int .i64 e] w R := by
  refine sh105_ok _ _ _ _ _ ?_
  unfold sh105
  refine ⟨⟨?_⟩⟩
  have e1 := ext_alloc w (.cells #[.int .i64 0, .bool false, .int .i64 0, .int .i64 0, .int .i64 0, .slice none 0 0, .slice none 0 0] 34)
  have Y1 := blk_alloc w #[.int .i64 0, .bool false, .int .i64 0, .int .i64 0, .int .i64 0, .slice none 0 0, .slice none 0 0] 34
  generalize w.alloc (.cells #[.int .i64 0, .bool false, .int .i64 0, .int .i64 0, .int .i64 0, .slice none 0 0, .slice none 0 0] 34) = w1 at *
  have e2 := ext_alloc w1 (.cells #[.slice q n c] 22)
  have hx2 := cs_alloc w1 #[.slice q n c] 22
  have lz : (w1.alloc (.cells #[.slice q n c] 22)).heap.size = w1.heap.size + 1 := by simp
  generalize w1.alloc (.cells #[.slice q n c] 22) = w2 at *
  have Y2 := Y1.ext e2
  have E2 := e1.trans e2
  have l1 := Y1.lt
  have B2 : BookN (fun k => P k ∧ k < w.heap.size) w2 bb o L := hB.top.ext E2
  have own2 := hB.own_ext E2
  have hl2 := hl.ext' hB E2
  obtain ⟨q', c', hqe, hnc, hcs, hqa⟩ := hl
  injection hqe with hq1 hq2 hq3
  subst hq1 hq2 hq3
  have no2 : ¬ BkOwn bb w2 w.heap.size := fun hk => by have := hB.lt ((own2 _).1 hk); omega
  refine do_call Tryz.call98 (c_made (ls := [l]) (r := { Rep.zero with n := l.length }) B2 hL (by simp) (by simp) hx2 (fun a ha => ?_) (fun i m hm => ?_) rfl rfl fun v w3 hR hB3 hC3 => retS_ret ?_)
  · cases ha
    exact ⟨fun hk => by have := hB.lt ((own2 _).1 hk); have := e1.size; simp only [blk] at *; omega, by simp only [blk] at *; omega⟩
  · cases i with
    | zero =>
      obtain rfl : l = m := by simpa using hm
      exact ⟨_, rfl, hl2, fun a n c e hz => ⟨hq a n c e hz, by cases e; exact (hqa a rfl (prs_ne hz)).2.2⟩⟩
    | succ i => simp at hm
  · exact rep_end' hR hB3 ((hB.chg E2).trans hC3) (hC3.blk Y2 no2 fun h => h) (by omega) (Nat.le_refl _) (fun hp => by have := hp.2; omega) (hC3.out _ (by omega) no2) fun v w' r b k => h v w' r (b.up fun _ h => h.1) k
end Go.Proofs.YtmdboekndjlmgaaGreat

