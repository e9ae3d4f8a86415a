/-
  Trees made of rows, in plain; the frame of what is changed: a scheme, and draws.
-/
/-
  draw, mix: numbers that are drawn; the document's.
-/
/-
  build.Items: a tree of items, by halves.
-/
/-
  build.Row: a tree of a row, with its tags.
-/
import Derived.Test.YtlddfgfmkapoiaaGreatZ22

namespace Go.Proofs.YtlddfgfmkapoiaaGreat
open Go Go.Sh Go.RowKit

/-! ### trees of rows -/
def bldC (c : Int) (l : List It) : Tr :=
  if h : 0 < l.length then joinC c (bldC c (l.take (l.length / 2))) (l[l.length / 2]'(by omega)) (bldC c (l.drop (l.length / 2 + 1))) else .nil
termination_by l.length
decreasing_by
  · simp only [List.length_take]; omega
  · simp only [List.length_drop]; omega
theorem bldC_nil (c : Int) : bldC c [] = .nil := by rw [bldC]; rfl
theorem bldC_eq {c : Int} {l : List It} (h : 0 < l.length) : bldC c l = joinC c (bldC c (l.take (l.length / 2))) (l[l.length / 2]'(by omega)) (bldC c (l.drop (l.length / 2 + 1))) := by
  rw [bldC, dif_pos h]
theorem bldC_okn {c : Int} (hs : isS c = true) : ∀ (n : Nat) (l : List It), l.length ≤ n → OkM c (bldC c l) ∧ itsC c (bldC c l) = l.map (itC c)
  | 0, l, h => by
    have : l = [] := List.eq_nil_of_length_eq_zero (by omega)
    subst this
    rw [bldC_nil]
    exact ⟨OkM.nil hs, rfl⟩
  | n + 1, l, h => by
    by_cases h0 : 0 < l.length
    · rw [bldC_eq h0]
      have a := bldC_okn hs n (l.take (l.length / 2)) (by simp only [List.length_take]; omega)
      have b := bldC_okn hs n (l.drop (l.length / 2 + 1)) (by simp only [List.length_drop]; omega)
      have j := joinC_ok a.1.1 b.1.1 (l[l.length / 2]'(by omega))
      refine ⟨j.1, ?_⟩
      rw [j.2, a.2, b.2, ← List.map_cons, ← List.map_append, ← List.drop_eq_getElem_cons, List.take_append_drop]
    · have : l = [] := List.eq_nil_of_length_eq_zero (by omega)
      subst this
      rw [bldC_nil]
      exact ⟨OkM.nil hs, rfl⟩
theorem bldC_ok {c : Int} (hs : isS c = true) (l : List It) : OkM c (bldC c l) ∧ itsC c (bldC c l) = l.map (itC c) := bldC_okn hs l.length l (Nat.le_refl _)
theorem bldC_size {c : Int} (hs : isS c = true) (l : List It) : (bldC c l).size = l.length := by rw [← itsC_len c, (bldC_ok hs l).2, List.length_map]
/-! ### numbers that are drawn -/
/-- what a key is drawn, of numbers -/
def mixK (key : Int) : Int := U (mixB (BitVec.ofInt 64 key + 0x9e3779b97f4a7c15#64))
def headD (ds : List Int) (key : Int) : Int := ds.headD (mixK key)
def drawL : List Int → List Pr → List It
  | _, [] => []
  | ds, x :: t => (x.1, x.2, headD ds x.1) :: drawL ds.tail t
theorem drawL_len : ∀ (ds : List Int) (l : List Pr), (drawL ds l).length = l.length
  | _, [] => rfl
  | ds, x :: t => by simp [drawL, drawL_len ds.tail t]
theorem drawL_snoc : ∀ (ds : List Int) (l : List Pr) (x : Pr), drawL ds (l ++ [x]) = drawL ds l ++ [(x.1, x.2, headD (ds.drop l.length) x.1)]
  | ds, [], x => by simp [drawL]
  | ds, y :: t, x => by
    show _ :: drawL ds.tail (t ++ [x]) = _
    rw [drawL_snoc]
    simp only [drawL, List.cons_append, List.length_cons]
    cases ds with
    | nil => simp
    | cons d ds => simp
def zeroL (l : List Pr) : List It := l.map fun x => (x.1, x.2, 0)
def tagL (c : Int) (ds : List Int) (l : List Pr) : List It := if c = 4 then drawL ds l else zeroL l
def restL (c : Int) (ds : List Int) (l : List Pr) : List Int := if c = 4 then ds.drop l.length else ds
theorem tagL_len (c : Int) (ds : List Int) (l : List Pr) : (tagL c ds l).length = l.length := by
  unfold tagL; split
  · exact drawL_len _ _
  · simp [zeroL]
theorem tagL_nil (c : Int) (ds : List Int) : tagL c ds [] = [] := by unfold tagL; split <;> rfl
theorem tagL_snoc (c : Int) (ds : List Int) (l : List Pr) (x : Pr) : tagL c ds (l ++ [x]) = tagL c ds l ++ [(x.1, x.2, if c = 4 then headD (restL c ds l) x.1 else 0)] := by
  unfold tagL restL; split
  · exact drawL_snoc _ _ _
  · simp [zeroL]
theorem tagL_take {c : Int} {ds : List Int} {l : List Pr} {i : Nat} (hi : i < l.length) : tagL c ds (l.take (i + 1)) = tagL c ds (l.take i) ++ [(l[i].1, l[i].2, if c = 4 then headD (restL c ds (l.take i)) l[i].1 else 0)] := by
  rw [show l.take (i + 1) = l.take i ++ [l[i]] from (List.take_append_getElem hi).symm, tagL_snoc]
theorem restL_take {c : Int} {ds : List Int} {l : List Pr} {i : Nat} (hi : i < l.length) : restL c ds (l.take (i + 1)) = if c = 4 then (restL c ds (l.take i)).tail else restL c ds (l.take i) := by
  unfold restL; split
  · rw [List.length_take, List.length_take, Nat.min_eq_left (by omega), Nat.min_eq_left (by omega), List.tail_drop]
  · rfl
abbrev InU (l : List Int) : Prop := ∀ x ∈ l, 0 ≤ x ∧ x < 18446744073709551616
theorem mixK_u (key : Int) : 0 ≤ mixK key ∧ mixK key < 18446744073709551616 := by
  unfold mixK U
  have := (mixB (BitVec.ofInt 64 key + 0x9e3779b97f4a7c15#64)).isLt
  omega
theorem headD_u {ds : List Int} (h : InU ds) (key : Int) : 0 ≤ headD ds key ∧ headD ds key < 18446744073709551616 := by
  cases ds with
  | nil => exact mixK_u key
  | cons d ds => exact h d (by simp)
theorem InU.tail {ds : List Int} (h : InU ds) : InU ds.tail := fun x hx => h x (List.mem_of_mem_tail hx)
theorem InU.drop {ds : List Int} (h : InU ds) (k : Nat) : InU (ds.drop k) := fun x hx => h x (List.mem_of_mem_drop hx)
theorem drawL_tag : ∀ {ds : List Int} {l : List Pr}, InU ds → TagI (drawL ds l)
  | _, [], _ => fun x hx => by cases hx
  | ds, y :: t, h => fun x hx => by
    rcases List.mem_cons.1 hx with rfl | hx
    · exact headD_u h _
    · exact drawL_tag h.tail x hx
theorem tagL_tag {c : Int} {ds : List Int} {l : List Pr} (h : InU ds) : TagI (tagL c ds l) := by
  unfold tagL; split
  · exact drawL_tag h
  · intro x hx
    obtain ⟨y, _, rfl⟩ := List.mem_map.1 hx
    exact ⟨Int.le_refl _, by show (0 : Int) < _; decide⟩
theorem drawL_prs : ∀ (ds : List Int) (l : List Pr), (drawL ds l).map (fun x => (x.1, x.2.1)) = l
  | _, [] => rfl
  | ds, x :: t => by simp [drawL, drawL_prs ds.tail t]
theorem tagL_prs (c : Int) (ds : List Int) (l : List Pr) : (tagL c ds l).map (fun x => (x.1, x.2.1)) = l := by
  unfold tagL; split
  · exact drawL_prs ds l
  · unfold zeroL
    rw [List.map_map]
    have : l.map ((fun x : It => (x.1, x.2.1)) ∘ fun x : Pr => (x.1, x.2, 0)) = l.map id := List.map_congr_left fun x _ => rfl
    rw [this, List.map_id]
theorem tagL_fix {c : Int} {ds : List Int} {l : List Pr} : (tagL c ds l).map (itC c) = tagL c ds l := by
  unfold tagL; split
  · have : (drawL ds l).map (itC c) = (drawL ds l).map id := List.map_congr_left fun x _ => by unfold itC; rw [if_pos (by assumption)]; rfl
    rw [this, List.map_id]
  · have : (zeroL l).map (itC c) = (zeroL l).map id := List.map_congr_left fun x hx => by
      obtain ⟨y, _, rfl⟩ := List.mem_map.1 hx
      unfold itC; rw [if_neg (by assumption)]; rfl
    rw [this, List.map_id]
theorem bldC_its {c : Int} {ds : List Int} {l : List Pr} (hs : isS c = true) : itsC c (bldC c (tagL c ds l)) = tagL c ds l := by rw [(bldC_ok hs _).2, tagL_fix]
/-! ### the frame -/
/-- all blocks that were there are as they were, but for some -/
def Gd (S : List Nat) (w w' : World) : Prop := w'.os = w.os ∧ w'.tape = w.tape ∧ w'.output = w.output ∧ w.heap.size ≤ w'.heap.size ∧ ∀ k, k < w.heap.size → k ∉ S → w'.heap[k]? = w.heap[k]?
theorem gd_of {S : List Nat} {w w' : World} (e : Ext w w') : Gd S w w' := ⟨e.os, e.tape, e.output, e.size, fun k hk _ => e.block k hk⟩
theorem gd_gs {S : List Nat} {b : Nat} {w w' : World} (g : Gs b w w') (hb : b ∈ S) : Gd S w w' := ⟨g.os, g.tape, g.output, World.grownBy.size g, fun k hk hn => g.block k hk (ne_some fun e => hn (by rw [e]; exact hb))⟩
theorem gd_refl (S : List Nat) (w : World) : Gd S w w := ⟨rfl, rfl, rfl, Nat.le_refl _, fun _ _ _ => rfl⟩
theorem Gd.size {S : List Nat} {w w' : World} (g : Gd S w w') : w.heap.size ≤ w'.heap.size := g.2.2.2.1
theorem Gd.trans {S : List Nat} {x y z : World} (g : Gd S x y) (k : Gd S y z) : Gd S x z :=
  ⟨k.1.trans g.1, k.2.1.trans g.2.1, k.2.2.1.trans g.2.2.1, Nat.le_trans g.size k.size, fun i hi hn => (k.2.2.2.2 i (Nat.lt_of_lt_of_le hi g.size) hn).trans (g.2.2.2.2 i hi hn)⟩
theorem Gd.mono {S T : List Nat} {x y : World} (g : Gd S x y) (h : ∀ k ∈ S, k ∈ T) : Gd T x y := ⟨g.1, g.2.1, g.2.2.1, g.2.2.2.1, fun i hi hn => g.2.2.2.2 i hi fun q => hn (h i q)⟩
theorem Gd.st {S : List Nat} {k : Nat} {w0 w1 w2 : World} (g : Gd S w0 w1) (q : w1.grownBy w2 (some k)) (hk : w0.heap.size ≤ k ∨ k ∈ S) : Gd S w0 w2 :=
  ⟨q.os.trans g.1, q.tape.trans g.2.1, q.output.trans g.2.2.1, Nat.le_trans g.size (World.grownBy.size q), fun i hi hn => (q.block i (Nat.lt_of_lt_of_le hi g.size) (ne_some fun e => by
    rcases hk with hk | hk
    · omega
    · exact hn (by rw [e]; exact hk))).trans (g.2.2.2.2 i hi hn)⟩
theorem Ext.gd {S : List Nat} {w w1 w2 : World} (e : Ext w w1) (g : Gd S w1 w2) (h : ∀ k ∈ S, w.heap.size ≤ k) : Ext w w2 :=
  ⟨g.1.trans e.os, g.2.1.trans e.tape, g.2.2.1.trans e.output, Nat.le_trans e.size g.size, fun i hi => (g.2.2.2.2 i (Nat.lt_of_lt_of_le hi e.size) fun q => by have := h i q; omega).trans (e.block i hi)⟩
theorem _root_.Go.Sh.Blk.gd {S : List Nat} {k : Nat} {w w' : World} {cs : Array Value} {ty : TypeId} (h : Blk w k cs ty) (g : Gd S w w') (hk : k ∉ S) : Blk w' k cs ty := by
  have := g.2.2.2.2 k h.lt hk
  unfold Blk at h ⊢
  rw [this]; exact h
theorem IsSch.gd {S : List Nat} {c : Int} {b : Nat} {w w' : World} (h : IsSch c b w) (g : Gd S w w') (hb : b ∉ S) : IsSch c b w' := by
  obtain ⟨hss, ⟨j, h⟩ | ⟨j, h⟩⟩ := h
  · exact ⟨hss, .inl ⟨j, h.gd g hb⟩⟩
  · exact ⟨hss, .inr ⟨j, h.gd g hb⟩⟩
/-- what is changed is no node -/
def Oth (S : List Nat) (w : World) : Prop := ∀ k ∈ S, ∀ cs, ¬ Blk w k cs 249
theorem oth_blk {w : World} {k : Nat} {cs : Array Value} {t : TypeId} (h : Blk w k cs t) (ht : t ≠ 249) : ∀ cs', ¬ Blk w k cs' 249 := fun _ h' => ht (blk_fun h h')
theorem _root_.Go.Sh.IsT.gd {S : List Nat} {w w' : World} {p : Option Addr} {t : Tr} (h : IsN w p t) (o : Oth S w) (g : Gd S w w') : IsN w' p t := by
  induction t generalizing p with
  | nil => exact h
  | node l k v gg r ihl ihr =>
    obtain ⟨b', pl, pr, hp, hb, hl, hr⟩ := h
    exact ⟨b', pl, pr, hp, hb.gd g (fun hm => o b' hm _ hb), ihl hl, ihr hr⟩
theorem IsSch.oth {c : Int} {b : Nat} {w : World} (h : IsSch c b w) : ∀ cs, ¬ Blk w b cs 249 := by
  rcases h.2 with ⟨j, h⟩ | ⟨j, h⟩
  · exact oth_blk h (by decide)
  · exact oth_blk h (by decide)
theorem heap_gd {S : List Nat} {k : Nat} {w w' : World} {o : Obj} (h : w.heap[k]? = some o) (g : Gd S w w') (hk : k ∉ S) : w'.heap[k]? = some o := by
  rw [g.2.2.2.2 k (Array.getElem?_eq_some_iff.1 h).1 hk]; exact h
theorem cell_gd {S : List Nat} {p : Addr} {v : Value} {w w' : World} (h : w.cell? p = some v) (g : Gd S w w') (hk : p.block ∉ S) : w'.cell? p = some v := by
  have := g.2.2.2.2 p.block (World.block_lt_of_cell? w p h) hk
  have e : w'.cell? p = w.cell? p := by unfold World.cell?; rw [this]
  rw [e]; exact h
theorem cs_gd {S : List Nat} {q : Option Addr} {vs : List Value} {w w' : World} (h : Cs w q vs) (g : Gd S w w') (hk : ∀ a, q = some a → a.block ∉ S) : Cs w' q vs := fun i v hv => by
  obtain ⟨a, ha, hc⟩ := h i v hv
  exact ⟨a, ha, cell_gd hc g (by rw [add_block]; exact hk a ha)⟩
/-- a row of one's own, that is none of what is changed -/
theorem row_gd {S : List Nat} {w w' : World} {base ty s n : Nat} {v : Value} {xs : List Value} (h : w.ownsRow base ty s v n xs) (g : Gd S w w') (hb : ∀ k ∈ S, k < base) : w'.ownsRow base ty s v n xs := by
  refine ⟨h.1, ?_⟩
  rcases h.2 with q | ⟨b, cap, cur, hv, hbb, hblk, rest⟩
  · exact .inl q
  · refine .inr ⟨b, cap, cur, hv, hbb, ?_, rest⟩
    have hlt : b < w.heap.size := (World.ownsRow.lt h b (by rw [hv]; rfl)).2
    rw [g.2.2.2.2 b hlt fun hm => by have := hb b hm; omega]
    exact hblk
end Go.Proofs.YtlddfgfmkapoiaaGreat

namespace Go.Proofs.YtlddfgfmkapoiaaGreat
open Go Go.Sh Go.RowKit

abbrev u64s (l : List Int) : List Value := l.flatMap fun x => [.int .u64 x]
theorem u64_len (x : Int) : ([.int .u64 x] : List Value).length = 1 := rfl
theorem u64s_length (l : List Int) : (u64s l).length = l.length := by rw [flat_length u64_len]; omega
theorem u64s_one {l : List Int} : ∀ u ∈ u64s l, u.oneCell' = true := fun u hu => by
  obtain ⟨x, _, hx⟩ := List.mem_flatMap.1 hu
  simp only [List.mem_singleton] at hx
  subst hx; rfl
set_option maxRecDepth 100000 in
theorem elU : ElT Tryz.prog 23 75 (.int .u64 0) 1 8 := ⟨Tryz.underlying23, ⟨_, Tryz.type75, by kernel_rfl, by kernel_rfl, by kernel_rfl⟩, rfl, by omega⟩
abbrev OwnU (w : World) (base : Nat) (p : Option Addr) (n c : Nat) (l : List Int) : Prop := w.ownsRow base 75 1 (.slice p n c) n (u64s l)
theorem cs_u64_nil {w : World} {q : Option Addr} {l : List Int} (h : Cs w q (u64s l)) (hq : q = none) : l = [] := by
  cases l with
  | nil => rfl
  | cons x xs => obtain ⟨a, ha, _⟩ := h 0 (.int .u64 x) rfl; rw [hq] at ha; cases ha
theorem mixOf_eq (key : Int) : IntKind.wrap .u64 (IntKind.wrap .u64 key + 11400714819323198485) = U (BitVec.ofInt 64 key + 0x9e3779b97f4a7c15#64) := by
  rw [wrap_U key, show (11400714819323198485 : Int) = U 0x9e3779b97f4a7c15#64 from rfl, add_U]
theorem c_mixof {key : Int} {w : World} {R : Ending → World → Prop} (h : ∀ w', Ext w w' → R (.returned (.int .u64 (mixK key))) w') : Calls Tryz.prog 83 #[.int .i64 key] w R := by
  refine sh83_ok _ ?_
  unfold sh83
  rw [mixOf_eq]
  exact do_call Tryz.call122 (c_mix fun w1 e1 => retS_ret ⟨_, rfl, h _ e1⟩)
theorem c_r1of {key : Int} {w : World} {R : Ending → World → Prop} (h : R (.returned (.int .u64 (mixK key))) w) : Calls Tryz.prog 186 #[.int .i64 key] w R := by
  refine sh186_ok _ ?_
  unfold sh186
  rw [mixOf_eq]
  exact do_call Tryz.call131 (c_rmix (retS_ret ⟨_, rfl, h⟩))
theorem c_scode {c : Int} {b : Nat} {w : World} {R : Ending → World → Prop} (hs : IsSch c b w) (h : R (.returned (.int .u8 c)) w) : Calls Tryz.prog 184 #[.pointer (some (blk b))] w R := by
  refine sh184_ok _ ?_
  unfold sh184
  refine ifB_f rfl ⟨_, rfl, ?_⟩
  rcases hs.2 with ⟨j, hb⟩ | ⟨j, hb⟩
  · exact ⟨_, hb.cell (i := 0) (add_blk _ _) rfl, h⟩
  · exact ⟨_, hb.cell (i := 0) (add_blk _ _) rfl, h⟩
/-- all but the first number -/
theorem sl_tail {w : World} {q : Option Addr} {n c : Nat} {l : List Int} {K : Option Addr → Nat → Nat → Prop} (hl : Cs w q (u64s l)) (hn : l.length = n) (hnc : n ≤ c) (h0 : 0 < n)
    (k : ∀ p, (∀ w', Cs w' q (u64s l) → Cs w' p (u64s l.tail)) → (∀ a, p = some a → ∃ a0, q = some a0 ∧ a.block = a0.block) → K p (n - 1) (c - 1)) : doSl q c 1 1 (n : Int) K := by
  refine ⟨by omega, by omega, by omega, ?_⟩
  have e : (n : Int).toNat - (1 : Int).toNat = n - 1 := by omega
  rw [e]
  refine k _ (fun w' hl' => ?_) fun a ha => ?_
  · have ht : u64s l.tail = (u64s l).drop 1 := by
      cases l with
      | nil => rfl
      | cons x t => rfl
    rw [ht]
    split
    · rename_i hc
      have hc : c = 1 := hc
      rw [List.drop_of_length_le (by rw [u64s_length]; omega)]; exact cs_nil _ _
    · cases q with
      | none =>
        have := cs_u64_nil hl rfl
        subst this; exact cs_nil _ _
      | some ad => exact hl'.drop _
  · split at ha
    · exact ⟨a, ha, rfl⟩
    · cases q with
      | none => cases ha
      | some ad =>
        simp only [Option.map_some, Option.some.injEq] at ha
        exact ⟨ad, rfl, by rw [← ha, add_block]⟩
/-! ### draws -/
abbrev drN (bp br : Nat) : Value := .func (.func 171) #[] #[.pointer (some (blk br)), .pointer (some (blk bp))]
abbrev drL (br : Nat) : Value := .func (.func 170) #[] #[.pointer (some (blk br))]
/-- draws in memory; all of it lies ahead of N -/
structure IsDr (bd bp br N : Nat) (ds : List Int) (w : World) : Prop where
  ex : ∃ q n c, ds.length = n ∧ n ≤ c ∧ Cs w q (u64s ds) ∧ (∀ a, q = some a → a.block < N ∧ a.block ≠ bd ∧ a.block ≠ br ∧ ∃ cs, Blk w a.block cs 75) ∧ Blk w bd #[.slice q n c, drN bp br, drL br] 145 ∧ Blk w br #[.slice q n c] 23
  p : Blk w bp #[.pointer (some (blk bd))] 31
  lt : bd < N ∧ bp < N ∧ br < N
  ne : bp ≠ bd ∧ bp ≠ br ∧ bd ≠ br
theorem IsDr.gd {bd bp br N : Nat} {ds : List Int} {S : List Nat} {w w' : World} (h : IsDr bd bp br N ds w) (g : Gd S w w') (hS : ∀ k ∈ S, N ≤ k) : IsDr bd bp br N ds w' := by
  obtain ⟨⟨q, n, c, h1, h2, h3, h4, h5, h6⟩, h7, h8, h9⟩ := h
  have no {k : Nat} (hk : k < N) : k ∉ S := fun hm => by have := hS k hm; omega
  exact ⟨⟨q, n, c, h1, h2, cs_gd h3 g fun a ha => no (h4 a ha).1, fun a ha => ⟨(h4 a ha).1, (h4 a ha).2.1, (h4 a ha).2.2.1, (h4 a ha).2.2.2.imp fun _ hb => hb.gd g (no (h4 a ha).1)⟩, h5.gd g (no h8.1), h6.gd g (no h8.2.2)⟩, h7.gd g (no h8.2.1), h8, h9⟩
theorem IsDr.gs {bd bp br N b : Nat} {c : Int} {ds : List Int} {w w' : World} (h : IsDr bd bp br N ds w) (hs : IsSch c b w) (g : Gs b w w') : IsDr bd bp br N ds w' := by
  obtain ⟨⟨q, n, c, h1, h2, h3, h4, h5, h6⟩, h7, h8, h9⟩ := h
  have G := gd_gs (S := [b]) g (by simp)
  have n5 := hs.ne h5 (by decide)
  have n6 := hs.ne h6 (by decide)
  have n7 := hs.ne h7 (by decide)
  have n4 {a : Addr} (ha : q = some a) : a.block ≠ b := by
    obtain ⟨cs, hb⟩ := (h4 a ha).2.2.2
    exact hs.ne hb (by decide)
  exact ⟨⟨q, n, c, h1, h2, cs_gd h3 G fun a ha => by simp [n4 ha], fun a ha => ⟨(h4 a ha).1, (h4 a ha).2.1, (h4 a ha).2.2.1, (h4 a ha).2.2.2.imp fun _ hb => hb.gs g (n4 ha)⟩, h5.gs g n5, h6.gs g n6⟩, h7.gs g n7, h8, h9⟩
/-- draws, or none -/
def IsD (p : Option Addr) : Option (Nat × Nat × Nat × Nat) → List Int → World → Prop
  | none, ds, _ => p = none ∧ ds = []
  | some (bd, bp, br, N), ds, w => p = some (blk bd) ∧ IsDr bd bp br N ds w
def blksD : Option (Nat × Nat × Nat × Nat) → List Nat
  | none => []
  | some (bd, _, br, _) => [bd, br]
def topD : Option (Nat × Nat × Nat × Nat) → Nat
  | none => 0
  | some (_, _, _, N) => N
theorem IsD.gd {p : Option Addr} {D : Option (Nat × Nat × Nat × Nat)} {ds : List Int} {S : List Nat} {w w' : World} (h : IsD p D ds w) (g : Gd S w w') (hS : ∀ k ∈ S, topD D ≤ k) : IsD p D ds w' := by
  cases D with
  | none => exact h
  | some D => exact ⟨h.1, h.2.gd g hS⟩
theorem IsD.ext {p : Option Addr} {D : Option (Nat × Nat × Nat × Nat)} {ds : List Int} {w w' : World} (h : IsD p D ds w) (e : Ext w w') : IsD p D ds w' := h.gd (gd_of (S := []) e) fun k hk => by cases hk
theorem IsD.gs {p : Option Addr} {D : Option (Nat × Nat × Nat × Nat)} {ds : List Int} {b : Nat} {c : Int} {w w' : World} (h : IsD p D ds w) (hs : IsSch c b w) (g : Gs b w w') : IsD p D ds w' := by
  cases D with
  | none => exact h
  | some D => exact ⟨h.1, h.2.gs hs g⟩
theorem IsD.lt {p : Option Addr} {D : Option (Nat × Nat × Nat × Nat)} {ds : List Int} {w : World} (h : IsD p D ds w) : ∀ k ∈ blksD D, k < w.heap.size ∧ k < topD D := by
  cases D with
  | none => intro k hk; cases hk
  | some D =>
    obtain ⟨⟨q, n, c, h1, h2, h3, h4, h5, h6⟩, h7, h8, h9⟩ := h.2
    intro k hk
    simp only [blksD, List.mem_cons, List.not_mem_nil, or_false] at hk
    rcases hk with rfl | rfl
    · exact ⟨h5.lt, h8.1⟩
    · exact ⟨h6.lt, h8.2.2⟩
theorem IsD.oth {p : Option Addr} {D : Option (Nat × Nat × Nat × Nat)} {ds : List Int} {w : World} (h : IsD p D ds w) : Oth (blksD D) w := by
  cases D with
  | none => intro k hk; cases hk
  | some D =>
    obtain ⟨⟨q, n, c, h1, h2, h3, h4, h5, h6⟩, h7, h8, h9⟩ := h.2
    intro k hk
    simp only [blksD, List.mem_cons, List.not_mem_nil, or_false] at hk
    rcases hk with rfl | rfl
    · exact oth_blk h5 (by decide)
    · exact oth_blk h6 (by decide)
theorem IsD.sch {p : Option Addr} {D : Option (Nat × Nat × Nat × Nat)} {ds : List Int} {c : Int} {b : Nat} {w : World} (h : IsD p D ds w) (hs : IsSch c b w) : b ∉ blksD D := by
  cases D with
  | none => intro hk; cases hk
  | some D =>
    obtain ⟨⟨q, n, c, h1, h2, h3, h4, h5, h6⟩, h7, h8, h9⟩ := h.2
    intro hk
    simp only [blksD, List.mem_cons, List.not_mem_nil, or_false] at hk
    rcases hk with e | e
    · exact hs.ne h5 (by decide) e.symm
    · exact hs.ne h6 (by decide) e.symm
/-- the next number -/
theorem do_dnext {bd bp br N : Nat} {ds : List Int} {w : World} {R : Ending → World → Prop} (hd : IsDr bd bp br N ds w) (h0 : ds = [] → R (.returned (.tuple #[.int .u64 0, .bool false])) w)
    (h1 : ∀ x t w', ds = x :: t → Gd [bd, br] w w' → IsDr bd bp br N t w' → R (.returned (.tuple #[.int .u64 x, .bool true])) w') : doCall Tryz.prog (drN bp br) #[] w R := by
  refine do_callc Tryz.call171 (by rfl) (sh171_ok _ _ ?_)
  unfold sh171
  obtain ⟨⟨q, n, c, e1, e2, e3, e4, e5, e6⟩, e7, e8, e9⟩ := hd
  refine ⟨_, _, _, e6.cell (i := 0) rfl rfl, ?_⟩
  cases ds with
  | nil =>
    have : n = 0 := e1.symm
    subst this
    exact ifB_t rfl (h0 rfl)
  | cons x t =>
    have hn : 0 < n := by rw [← e1]; simp
    refine ifB_f (by simp; omega) ⟨_, _, _, e6.cell (i := 0) rfl rfl, ?_⟩
    refine ix_flat u64_len (by omega) e3 e1 (k := 0) rfl hn fun a r _ => ⟨x, by have := r 0 (.int .u64 x) rfl; rwa [add_zero'] at this, _, _, _, e6.cell (i := 0) rfl rfl, ?_⟩
    refine sl_tail e3 e1 e2 hn fun p hp hpb => ?_
    refine do_st e6 (i := 0) (add_blk _ _) (by simp) fun w1 k1 g1 => ?_
    have k1 : Blk w1 br #[.slice p (n - 1) (c - 1)] 23 := k1
    refine ⟨_, (e7.grown g1 (ne_some e9.2.1)).cell (i := 0) rfl rfl, _, _, _, k1.cell (i := 0) rfl rfl, _, rfl, ?_⟩
    refine do_st (e5.grown g1 (ne_some e9.2.2)) (i := 0) (by rw [Sh.add_add, add_blk]) (by simp) fun w2 k2 g2 => ?_
    have k2 : Blk w2 bd #[.slice p (n - 1) (c - 1), drN bp br, drL br] 145 := k2
    have G : Gd [bd, br] w w2 := ((gd_refl _ w).st g1 (.inr (by simp))).st g2 (.inr (by simp))
    have hpb' : ∀ a, p = some a → a.block < N ∧ a.block ≠ bd ∧ a.block ≠ br ∧ ∃ cs, Blk w2 a.block cs 75 := fun a ha => by
      obtain ⟨a0, h0, hb⟩ := hpb a ha
      have k := e4 a0 h0
      rw [hb]
      exact ⟨k.1, k.2.1, k.2.2.1, k.2.2.2.imp fun _ hx => hx.gd G (by simp [k.2.1, k.2.2.1])⟩
    refine h1 x t w2 rfl G ⟨⟨p, n - 1, c - 1, by simp at e1 ⊢; omega, by omega, ?_, hpb', k2, k1.grown g2 (ne_some (Ne.symm e9.2.2))⟩, (e7.grown g1 (ne_some e9.2.1)).grown g2 (ne_some e9.1), e8, e9⟩
    refine hp w2 (cs_gd e3 G fun a ha => ?_)
    have := e4 a ha
    simp only [List.mem_cons, List.not_mem_nil, or_false]
    omega
theorem c_dnext {p : Option Addr} {D : Option (Nat × Nat × Nat × Nat)} {ds : List Int} {key : Int} {w : World} {R : Ending → World → Prop} (hd : IsD p D ds w)
    (h : ∀ w', Gd (blksD D) w w' → IsD p D ds.tail w' → R (.returned (.int .u64 (headD ds key))) w') : Calls Tryz.prog 185 #[.pointer p, .int .i64 key] w R := by
  refine sh185_ok _ _ ?_
  unfold sh185
  intro K4
  have hK : ds = [] → K4 w := fun e => do_call Tryz.call83 (c_mixof fun w1 e1 => retS_ret ⟨_, rfl, by
    have := h w1 (gd_of e1) (by rw [e]; rw [e] at hd; exact hd.ext e1)
    rw [e] at this; exact this⟩)
  cases D with
  | none =>
    obtain ⟨rfl, e⟩ := hd
    exact ifB_f rfl (hK e)
  | some D =>
    obtain ⟨bd, bp, br, N⟩ := D
    obtain ⟨rfl, hd⟩ := hd
    obtain ⟨q, n, c, e1, e2, e3, e4, e5, e6⟩ := hd.ex
    refine ifB_t rfl ⟨_, rfl, _, _, _, e5.cell (i := 1) (add_blk _ _) rfl, ?_⟩
    refine do_dnext hd (fun e => retS_ret ⟨_, _, rfl, ifB_f rfl (hK e)⟩) fun x t w1 e g h1 => retS_ret ⟨_, _, rfl, ifB_t rfl ?_⟩
    subst e
    exact h w1 g ⟨rfl, h1⟩
/-- how many are left -/
theorem c_dleft {p : Option Addr} {D : Option (Nat × Nat × Nat × Nat)} {ds : List Int} {w : World} {R : Ending → World → Prop} (hd : IsD p D ds w) (h : R (.returned (.int .i64 ds.length)) w) : Calls Tryz.prog 33 #[.pointer p] w R := by
  refine sh33_ok _ ?_
  unfold sh33
  cases D with
  | none =>
    obtain ⟨rfl, rfl⟩ := hd
    exact ifB_t rfl h
  | some D =>
    obtain ⟨bd, bp, br, N⟩ := D
    obtain ⟨rfl, hd⟩ := hd
    obtain ⟨q, n, c, e1, e2, e3, e4, e5, e6⟩ := hd.ex
    refine ifB_f rfl ⟨_, rfl, _, _, _, e5.cell (i := 2) (add_blk _ _) rfl, ?_⟩
    refine do_callc Tryz.call170 (by rfl) (sh170_ok _ ?_)
    unfold sh170
    refine ⟨_, _, _, e6.cell (i := 0) rfl rfl, retS_ret ⟨_, rfl, ?_⟩⟩
    rw [e1] at h
    exact h
theorem c_clone64 {l : List Int} {q : Option Addr} {n c : Nat} {w : World} {R : Ending → World → Prop} (hl : Cs w q (u64s l)) (hn : l.length = n) (hm : n ≤ 17592186044416)
    (h : ∀ p c' w', OwnU w' w.heap.size p n c' l → Ext w w' → R (.returned (.slice p n c')) w') : Calls Tryz.prog 169 #[.slice q n c] w R := by
  refine sh169_ok _ _ _ ?_
  unfold sh169
  cases q with
  | none =>
    have h0 := cs_u64_nil hl rfl
    subst h0
    have hn0 : n = 0 := by simpa using hn.symm
    subst hn0
    exact ifB_t rfl (h _ _ _ (World.ownsRow_nil _ _ _ _) (ext_refl w))
  | some a =>
    refine ifB_f rfl ⟨?_⟩
    have e1 := ext_alloc w (.cells #[] 75)
    have hr := World.ownsRow_lit (base := w.heap.size) (size := 1) (e := 75) w #[] 0 (Nat.le_refl _) (by simp [maxLen]) (by simp)
    refine do_append elU hr (news := u64s l) (hl.ext e1) (by rw [u64s_length]; omega) u64s_one (by simp only [maxLen]; omega) (by omega) e1.size fun p c' w' h1 h2 => retS_ret ⟨_, _, _, rfl, ?_⟩
    simp only [Nat.zero_add, List.nil_append] at h1 ⊢
    exact h p c' w' h1 (e1.grown h2 (by rintro _ ⟨⟩; exact Nat.le_refl _))
theorem c_dnew {ds : List Int} {q : Option Addr} {n c : Nat} {w : World} {R : Ending → World → Prop} (hl : Cs w q (u64s ds)) (hn : ds.length = n) (hm : n ≤ 17592186044416)
    (h : ∀ bd bp br w', Ext w w' → IsDr bd bp br w'.heap.size ds w' → w.heap.size ≤ bd → w.heap.size ≤ br → R (.returned (.pointer (some (blk bd)))) w') : Calls Tryz.prog 94 #[.slice q n c] w R := by
  refine sh94_ok _ _ _ ?_
  unfold sh94
  refine do_call Tryz.call169 (c_clone64 hl hn hm fun q1 c1 w1 o1 e1 => retS_ret ⟨_, _, _, rfl, ⟨?_⟩⟩)
  have hcs := Cs.of_row o1
  have hcap := row_cap o1
  have hblt : ∀ a, q1 = some a → w.heap.size ≤ a.block ∧ a.block < w1.heap.size := fun a ha => row_lt o1 ha
  have e2 := ext_alloc w1 (.cells #[.slice none 0 0] 23)
  have l1 := e1.size
  refine do_st (blk_alloc w1 _ _) (i := 0) (add_blk _ _) (by simp) fun w3 h3 g3 => ⟨?_⟩
  have h3 : Blk w3 w1.heap.size #[.slice q1 n c1] 23 := h3
  have E3 : Ext w1 w3 := e2.st g3 (Nat.le_refl _)
  have e4 := ext_alloc w3 (.cells #[.slice none 0 0, .nilFunc, .nilFunc] 145)
  have h4 := blk_alloc w3 #[.slice none 0 0, .nilFunc, .nilFunc] 145
  have l3 := h3.lt
  generalize hbd : w3.heap.size = bd at *
  generalize w3.alloc (.cells #[.slice none 0 0, .nilFunc, .nilFunc] 145) = w4 at *
  have l4 := h4.lt
  refine ⟨?_⟩
  have e5 := ext_alloc w4 (.cells #[.pointer none] 31)
  refine do_st (blk_alloc w4 _ _) (i := 0) (add_blk _ _) (by simp) fun w6 h6 g6 => ?_
  have h6 : Blk w6 w4.heap.size #[.pointer (some (blk bd))] 31 := h6
  have E6 : Ext w4 w6 := e5.st g6 (Nat.le_refl _)
  generalize hbp : w4.heap.size = bp at *
  have l6 := h6.lt
  refine ⟨_, h6.cell (i := 0) rfl rfl, _, rfl, ?_⟩
  have h4 := h4.ext E6
  have h3 := (h3.ext e4).ext E6
  generalize hbr : w1.heap.size = br at *
  refine do_st h4 (i := 2) (by rw [Sh.add_add, add_blk]) (by simp) fun w7 h7 g7 => ?_
  have h67 := h6.grown g7 (ne_some (by omega))
  have h37 := h3.grown g7 (ne_some (by omega))
  refine ⟨_, h67.cell (i := 0) rfl rfl, _, rfl, ?_⟩
  refine do_st h7 (i := 1) (by rw [Sh.add_add, add_blk]) (by simp) fun w8 h8 g8 => ?_
  have h68 := h67.grown g8 (ne_some (by omega))
  have h38 := h37.grown g8 (ne_some (by omega))
  refine ⟨_, h68.cell (i := 0) rfl rfl, _, _, _, h38.cell (i := 0) rfl rfl, _, rfl, ?_⟩
  refine do_st h8 (i := 0) (by rw [Sh.add_add, add_blk]) (by simp) fun w9 h9 g9 => ?_
  have h69 := h68.grown g9 (ne_some (by omega))
  have h39 := h38.grown g9 (ne_some (by omega))
  have h9 : Blk w9 bd #[.slice q1 n c1, drN bp br, drL br] 145 := h9
  refine ⟨_, h69.cell (i := 0) rfl rfl, ?_⟩
  have E9 : Ext w1 w9 := ((((E3.trans e4).trans E6).st g7 (by omega)).st g8 (by omega)).st g9 (by omega)
  have l9 : w1.heap.size ≤ w9.heap.size := E9.size
  have m1 := h9.lt
  have m2 := h69.lt
  have m3 := h39.lt
  refine h bd bp br w9 (e1.trans E9) ⟨⟨q1, n, c1, hn, hcap, hcs.ext E9, fun a ha => ?_, h9, h39⟩, h69, ⟨m1, m2, m3⟩, ⟨by omega, by omega, by omega⟩⟩ (by omega) (by omega)
  have := hblt a ha
  refine ⟨by omega, by omega, by omega, ?_⟩
  subst ha
  rcases o1.2 with ⟨hv, _⟩ | ⟨gg, cap, cur, hv, _, hblk, _⟩
  · cases hv
  · cases hv
    exact ⟨_, Blk.ext (cs := cur) hblk E9⟩
/-! ### the document's -/
structure IsRd (b M N : Nat) (ds : List Int) (w : World) : Prop where
  ex : ∃ q n c, ds.length = n ∧ n ≤ c ∧ Cs w q (u64s ds) ∧ (∀ a, q = some a → M ≤ a.block ∧ a.block < N ∧ a.block ≠ b) ∧ Blk w b #[.slice q n c] 128
  lt : M ≤ b ∧ b < N
theorem IsRd.gd {b M N : Nat} {ds : List Int} {S : List Nat} {w w' : World} (h : IsRd b M N ds w) (g : Gd S w w') (hS : ∀ k ∈ S, N ≤ k ∨ k < M) : IsRd b M N ds w' := by
  obtain ⟨⟨q, n, c, h1, h2, h3, h4, h5⟩, h6⟩ := h
  refine ⟨⟨q, n, c, h1, h2, cs_gd h3 g fun a ha hm => ?_, h4, h5.gd g fun hm => ?_⟩, h6⟩
  · have := h4 a ha
    have := hS _ hm
    omega
  · have := hS _ hm
    omega
theorem IsRd.ext {b M N : Nat} {ds : List Int} {w w' : World} (h : IsRd b M N ds w) (e : Ext w w') : IsRd b M N ds w' := h.gd (gd_of (S := []) e) fun k hk => by cases hk
theorem c_r8next {b M N : Nat} {ds : List Int} {key : Int} {w : World} {R : Ending → World → Prop} (hd : IsRd b M N ds w)
    (h : ∀ w', Gs b w w' → IsRd b M N ds.tail w' → R (.returned (.int .u64 (headD ds key))) w') : Calls Tryz.prog 103 #[.pointer (some (blk b)), .int .i64 key] w R := by
  refine sh103_ok _ _ ?_
  unfold sh103
  obtain ⟨⟨q, n, c, e1, e2, e3, e4, e5⟩, e6⟩ := id hd
  refine ⟨_, rfl, _, _, _, e5.cell (i := 0) (add_blk _ _) rfl, ?_⟩
  cases ds with
  | nil =>
    have : n = 0 := e1.symm
    subst this
    exact ifB_t rfl (do_call Tryz.call186 (c_r1of (retS_ret ⟨_, rfl, h w (gs_refl _ _) hd⟩)))
  | cons x t =>
    have hn : 0 < n := by rw [← e1]; simp
    refine ifB_f (by simp; omega) ⟨_, rfl, _, _, _, e5.cell (i := 0) (add_blk _ _) rfl, ?_⟩
    refine ix_flat u64_len (by omega) e3 e1 (k := 0) rfl hn fun a r _ => ⟨x, by have := r 0 (.int .u64 x) rfl; rwa [add_zero'] at this, _, rfl, _, _, _, e5.cell (i := 0) (add_blk _ _) rfl, ?_⟩
    refine sl_tail e3 e1 e2 hn fun p hp hpb => ⟨_, rfl, ?_⟩
    refine do_st e5 (i := 0) (by rw [Sh.add_add, add_blk]) (by simp) fun w1 k1 g1 => ?_
    have k1 : Blk w1 b #[.slice p (n - 1) (c - 1)] 128 := k1
    have hpb' : ∀ a, p = some a → M ≤ a.block ∧ a.block < N ∧ a.block ≠ b := fun a ha => by
      obtain ⟨a0, h0, hb⟩ := hpb a ha
      rw [hb]; exact e4 a0 h0
    refine h w1 g1 ⟨⟨p, n - 1, c - 1, by simp at e1 ⊢; omega, by omega, ?_, hpb', k1⟩, e6⟩
    refine hp w1 (cs_gd (S := [b]) e3 (gd_gs g1 (by simp)) fun a ha => ?_)
    simp only [List.mem_cons, List.not_mem_nil, or_false]
    exact (e4 a ha).2.2
theorem c_r8new {ds : List Int} {q : Option Addr} {n c : Nat} {w : World} {R : Ending → World → Prop} (hl : Cs w q (u64s ds)) (hn : ds.length = n) (hm : n ≤ 17592186044416)
    (h : ∀ b w', Ext w w' → IsRd b w.heap.size w'.heap.size ds w' → R (.returned (.pointer (some (blk b)))) w') : Calls Tryz.prog 22 #[.slice q n c] w R := by
  refine sh22_ok _ _ _ ?_
  unfold sh22
  refine do_app elU (World.ownsRow_nil w w.heap.size 75 1) (m := n) hl (by rw [u64s_length]; omega) u64s_one (by simp only [maxLen]; omega) (by omega) (Nat.le_refl _) fun p c' w1 h1 g1 => retS_ret ⟨_, _, _, rfl, ⟨?_⟩⟩
  simp only [Nat.zero_add, List.nil_append] at h1 ⊢
  have e1 : Ext w w1 := (ext_refl w).grown g1 (by intro k hk; cases hk)
  have e2 := ext_alloc w1 (.cells #[.slice p n c'] 128)
  have hb := blk_alloc w1 #[.slice p n c'] 128
  refine h _ _ (e1.trans e2) ⟨⟨p, n, c', hn, row_cap h1, (Cs.of_row h1).ext e2, fun a ha => ?_, hb⟩, e1.size, hb.lt⟩
  have := row_lt h1 ha
  have := e2.size
  omega
end Go.Proofs.YtlddfgfmkapoiaaGreat

namespace Go.Proofs.YtlddfgfmkapoiaaGreat
open Go Go.Sh Go.RowKit

abbrev onB (b5 b7 : Nat) : Value := .func (.func 168) #[] #[.pointer (some (blk b5)), .pointer (some (blk b7))]
structure CapsB (w : World) (b5 b7 b : Nat) : Prop where
  s : Blk w b5 #[.pointer (some (blk b))] 25
  on : Blk w b7 #[onB b5 b7] 232
  ne : b5 ≠ b ∧ b7 ≠ b
theorem CapsB.gs {w w' : World} {b5 b7 b : Nat} (h : CapsB w b5 b7 b) (g : Gs b w w') : CapsB w' b5 b7 b := ⟨h.s.gs g h.ne.1, h.on.gs g h.ne.2, h.ne⟩
theorem half_eq {n : Nat} (h : n ≤ 1000000000000) : IntKind.wrap .i64 (Int.tdiv ((n : Nat) : Int) 2) = ((n / 2 : Nat) : Int) := by
  rw [Int.tdiv_eq_ediv_of_nonneg (by omega), wrap_of (by omega) (by omega)]; omega
set_option maxRecDepth 20000 in
theorem c_items1 {c : Int} {b b5 b7 : Nat} : ∀ (N : Nat) (l : List It) {q : Option Addr} {n cp : Nat} {w : World} {R : Ending → World → Prop} (_hN : l.length ≤ N) (_hc : CapsB w b5 b7 b) (_hs : IsSch c b w) (_hl : ∀ w', Gs b w w' → Cs w' q (its l)) (_hn : l.length = n) (_hnc : n ≤ cp) (_hB : n ≤ 1000000)
    (_h : ∀ q' w', Gs b w w' → IsSch c b w' → IsN w' q' (bldC c l) → R (.returned (.pointer q')) w'), doCall Tryz.prog (onB b5 b7) #[.slice q n cp] w R
  | N, l, q, n, cp, w, R, hN, hc, hs, hl, hn, hnc, hB, h => by
    refine do_callc Tryz.call168 (by rfl) (sh168_ok _ _ _ _ _ ?_)
    unfold sh168
    by_cases h0 : n = 0
    · have : l = [] := List.eq_nil_of_length_eq_zero (by omega)
      subst this
      subst h0
      exact ifB_t rfl (h none w (gs_refl _ _) hs (by rw [bldC_nil]; rfl))
    · refine ifB_f (by simp; omega) ⟨by decide, ?_⟩
      have hpos : 0 < l.length := by omega
      rw [half_eq (by omega)]
      have e2 : IntKind.wrap .i64 (((n / 2 : Nat) : Int) + 1) = ((n / 2 + 1 : Nat) : Int) := by rw [wrap_of (by omega) (by omega)]; omega
      rw [e2]
      have d := ext_drew w
      have hC0 : CapsB w.drew b5 b7 b ∧ Gs b w w.drew := ⟨hc.gs (gs_of d), gs_of d⟩
      have hlt : n / 2 < l.length := by omega
      have hbx := bldC_eq (c := c) hpos
      simp only [hn] at hbx
      rw [hbx] at h
      refine ⟨⟨fun w' => CapsB w' b5 b7 b ∧ Gs b w w', hC0, _, fun w' k => k.1.s.cell (i := 0) rfl rfl, _, _, _, fun w' k => k.1.on.cell (i := 0) rfl rfl, ?_⟩⟩
      refine sl_flat ecI_len (by omega) (hl _ hC0.2) hn hnc (a := 0) (b := n / 2) rfl rfl (by omega) (by omega) fun p1 hp1 => ?_
      refine ix_flatC ecI_len (by omega) (C := fun w' => CapsB w' b5 b7 b ∧ Gs b w w') (fun w' k => hl w' k.2) hC0 hn (k := n / 2) rfl (by omega) fun a r => ⟨(l[n / 2]).1, fun w' k => r w' k 0 _ rfl, (l[n / 2]).2.1, fun w' k => r w' k 1 _ rfl, (l[n / 2]).2.2, fun w' k => r w' k 2 _ rfl, _, _, _, fun w' k => k.1.on.cell (i := 0) rfl rfl, ?_⟩
      refine sl_flat ecI_len (by omega) (hl _ hC0.2) hn hnc (a := n / 2 + 1) (b := n) rfl rfl (by omega) (Nat.le_refl _) fun p2 hp2 => ?_
      have lA : (l.take (n / 2)).length = n / 2 := by rw [List.length_take]; omega
      have lB : (l.drop (n / 2 + 1)).length = n - (n / 2 + 1) := by rw [List.length_drop]; omega
      have tA : (l.take (n / 2)).drop 0 = l.take (n / 2) := rfl
      have tB : (l.take n).drop (n / 2 + 1) = l.drop (n / 2 + 1) := by rw [List.take_of_length_le (by omega)]
      rw [tA] at hp1
      rw [tB] at hp2
      have gd := gs_of (b := b) d
      refine c_items1 (N - 1) (l.take (n / 2)) (by omega) hC0.1 (hs.ext d) (fun w' g => hp1 w' (hl w' (gd.trans g))) (by omega) (by omega) (by omega) fun q1 w1 g1 hs1 h1 => retS_ret ⟨_, rfl, ⟨hC0.1.gs g1, gd.trans g1⟩, ?_⟩
      have G1 := gd.trans g1
      refine c_items1 (N - 1) (l.drop (n / 2 + 1)) (by omega) (hC0.1.gs g1) hs1 (fun w' g => hp2 w' (hl w' (G1.trans g))) (by omega) (by omega) (by omega) fun q2 w2 g2 hs2 h2 => retS_ret ⟨_, rfl, ⟨(hC0.1.gs g1).gs g2, G1.trans g2⟩, ?_⟩
      have s1 := bldC_ok hs.1 (l.take (n / 2))
      have s2 := bldC_ok hs.1 (l.drop (n / 2 + 1))
      have z1 := bldC_size hs.1 (l.take (n / 2))
      have z2 := bldC_size hs.1 (l.drop (n / 2 + 1))
      refine do_call Tryz.call106 (c_sjoin hs2 (h1.gs hs1 g2) h2 s1.1.1 s2.1.1 (by simp only [BIG]; omega) fun q3 w3 g3 hs3 h3 => retS_ret ⟨_, rfl, ⟨((hC0.1.gs g1).gs g2).gs g3, (G1.trans g2).trans g3⟩, ?_⟩)
      exact h _ _ ((G1.trans g2).trans g3) hs3 h3
  termination_by _ l => l.length
  decreasing_by all_goals omega
theorem c_bitems {c : Int} {b : Nat} {l : List It} {q : Option Addr} {n cp : Nat} {w : World} {R : Ending → World → Prop} (hs : IsSch c b w) (hl : ∀ w', Gs b w w' → Cs w' q (its l)) (hn : l.length = n) (hnc : n ≤ cp) (hB : n ≤ 1000000)
    (h : ∀ q' w', Gs b w w' → IsSch c b w' → IsN w' q' (bldC c l) → R (.returned (.pointer q')) w') : Calls Tryz.prog 93 #[.pointer (some (blk b)), .slice q n cp] w R := by
  refine sh93_ok _ _ _ _ ?_
  unfold sh93
  refine ⟨⟨?_⟩⟩
  have hlt := hs.lt
  have e0 := ext_alloc w (.cells #[.pointer (some (blk b))] 25)
  have h5 := blk_alloc w #[.pointer (some (blk b))] 25
  have n5 : w.heap.size ≠ b := by omega
  have l5 := h5.lt
  have k5 : w.heap.size ≤ w.heap.size := Nat.le_refl _
  generalize hb5 : w.heap.size = b5 at h5 n5 l5 k5 ⊢
  generalize w.alloc (.cells #[.pointer (some (blk b))] 25) = w1 at *
  have e1 := ext_alloc w1 (.cells #[.nilFunc] 232)
  refine do_st (blk_alloc w1 _ _) (i := 0) (add_blk _ _) (by simp) fun w2 h7 g2 => ?_
  have h7 : Blk w2 w1.heap.size #[onB b5 w1.heap.size] 232 := h7
  have e2 : Ext w1 w2 := e1.st g2 (Nat.le_refl _)
  have E2 := e0.trans e2
  refine ⟨_, _, _, h7.cell (i := 0) rfl rfl, ?_⟩
  exact c_items1 l.length l (Nat.le_refl _) ⟨h5.ext e2, h7, n5, by omega⟩ (hs.ext E2) (fun w' g => hl w' ((gs_of E2).trans g)) hn hnc hB fun q' w' g hs' h' => retS_ret ⟨_, rfl, h q' w' ((gs_of E2).trans g) hs' h'⟩
end Go.Proofs.YtlddfgfmkapoiaaGreat

namespace Go.Proofs.YtlddfgfmkapoiaaGreat
open Go Go.Sh Go.RowKit

theorem Gd.over {S T : List Nat} {w0 w1 w2 : World} (g : Gd S w0 w1) (k : Gd T w1 w2) (h : ∀ k ∈ T, k ∈ S ∨ w0.heap.size ≤ k) : Gd S w0 w2 :=
  ⟨k.1.trans g.1, k.2.1.trans g.2.1, k.2.2.1.trans g.2.2.1, Nat.le_trans g.size k.size, fun i hi hn => (k.2.2.2.2 i (Nat.lt_of_lt_of_le hi g.size) fun q => by
    rcases h i q with h | h
    · exact hn h
    · omega).trans (g.2.2.2.2 i hi hn)⟩
theorem gd_row {r : Option Nat} {w w' : World} (g : w.grownBy w' r) : Gd r.toList w w' := ⟨g.os, g.tape, g.output, World.grownBy.size g, fun k hk hn => g.block k hk fun e => hn (by rw [← e]; simp)⟩
theorem gd_one {k : Nat} {w w' : World} (g : w.grownBy w' (some k)) : Gd [k] w w' := gd_row g
abbrev tgF (bl bs bd : Nat) : Value := .func (.func 183) #[] #[.pointer (some (blk bl)), .pointer (some (blk bs)), .pointer (some (blk bd))]
theorem c_tagged {s p q : Option Addr} {n cp : Nat} {w : World} {R : Ending → World → Prop}
    (h : ∀ bs bd bl w', Ext w w' → w.heap.size ≤ bs → bs < bd → bd < bl → Blk w' bs #[.pointer s] 25 → Blk w' bd #[.pointer p] 31 → Blk w' bl #[.slice q n cp] 22 → R (.returned (tgF bl bs bd)) w') :
    Calls Tryz.prog 102 #[.pointer s, .pointer p, .slice q n cp] w R := by
  refine sh102_ok _ _ _ _ _ ?_
  unfold sh102
  refine ⟨⟨⟨?_⟩⟩⟩
  have e0 := ext_alloc w (.cells #[.pointer s] 25)
  have h0 := blk_alloc w #[.pointer s] 25
  have l0 := h0.lt
  generalize hw1 : w.alloc (.cells #[.pointer s] 25) = w1 at *
  have e1 := ext_alloc w1 (.cells #[.pointer p] 31)
  have h1 := blk_alloc w1 #[.pointer p] 31
  have l1 := h1.lt
  generalize hw2 : w1.alloc (.cells #[.pointer p] 31) = w2 at *
  have e2 := ext_alloc w2 (.cells #[.slice q n cp] 22)
  exact h _ _ _ _ ((e0.trans e1).trans e2) (Nat.le_refl _) l0 l1 ((h0.ext e1).ext e2) (h1.ext e2) (blk_alloc _ _ _)
/-- what stays while a row is gone over -/
structure RowJ (c : Int) (b : Nat) (S : List Nat) (w0 : World) (bs bd bl d : Nat) (p q : Option Addr) (n cp : Nat) (w : World) : Prop where
  gd : Gd S w0 w
  sch : IsSch c b w
  fs : Blk w bs #[.pointer (some (blk b))] 25
  fd : Blk w bd #[.pointer p] 31
  fl : Blk w bl #[.slice q n cp] 22
  df : w.heap[d]? = some (.deferred (some []))
theorem RowJ.go {c : Int} {b : Nat} {S T : List Nat} {w0 : World} {bs bd bl d : Nat} {p q : Option Addr} {n cp : Nat} {w w' : World} (h : RowJ c b S w0 bs bd bl d p q n cp w) (g : Gd T w w')
    (hT : ∀ k ∈ T, k ≠ b ∧ k ≠ bs ∧ k ≠ bd ∧ k ≠ bl ∧ k ≠ d ∧ (k ∈ S ∨ w0.heap.size ≤ k)) : RowJ c b S w0 bs bd bl d p q n cp w' :=
  ⟨h.gd.over g fun k hk => (hT k hk).2.2.2.2.2, h.sch.gd g fun hk => (hT _ hk).1 rfl, h.fs.gd g fun hk => (hT _ hk).2.1 rfl, h.fd.gd g fun hk => (hT _ hk).2.2.1 rfl, h.fl.gd g fun hk => (hT _ hk).2.2.2.1 rfl, heap_gd h.df g fun hk => (hT _ hk).2.2.2.2.1 rfl⟩
theorem RowJ.ext {c : Int} {b : Nat} {S : List Nat} {w0 : World} {bs bd bl d : Nat} {p q : Option Addr} {n cp : Nat} {w w' : World} (h : RowJ c b S w0 bs bd bl d p q n cp w) (e : Ext w w') : RowJ c b S w0 bs bd bl d p q n cp w' :=
  h.go (gd_of (S := []) e) fun k hk => by cases hk
set_option maxRecDepth 20000 in
set_option maxHeartbeats 1600000 in
theorem c_brow {c o : Int} {b : Nat} {p : Option Addr} {D : Option (Nat × Nat × Nat × Nat)} {ds : List Int} {l : List Pr} {q : Option Addr} {n cp : Nat} {w : World} {R : Ending → World → Prop} (hs : IsSch c b w) (hd : IsD p D ds w) (hN : topD D ≤ w.heap.size)
    (hl : ∀ w', Gd (b :: blksD D) w w' → Cs w' q (prs l)) (hn : l.length = n) (hB : n ≤ 1000000) (hI : InP l) (hm : mayR o l = true)
    (h : ∀ qt w', Gd (b :: blksD D) w w' → IsSch c b w' → IsD p D (restL c ds l) w' → IsN w' qt (bldC c (tagL c ds l)) → R (.returned (.tuple #[.pointer qt, .int .i64 0])) w') :
    Calls Tryz.prog 32 #[.pointer (some (blk b)), .int .u8 o, .pointer p, .slice q n cp] w R := by
  refine sh32_ok _ _ _ _ _ _ ?_
  unfold sh32
  intro K13 _
  refine ifB_f rfl (do_call Tryz.call101 (c_may (hl w (gd_refl _ _)) hn (by omega) hI fun w1 e1 => retS_ret ⟨_, rfl, ?_⟩))
  rw [hm]
  refine ifB_f rfl ?_
  simp -zeta -zetaHave only [K13]
  refine ⟨?_⟩
  have e2 := ext_alloc w1 (.cells #[.slice none 0 0] 40)
  have ha := blk_alloc w1 #[.slice none 0 0] 40
  have l1 := e1.size
  have la := ha.lt
  generalize hba : w1.heap.size = ba at *
  generalize w1.alloc (.cells #[.slice none 0 0] 40) = w2 at *
  refine do_call Tryz.call102 (c_tagged fun bs bd bl w3 e3 hbs hsd hdl h1 h2 h3 => retS_ret ⟨_, _, _, rfl, do_rf fun fn L w4 d hdd hL hst hpe e4 hd4 hl4 => ?_⟩)
  have m3 := h3.lt
  have m4 := e4.size
  have E14 := (e2.trans e3).trans e4
  have E4 := e1.trans E14
  have hslt := hs.lt
  have hDlt := hd.lt
  have hbD := hd.sch hs
  have hdlt : d + 1 < w4.heap.size := (Array.getElem?_eq_some_iff.1 hl4).1
  have J4 : RowJ c b (b :: blksD D) w bs bd bl d p q n cp w4 := ⟨gd_of E4, hs.ext E4, h1.ext e4, h2.ext e4, h3.ext e4, hd4⟩
  have hD4 := hd.ext E4
  have ha4 := (ha.ext e3).ext e4
  rw [← hdd]
  -- what is changed beside a row: fresh blocks, the record, what holds all
  have fresh : ∀ {T : List Nat}, (∀ k ∈ T, k = ba ∨ k = d + 1 ∨ w4.heap.size ≤ k) → ∀ k ∈ T, k ≠ b ∧ k ≠ bs ∧ k ≠ bd ∧ k ≠ bl ∧ k ≠ d ∧ (k ∈ (b :: blksD D) ∨ w.heap.size ≤ k) := fun hT k hk => by
    have := hT k hk
    exact ⟨by omega, by omega, by omega, by omega, by omega, .inr (by omega)⟩
  have top : ∀ {T : List Nat}, (∀ k ∈ T, k = ba ∨ k = d + 1 ∨ w4.heap.size ≤ k) → ∀ k ∈ T, topD D ≤ k := fun hT k hk => by
    have := hT k hk
    omega
  have drw : ∀ k ∈ blksD D, k ≠ b ∧ k ≠ bs ∧ k ≠ bd ∧ k ≠ bl ∧ k ≠ d ∧ (k ∈ (b :: blksD D) ∨ w.heap.size ≤ k) := fun k hk => by
    have := (hDlt k hk).1
    exact ⟨fun e => hbD (e ▸ hk), by omega, by omega, by omega, by omega, .inl (List.mem_cons_of_mem _ hk)⟩
  have drwB : ∀ k ∈ blksD D, k < w.heap.size := fun k hk => (hDlt k hk).1
  refine callE_c Tryz.call183 (by rfl) (sh183_ok _ _ _ _ _ _ ?_)
  unfold sh183
  refine ⟨_, _, _, J4.fl.cell (i := 0) rfl rfl, fun vs w' => ∃ (i : Nat) (qq : Option Addr) (nn cc : Nat), vs = [.int .i64 i] ∧ i ≤ n ∧ RowJ c b (b :: blksD D) w bs bd bl d p q n cp w' ∧ IsD p D (restL c ds (l.take i)) w' ∧ Blk w' ba #[.slice qq nn cc] 40 ∧ OwnI w' w4.heap.size qq nn cc (tagL c ds (l.take i)) ∧ w'.heap[d + 1]? = some (.loop L) ∧ w4.heap.size ≤ w'.heap.size,
    fun vs _ => n - (intOf (vs.getD 0 undef)).toNat, ⟨0, none, 0, 0, rfl, by omega, J4, ?_, ha4, ?_, hl4, Nat.le_refl _⟩, ?_⟩
  · have : restL c ds (l.take 0) = ds := by unfold restL; simp
    rw [this]; exact hD4
  · rw [List.take_zero, tagL_nil]; exact ownI_nil _ _
  rintro i j w5 ⟨m, qq, nn, cc, hv, hmn, J5, hD5, ha5, ho5, hl5, hsz5⟩
  simp only [List.cons.injEq, Value.int.injEq, and_true, true_and] at hv
  subst hv
  refine ifB_intro (fun hlt => ?_) fun hge => ?_
  · have hlt : m < n := by have := of_decide_eq_true hlt; omega
    have hml : m < l.length := by omega
    refine ix_pr (hl w5 J5.gd) hn rfl hlt fun a r1 r2 _ => ⟨_, r1, _, r2, ⟨?_⟩⟩
    -- the pair, and the item
    have e6 := ext_alloc w5 (.cells #[.int .i64 0, .int .i64 0] 46)
    refine do_st2 (blk_alloc w5 _ _) fun w6 h6 g6 => ?_
    have E6 : Ext w5 w6 := e6.st g6 (Nat.le_refl _)
    have l6 := h6.lt
    generalize hbx : w5.heap.size = bx at *
    refine ⟨_, h6.cell (i := 0) (add_blk _ _) rfl, _, h6.cell (i := 1) (add_blk _ _) rfl, ⟨?_⟩⟩
    have e7 := ext_alloc w6 (.cells #[.int .i64 0, .int .i64 0, .int .u64 0] 114)
    refine do_st3 (blk_alloc w6 _ _) fun w7 h7 g7 => ?_
    have E7 : Ext w6 w7 := e7.st g7 (Nat.le_refl _)
    have l7 := h7.lt
    have l67 := E7.size
    generalize hby : w6.heap.size = by_ at *
    have E57 := E6.trans E7
    have h67 := h6.ext E7
    intro K30
    have J7 := J5.ext E57
    have hD7 := hD5.ext E57
    have ha7 := ha5.ext E57
    have ho7 : OwnI w7 w4.heap.size qq nn cc (tagL c ds (l.take m)) := E57.row ho5
    have hl7 := E57.heap hl5
    have hnn : nn ≤ 1000000 := by
      have := ownI_len ho5
      rw [tagL_len, List.length_take] at this; omega
    -- behind the tag
    have hK : ∀ (g : Int) w8, Blk w8 by_ #[.int .i64 (l[m]).1, .int .i64 (l[m]).2, .int .u64 g] 114 → RowJ c b (b :: blksD D) w bs bd bl d p q n cp w8 → IsD p D (restL c ds (l.take (m + 1))) w8 → Blk w8 ba #[.slice qq nn cc] 40 → OwnI w8 w4.heap.size qq nn cc (tagL c ds (l.take m)) → w8.heap[d + 1]? = some (.loop L) → w4.heap.size ≤ w8.heap.size →
        tagL c ds (l.take (m + 1)) = tagL c ds (l.take m) ++ [((l[m]).1, (l[m]).2, g)] → K30 w8 := by
      intro g w8 h8 J8 hD8 ha8 ho8 hl8 hsz8 htg
      refine ⟨_, h8.cell (i := 0) (add_blk _ _) rfl, _, h8.cell (i := 1) (add_blk _ _) rfl, _, h8.cell (i := 2) (add_blk _ _) rfl, ?_⟩
      refine sh32_0_ok (by rw [hl8, hL]) ?_
      unfold sh32_0
      refine ⟨?_⟩
      have e9 := ext_alloc w8 (.cells #[.int .i64 0, .int .i64 0, .int .u64 0] 114)
      refine do_st3 (blk_alloc w8 _ _) fun w9 h9 g9 => ?_
      have E9 : Ext w8 w9 := e9.st g9 (Nat.le_refl _)
      have l89 := E9.size
      have l9 := h9.lt
      refine ⟨_, E9.heap hl8, hst, ?_⟩
      have g10 := put_grown w9 (d + 1) (.loop { L with state := .busy })
      have hl10 := put_heap (o' := .loop { L with state := .busy }) (E9.heap hl8)
      have G10 := gd_one g10
      have T1 : ∀ k ∈ [d + 1], k = ba ∨ k = d + 1 ∨ w4.heap.size ≤ k := fun k hk => by simp at hk; omega
      have J10 := (J8.ext E9).go G10 (fresh T1)
      have hD10 := (hD8.ext E9).gd G10 (top T1)
      have ha10 := (ha8.ext E9).gd G10 (by simp; omega)
      have ho10 : OwnI (w9.putObj (d + 1) (.loop { L with state := .busy })) w4.heap.size qq nn cc (tagL c ds (l.take m)) := row_gd (E9.row ho8) G10 (by simp; omega)
      have h910 := h9.gd G10 (by simp; omega)
      have sz10 : w9.heap.size ≤ (w9.putObj (d + 1) (.loop { L with state := .busy })).heap.size := G10.size
      generalize w9.putObj (d + 1) (.loop { L with state := .busy }) = w10 at *
      refine ⟨_, _, _, ha10.cell (i := 0) rfl rfl, _, h910.cell (i := 0) (add_blk _ _) rfl, _, h910.cell (i := 1) (add_blk _ _) rfl, _, h910.cell (i := 2) (add_blk _ _) rfl, ?_⟩
      refine do_app1I (x := ((l[m]).1, (l[m]).2, g)) ho10 (by omega) (by omega) fun q11 c11 w11 ho11 hx11 g11 hor => ⟨_, _, _, rfl, ?_⟩
      have G11 := gd_row g11
      have T2 : ∀ k ∈ (Value.slice qq nn cc).ownBlock.toList, k = ba ∨ k = d + 1 ∨ w4.heap.size ≤ k := fun k hk => by
        have hk : (Value.slice qq nn cc).ownBlock = some k := by simpa using hk
        exact .inr (.inr (World.ownsRow.lt ho10 k hk).1)
      have N2 : ∀ k, k < w4.heap.size → k ∉ (Value.slice qq nn cc).ownBlock.toList := fun k hk hm => by
        have hm : (Value.slice qq nn cc).ownBlock = some k := by simpa using hm
        have := (World.ownsRow.lt ho10 k hm).1
        omega
      have J11 := J10.go G11 (fresh T2)
      have hD11 := hD10.gd G11 (top T2)
      have ha11 := ha10.gd G11 (N2 _ (by omega))
      have hl11 := heap_gd hl10 G11 (N2 _ (by omega))
      have l11 := G11.size
      refine do_st ha11 (i := 0) (add_blk _ _) (by simp) fun w12 ha12 g12 => ?_
      have ha12 : Blk w12 ba #[.slice q11 (nn + 1) c11] 40 := ha12
      have G12 := gd_one g12
      have T3 : ∀ k ∈ [ba], k = ba ∨ k = d + 1 ∨ w4.heap.size ≤ k := fun k hk => by simp at hk; omega
      have J12 := J11.go G12 (fresh T3)
      have hD12 := hD11.gd G12 (top T3)
      have ho12 : OwnI w12 w4.heap.size q11 (nn + 1) c11 (tagL c ds (l.take m) ++ [((l[m]).1, (l[m]).2, g)]) := row_gd ho11 G12 (by simp; omega)
      have hl12 := heap_gd hl11 G12 (by simp; omega)
      have l12 := G12.size
      refine ⟨_, hl12, ?_⟩
      rw [rec_back hst hpe]
      have g13 := put_grown w12 (d + 1) (.loop L)
      have G13 := gd_one g13
      have l13 := G13.size
      refine retS_ret ⟨_, rfl, ifB_f rfl ⟨⟨m + 1, q11, nn + 1, c11, ?_, by omega, J12.go G13 (fresh T1), hD12.gd G13 (top T1), ha12.gd G13 (by simp; omega), ?_, put_heap hl12, by omega⟩, ?_⟩⟩
      · rw [wrap_succ hlt (by omega)]
      · rw [htg]
        exact row_gd ho12 G13 (by simp; omega)
      · rw [wrap_succ hlt (by omega)]
        simp [intOf]; omega
    refine ⟨_, J7.fs.cell (i := 0) rfl rfl, ?_⟩
    refine do_call Tryz.call184 (c_scode J7.sch (retS_ret ⟨_, rfl, ?_⟩))
    refine ifB_intro (fun h4 => ?_) fun h4 => ?_
    · have h4 : c = 4 := by simpa using h4
      refine ⟨_, J7.fd.cell (i := 0) rfl rfl, _, h67.cell (i := 0) (add_blk _ _) rfl, ?_⟩
      refine do_call Tryz.call185 (c_dnext hD7 fun w8 G8 hD8 => retS_ret ⟨_, rfl, ?_⟩)
      have l8 := G8.size
      have nD : ∀ {k : Nat}, w.heap.size ≤ k → k ∉ blksD D := fun hk hm => by have := drwB _ hm; omega
      have h78 := h7.gd G8 (nD (by omega))
      refine do_st h78 (i := 2) (by rw [Sh.add_add, add_blk]) (by simp) fun w9 h9 g9 => ?_
      have G9 := gd_one g9
      have T4 : ∀ k ∈ [by_], k = ba ∨ k = d + 1 ∨ w4.heap.size ≤ k := fun k hk => by simp at hk; omega
      have l9 := G9.size
      refine hK (headD (restL c ds (l.take m)) (l[m]).1) w9 h9 ((J7.go G8 drw).go G9 (fresh T4)) ?_ ((ha7.gd G8 (nD (by omega))).gd G9 (by simp; omega)) ?_ (heap_gd (heap_gd hl7 G8 (nD (by omega))) G9 (by simp; omega)) (by omega) ?_
      · rw [restL_take hml, if_pos h4]
        exact hD8.gd G9 (top T4)
      · have k1 : OwnI w8 w4.heap.size qq nn cc (tagL c ds (l.take m)) := row_gd ho7 G8 fun k hk => by have := drwB k hk; omega
        -- the item's own block is no row's
        refine World.ownsRow.kept k1 g9 ?_
        cases hq : (Value.slice qq nn cc).ownBlock with
        | none => exact .inl rfl
        | some k =>
          refine .inr fun e => ?_
          have := (World.ownsRow.lt ho5 k hq).2
          injection e with e
          omega
      · rw [tagL_take hml, if_pos h4]
    · have h4 : c ≠ 4 := by simpa using h4
      refine hK 0 w7 h7 J7 ?_ ha7 ho7 hl7 (by omega) ?_
      · rw [restL_take hml, if_neg h4]; exact hD7
      · rw [tagL_take hml, if_neg h4]
  · have hge : m = n := by have := of_decide_eq_false hge; omega
    subst hge
    rw [List.take_of_length_le (by omega)] at hD5 ho5
    refine rf_done hl5 (by rw [hst]; simp) hpe fun oo => ?_
    have g6 := put_grown w5 (d + 1) oo
    have G6 := gd_one g6
    have T1 : ∀ k ∈ [d + 1], k = ba ∨ k = d + 1 ∨ w4.heap.size ≤ k := fun k hk => by simp at hk; omega
    have J6 := J5.go G6 (fresh T1)
    have hD6 := hD5.gd G6 (top T1)
    have ha6 := ha5.gd G6 (by simp; omega)
    have ho6 : OwnI (w5.putObj (d + 1) oo) w4.heap.size qq nn cc (tagL c ds l) := row_gd ho5 G6 (by simp; omega)
    have l56 := G6.size
    generalize w5.putObj (d + 1) oo = w6 at *
    have hlen := ownI_len ho6
    rw [tagL_len] at hlen
    refine ⟨_, _, _, ha6.cell (i := 0) rfl rfl, ?_⟩
    refine do_call Tryz.call93 (c_bitems J6.sch (fun w' g => ownI_cs (row_gd (S := [b]) ho6 (gd_gs g (by simp)) (by simp; omega))) (by rw [tagL_len]; exact hlen) (row_cap ho6) (by omega) fun q7 w7 g7 hs7 h7 => retS_ret ⟨_, rfl, ?_⟩)
    have hd7 := heap_grown g7 J6.df (ne_some (by omega))
    refine ⟨hd7, ?_⟩
    have g8 := put_grown w7 d (.deferred none)
    have G8 := gd_one g8
    have l7 := World.grownBy.size g7
    have G7 : Gd (b :: blksD D) w w7 := J6.gd.trans (gd_gs g7 (by simp))
    refine h q7 _ (G7.over G8 fun k hk => .inr (by simp at hk; omega)) (hs7.gd G8 (by simp; omega)) ((hD6.gs J6.sch g7).gd G8 fun k hk => by simp at hk; omega) (h7.gd ?_ G8)
    intro k hk cs hb
    simp only [List.mem_cons, List.not_mem_nil, or_false] at hk
    subst hk
    unfold Blk at hb
    rw [hd7] at hb
    cases hb
end Go.Proofs.YtlddfgfmkapoiaaGreat

