/-
  sound.Check, Ahead; a scheme's Check.
-/
/-
  Trees made of rows, in plain; the frame of what is changed: a scheme, and draws.
-/
/-
  draw, mix: numbers that are drawn; the document's.
-/
/-
  build.Items: a tree of items, by halves.
-/
/-
  build.Row: a tree of a row, with its tags.
-/
/-
  look: going over a tree.
-/
import Derived.Test.YtlfjaogbehpleaaGreatZ20

namespace Go.Proofs.YtlfjaogbehpleaaGreat
open Go Go.Sh Go.RowKit

set_option maxRecDepth 20000 in
set_option maxHeartbeats 1600000 in
theorem c_scheckS {c o : Int} {t : Tr} {p : Option Addr} {w : World} {R : Ending → World → Prop} (ho : isO o = true) (ht : IsN w p t) (ha : asc o (itsC c t)) (hk : InK t) (h : ∀ k w', Ext w w' → R (.returned (.tuple #[.int .i64 k, .int .i64 0])) w') :
    Calls Tryz.prog 133 #[.int .u8 o, .pointer p] w R := by
  refine sh133_ok _ _ ?_
  unfold sh133
  have ho7 : 1 ≤ o ∧ o ≤ 7 := by simpa [isO] using ho
  refine ⟨⟨?_⟩⟩
  have e0 := ext_alloc w (.cells #[.int .i64 0] 3)
  have h2 := blk_alloc w #[.int .i64 0] 3
  have k2 : w.heap.size ≤ w.heap.size := Nat.le_refl _
  generalize hb2 : w.heap.size = b2 at h2 k2 ⊢
  generalize w.alloc (.cells #[.int .i64 0] 3) = w1 at *
  have e1 := ext_alloc w1 (.cells #[.int .i64 0] 31)
  have h4 := blk_alloc w1 #[.int .i64 0] 31
  have l2 := h2.lt
  have n24 : b2 < w1.heap.size := l2
  generalize w1.heap.size = b4 at *
  generalize w1.alloc (.cells #[.int .i64 0] 31) = w2 at *
  have h22 := h2.ext e1
  have l4 := h4.lt
  intro K11 K40
  refine ifB_f (decide_eq_false (by omega)) ?_
  simp -zeta -zetaHave only [K40]
  refine ifB_f (decide_eq_false (by omega)) ?_
  simp -zeta -zetaHave only [K11]
  intro K13
  refine do_call Tryz.call212 (sh212_ok _ _ ?_)
  unfold sh212
  refine ⟨⟨retS_ret ⟨_, _, _, rfl, do_rf fun fn L w6 d hd hL hst hpe e6 hd6 hl6 => ?_⟩⟩⟩
  have e3 := ext_alloc w2 (.cells #[.int .u8 o] 5)
  have hbo := blk_alloc w2 #[.int .u8 o] 5
  generalize w2.heap.size = bo at *
  generalize w2.alloc (.cells #[.int .u8 o] 5) = w3 at *
  have e5 := ext_alloc w3 (.cells #[.pointer p] 68)
  have hbt := blk_alloc w3 #[.pointer p] 68
  generalize w3.heap.size = bt at *
  generalize w3.alloc (.cells #[.pointer p] 68) = w5 at *
  have e26 : Ext w2 w6 := (e3.trans e5).trans e6
  have E6 : Ext w w6 := (e0.trans e1).trans e26
  have hbt6 := hbt.ext e6
  have d2 : b2 < d := by have := (h22.ext (e3.trans e5)).lt; omega
  have d4 : b4 < d := by have := (h4.ext (e3.trans e5)).lt; omega
  have dO : bo < d := by have := (hbo.ext e5).lt; omega
  obtain ⟨J, hJ⟩ : ∃ J : Nat → World → Prop, J = fun n w' => Ext w w' ∧ Blk w' b2 #[.int .i64 (IntKind.wrap .i64 (n : Nat))] 3 ∧ Blk w' b4 #[.int .i64 0] 31 ∧ Blk w' bo #[.int .u8 o] 5 ∧ w'.heap[d]? = some (.deferred (some [])) ∧ w'.heap[d + 1]? = some (.loop L) := ⟨_, rfl⟩
  have hJe : ∀ n w', J n w' → Ext w w' := fun n w' q => by rw [hJ] at q; exact q.1
  have hJo : ∀ n w', J n w' → Blk w' bo #[.int .u8 o] 5 := fun n w' q => by rw [hJ] at q; exact q.2.2.2.1
  have hJd : ∀ n w', J n w' → d + 1 < w'.heap.size := fun n w' q => by rw [hJ] at q; exact (Array.getElem?_eq_some_iff.1 q.2.2.2.2.2).1
  have hJx : ∀ n w' w'', J n w' → Ext w' w'' → J n w'' := fun n w' w'' q e => by
    rw [hJ] at q ⊢
    exact ⟨q.1.trans e, q.2.1.ext e, q.2.2.1.ext e, q.2.2.2.1.ext e, e.heap q.2.2.2.2.1, e.heap q.2.2.2.2.2⟩
  have hwl : w.heap.size ≤ d := by omega
  have hY : ∀ n q w' (K : Ending → World → Prop), J n w' →
      (∀ w'', J (n + 1) w'' → KP (d + 1) w' w'' → K (.returned (.bool true)) w'') → doCall Tryz.prog (.func (.yield (d + 1)) #[] #[]) #[.pointer q, .bool false] w' K := by
    intro n q w5 K hj hK
    rw [hJ] at hj
    obtain ⟨E5, j2, j4, jo, jd, jl⟩ := hj
    refine sh133_0_ok (by rw [jl, hL]) ?_
    unfold sh133_0
    refine ⟨_, jl, hst, ?_⟩
    have g7 := put_grown w5 (d + 1) (.loop { L with state := .busy })
    have l7 := put_heap (o' := .loop { L with state := .busy }) jl
    have E7 := E5.put (l := d + 1) (by omega) (.loop { L with state := .busy })
    have hlt := (Array.getElem?_eq_some_iff.1 jl).1
    have j2 := j2.grown g7 (ne_some (by omega))
    have j4 := j4.grown g7 (ne_some (by omega))
    have jo := jo.grown g7 (ne_some (by omega))
    have jd := heap_grown g7 jd (ne_some (by omega))
    have hfr : KP (d + 1) w5 (w5.putObj (d + 1) (.loop { L with state := .busy })) := fun b cs ty hb hk => hk.grown g7 (ne_some (by omega))
    generalize w5.putObj (d + 1) (.loop { L with state := .busy }) = w7 at *
    refine ifB_f rfl ⟨_, j2.cell (i := 0) rfl rfl, ?_⟩
    refine do_st j2 (i := 0) (add_blk _ _) (by simp) fun w9 h9 g9 => ?_
    have l9 := heap_grown g9 l7 (ne_some (by omega))
    refine ⟨_, l9, hK _ ?_ fun b cs ty hb hk => ?_⟩
    · rw [hJ, rec_back hst hpe]
      have gp := put_grown w9 (d + 1) (.loop L)
      have h9 : Blk w9 b2 #[.int .i64 (IntKind.wrap .i64 ((n + 1 : Nat) : Int))] 3 := by
        have : IntKind.wrap .i64 (IntKind.wrap .i64 (n : Int) + 1) = IntKind.wrap .i64 ((n + 1 : Nat) : Int) := by rw [wrap_add]; rfl
        rw [this] at h9; exact h9
      exact ⟨(E7.st g9 (by omega)).put (by omega) _, h9.grown gp (ne_some (by omega)), (j4.grown g9 (ne_some (by omega))).grown gp (ne_some (by omega)), (jo.grown g9 (ne_some (by omega))).grown gp (ne_some (by omega)), heap_grown gp (heap_grown g9 jd (ne_some (by omega))) (ne_some (by omega)), put_heap l9⟩
    · exact ((hfr b cs ty hb hk).grown g9 (ne_some (by omega))).grown (put_grown _ _ _) (ne_some (by omega))
  have hJ0 : J 0 w6 := by rw [hJ]; exact ⟨E6, h22.ext e26, h4.ext e26, hbo.ext (e5.trans e6), hd6, hl6⟩
  refine callE_c Tryz.call268 (by rfl) (sh268_ok _ _ _ _ _ ?_)
  unfold sh268
  refine ⟨⟨?_⟩⟩
  have e7 := ext_alloc w6 (.cells #[.func (.yield (d + 1)) #[] #[]] 318)
  have h7 := blk_alloc w6 #[.func (.yield (d + 1)) #[] #[]] 318
  have n7 : d + 1 < w6.heap.size := (Array.getElem?_eq_some_iff.1 hl6).1
  generalize w6.heap.size = b7 at *
  generalize w6.alloc (.cells #[.func (.yield (d + 1)) #[] #[]] 318) = w7 at *
  have n8 : b7 < w7.heap.size := h7.lt
  refine do_st (blk_alloc w7 _ _) (i := 0) (add_blk _ _) (by simp) fun w8 h8 g8 => ?_
  have e8 : Ext w7 w8 := (ext_alloc w7 _).st g8 (Nat.le_refl _)
  refine ⟨_, _, _, h8.cell (i := 0) rfl rfl, _, (hbt6.ext (e7.trans e8)).cell (i := 0) rfl rfl, ?_⟩
  have hM : MayB J (d + 1) w8 (fun _ => True) (.func 272) #[] #[] := by
    intro n w' key K _ _ _ _ hK
    refine do_call Tryz.call272 (sh272_ok _ ?_)
    unfold sh272
    exact hK _ (ext_refl _)
  refine do_onS (J := J) (d := d + 1) (c := c) (by omega) (by omega) hJd hJe hJx hJo hY t ht ha hk (fun _ _ => trivial) hM (hJx _ _ _ hJ0 (e7.trans e8)) (h7.ext e8) h8 fun w9 hj9 _ => retS_ret ⟨_, rfl, ?_⟩
  rw [hJ] at hj9
  obtain ⟨E9, j2, j4, _, jd, jl⟩ := hj9
  refine rf_done jl (by rw [hst]; simp) hpe fun ob => ?_
  have gp := put_grown w9 (d + 1) ob
  have E10 := E9.put (l := d + 1) (by omega) ob
  have j2 := j2.grown gp (ne_some (by omega))
  have j4 := j4.grown gp (ne_some (by omega))
  have jd := heap_grown gp jd (ne_some (by omega))
  generalize w9.putObj (d + 1) ob = w10 at *
  have dr := ext_drew w10
  refine ⟨⟨fun w' => Blk w' b2 #[.int .i64 (IntKind.wrap .i64 ((0 + t.size : Nat) : Int))] 3 ∧ Blk w' b4 #[.int .i64 0] 31, ⟨j2.ext dr, j4.ext dr⟩, _, fun w' q => q.1.cell (i := 0) rfl rfl, _, fun w' q => q.2.cell (i := 0) rfl rfl, ?_⟩⟩
  refine do_st (j2.ext dr) (i := 0) (add_blk _ _) (by simp) fun w11 h11' g11 => ⟨⟨h11', (j4.ext dr).grown g11 (ne_some (by omega))⟩, ?_⟩
  refine do_st ((j4.ext dr).grown g11 (ne_some (by omega))) (i := 0) (add_blk _ _) (by simp) fun w12 h12 g12 => ?_
  have jd12 := heap_grown g12 (heap_grown g11 (dr.heap jd) (ne_some (by omega))) (ne_some (by omega))
  rw [hd] at jd12
  refine ⟨jd12, ?_⟩
  have gp2 := put_grown w12 d (.deferred none)
  rw [hd] at gp2
  refine ⟨_, ((h11'.grown g12 (ne_some (by omega))).grown gp2 (ne_some (by omega))).cell (i := 0) rfl rfl, _, (h12.grown gp2 (ne_some (by omega))).cell (i := 0) rfl rfl, ?_⟩
  refine h _ _ ?_
  have E12 := ((E10.trans dr).st g11 (by omega)).st g12 (by omega)
  exact E12.st gp2 (by omega)
/-! ### the ends -/
end Go.Proofs.YtlfjaogbehpleaaGreat

namespace Go.Proofs.YtlfjaogbehpleaaGreat
open Go Go.Sh Go.RowKit

/-! ### trees of rows -/
def bldC (c : Int) (l : List It) : Tr :=
  if h : 0 < l.length then joinC c (bldC c (l.take (l.length / 2))) (l[l.length / 2]'(by omega)) (bldC c (l.drop (l.length / 2 + 1))) else .nil
termination_by l.length
decreasing_by
  · simp only [List.length_take]; omega
  · simp only [List.length_drop]; omega
theorem bldC_nil (c : Int) : bldC c [] = .nil := by rw [bldC]; rfl
theorem bldC_eq {c : Int} {l : List It} (h : 0 < l.length) : bldC c l = joinC c (bldC c (l.take (l.length / 2))) (l[l.length / 2]'(by omega)) (bldC c (l.drop (l.length / 2 + 1))) := by
  rw [bldC, dif_pos h]
theorem bldC_okn {c : Int} (hs : isS c = true) : ∀ (n : Nat) (l : List It), l.length ≤ n → OkM c (bldC c l) ∧ itsC c (bldC c l) = l.map (itC c)
  | 0, l, h => by
    have : l = [] := List.eq_nil_of_length_eq_zero (by omega)
    subst this
    rw [bldC_nil]
    exact ⟨OkM.nil hs, rfl⟩
  | n + 1, l, h => by
    by_cases h0 : 0 < l.length
    · rw [bldC_eq h0]
      have a := bldC_okn hs n (l.take (l.length / 2)) (by simp only [List.length_take]; omega)
      have b := bldC_okn hs n (l.drop (l.length / 2 + 1)) (by simp only [List.length_drop]; omega)
      have j := joinC_ok a.1.1 b.1.1 (l[l.length / 2]'(by omega))
      refine ⟨j.1, ?_⟩
      rw [j.2, a.2, b.2, ← List.map_cons, ← List.map_append, ← List.drop_eq_getElem_cons, List.take_append_drop]
    · have : l = [] := List.eq_nil_of_length_eq_zero (by omega)
      subst this
      rw [bldC_nil]
      exact ⟨OkM.nil hs, rfl⟩
theorem bldC_ok {c : Int} (hs : isS c = true) (l : List It) : OkM c (bldC c l) ∧ itsC c (bldC c l) = l.map (itC c) := bldC_okn hs l.length l (Nat.le_refl _)
theorem bldC_size {c : Int} (hs : isS c = true) (l : List It) : (bldC c l).size = l.length := by rw [← itsC_len c, (bldC_ok hs l).2, List.length_map]
/-! ### numbers that are drawn -/
/-- what a key is drawn, of numbers -/
def mixK (key : Int) : Int := U (mixB (BitVec.ofInt 64 key + 0x9e3779b97f4a7c15#64))
def headD (ds : List Int) (key : Int) : Int := ds.headD (mixK key)
def drawL : List Int → List Pr → List It
  | _, [] => []
  | ds, x :: t => (x.1, x.2, headD ds x.1) :: drawL ds.tail t
theorem drawL_len : ∀ (ds : List Int) (l : List Pr), (drawL ds l).length = l.length
  | _, [] => rfl
  | ds, x :: t => by simp [drawL, drawL_len ds.tail t]
theorem drawL_snoc : ∀ (ds : List Int) (l : List Pr) (x : Pr), drawL ds (l ++ [x]) = drawL ds l ++ [(x.1, x.2, headD (ds.drop l.length) x.1)]
  | ds, [], x => by simp [drawL]
  | ds, y :: t, x => by
    show _ :: drawL ds.tail (t ++ [x]) = _
    rw [drawL_snoc]
    simp only [drawL, List.cons_append, List.length_cons]
    cases ds with
    | nil => simp
    | cons d ds => simp
def zeroL (l : List Pr) : List It := l.map fun x => (x.1, x.2, 0)
def tagL (c : Int) (ds : List Int) (l : List Pr) : List It := if c = 4 then drawL ds l else zeroL l
def restL (c : Int) (ds : List Int) (l : List Pr) : List Int := if c = 4 then ds.drop l.length else ds
theorem tagL_len (c : Int) (ds : List Int) (l : List Pr) : (tagL c ds l).length = l.length := by
  unfold tagL; split
  · exact drawL_len _ _
  · simp [zeroL]
theorem tagL_nil (c : Int) (ds : List Int) : tagL c ds [] = [] := by unfold tagL; split <;> rfl
theorem tagL_snoc (c : Int) (ds : List Int) (l : List Pr) (x : Pr) : tagL c ds (l ++ [x]) = tagL c ds l ++ [(x.1, x.2, if c = 4 then headD (restL c ds l) x.1 else 0)] := by
  unfold tagL restL; split
  · exact drawL_snoc _ _ _
  · simp [zeroL]
theorem tagL_take {c : Int} {ds : List Int} {l : List Pr} {i : Nat} (hi : i < l.length) : tagL c ds (l.take (i + 1)) = tagL c ds (l.take i) ++ [(l[i].1, l[i].2, if c = 4 then headD (restL c ds (l.take i)) l[i].1 else 0)] := by
  rw [show l.take (i + 1) = l.take i ++ [l[i]] from (List.take_append_getElem hi).symm, tagL_snoc]
theorem restL_take {c : Int} {ds : List Int} {l : List Pr} {i : Nat} (hi : i < l.length) : restL c ds (l.take (i + 1)) = if c = 4 then (restL c ds (l.take i)).tail else restL c ds (l.take i) := by
  unfold restL; split
  · rw [List.length_take, List.length_take, Nat.min_eq_left (by omega), Nat.min_eq_left (by omega), List.tail_drop]
  · rfl
abbrev InU (l : List Int) : Prop := ∀ x ∈ l, 0 ≤ x ∧ x < 18446744073709551616
theorem InU.tail {ds : List Int} (h : InU ds) : InU ds.tail := fun x hx => h x (List.mem_of_mem_tail hx)
theorem InU.drop {ds : List Int} (h : InU ds) (k : Nat) : InU (ds.drop k) := fun x hx => h x (List.mem_of_mem_drop hx)
theorem drawL_prs : ∀ (ds : List Int) (l : List Pr), (drawL ds l).map (fun x => (x.1, x.2.1)) = l
  | _, [] => rfl
  | ds, x :: t => by simp [drawL, drawL_prs ds.tail t]
theorem tagL_prs (c : Int) (ds : List Int) (l : List Pr) : (tagL c ds l).map (fun x => (x.1, x.2.1)) = l := by
  unfold tagL; split
  · exact drawL_prs ds l
  · unfold zeroL
    rw [List.map_map]
    have : l.map ((fun x : It => (x.1, x.2.1)) ∘ fun x : Pr => (x.1, x.2, 0)) = l.map id := List.map_congr_left fun x _ => rfl
    rw [this, List.map_id]
theorem tagL_fix {c : Int} {ds : List Int} {l : List Pr} : (tagL c ds l).map (itC c) = tagL c ds l := by
  unfold tagL; split
  · have : (drawL ds l).map (itC c) = (drawL ds l).map id := List.map_congr_left fun x _ => by unfold itC; rw [if_pos (by assumption)]; rfl
    rw [this, List.map_id]
  · have : (zeroL l).map (itC c) = (zeroL l).map id := List.map_congr_left fun x hx => by
      obtain ⟨y, _, rfl⟩ := List.mem_map.1 hx
      unfold itC; rw [if_neg (by assumption)]; rfl
    rw [this, List.map_id]
theorem bldC_its {c : Int} {ds : List Int} {l : List Pr} (hs : isS c = true) : itsC c (bldC c (tagL c ds l)) = tagL c ds l := by rw [(bldC_ok hs _).2, tagL_fix]
/-! ### the frame -/
/-- all blocks that were there are as they were, but for some -/
def Gd (S : List Nat) (w w' : World) : Prop := w'.os = w.os ∧ w'.tape = w.tape ∧ w'.output = w.output ∧ w.heap.size ≤ w'.heap.size ∧ ∀ k, k < w.heap.size → k ∉ S → w'.heap[k]? = w.heap[k]?
theorem gd_of {S : List Nat} {w w' : World} (e : Ext w w') : Gd S w w' := ⟨e.os, e.tape, e.output, e.size, fun k hk _ => e.block k hk⟩
theorem gd_gs {S : List Nat} {b : Nat} {w w' : World} (g : Gs b w w') (hb : b ∈ S) : Gd S w w' := ⟨g.os, g.tape, g.output, World.grownBy.size g, fun k hk hn => g.block k hk (ne_some fun e => hn (by rw [e]; exact hb))⟩
theorem gd_refl (S : List Nat) (w : World) : Gd S w w := ⟨rfl, rfl, rfl, Nat.le_refl _, fun _ _ _ => rfl⟩
theorem Gd.size {S : List Nat} {w w' : World} (g : Gd S w w') : w.heap.size ≤ w'.heap.size := g.2.2.2.1
theorem Gd.trans {S : List Nat} {x y z : World} (g : Gd S x y) (k : Gd S y z) : Gd S x z :=
  ⟨k.1.trans g.1, k.2.1.trans g.2.1, k.2.2.1.trans g.2.2.1, Nat.le_trans g.size k.size, fun i hi hn => (k.2.2.2.2 i (Nat.lt_of_lt_of_le hi g.size) hn).trans (g.2.2.2.2 i hi hn)⟩
theorem Gd.mono {S T : List Nat} {x y : World} (g : Gd S x y) (h : ∀ k ∈ S, k ∈ T) : Gd T x y := ⟨g.1, g.2.1, g.2.2.1, g.2.2.2.1, fun i hi hn => g.2.2.2.2 i hi fun q => hn (h i q)⟩
theorem Gd.st {S : List Nat} {k : Nat} {w0 w1 w2 : World} (g : Gd S w0 w1) (q : w1.grownBy w2 (some k)) (hk : w0.heap.size ≤ k ∨ k ∈ S) : Gd S w0 w2 :=
  ⟨q.os.trans g.1, q.tape.trans g.2.1, q.output.trans g.2.2.1, Nat.le_trans g.size (World.grownBy.size q), fun i hi hn => (q.block i (Nat.lt_of_lt_of_le hi g.size) (ne_some fun e => by
    rcases hk with hk | hk
    · omega
    · exact hn (by rw [e]; exact hk))).trans (g.2.2.2.2 i hi hn)⟩
theorem Ext.gd {S : List Nat} {w w1 w2 : World} (e : Ext w w1) (g : Gd S w1 w2) (h : ∀ k ∈ S, w.heap.size ≤ k) : Ext w w2 :=
  ⟨g.1.trans e.os, g.2.1.trans e.tape, g.2.2.1.trans e.output, Nat.le_trans e.size g.size, fun i hi => (g.2.2.2.2 i (Nat.lt_of_lt_of_le hi e.size) fun q => by have := h i q; omega).trans (e.block i hi)⟩
theorem _root_.Go.Sh.Blk.gd {S : List Nat} {k : Nat} {w w' : World} {cs : Array Value} {ty : TypeId} (h : Blk w k cs ty) (g : Gd S w w') (hk : k ∉ S) : Blk w' k cs ty := by
  have := g.2.2.2.2 k h.lt hk
  unfold Blk at h ⊢
  rw [this]; exact h
theorem IsSch.gd {S : List Nat} {c : Int} {b : Nat} {w w' : World} (h : IsSch c b w) (g : Gd S w w') (hb : b ∉ S) : IsSch c b w' := by
  obtain ⟨hss, ⟨j, h⟩ | ⟨j, h⟩⟩ := h
  · exact ⟨hss, .inl ⟨j, h.gd g hb⟩⟩
  · exact ⟨hss, .inr ⟨j, h.gd g hb⟩⟩
/-- what is changed is no node -/
def Oth (S : List Nat) (w : World) : Prop := ∀ k ∈ S, ∀ cs, ¬ Blk w k cs 220
theorem oth_blk {w : World} {k : Nat} {cs : Array Value} {t : TypeId} (h : Blk w k cs t) (ht : t ≠ 220) : ∀ cs', ¬ Blk w k cs' 220 := fun _ h' => ht (blk_fun h h')
theorem _root_.Go.Sh.IsT.gd {S : List Nat} {w w' : World} {p : Option Addr} {t : Tr} (h : IsN w p t) (o : Oth S w) (g : Gd S w w') : IsN w' p t := by
  induction t generalizing p with
  | nil => exact h
  | node l k v gg r ihl ihr =>
    obtain ⟨b', pl, pr, hp, hb, hl, hr⟩ := h
    exact ⟨b', pl, pr, hp, hb.gd g (fun hm => o b' hm _ hb), ihl hl, ihr hr⟩
theorem IsSch.oth {c : Int} {b : Nat} {w : World} (h : IsSch c b w) : ∀ cs, ¬ Blk w b cs 220 := by
  rcases h.2 with ⟨j, h⟩ | ⟨j, h⟩
  · exact oth_blk h (by decide)
  · exact oth_blk h (by decide)
theorem heap_gd {S : List Nat} {k : Nat} {w w' : World} {o : Obj} (h : w.heap[k]? = some o) (g : Gd S w w') (hk : k ∉ S) : w'.heap[k]? = some o := by
  rw [g.2.2.2.2 k (Array.getElem?_eq_some_iff.1 h).1 hk]; exact h
/-- a row of one's own, that is none of what is changed -/
theorem row_gd {S : List Nat} {w w' : World} {base ty s n : Nat} {v : Value} {xs : List Value} (h : w.ownsRow base ty s v n xs) (g : Gd S w w') (hb : ∀ k ∈ S, k < base) : w'.ownsRow base ty s v n xs := by
  refine ⟨h.1, ?_⟩
  rcases h.2 with q | ⟨b, cap, cur, hv, hbb, hblk, rest⟩
  · exact .inl q
  · refine .inr ⟨b, cap, cur, hv, hbb, ?_, rest⟩
    have hlt : b < w.heap.size := (World.ownsRow.lt h b (by rw [hv]; rfl)).2
    rw [g.2.2.2.2 b hlt fun hm => by have := hb b hm; omega]
    exact hblk
end Go.Proofs.YtlfjaogbehpleaaGreat

namespace Go.Proofs.YtlfjaogbehpleaaGreat
open Go Go.Sh Go.RowKit

theorem mixOf_eq (key : Int) : IntKind.wrap .u64 (IntKind.wrap .u64 key + 11400714819323198485) = U (BitVec.ofInt 64 key + 0x9e3779b97f4a7c15#64) := by
  rw [wrap_U key, show (11400714819323198485 : Int) = U 0x9e3779b97f4a7c15#64 from rfl, add_U]
theorem c_mixof {key : Int} {w : World} {R : Ending → World → Prop} (h : ∀ w', Ext w w' → R (.returned (.int .u64 (mixK key))) w') : Calls Tryz.prog 215 #[.int .i64 key] w R := by
  refine sh215_ok _ ?_
  unfold sh215
  rw [mixOf_eq]
  exact do_call Tryz.call127 (c_mix fun w1 e1 => retS_ret ⟨_, rfl, h _ e1⟩)
theorem c_scode {c : Int} {b : Nat} {w : World} {R : Ending → World → Prop} (hs : IsSch c b w) (h : R (.returned (.int .u8 c)) w) : Calls Tryz.prog 277 #[.pointer (some (blk b))] w R := by
  refine sh277_ok _ ?_
  unfold sh277
  refine ifB_f rfl ⟨_, rfl, ?_⟩
  rcases hs.2 with ⟨j, hb⟩ | ⟨j, hb⟩
  · exact ⟨_, hb.cell (i := 0) (add_blk _ _) rfl, h⟩
  · exact ⟨_, hb.cell (i := 0) (add_blk _ _) rfl, h⟩
/-! ### draws -/
def blksD : Option (Nat × Nat × Nat × Nat) → List Nat
  | none => []
  | some (bd, _, br, _) => [bd, br]
def topD : Option (Nat × Nat × Nat × Nat) → Nat
  | none => 0
  | some (_, _, _, N) => N
/-- else -/
def IsDr (_bd _bp _br _N : Nat) (_ds : List Int) (_w : World) : Prop := False
/-- else -/
theorem IsDr.gd {bd bp br N : Nat} {ds : List Int} {S : List Nat} {w w' : World} (h : IsDr bd bp br N ds w) (_g : Gd S w w') (_hS : ∀ k ∈ S, N ≤ k) : IsDr bd bp br N ds w' := h.elim
/-- else -/
theorem IsDr.gs {bd bp br N b : Nat} {c : Int} {ds : List Int} {w w' : World} (h : IsDr bd bp br N ds w) (_hs : IsSch c b w) (_g : Gs b w w') : IsDr bd bp br N ds w' := h.elim
/-- else -/
def IsD (p : Option Addr) : Option (Nat × Nat × Nat × Nat) → List Int → World → Prop
  | none, ds, _ => p = none ∧ ds = []
  | some (bd, bp, br, N), ds, w => p = some (blk bd) ∧ IsDr bd bp br N ds w
/-- else -/
theorem IsD.gd {p : Option Addr} {D : Option (Nat × Nat × Nat × Nat)} {ds : List Int} {S : List Nat} {w w' : World} (h : IsD p D ds w) (g : Gd S w w') (hS : ∀ k ∈ S, topD D ≤ k) : IsD p D ds w' := by
  cases D with
  | none => exact h
  | some D => exact ⟨h.1, h.2.gd g hS⟩
/-- else -/
theorem IsD.ext {p : Option Addr} {D : Option (Nat × Nat × Nat × Nat)} {ds : List Int} {w w' : World} (h : IsD p D ds w) (e : Ext w w') : IsD p D ds w' := h.gd (gd_of (S := []) e) fun k hk => by cases hk
/-- else -/
theorem IsD.gs {p : Option Addr} {D : Option (Nat × Nat × Nat × Nat)} {ds : List Int} {b : Nat} {c : Int} {w w' : World} (h : IsD p D ds w) (hs : IsSch c b w) (g : Gs b w w') : IsD p D ds w' := by
  cases D with
  | none => exact h
  | some D => exact ⟨h.1, h.2.gs hs g⟩
/-- else -/
theorem IsD.lt {p : Option Addr} {D : Option (Nat × Nat × Nat × Nat)} {ds : List Int} {w : World} (h : IsD p D ds w) : ∀ k ∈ blksD D, k < w.heap.size ∧ k < topD D := by
  cases D with
  | none => intro k hk; cases hk
  | some D => exact h.2.elim
/-- else -/
theorem IsD.oth {p : Option Addr} {D : Option (Nat × Nat × Nat × Nat)} {ds : List Int} {w : World} (h : IsD p D ds w) : Oth (blksD D) w := by
  cases D with
  | none => intro k hk; cases hk
  | some D => exact h.2.elim
/-- else -/
theorem IsD.sch {p : Option Addr} {D : Option (Nat × Nat × Nat × Nat)} {ds : List Int} {c : Int} {b : Nat} {w : World} (h : IsD p D ds w) (hs : IsSch c b w) : b ∉ blksD D := by
  cases D with
  | none => intro hk; cases hk
  | some D => exact h.2.elim
/-- else -/
theorem c_dnext {p : Option Addr} {D : Option (Nat × Nat × Nat × Nat)} {ds : List Int} {key : Int} {w : World} {R : Ending → World → Prop} (hd : IsD p D ds w)
    (h : ∀ w', Gd (blksD D) w w' → IsD p D ds.tail w' → R (.returned (.int .u64 (headD ds key))) w') : Calls Tryz.prog 278 #[.pointer p, .int .i64 key] w R := by
  refine sh278_ok _ _ ?_
  unfold sh278
  intro K4
  have hK : ds = [] → K4 w := fun e => do_call Tryz.call215 (c_mixof fun w1 e1 => retS_ret ⟨_, rfl, by
    have := h w1 (gd_of e1) (by rw [e]; rw [e] at hd; exact hd.ext e1)
    rw [e] at this; exact this⟩)
  cases D with
  | none =>
    obtain ⟨rfl, e⟩ := hd
    exact ifB_f rfl (hK e)
  | some D =>
    obtain ⟨bd, bp, br, N⟩ := D
    exact hd.2.elim
/-! ### the document's -/
end Go.Proofs.YtlfjaogbehpleaaGreat

namespace Go.Proofs.YtlfjaogbehpleaaGreat
open Go Go.Sh Go.RowKit

abbrev onB (b5 b7 : Nat) : Value := .func (.func 279) #[] #[.pointer (some (blk b5)), .pointer (some (blk b7))]
structure CapsB (w : World) (b5 b7 b : Nat) : Prop where
  s : Blk w b5 #[.pointer (some (blk b))] 65
  on : Blk w b7 #[onB b5 b7] 324
  ne : b5 ≠ b ∧ b7 ≠ b
theorem CapsB.gs {w w' : World} {b5 b7 b : Nat} (h : CapsB w b5 b7 b) (g : Gs b w w') : CapsB w' b5 b7 b := ⟨h.s.gs g h.ne.1, h.on.gs g h.ne.2, h.ne⟩
theorem half_eq {n : Nat} (h : n ≤ 1000000000000) : IntKind.wrap .i64 (Int.tdiv ((n : Nat) : Int) 2) = ((n / 2 : Nat) : Int) := by
  rw [Int.tdiv_eq_ediv_of_nonneg (by omega), wrap_of (by omega) (by omega)]; omega
set_option maxRecDepth 20000 in
theorem c_items1 {c : Int} {b b5 b7 : Nat} : ∀ (N : Nat) (l : List It) {q : Option Addr} {n cp : Nat} {w : World} {R : Ending → World → Prop} (_hN : l.length ≤ N) (_hc : CapsB w b5 b7 b) (_hs : IsSch c b w) (_hl : ∀ w', Gs b w w' → Cs w' q (its l)) (_hn : l.length = n) (_hnc : n ≤ cp) (_hB : n ≤ 1000000)
    (_h : ∀ q' w', Gs b w w' → IsSch c b w' → IsN w' q' (bldC c l) → R (.returned (.pointer q')) w'), doCall Tryz.prog (onB b5 b7) #[.slice q n cp] w R
  | N, l, q, n, cp, w, R, hN, hc, hs, hl, hn, hnc, hB, h => by
    refine do_callc Tryz.call279 (by rfl) (sh279_ok _ _ _ _ _ ?_)
    unfold sh279
    by_cases h0 : n = 0
    · have : l = [] := List.eq_nil_of_length_eq_zero (by omega)
      subst this
      subst h0
      exact ifB_t rfl (h none w (gs_refl _ _) hs (by rw [bldC_nil]; rfl))
    · refine ifB_f (by simp; omega) ⟨by decide, ?_⟩
      have hpos : 0 < l.length := by omega
      rw [half_eq (by omega)]
      have e2 : IntKind.wrap .i64 (((n / 2 : Nat) : Int) + 1) = ((n / 2 + 1 : Nat) : Int) := by rw [wrap_of (by omega) (by omega)]; omega
      rw [e2]
      have d := ext_drew w
      have hC0 : CapsB w.drew b5 b7 b ∧ Gs b w w.drew := ⟨hc.gs (gs_of d), gs_of d⟩
      have hlt : n / 2 < l.length := by omega
      have hbx := bldC_eq (c := c) hpos
      simp only [hn] at hbx
      rw [hbx] at h
      refine ⟨⟨fun w' => CapsB w' b5 b7 b ∧ Gs b w w', hC0, _, fun w' k => k.1.s.cell (i := 0) rfl rfl, _, _, _, fun w' k => k.1.on.cell (i := 0) rfl rfl, ?_⟩⟩
      refine sl_flat ecI_len (by omega) (hl _ hC0.2) hn hnc (a := 0) (b := n / 2) rfl rfl (by omega) (by omega) fun p1 hp1 => ?_
      refine ix_flatC ecI_len (by omega) (C := fun w' => CapsB w' b5 b7 b ∧ Gs b w w') (fun w' k => hl w' k.2) hC0 hn (k := n / 2) rfl (by omega) fun a r => ⟨(l[n / 2]).1, fun w' k => r w' k 0 _ rfl, (l[n / 2]).2.1, fun w' k => r w' k 1 _ rfl, (l[n / 2]).2.2, fun w' k => r w' k 2 _ rfl, _, _, _, fun w' k => k.1.on.cell (i := 0) rfl rfl, ?_⟩
      refine sl_flat ecI_len (by omega) (hl _ hC0.2) hn hnc (a := n / 2 + 1) (b := n) rfl rfl (by omega) (Nat.le_refl _) fun p2 hp2 => ?_
      have lA : (l.take (n / 2)).length = n / 2 := by rw [List.length_take]; omega
      have lB : (l.drop (n / 2 + 1)).length = n - (n / 2 + 1) := by rw [List.length_drop]; omega
      have tA : (l.take (n / 2)).drop 0 = l.take (n / 2) := rfl
      have tB : (l.take n).drop (n / 2 + 1) = l.drop (n / 2 + 1) := by rw [List.take_of_length_le (by omega)]
      rw [tA] at hp1
      rw [tB] at hp2
      have gd := gs_of (b := b) d
      refine c_items1 (N - 1) (l.take (n / 2)) (by omega) hC0.1 (hs.ext d) (fun w' g => hp1 w' (hl w' (gd.trans g))) (by omega) (by omega) (by omega) fun q1 w1 g1 hs1 h1 => retS_ret ⟨_, rfl, ⟨hC0.1.gs g1, gd.trans g1⟩, ?_⟩
      have G1 := gd.trans g1
      refine c_items1 (N - 1) (l.drop (n / 2 + 1)) (by omega) (hC0.1.gs g1) hs1 (fun w' g => hp2 w' (hl w' (G1.trans g))) (by omega) (by omega) (by omega) fun q2 w2 g2 hs2 h2 => retS_ret ⟨_, rfl, ⟨(hC0.1.gs g1).gs g2, G1.trans g2⟩, ?_⟩
      have s1 := bldC_ok hs.1 (l.take (n / 2))
      have s2 := bldC_ok hs.1 (l.drop (n / 2 + 1))
      have z1 := bldC_size hs.1 (l.take (n / 2))
      have z2 := bldC_size hs.1 (l.drop (n / 2 + 1))
      refine do_call Tryz.call145 (c_sjoin hs2 (h1.gs hs1 g2) h2 s1.1.1 s2.1.1 (by simp only [BIG]; omega) fun q3 w3 g3 hs3 h3 => retS_ret ⟨_, rfl, ⟨((hC0.1.gs g1).gs g2).gs g3, (G1.trans g2).trans g3⟩, ?_⟩)
      exact h _ _ ((G1.trans g2).trans g3) hs3 h3
  termination_by _ l => l.length
  decreasing_by all_goals omega
theorem c_bitems {c : Int} {b : Nat} {l : List It} {q : Option Addr} {n cp : Nat} {w : World} {R : Ending → World → Prop} (hs : IsSch c b w) (hl : ∀ w', Gs b w w' → Cs w' q (its l)) (hn : l.length = n) (hnc : n ≤ cp) (hB : n ≤ 1000000)
    (h : ∀ q' w', Gs b w w' → IsSch c b w' → IsN w' q' (bldC c l) → R (.returned (.pointer q')) w') : Calls Tryz.prog 220 #[.pointer (some (blk b)), .slice q n cp] w R := by
  refine sh220_ok _ _ _ _ ?_
  unfold sh220
  refine ⟨⟨?_⟩⟩
  have hlt := hs.lt
  have e0 := ext_alloc w (.cells #[.pointer (some (blk b))] 65)
  have h5 := blk_alloc w #[.pointer (some (blk b))] 65
  have n5 : w.heap.size ≠ b := by omega
  have l5 := h5.lt
  have k5 : w.heap.size ≤ w.heap.size := Nat.le_refl _
  generalize hb5 : w.heap.size = b5 at h5 n5 l5 k5 ⊢
  generalize w.alloc (.cells #[.pointer (some (blk b))] 65) = w1 at *
  have e1 := ext_alloc w1 (.cells #[.nilFunc] 324)
  refine do_st (blk_alloc w1 _ _) (i := 0) (add_blk _ _) (by simp) fun w2 h7 g2 => ?_
  have h7 : Blk w2 w1.heap.size #[onB b5 w1.heap.size] 324 := h7
  have e2 : Ext w1 w2 := e1.st g2 (Nat.le_refl _)
  have E2 := e0.trans e2
  refine ⟨_, _, _, h7.cell (i := 0) rfl rfl, ?_⟩
  exact c_items1 l.length l (Nat.le_refl _) ⟨h5.ext e2, h7, n5, by omega⟩ (hs.ext E2) (fun w' g => hl w' ((gs_of E2).trans g)) hn hnc hB fun q' w' g hs' h' => retS_ret ⟨_, rfl, h q' w' ((gs_of E2).trans g) hs' h'⟩
end Go.Proofs.YtlfjaogbehpleaaGreat

namespace Go.Proofs.YtlfjaogbehpleaaGreat
open Go Go.Sh Go.RowKit

theorem Gd.over {S T : List Nat} {w0 w1 w2 : World} (g : Gd S w0 w1) (k : Gd T w1 w2) (h : ∀ k ∈ T, k ∈ S ∨ w0.heap.size ≤ k) : Gd S w0 w2 :=
  ⟨k.1.trans g.1, k.2.1.trans g.2.1, k.2.2.1.trans g.2.2.1, Nat.le_trans g.size k.size, fun i hi hn => (k.2.2.2.2 i (Nat.lt_of_lt_of_le hi g.size) fun q => by
    rcases h i q with h | h
    · exact hn h
    · omega).trans (g.2.2.2.2 i hi hn)⟩
theorem gd_row {r : Option Nat} {w w' : World} (g : w.grownBy w' r) : Gd r.toList w w' := ⟨g.os, g.tape, g.output, World.grownBy.size g, fun k hk hn => g.block k hk fun e => hn (by rw [← e]; simp)⟩
theorem gd_one {k : Nat} {w w' : World} (g : w.grownBy w' (some k)) : Gd [k] w w' := gd_row g
abbrev tgF (bl bs bd : Nat) : Value := .func (.func 276) #[] #[.pointer (some (blk bl)), .pointer (some (blk bs)), .pointer (some (blk bd))]
theorem c_tagged {s p q : Option Addr} {n cp : Nat} {w : World} {R : Ending → World → Prop}
    (h : ∀ bs bd bl w', Ext w w' → w.heap.size ≤ bs → bs < bd → bd < bl → Blk w' bs #[.pointer s] 65 → Blk w' bd #[.pointer p] 202 → Blk w' bl #[.slice q n cp] 22 → R (.returned (tgF bl bs bd)) w') :
    Calls Tryz.prog 219 #[.pointer s, .pointer p, .slice q n cp] w R := by
  refine sh219_ok _ _ _ _ _ ?_
  unfold sh219
  refine ⟨⟨⟨?_⟩⟩⟩
  have e0 := ext_alloc w (.cells #[.pointer s] 65)
  have h0 := blk_alloc w #[.pointer s] 65
  have l0 := h0.lt
  generalize hw1 : w.alloc (.cells #[.pointer s] 65) = w1 at *
  have e1 := ext_alloc w1 (.cells #[.pointer p] 202)
  have h1 := blk_alloc w1 #[.pointer p] 202
  have l1 := h1.lt
  generalize hw2 : w1.alloc (.cells #[.pointer p] 202) = w2 at *
  have e2 := ext_alloc w2 (.cells #[.slice q n cp] 22)
  exact h _ _ _ _ ((e0.trans e1).trans e2) (Nat.le_refl _) l0 l1 ((h0.ext e1).ext e2) (h1.ext e2) (blk_alloc _ _ _)
/-- what stays while a row is gone over -/
structure RowJ (c : Int) (b : Nat) (S : List Nat) (w0 : World) (bs bd bl d : Nat) (p q : Option Addr) (n cp : Nat) (w : World) : Prop where
  gd : Gd S w0 w
  sch : IsSch c b w
  fs : Blk w bs #[.pointer (some (blk b))] 65
  fd : Blk w bd #[.pointer p] 202
  fl : Blk w bl #[.slice q n cp] 22
  df : w.heap[d]? = some (.deferred (some []))
theorem RowJ.go {c : Int} {b : Nat} {S T : List Nat} {w0 : World} {bs bd bl d : Nat} {p q : Option Addr} {n cp : Nat} {w w' : World} (h : RowJ c b S w0 bs bd bl d p q n cp w) (g : Gd T w w')
    (hT : ∀ k ∈ T, k ≠ b ∧ k ≠ bs ∧ k ≠ bd ∧ k ≠ bl ∧ k ≠ d ∧ (k ∈ S ∨ w0.heap.size ≤ k)) : RowJ c b S w0 bs bd bl d p q n cp w' :=
  ⟨h.gd.over g fun k hk => (hT k hk).2.2.2.2.2, h.sch.gd g fun hk => (hT _ hk).1 rfl, h.fs.gd g fun hk => (hT _ hk).2.1 rfl, h.fd.gd g fun hk => (hT _ hk).2.2.1 rfl, h.fl.gd g fun hk => (hT _ hk).2.2.2.1 rfl, heap_gd h.df g fun hk => (hT _ hk).2.2.2.2.1 rfl⟩
theorem RowJ.ext {c : Int} {b : Nat} {S : List Nat} {w0 : World} {bs bd bl d : Nat} {p q : Option Addr} {n cp : Nat} {w w' : World} (h : RowJ c b S w0 bs bd bl d p q n cp w) (e : Ext w w') : RowJ c b S w0 bs bd bl d p q n cp w' :=
  h.go (gd_of (S := []) e) fun k hk => by cases hk
set_option maxRecDepth 20000 in
set_option maxHeartbeats 1600000 in
theorem c_brow {c o : Int} {b : Nat} {p : Option Addr} {D : Option (Nat × Nat × Nat × Nat)} {ds : List Int} {l : List Pr} {q : Option Addr} {n cp : Nat} {w : World} {R : Ending → World → Prop} (hs : IsSch c b w) (hd : IsD p D ds w) (hN : topD D ≤ w.heap.size)
    (hl : ∀ w', Gd (b :: blksD D) w w' → Cs w' q (prs l)) (hn : l.length = n) (hB : n ≤ 1000000) (hI : InP l) (hm : mayR o l = true)
    (h : ∀ qt w', Gd (b :: blksD D) w w' → IsSch c b w' → IsD p D (restL c ds l) w' → IsN w' qt (bldC c (tagL c ds l)) → R (.returned (.tuple #[.pointer qt, .int .i64 0])) w') :
    Calls Tryz.prog 138 #[.pointer (some (blk b)), .int .u8 o, .pointer p, .slice q n cp] w R := by
  refine sh138_ok _ _ _ _ _ _ ?_
  unfold sh138
  intro K13 _
  refine ifB_f rfl (do_call Tryz.call25 (c_may (hl w (gd_refl _ _)) hn (by omega) hI fun w1 e1 => retS_ret ⟨_, rfl, ?_⟩))
  rw [hm]
  refine ifB_f rfl ?_
  simp -zeta -zetaHave only [K13]
  refine ⟨?_⟩
  have e2 := ext_alloc w1 (.cells #[.slice none 0 0] 254)
  have ha := blk_alloc w1 #[.slice none 0 0] 254
  have l1 := e1.size
  have la := ha.lt
  generalize hba : w1.heap.size = ba at *
  generalize w1.alloc (.cells #[.slice none 0 0] 254) = w2 at *
  refine do_call Tryz.call219 (c_tagged fun bs bd bl w3 e3 hbs hsd hdl h1 h2 h3 => retS_ret ⟨_, _, _, rfl, do_rf fun fn L w4 d hdd hL hst hpe e4 hd4 hl4 => ?_⟩)
  have m3 := h3.lt
  have m4 := e4.size
  have E14 := (e2.trans e3).trans e4
  have E4 := e1.trans E14
  have hslt := hs.lt
  have hDlt := hd.lt
  have hbD := hd.sch hs
  have hdlt : d + 1 < w4.heap.size := (Array.getElem?_eq_some_iff.1 hl4).1
  have J4 : RowJ c b (b :: blksD D) w bs bd bl d p q n cp w4 := ⟨gd_of E4, hs.ext E4, h1.ext e4, h2.ext e4, h3.ext e4, hd4⟩
  have hD4 := hd.ext E4
  have ha4 := (ha.ext e3).ext e4
  rw [← hdd]
  -- what is changed beside a row: fresh blocks, the record, what holds all
  have fresh : ∀ {T : List Nat}, (∀ k ∈ T, k = ba ∨ k = d + 1 ∨ w4.heap.size ≤ k) → ∀ k ∈ T, k ≠ b ∧ k ≠ bs ∧ k ≠ bd ∧ k ≠ bl ∧ k ≠ d ∧ (k ∈ (b :: blksD D) ∨ w.heap.size ≤ k) := fun hT k hk => by
    have := hT k hk
    exact ⟨by omega, by omega, by omega, by omega, by omega, .inr (by omega)⟩
  have top : ∀ {T : List Nat}, (∀ k ∈ T, k = ba ∨ k = d + 1 ∨ w4.heap.size ≤ k) → ∀ k ∈ T, topD D ≤ k := fun hT k hk => by
    have := hT k hk
    omega
  have drw : ∀ k ∈ blksD D, k ≠ b ∧ k ≠ bs ∧ k ≠ bd ∧ k ≠ bl ∧ k ≠ d ∧ (k ∈ (b :: blksD D) ∨ w.heap.size ≤ k) := fun k hk => by
    have := (hDlt k hk).1
    exact ⟨fun e => hbD (e ▸ hk), by omega, by omega, by omega, by omega, .inl (List.mem_cons_of_mem _ hk)⟩
  have drwB : ∀ k ∈ blksD D, k < w.heap.size := fun k hk => (hDlt k hk).1
  refine callE_c Tryz.call276 (by rfl) (sh276_ok _ _ _ _ _ _ ?_)
  unfold sh276
  refine ⟨_, _, _, J4.fl.cell (i := 0) rfl rfl, fun vs w' => ∃ (i : Nat) (qq : Option Addr) (nn cc : Nat), vs = [.int .i64 i] ∧ i ≤ n ∧ RowJ c b (b :: blksD D) w bs bd bl d p q n cp w' ∧ IsD p D (restL c ds (l.take i)) w' ∧ Blk w' ba #[.slice qq nn cc] 254 ∧ OwnI w' w4.heap.size qq nn cc (tagL c ds (l.take i)) ∧ w'.heap[d + 1]? = some (.loop L) ∧ w4.heap.size ≤ w'.heap.size,
    fun vs _ => n - (intOf (vs.getD 0 undef)).toNat, ⟨0, none, 0, 0, rfl, by omega, J4, ?_, ha4, ?_, hl4, Nat.le_refl _⟩, ?_⟩
  · have : restL c ds (l.take 0) = ds := by unfold restL; simp
    rw [this]; exact hD4
  · rw [List.take_zero, tagL_nil]; exact ownI_nil _ _
  rintro i j w5 ⟨m, qq, nn, cc, hv, hmn, J5, hD5, ha5, ho5, hl5, hsz5⟩
  simp only [List.cons.injEq, Value.int.injEq, and_true, true_and] at hv
  subst hv
  refine ifB_intro (fun hlt => ?_) fun hge => ?_
  · have hlt : m < n := by have := of_decide_eq_true hlt; omega
    have hml : m < l.length := by omega
    refine ix_pr (hl w5 J5.gd) hn rfl hlt fun a r1 r2 _ => ⟨_, r1, _, r2, ⟨?_⟩⟩
    -- the pair, and the item
    have e6 := ext_alloc w5 (.cells #[.int .i64 0, .int .i64 0] 63)
    refine do_st2 (blk_alloc w5 _ _) fun w6 h6 g6 => ?_
    have E6 : Ext w5 w6 := e6.st g6 (Nat.le_refl _)
    have l6 := h6.lt
    generalize hbx : w5.heap.size = bx at *
    refine ⟨_, h6.cell (i := 0) (add_blk _ _) rfl, _, h6.cell (i := 1) (add_blk _ _) rfl, ⟨?_⟩⟩
    have e7 := ext_alloc w6 (.cells #[.int .i64 0, .int .i64 0, .int .u64 0] 133)
    refine do_st3 (blk_alloc w6 _ _) fun w7 h7 g7 => ?_
    have E7 : Ext w6 w7 := e7.st g7 (Nat.le_refl _)
    have l7 := h7.lt
    have l67 := E7.size
    generalize hby : w6.heap.size = by_ at *
    have E57 := E6.trans E7
    have h67 := h6.ext E7
    intro K30
    have J7 := J5.ext E57
    have hD7 := hD5.ext E57
    have ha7 := ha5.ext E57
    have ho7 : OwnI w7 w4.heap.size qq nn cc (tagL c ds (l.take m)) := E57.row ho5
    have hl7 := E57.heap hl5
    have hnn : nn ≤ 1000000 := by
      have := ownI_len ho5
      rw [tagL_len, List.length_take] at this; omega
    -- behind the tag
    have hK : ∀ (g : Int) w8, Blk w8 by_ #[.int .i64 (l[m]).1, .int .i64 (l[m]).2, .int .u64 g] 133 → RowJ c b (b :: blksD D) w bs bd bl d p q n cp w8 → IsD p D (restL c ds (l.take (m + 1))) w8 → Blk w8 ba #[.slice qq nn cc] 254 → OwnI w8 w4.heap.size qq nn cc (tagL c ds (l.take m)) → w8.heap[d + 1]? = some (.loop L) → w4.heap.size ≤ w8.heap.size →
        tagL c ds (l.take (m + 1)) = tagL c ds (l.take m) ++ [((l[m]).1, (l[m]).2, g)] → K30 w8 := by
      intro g w8 h8 J8 hD8 ha8 ho8 hl8 hsz8 htg
      refine ⟨_, h8.cell (i := 0) (add_blk _ _) rfl, _, h8.cell (i := 1) (add_blk _ _) rfl, _, h8.cell (i := 2) (add_blk _ _) rfl, ?_⟩
      refine sh138_0_ok (by rw [hl8, hL]) ?_
      unfold sh138_0
      refine ⟨?_⟩
      have e9 := ext_alloc w8 (.cells #[.int .i64 0, .int .i64 0, .int .u64 0] 133)
      refine do_st3 (blk_alloc w8 _ _) fun w9 h9 g9 => ?_
      have E9 : Ext w8 w9 := e9.st g9 (Nat.le_refl _)
      have l89 := E9.size
      have l9 := h9.lt
      refine ⟨_, E9.heap hl8, hst, ?_⟩
      have g10 := put_grown w9 (d + 1) (.loop { L with state := .busy })
      have hl10 := put_heap (o' := .loop { L with state := .busy }) (E9.heap hl8)
      have G10 := gd_one g10
      have T1 : ∀ k ∈ [d + 1], k = ba ∨ k = d + 1 ∨ w4.heap.size ≤ k := fun k hk => by simp at hk; omega
      have J10 := (J8.ext E9).go G10 (fresh T1)
      have hD10 := (hD8.ext E9).gd G10 (top T1)
      have ha10 := (ha8.ext E9).gd G10 (by simp; omega)
      have ho10 : OwnI (w9.putObj (d + 1) (.loop { L with state := .busy })) w4.heap.size qq nn cc (tagL c ds (l.take m)) := row_gd (E9.row ho8) G10 (by simp; omega)
      have h910 := h9.gd G10 (by simp; omega)
      have sz10 : w9.heap.size ≤ (w9.putObj (d + 1) (.loop { L with state := .busy })).heap.size := G10.size
      generalize w9.putObj (d + 1) (.loop { L with state := .busy }) = w10 at *
      refine ⟨_, _, _, ha10.cell (i := 0) rfl rfl, _, h910.cell (i := 0) (add_blk _ _) rfl, _, h910.cell (i := 1) (add_blk _ _) rfl, _, h910.cell (i := 2) (add_blk _ _) rfl, ?_⟩
      refine do_app1I (x := ((l[m]).1, (l[m]).2, g)) ho10 (by omega) (by omega) fun q11 c11 w11 ho11 hx11 g11 hor => ⟨_, _, _, rfl, ?_⟩
      have G11 := gd_row g11
      have T2 : ∀ k ∈ (Value.slice qq nn cc).ownBlock.toList, k = ba ∨ k = d + 1 ∨ w4.heap.size ≤ k := fun k hk => by
        have hk : (Value.slice qq nn cc).ownBlock = some k := by simpa using hk
        exact .inr (.inr (World.ownsRow.lt ho10 k hk).1)
      have N2 : ∀ k, k < w4.heap.size → k ∉ (Value.slice qq nn cc).ownBlock.toList := fun k hk hm => by
        have hm : (Value.slice qq nn cc).ownBlock = some k := by simpa using hm
        have := (World.ownsRow.lt ho10 k hm).1
        omega
      have J11 := J10.go G11 (fresh T2)
      have hD11 := hD10.gd G11 (top T2)
      have ha11 := ha10.gd G11 (N2 _ (by omega))
      have hl11 := heap_gd hl10 G11 (N2 _ (by omega))
      have l11 := G11.size
      refine do_st ha11 (i := 0) (add_blk _ _) (by simp) fun w12 ha12 g12 => ?_
      have ha12 : Blk w12 ba #[.slice q11 (nn + 1) c11] 254 := ha12
      have G12 := gd_one g12
      have T3 : ∀ k ∈ [ba], k = ba ∨ k = d + 1 ∨ w4.heap.size ≤ k := fun k hk => by simp at hk; omega
      have J12 := J11.go G12 (fresh T3)
      have hD12 := hD11.gd G12 (top T3)
      have ho12 : OwnI w12 w4.heap.size q11 (nn + 1) c11 (tagL c ds (l.take m) ++ [((l[m]).1, (l[m]).2, g)]) := row_gd ho11 G12 (by simp; omega)
      have hl12 := heap_gd hl11 G12 (by simp; omega)
      have l12 := G12.size
      refine ⟨_, hl12, ?_⟩
      rw [rec_back hst hpe]
      have g13 := put_grown w12 (d + 1) (.loop L)
      have G13 := gd_one g13
      have l13 := G13.size
      refine retS_ret ⟨_, rfl, ifB_f rfl ⟨⟨m + 1, q11, nn + 1, c11, ?_, by omega, J12.go G13 (fresh T1), hD12.gd G13 (top T1), ha12.gd G13 (by simp; omega), ?_, put_heap hl12, by omega⟩, ?_⟩⟩
      · rw [wrap_succ hlt (by omega)]
      · rw [htg]
        exact row_gd ho12 G13 (by simp; omega)
      · rw [wrap_succ hlt (by omega)]
        simp [intOf]; omega
    refine ⟨_, J7.fs.cell (i := 0) rfl rfl, ?_⟩
    refine do_call Tryz.call277 (c_scode J7.sch (retS_ret ⟨_, rfl, ?_⟩))
    refine ifB_intro (fun h4 => ?_) fun h4 => ?_
    · have h4 : c = 4 := by simpa using h4
      refine ⟨_, J7.fd.cell (i := 0) rfl rfl, _, h67.cell (i := 0) (add_blk _ _) rfl, ?_⟩
      refine do_call Tryz.call278 (c_dnext hD7 fun w8 G8 hD8 => retS_ret ⟨_, rfl, ?_⟩)
      have l8 := G8.size
      have nD : ∀ {k : Nat}, w.heap.size ≤ k → k ∉ blksD D := fun hk hm => by have := drwB _ hm; omega
      have h78 := h7.gd G8 (nD (by omega))
      refine do_st h78 (i := 2) (by rw [Sh.add_add, add_blk]) (by simp) fun w9 h9 g9 => ?_
      have G9 := gd_one g9
      have T4 : ∀ k ∈ [by_], k = ba ∨ k = d + 1 ∨ w4.heap.size ≤ k := fun k hk => by simp at hk; omega
      have l9 := G9.size
      refine hK (headD (restL c ds (l.take m)) (l[m]).1) w9 h9 ((J7.go G8 drw).go G9 (fresh T4)) ?_ ((ha7.gd G8 (nD (by omega))).gd G9 (by simp; omega)) ?_ (heap_gd (heap_gd hl7 G8 (nD (by omega))) G9 (by simp; omega)) (by omega) ?_
      · rw [restL_take hml, if_pos h4]
        exact hD8.gd G9 (top T4)
      · have k1 : OwnI w8 w4.heap.size qq nn cc (tagL c ds (l.take m)) := row_gd ho7 G8 fun k hk => by have := drwB k hk; omega
        -- the item's own block is no row's
        refine World.ownsRow.kept k1 g9 ?_
        cases hq : (Value.slice qq nn cc).ownBlock with
        | none => exact .inl rfl
        | some k =>
          refine .inr fun e => ?_
          have := (World.ownsRow.lt ho5 k hq).2
          injection e with e
          omega
      · rw [tagL_take hml, if_pos h4]
    · have h4 : c ≠ 4 := by simpa using h4
      refine hK 0 w7 h7 J7 ?_ ha7 ho7 hl7 (by omega) ?_
      · rw [restL_take hml, if_neg h4]; exact hD7
      · rw [tagL_take hml, if_neg h4]
  · have hge : m = n := by have := of_decide_eq_false hge; omega
    subst hge
    rw [List.take_of_length_le (by omega)] at hD5 ho5
    refine rf_done hl5 (by rw [hst]; simp) hpe fun oo => ?_
    have g6 := put_grown w5 (d + 1) oo
    have G6 := gd_one g6
    have T1 : ∀ k ∈ [d + 1], k = ba ∨ k = d + 1 ∨ w4.heap.size ≤ k := fun k hk => by simp at hk; omega
    have J6 := J5.go G6 (fresh T1)
    have hD6 := hD5.gd G6 (top T1)
    have ha6 := ha5.gd G6 (by simp; omega)
    have ho6 : OwnI (w5.putObj (d + 1) oo) w4.heap.size qq nn cc (tagL c ds l) := row_gd ho5 G6 (by simp; omega)
    have l56 := G6.size
    generalize w5.putObj (d + 1) oo = w6 at *
    have hlen := ownI_len ho6
    rw [tagL_len] at hlen
    refine ⟨_, _, _, ha6.cell (i := 0) rfl rfl, ?_⟩
    refine do_call Tryz.call220 (c_bitems J6.sch (fun w' g => ownI_cs (row_gd (S := [b]) ho6 (gd_gs g (by simp)) (by simp; omega))) (by rw [tagL_len]; exact hlen) (row_cap ho6) (by omega) fun q7 w7 g7 hs7 h7 => retS_ret ⟨_, rfl, ?_⟩)
    have hd7 := heap_grown g7 J6.df (ne_some (by omega))
    refine ⟨hd7, ?_⟩
    have g8 := put_grown w7 d (.deferred none)
    have G8 := gd_one g8
    have l7 := World.grownBy.size g7
    have G7 : Gd (b :: blksD D) w w7 := J6.gd.trans (gd_gs g7 (by simp))
    refine h q7 _ (G7.over G8 fun k hk => .inr (by simp at hk; omega)) (hs7.gd G8 (by simp; omega)) ((hD6.gs J6.sch g7).gd G8 fun k hk => by simp at hk; omega) (h7.gd ?_ G8)
    intro k hk cs hb
    simp only [List.mem_cons, List.not_mem_nil, or_false] at hk
    subst hk
    unfold Blk at hb
    rw [hd7] at hb
    cases hb
end Go.Proofs.YtlfjaogbehpleaaGreat

namespace Go.Proofs.YtlfjaogbehpleaaGreat
open Go Go.Sh Go.RowKit

abbrev lkF : Value := .func (.func 128) #[] #[]
abbrev rkF : Value := .func (.func 130) #[] #[]
abbrev onL (b9 b10 b7 b12 : Nat) : Value := .func (.func 287) #[] #[.pointer (some (blk b9)), .pointer (some (blk b10)), .pointer (some (blk b7)), .pointer (some (blk b12))]
/-- all pairs of a tree, from left to right -/
theorem c_lall {t : Option Addr} {w : World} {R : Ending → World → Prop}
    (h : ∀ b8 b10 b12 b4 w', Ext w w' → w.heap.size ≤ b8 → w.heap.size ≤ b10 → w.heap.size ≤ b12 → w.heap.size ≤ b4 → Blk w' b8 #[.pointer t] 68 → Blk w' b10 #[lkF] 128 → Blk w' b12 #[rkF] 128 →
      Blk w' b4 #[.func (.func 286) #[] #[.pointer (some (blk b10)), .pointer (some (blk b12)), .pointer (some (blk b8))]] 223 →
      R (.returned (.func (.func 230) #[] #[.pointer (some (blk b4))])) w') : Calls Tryz.prog 80 #[.pointer t] w R := by
  refine sh80_ok _ ?_
  unfold sh80
  refine do_call Tryz.call149 (sh149_ok _ ?_)
  unfold sh149
  refine do_call Tryz.call231 (sh231_ok _ _ _ _ _ _ _ ?_)
  unfold sh231
  refine ⟨⟨⟨?_⟩⟩⟩
  have e0 := ext_alloc w (.cells #[.pointer t] 68)
  have h0 := blk_alloc w #[.pointer t] 68
  have m0 := h0.lt
  obtain ⟨b8, z8⟩ : ∃ b8, b8 = w.heap.size := ⟨_, rfl⟩
  rw [← z8] at h0 m0 ⊢
  generalize w.alloc (.cells #[.pointer t] 68) = w1 at *
  have e1 := ext_alloc w1 (.cells #[lkF] 128)
  have h1 := blk_alloc w1 #[lkF] 128
  have m1 := h1.lt
  obtain ⟨b10, z10⟩ : ∃ b10, b10 = w1.heap.size := ⟨_, rfl⟩
  rw [← z10] at h1 m1 ⊢
  generalize w1.alloc (.cells #[lkF] 128) = w2 at *
  have e2 := ext_alloc w2 (.cells #[rkF] 128)
  have h2 := blk_alloc w2 #[rkF] 128
  have m2 := h2.lt
  obtain ⟨b12, z12⟩ : ∃ b12, b12 = w2.heap.size := ⟨_, rfl⟩
  rw [← z12] at h2 m2 ⊢
  generalize w2.alloc (.cells #[rkF] 128) = w3 at *
  refine retS_ret ⟨_, _, _, rfl, retS_ret ⟨_, _, _, rfl, ?_⟩⟩
  refine do_call Tryz.call148 (sh148_ok _ _ _ ?_)
  unfold sh148
  refine ⟨retS_ret ⟨_, _, _, rfl, ?_⟩⟩
  have e3 := ext_alloc w3 (.cells #[.func (.func 286) #[] #[.pointer (some (blk b10)), .pointer (some (blk b12)), .pointer (some (blk b8))]] 223)
  have h3 := blk_alloc w3 #[.func (.func 286) #[] #[.pointer (some (blk b10)), .pointer (some (blk b12)), .pointer (some (blk b8))]] 223
  have s0 := e0.size
  have s1 := e1.size
  have s2 := e2.size
  exact h b8 b10 b12 _ _ (((e0.trans e1).trans e2).trans e3) (by omega) (by omega) (by omega) (by omega) (((h0.ext e1).ext e2).ext e3) ((h1.ext e2).ext e3) (h2.ext e3) h3
theorem c_leftG {W1 w : World} {S : List Nat} {p : Option Addr} {t : Tr} {R : Ending → World → Prop} (ht : IsN W1 p t) (hO : Oth S W1) (G : Gd S W1 w) (h : ∀ q, IsN W1 q t.left → R (.returned (.pointer q)) w) : Calls Tryz.prog 128 #[.pointer p] w R := by
  refine sh128_ok _ ?_
  unfold sh128
  cases t with
  | nil => obtain rfl : p = none := ht; exact ifB_t rfl (h _ rfl)
  | node l k v g r =>
    obtain ⟨b, pl, pr, rfl, hn, hl, hr⟩ := ht
    exact ifB_f rfl ⟨_, rfl, _, (hn.gd G fun hm => hO b hm _ hn).cell (i := 5) (add_blk _ _) rfl, h _ hl⟩
theorem c_rightG {W1 w : World} {S : List Nat} {p : Option Addr} {t : Tr} {R : Ending → World → Prop} (ht : IsN W1 p t) (hO : Oth S W1) (G : Gd S W1 w) (h : ∀ q, IsN W1 q t.right → R (.returned (.pointer q)) w) : Calls Tryz.prog 130 #[.pointer p] w R := by
  refine sh130_ok _ ?_
  unfold sh130
  cases t with
  | nil => obtain rfl : p = none := ht; exact ifB_t rfl (h _ rfl)
  | node l k v g r =>
    obtain ⟨b, pl, pr, rfl, hn, hl, hr⟩ := ht
    exact ifB_f rfl ⟨_, rfl, _, (hn.gd G fun hm => hO b hm _ hn).cell (i := 6) (add_blk _ _) rfl, h _ hr⟩
/-- the going over itself: whatever is kept, behind the pairs so far, is kept behind those of a tree -/
theorem do_onL {W1 : World} {S : List Nat} {b9 b10 b7 b12 : Nat} {y1 : Fn} {y2 y3 : Array Value} {T9 T10 T7 T12 : TypeId} (h9 : Blk W1 b9 #[onL b9 b10 b7 b12] T9) (h10 : Blk W1 b10 #[lkF] T10) (h7 : Blk W1 b7 #[.func y1 y2 y3] T7) (h12 : Blk W1 b12 #[rkF] T12)
    (n9 : b9 ∉ S) (n10 : b10 ∉ S) (n7 : b7 ∉ S) (n12 : b12 ∉ S) (hO : Oth S W1) {J : List Pr → World → Prop} {M : Nat} (hJg : ∀ l w, J l w → Gd S W1 w) (hJe : ∀ l w w', J l w → Ext w w' → J l w')
    (hy : ∀ (l : List Pr) (w : World) (pn : Option Addr) (tl : Tr) (k v g : Int) (tr : Tr) (R : Ending → World → Prop), J l w → l.length + 1 ≤ M → IsN w pn (.node tl k v g tr) → (∀ w', J (l ++ [(k, v)]) w' → R (.returned (.bool true)) w') → doCall Tryz.prog (.func y1 y2 y3) #[.pointer pn] w R) :
    ∀ (t : Tr) {L : List Pr} {p : Option Addr} {w : World} {R : Ending → World → Prop} (_ht : IsN W1 p t) (_hJ : J L w) (_hM : L.length + t.pairs.length ≤ M) (_h : ∀ w', J (L ++ t.pairs) w' → R (.returned (.bool true)) w'), doCall Tryz.prog (onL b9 b10 b7 b12) #[.pointer p] w R
  | .nil, L, p, w, R, ht, hJ, hM, h => by
    refine do_callc Tryz.call287 (by rfl) (sh287_ok _ _ _ _ _ ?_)
    unfold sh287
    intro K8
    have : p = none := ht
    subst this
    have hJ' := hJe _ _ _ hJ (ext_drew w)
    refine ⟨⟨fun w' => Gd S W1 w', hJg _ _ hJ', ifB_t rfl (h _ ?_)⟩⟩
    simpa [Tr.pairs] using hJ'
  | .node l k v g r, L, p, w, R, ht, hJ, hM, h => by
    refine do_callc Tryz.call287 (by rfl) (sh287_ok _ _ _ _ _ ?_)
    unfold sh287
    intro K8
    obtain ⟨bn, pl, pr, hp, hb, hl, hr⟩ := id ht
    subst hp
    have hlen : (Tr.node l k v g r).pairs.length = l.pairs.length + (1 + r.pairs.length) := by simp [Tr.pairs]; omega
    have hJ' := hJe _ _ _ hJ (ext_drew w)
    have on9 : ∀ w', Gd S W1 w' → World.cell? w' (blk b9) = some (onL b9 b10 b7 b12) := fun w' G => (h9.gd G n9).cell (i := 0) rfl rfl
    have on10 : ∀ w', Gd S W1 w' → World.cell? w' (blk b10) = some lkF := fun w' G => (h10.gd G n10).cell (i := 0) rfl rfl
    have on7 : ∀ w', Gd S W1 w' → World.cell? w' (blk b7) = some (.func y1 y2 y3) := fun w' G => (h7.gd G n7).cell (i := 0) rfl rfl
    have on12 : ∀ w', Gd S W1 w' → World.cell? w' (blk b12) = some rkF := fun w' G => (h12.gd G n12).cell (i := 0) rfl rfl
    refine ⟨⟨fun w' => Gd S W1 w', hJg _ _ hJ', ifB_f rfl ⟨_, _, _, fun w' G => on9 w' G, _, _, _, fun w' G => on10 w' G, ?_⟩⟩⟩
    refine do_call Tryz.call128 (c_leftG ht hO (hJg _ _ hJ') fun ql hql1 => retS_ret ⟨_, rfl, hJg _ _ hJ', ?_⟩)
    refine do_onL h9 h10 h7 h12 n9 n10 n7 n12 hO hJg hJe hy l hql1 hJ' (by omega) fun w1 J1 => retS_ret ⟨_, rfl, hJg _ _ J1, ifB_t rfl ?_⟩
    refine ⟨_, _, _, fun w' G => on7 w' G, ?_⟩
    refine hy (L ++ l.pairs) w1 _ l k v g r _ J1 (by rw [List.length_append]; omega) (ht.gd hO (hJg _ _ J1)) fun w2 J2 => retS_ret ⟨_, rfl, hJg _ _ J2, ifB_t rfl ?_⟩
    refine ⟨_, _, _, fun w' G => on9 w' G, _, _, _, fun w' G => on12 w' G, ?_⟩
    refine do_call Tryz.call130 (c_rightG ht hO (hJg _ _ J2) fun qr hqr1 => retS_ret ⟨_, rfl, hJg _ _ J2, ?_⟩)
    refine do_onL h9 h10 h7 h12 n9 n10 n7 n12 hO hJg hJe hy r hqr1 J2 (by simp only [List.length_append, List.length_cons, List.length_nil]; omega) fun w3 J3 => retS_ret ⟨_, rfl, hJg _ _ J3, ?_⟩
    refine h w3 ?_
    have e : L ++ (Tr.node l k v g r).pairs = L ++ l.pairs ++ [(k, v)] ++ r.pairs := by simp [Tr.pairs]
    rw [e]; exact J3
end Go.Proofs.YtlfjaogbehpleaaGreat

