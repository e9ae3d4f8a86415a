/-
  RowKeeps: the plain laws of rows, and the walk.
-/
/-
  What the functions of node do, and those of joineryref09 and joinerylaw09 that make trees of beads.
-/
/-
  Parts, Make, Pairs, Height of beads; whether beads are a tree.
-/
/-
  What the functions of rank do.
-/
/-
  What is parted, cut off, and joined, of any scheme. Plain.
-/
/-
  sync.Once, atomic.Uint64, of one goroutine: after the kit's worked example (Lazy).
-/
/-
  sync.Once: doSlow, Do. After the kit's worked example (Lazy).
-/
/-
  avl, avljoin: what a join makes.
-/
import Derived.Test.YtlddfgfmkapoiaaGreatZ13
import Derived.Test.YtlddfgfmkapoiaaGreatZ03
import Derived.Test.YtlddfgfmkapoiaaGreatZ04
import Derived.Test.YtlddfgfmkapoiaaGreatZ12
import Derived.Tactics
import Derived.Tactics2
import Derived.Defers
import Derived.Laws.Pointers
import Derived.Laws.LoneSync
import Derived.RegionTactic
import Derived.RegionCalls
import Derived.ChangeAlike
import Derived.Laws.NewBlocks

namespace Go.Proofs.YtlddfgfmkapoiaaGreat
open Go Go.Sh Go.RowKit

theorem wrap_in (x : Int) : In (IntKind.wrap .i64 x) := by
  simp only [IntKind.wrap, IntKind.signed, IntKind.bits, In]
  simp
  omega
abbrev ltO (o : Int) (a b : Int) : Prop := cmpI o a b < 0
theorem chain_pw {o : Int} : ∀ {l : List Pr}, chain o l = true ↔ (l.map (·.1)).Pairwise (ltO o)
  | [] => by simp [chain]
  | [a] => by simp [chain]
  | a :: b :: l => by
    rw [chain_cons, Bool.and_eq_true, decide_eq_true_eq, chain_pw (l := b :: l)]
    simp only [List.map_cons, List.pairwise_cons, List.mem_cons, List.mem_map, forall_eq_or_imp]
    constructor
    · rintro ⟨h1, h2, h3⟩
      exact ⟨⟨h1, fun x hx => cmpI_trans h1 (h2 x hx)⟩, h2, h3⟩
    · rintro ⟨⟨h1, _⟩, h2, h3⟩
      exact ⟨h1, h2, h3⟩
theorem mayR_iff {o : Int} {l : List Pr} : mayR o l = true ↔ isO o = true ∧ (l.map (·.1)).Pairwise (ltO o) := by
  unfold mayR; rw [Bool.and_eq_true, chain_pw]
theorem mem_get {o : Int} {l : List Pr} (hm : mayR o l = true) {key v : Int} (h : (key, v) ∈ l) : hasR o l key = true ∧ getR o l key = v := by
  obtain ⟨i, hi, e⟩ := List.getElem_of_mem h
  have := pos_at hm hi
  rw [e] at this
  exact ⟨this.2.1, this.2.2⟩
theorem has_mem {o : Int} {l : List Pr} {key : Int} (h : hasR o l key = true) : (key, getR o l key) ∈ l := by
  have hlt := hasR_lt h
  have hk := hasR_key h
  have : getR o l key = (l[posR o l key]'hlt).2 := by unfold getR; rw [h, getD_of hlt]; rfl
  rw [this]
  have hm := List.getElem_mem hlt
  rw [show (l[posR o l key]'hlt) = (key, (l[posR o l key]'hlt).2) from Prod.ext hk rfl] at hm
  exact hm
theorem get_none {o : Int} {l : List Pr} {key : Int} (h : hasR o l key = false) : getR o l key = 0 := by unfold getR; rw [h]; rfl
/-- two rows that may be and agree about a key -/
theorem same_at {o : Int} {l r : List Pr} (hl : mayR o l = true) (hr : mayR o r = true) {key : Int} (h : ∀ v, (key, v) ∈ l ↔ (key, v) ∈ r) : hasR o l key = hasR o r key ∧ getR o l key = getR o r key := by
  cases hh : hasR o l key
  · cases hh' : hasR o r key
    · exact ⟨rfl, by rw [get_none hh, get_none hh']⟩
    · have := (mem_get hl ((h _).2 (has_mem hh'))).1
      rw [hh] at this; cases this
  · have := mem_get hr ((h _).1 (has_mem hh))
    exact ⟨this.1.symm, this.2.symm⟩
theorem put_miss {o p : Int} {l : List Pr} {x : Pr} (hm : mayR o l = true) (hp : may p = true) (hh : hasR o l x.1 = false) : putR o p l x = l.take (posR o l x.1) ++ x :: l.drop (posR o l x.1) := by
  unfold putR; rw [hm, hp, hh]; rfl
theorem put_hit {o p : Int} {l : List Pr} {x : Pr} (hm : mayR o l = true) (hp : may p = true) (hh : hasR o l x.1 = true) : putR o p l x = l.set (posR o l x.1) (x.1, comb p (getR o l x.1) x.2) := by
  unfold putR getR; rw [hm, hp, hh]; rfl
theorem put_may {o p : Int} {l : List Pr} {x : Pr} (hm : mayR o l = true) (hp : may p = true) (hI : InP l) (hx : In x.1) : mayR o (putR o p l x) = true := by
  have hpw := mayR_iff.1 hm
  cases hh : hasR o l x.1
  · rw [put_miss hm hp hh, mayR_iff]
    refine ⟨hpw.1, ?_⟩
    have hpx : posR o l x.1 = idxR o l x.1 := by unfold posR; rw [hm]; rfl
    have hsplit := hpw.2
    rw [← List.take_append_drop (posR o l x.1) l, List.map_append, List.pairwise_append] at hsplit
    rw [List.map_append, List.map_cons, List.pairwise_append, List.pairwise_cons]
    have hlo : ∀ a ∈ (l.take (posR o l x.1)).map (·.1), ltO o a x.1 := fun a ha => by
      simp only [List.mem_map] at ha
      obtain ⟨y, hy, rfl⟩ := ha
      obtain ⟨i, hi, rfl⟩ := List.getElem_of_mem hy
      rw [List.length_take] at hi
      rw [List.getElem_take]
      exact (idxR_lt (o := o) (l := l) (key := x.1) (i := i) (by omega)).2
    have hhi : ∀ b ∈ (l.drop (posR o l x.1)).map (·.1), ltO o x.1 b := fun b hb => by
      simp only [List.mem_map] at hb
      obtain ⟨y, hy, rfl⟩ := hb
      obtain ⟨i, hi, rfl⟩ := List.getElem_of_mem hy
      rw [List.length_drop] at hi
      rw [List.getElem_drop]
      have hlt : idxR o l x.1 < l.length := by omega
      have hge := idxR_ge (o := o) (l := l) (key := x.1) hlt
      have hne : cmpI o l[idxR o l x.1].1 x.1 ≠ 0 := fun h0 => by
        have := (hasR_iff hm).2 ⟨_, hlt, cmpI_eq hpw.1 (hI _ (List.getElem_mem hlt)).1 hx h0⟩
        rw [hh] at this; cases this
      have h1 : cmpI o x.1 l[idxR o l x.1].1 < 0 := cmpI_pos (by omega)
      simp only [hpx]
      rcases Nat.eq_zero_or_pos i with h0 | h0
      · subst h0; exact h1
      · exact cmpI_trans h1 (chain_lt (mayR_chain hm) (i := idxR o l x.1) (j := idxR o l x.1 + i) (by omega) (by omega))
    refine ⟨hsplit.1, ⟨hhi, hsplit.2.1⟩, fun a ha b hb => ?_⟩
    rcases List.mem_cons.1 hb with rfl | hb
    · exact hlo a ha
    · exact hsplit.2.2 a ha b hb
  · rw [put_hit hm hp hh, mayR_iff]
    refine ⟨hpw.1, ?_⟩
    have hlt := hasR_lt hh
    have hk := hasR_key hh
    have : (l.set (posR o l x.1) (x.1, comb p (getR o l x.1) x.2)).map (·.1) = l.map (·.1) := by
      refine List.ext_getElem (by simp) fun i h1 h2 => ?_
      simp only [List.getElem_map, List.getElem_set]
      split
      · rename_i e; subst e; exact hk.symm
      · rfl
    rw [this]; exact hpw.2
theorem put_len {o p : Int} {l : List Pr} {x : Pr} (hm : mayR o l = true) (hp : may p = true) : (putR o p l x).length = if hasR o l x.1 then l.length else l.length + 1 := by
  cases hh : hasR o l x.1
  · rw [put_miss hm hp hh]
    have := posR_le o l x.1
    simp; omega
  · rw [put_hit hm hp hh]; simp
theorem put_mem {o p : Int} {l : List Pr} {x : Pr} (hm : mayR o l = true) (hp : may p = true) (y : Pr) : y ∈ putR o p l x → y = (x.1, if hasR o l x.1 then comb p (getR o l x.1) x.2 else x.2) ∨ y ∈ l := by
  intro hy
  cases hh : hasR o l x.1
  · rw [put_miss hm hp hh] at hy
    rcases List.mem_append.1 hy with h | h
    · exact .inr (List.mem_of_mem_take h)
    · rcases List.mem_cons.1 h with h | h
      · exact .inl h
      · exact .inr (List.mem_of_mem_drop h)
  · rw [put_hit hm hp hh] at hy
    rcases List.mem_or_eq_of_mem_set hy with h | h
    · exact .inr h
    · exact .inl h
theorem put_key {o p : Int} {l : List Pr} {x : Pr} (hm : mayR o l = true) (hp : may p = true) (hI : InP l) (hx : In x.1) :
    hasR o (putR o p l x) x.1 = true ∧ getR o (putR o p l x) x.1 = if hasR o l x.1 then comb p (getR o l x.1) x.2 else x.2 := by
  refine mem_get (put_may hm hp hI hx) ?_
  cases hh : hasR o l x.1
  · rw [put_miss hm hp hh]; simp
  · rw [put_hit hm hp hh]
    have hlt := hasR_lt hh
    exact List.mem_of_getElem (i := posR o l x.1) (h := by simpa using hlt) (by simp)
theorem put_other {o p key : Int} {l : List Pr} {x : Pr} (hm : mayR o l = true) (hp : may p = true) (hI : InP l) (hx : In x.1) (hne : key ≠ x.1) : hasR o (putR o p l x) key = hasR o l key ∧ getR o (putR o p l x) key = getR o l key := by
  refine same_at (put_may hm hp hI hx) hm fun v => ?_
  constructor
  · intro h
    rcases put_mem hm hp _ h with h | h
    · exact absurd (congrArg Prod.fst h) hne
    · exact h
  · intro h
    cases hh : hasR o l x.1
    · rw [put_miss hm hp hh]
      rw [← List.take_append_drop (posR o l x.1) l] at h
      rcases List.mem_append.1 h with h | h
      · exact List.mem_append_left _ h
      · exact List.mem_append_right _ (List.mem_cons_of_mem _ h)
    · rw [put_hit hm hp hh]
      have hlt := hasR_lt hh
      have hk := hasR_key hh
      obtain ⟨i, hi, e⟩ := List.getElem_of_mem h
      have hii : posR o l x.1 ≠ i := fun e' => by
        subst e'
        rw [e] at hk
        exact hne hk
      refine List.mem_of_getElem (i := i) (h := by simpa using hi) ?_
      rw [List.getElem_set_ne hii]; exact e
theorem put_in {o p : Int} {l : List Pr} {x : Pr} (hm : mayR o l = true) (hp : may p = true) (hI : InP l) (hx : In x.1 ∧ In x.2) : InP (putR o p l x) := fun y hy => by
  rcases put_mem hm hp _ hy with rfl | h
  · refine ⟨hx.1, ?_⟩
    show In (if hasR o l x.1 then comb p (getR o l x.1) x.2 else x.2)
    split
    · rename_i hh
      have hg := (hI _ (has_mem hh)).2
      unfold comb
      split
      · exact hg
      · split
        · exact hx.2
        · exact wrap_in _
    · exact hx.2
  · exact hI _ h
/-- the state of RowKeeps -/
structure Keeps (o key : Int) (w w' : World) (k : Nat) (p : Option Addr) (n c : Nat) (val : Int) (has : Bool) : Prop where
  ext : Ext w w'
  row : ∃ r, OwnP w' w.heap.size p n c r ∧ mayR o r = true ∧ InP r ∧ hasR o r key = has ∧ (has = true → getR o r key = val)
  len : n ≤ k
theorem Keeps.to {o key : Int} {w w' w'' : World} {k : Nat} {p : Option Addr} {n c : Nat} {val : Int} {has : Bool} (h : Keeps o key w w' k p n c val has) (e : Ext w' w'') : Keeps o key w w'' k p n c val has := by
  obtain ⟨r, h1, h2⟩ := h.row
  exact ⟨h.ext.trans e, ⟨r, row_to h1 e (Nat.le_refl _), h2⟩, h.len⟩
end Go.Proofs.YtlddfgfmkapoiaaGreat

namespace Go.Proofs.YtlddfgfmkapoiaaGreat
open Go Go.Sh Go.RowKit

abbrev IsN (w : World) (p : Option Addr) (t : Tr) : Prop := IsT 249 w p t
/-! ### Nodes -/
def keptV (t : Tr) : Value := .agg #[.int .i64 t.key, .int .i64 t.val, .int .i64 t.sum, .int .u64 t.tag, .int .i64 (t.size : Nat)]
theorem do_st5 {w : World} {b : Nat} {v0 v1 v2 v3 v4 x0 x1 x2 x3 x4 : Value} {t : TypeId} (h : Blk w b #[v0, v1, v2, v3, v4] t) {K : World → Prop} (k : ∀ w', Blk w' b #[x0, x1, x2, x3, x4] t → w.grownBy w' (some b) → K w') :
    doSt ((blk b).add 0) x0 w fun w1 => doSt ((blk b).add 1) x1 w1 fun w2 => doSt ((blk b).add 2) x2 w2 fun w3 => doSt ((blk b).add 3) x3 w3 fun w4 => doSt ((blk b).add 4) x4 w4 K := by
  refine do_st h (i := 0) (add_blk b 0) (by simp) fun w1 h1 g1 => ?_
  have k1 : Blk w1 b #[x0, v1, v2, v3, v4] t := h1
  have e1 := g1
  refine do_st k1 (i := 1) (add_blk b 1) (by simp) fun w2 h2 g2 => ?_
  have k2 : Blk w2 b #[x0, x1, v2, v3, v4] t := h2
  have e2 := grown_trans e1 g2
  refine do_st k2 (i := 2) (add_blk b 2) (by simp) fun w3 h3 g3 => ?_
  have k3 : Blk w3 b #[x0, x1, x2, v3, v4] t := h3
  have e3 := grown_trans e2 g3
  refine do_st k3 (i := 3) (add_blk b 3) (by simp) fun w4 h4 g4 => ?_
  have k4 : Blk w4 b #[x0, x1, x2, x3, v4] t := h4
  have e4 := grown_trans e3 g4
  refine do_st k4 (i := 4) (add_blk b 4) (by simp) fun w5 h5 g5 => ?_
  have k5 : Blk w5 b #[x0, x1, x2, x3, x4] t := h5
  have e5 := grown_trans e4 g5
  exact k _ k5 e5
theorem c_of {p : Option Addr} {t : Tr} {w : World} {R : Ending → World → Prop} (ht : IsN w p t) (h : ∀ w', Ext w w' → R (.returned (keptV t)) w') : Calls Tryz.prog 166 #[.pointer p] w R := by
  refine sh166_ok _ ?_
  unfold sh166
  refine ⟨?_⟩
  have e1 := ext_alloc w (.cells #[.int .i64 0, .int .i64 0, .int .i64 0, .int .u64 0, .int .i64 0] 205)
  have hb := blk_alloc w #[.int .i64 0, .int .i64 0, .int .i64 0, .int .u64 0, .int .i64 0] 205
  cases t with
  | nil =>
    obtain rfl : p = none := ht
    refine ifB_t rfl (do_st5 hb fun w2 h2 g2 => ⟨_, h2.cell (i := 0) (add_blk _ _) rfl, _, h2.cell (i := 1) (add_blk _ _) rfl, _, h2.cell (i := 2) (add_blk _ _) rfl, _, h2.cell (i := 3) (add_blk _ _) rfl, _, h2.cell (i := 4) (add_blk _ _) rfl, h _ (e1.st g2 (Nat.le_refl _))⟩)
  | node l k v g r =>
    obtain ⟨b, pl, pr, rfl, hn, _, _⟩ := ht
    have hn1 := hn.ext e1
    refine ifB_f rfl ⟨_, rfl, _, hn1.cell (i := 0) (by rw [add_zero', add_blk]) rfl, _, hn1.cell (i := 1) (by rw [add_zero', add_blk]) rfl, _, hn1.cell (i := 2) (by rw [add_zero', add_blk]) rfl, _, hn1.cell (i := 3) (by rw [add_zero', add_blk]) rfl, _, hn1.cell (i := 4) (by rw [add_zero', add_blk]) rfl, ?_⟩
    refine do_st5 hb fun w2 h2 g2 => ⟨_, h2.cell (i := 0) (add_blk _ _) rfl, _, h2.cell (i := 1) (add_blk _ _) rfl, _, h2.cell (i := 2) (add_blk _ _) rfl, _, h2.cell (i := 3) (add_blk _ _) rfl, _, h2.cell (i := 4) (add_blk _ _) rfl, h _ (e1.st g2 (Nat.le_refl _))⟩
theorem c_left0 {p : Option Addr} {t : Tr} {w0 w : World} {R : Ending → World → Prop} (ht : IsN w0 p t) (e : Ext w0 w) (h : ∀ q, IsN w0 q t.left → R (.returned (.pointer q)) w) : Calls Tryz.prog 123 #[.pointer p] w R := by
  refine sh123_ok _ ?_
  unfold sh123
  cases t with
  | nil => obtain rfl : p = none := ht; exact ifB_t rfl (h _ rfl)
  | node l k v g r =>
    obtain ⟨b, pl, pr, rfl, hn, hl, hr⟩ := ht
    exact ifB_f rfl ⟨_, rfl, _, (hn.ext e).cell (i := 5) (add_blk _ _) rfl, h _ hl⟩
theorem c_left {p : Option Addr} {t : Tr} {w : World} {R : Ending → World → Prop} (ht : IsN w p t) (h : ∀ q, IsN w q t.left → R (.returned (.pointer q)) w) : Calls Tryz.prog 123 #[.pointer p] w R := c_left0 ht (ext_refl w) h
theorem c_right0 {p : Option Addr} {t : Tr} {w0 w : World} {R : Ending → World → Prop} (ht : IsN w0 p t) (e : Ext w0 w) (h : ∀ q, IsN w0 q t.right → R (.returned (.pointer q)) w) : Calls Tryz.prog 125 #[.pointer p] w R := by
  refine sh125_ok _ ?_
  unfold sh125
  cases t with
  | nil => obtain rfl : p = none := ht; exact ifB_t rfl (h _ rfl)
  | node l k v g r =>
    obtain ⟨b, pl, pr, rfl, hn, hl, hr⟩ := ht
    exact ifB_f rfl ⟨_, rfl, _, (hn.ext e).cell (i := 6) (add_blk _ _) rfl, h _ hr⟩
theorem c_right {p : Option Addr} {t : Tr} {w : World} {R : Ending → World → Prop} (ht : IsN w p t) (h : ∀ q, IsN w q t.right → R (.returned (.pointer q)) w) : Calls Tryz.prog 125 #[.pointer p] w R := c_right0 ht (ext_refl w) h
theorem c_key {p : Option Addr} {t : Tr} {w : World} {R : Ending → World → Prop} (ht : IsN w p t) (h : ∀ w', Ext w w' → R (.returned (.int .i64 t.key)) w') : Calls Tryz.prog 108 #[.pointer p] w R := by
  refine sh108_ok _ ?_
  unfold sh108
  exact do_call Tryz.call166 (c_of ht fun w1 e1 => retS_ret ⟨_, _, _, _, _, rfl, h _ e1⟩)
theorem c_val {p : Option Addr} {t : Tr} {w : World} {R : Ending → World → Prop} (ht : IsN w p t) (h : ∀ w', Ext w w' → R (.returned (.int .i64 t.val)) w') : Calls Tryz.prog 126 #[.pointer p] w R := by
  refine sh126_ok _ ?_
  unfold sh126
  exact do_call Tryz.call166 (c_of ht fun w1 e1 => retS_ret ⟨_, _, _, _, _, rfl, h _ e1⟩)
theorem c_tag {p : Option Addr} {t : Tr} {w : World} {R : Ending → World → Prop} (ht : IsN w p t) (h : ∀ w', Ext w w' → R (.returned (.int .u64 t.tag)) w') : Calls Tryz.prog 196 #[.pointer p] w R := by
  refine sh196_ok _ ?_
  unfold sh196
  exact do_call Tryz.call166 (c_of ht fun w1 e1 => retS_ret ⟨_, _, _, _, _, rfl, h _ e1⟩)
theorem c_tsize {p : Option Addr} {t : Tr} {w : World} {R : Ending → World → Prop} (ht : IsN w p t) (h : ∀ w', Ext w w' → R (.returned (.int .i64 (t.size : Nat))) w') : Calls Tryz.prog 91 #[.pointer p] w R := by
  refine sh91_ok _ ?_
  unfold sh91
  exact do_call Tryz.call166 (c_of ht fun w1 e1 => retS_ret ⟨_, _, _, _, _, rfl, h _ e1⟩)
theorem c_tsum {p : Option Addr} {t : Tr} {w : World} {R : Ending → World → Prop} (ht : IsN w p t) (h : ∀ w', Ext w w' → R (.returned (.int .i64 t.sum)) w') : Calls Tryz.prog 107 #[.pointer p] w R := by
  refine sh107_ok _ ?_
  unfold sh107
  exact do_call Tryz.call166 (c_of ht fun w1 e1 => retS_ret ⟨_, _, _, _, _, rfl, h _ e1⟩)
theorem c_new {pl pr : Option Addr} {l r : Tr} {k v g : Int} {w : World} {R : Ending → World → Prop} (hl : IsN w pl l) (hr : IsN w pr r) (hs : l.size + 1 + r.size ≤ 4611686018427387903)
    (h : ∀ b w', Ext w w' → IsN w' (some (blk b)) (.node l k v g r) → w.heap.size ≤ b → R (.returned (.pointer (some (blk b)))) w') : Calls Tryz.prog 105 #[.pointer pl, .int .i64 k, .int .i64 v, .int .u64 g, .pointer pr] w R := by
  refine sh105_ok _ _ _ _ _ ?_
  unfold sh105
  refine do_call Tryz.call91 (c_tsize hl fun w1 e1 => retS_ret ⟨_, rfl, ?_⟩)
  refine do_call Tryz.call91 (c_tsize (hr.ext e1) fun w2 e2 => retS_ret ⟨_, rfl, ?_⟩)
  have E2 := e1.trans e2
  refine do_call Tryz.call107 (c_tsum (hl.ext E2) fun w3 e3 => retS_ret ⟨_, rfl, ?_⟩)
  have E3 := E2.trans e3
  refine do_call Tryz.call107 (c_tsum (hr.ext E3) fun w4 e4 => retS_ret ⟨_, rfl, ⟨?_⟩⟩)
  have E4 := E3.trans e4
  have e : IntKind.wrap .i64 (IntKind.wrap .i64 ((l.size : Int) + 1) + (r.size : Int)) = ((l.size + 1 + r.size : Nat) : Int) := by
    rw [wrap_of (x := (l.size : Int) + 1) (by omega) (by omega), wrap_of (by omega) (by omega)]; omega
  rw [e]
  have e5 := ext_alloc w4 (.cells #[.int .i64 k, .int .i64 v, .int .i64 (IntKind.wrap .i64 (IntKind.wrap .i64 (l.sum + v) + r.sum)), .int .u64 g, .int .i64 ((l.size + 1 + r.size : Nat) : Int), .pointer pl, .pointer pr] 249)
  exact h _ _ (E4.trans e5) ⟨_, pl, pr, rfl, blk_alloc w4 _ _, hl.ext (E4.trans e5), hr.ext (E4.trans e5)⟩ E4.size
/-! ### Beads -/
end Go.Proofs.YtlddfgfmkapoiaaGreat

namespace Go.Proofs.YtlddfgfmkapoiaaGreat
open Go Go.Sh Go.RowKit

end Go.Proofs.YtlddfgfmkapoiaaGreat

namespace Go.Proofs.YtlddfgfmkapoiaaGreat
open Go Go.Sh Go.RowKit

end Go.Proofs.YtlddfgfmkapoiaaGreat

namespace Go.Proofs.YtlddfgfmkapoiaaGreat
open Go Go.Sh

abbrev It := Int × Int × Int
def itC (c : Int) (x : It) : It := if c = 4 then x else (x.1, x.2.1, 0)
def itsC (c : Int) (t : Tr) : List It := (itT t).map (itC c)
theorem itC_key (c : Int) (x : It) : (itC c x).1 = x.1 := by unfold itC; split <;> rfl
theorem itC_val (c : Int) (x : It) : (itC c x).2.1 = x.2.1 := by unfold itC; split <;> rfl
theorem itC_itC (c : Int) (x : It) : itC c (itC c x) = itC c x := by unfold itC; split <;> rfl
theorem itsC_nil (c : Int) : itsC c .nil = [] := rfl
theorem itsC_node (c : Int) (l r : Tr) (k v g : Int) : itsC c (.node l k v g r) = itsC c l ++ itC c (k, v, g) :: itsC c r := by simp [itsC, itT]
theorem items_len (t : Tr) : (itT t).length = t.size := by
  induction t with
  | nil => rfl
  | node l k v g r ihl ihr => simp [itT, Tr.size, ihl, ihr]; omega
theorem itsC_len (c : Int) (t : Tr) : (itsC c t).length = t.size := by simp [itsC, items_len]
theorem itsC_pairs {c : Int} (h : c ≠ 4) (t : Tr) : itsC c t = t.pairs.map fun p => (p.1, p.2, 0) := by
  rw [items_pairs]
  unfold itsC itC
  simp [h]
def OkP (c : Int) (t : Tr) : Prop := (c = 1 ∧ Avl t) ∨ (c = 2 ∧ Rb t) ∨ (c = 3 ∧ Wb t) ∨ (c = 4 ∧ Tp t)
def OkM (c : Int) (t : Tr) : Prop := OkP c t ∧ (c = 2 → redR t = false)
def isS (c : Int) : Bool := decide (1 ≤ c ∧ c ≤ 4)
theorem isS_iff {c : Int} : isS c = true ↔ c = 1 ∨ c = 2 ∨ c = 3 ∨ c = 4 := by
  unfold isS; rw [decide_eq_true_iff]; omega
theorem OkP.nil {c : Int} (h : isS c = true) : OkP c .nil := by
  rcases isS_iff.1 h with rfl | rfl | rfl | rfl
  · exact .inl ⟨rfl, trivial⟩
  · exact .inr (.inl ⟨rfl, trivial⟩)
  · exact .inr (.inr (.inl ⟨rfl, trivial⟩))
  · exact .inr (.inr (.inr ⟨rfl, trivial⟩))
theorem OkM.nil {c : Int} (h : isS c = true) : OkM c .nil := ⟨.nil h, fun _ => rfl⟩
theorem OkP.s {c : Int} {t : Tr} (h : OkP c t) : isS c = true := by
  rw [isS_iff]
  rcases h with h | h | h | h
  · exact .inl h.1
  · exact .inr (.inl h.1)
  · exact .inr (.inr (.inl h.1))
  · exact .inr (.inr (.inr h.1))
theorem OkP.sides {c : Int} {l r : Tr} {k v g : Int} (h : OkP c (.node l k v g r)) : OkP c l ∧ OkP c r := by
  rcases h with ⟨e, h⟩ | ⟨e, h⟩ | ⟨e, h⟩ | ⟨e, h⟩
  · exact ⟨.inl ⟨e, h.1⟩, .inl ⟨e, h.2.1⟩⟩
  · exact ⟨.inr (.inl ⟨e, h.1⟩), .inr (.inl ⟨e, h.2.1⟩)⟩
  · exact ⟨.inr (.inr (.inl ⟨e, h.1⟩)), .inr (.inr (.inl ⟨e, h.2.1⟩))⟩
  · exact ⟨.inr (.inr (.inr ⟨e, h.1⟩)), .inr (.inr (.inr ⟨e, h.2.1⟩))⟩
def joinC (c : Int) (l : Tr) (x : It) (r : Tr) : Tr :=
  if c = 1 then joinA l x.1 x.2.1 r else if c = 2 then joinR l x.1 x.2.1 r else if c = 3 then joinW l x.1 x.2.1 r else joinT (l.size + r.size) l x.1 x.2.1 x.2.2 r
theorem joinC_ok {c : Int} {l r : Tr} (hl : OkP c l) (hr : OkP c r) (x : It) : OkM c (joinC c l x r) ∧ itsC c (joinC c l x r) = itsC c l ++ itC c x :: itsC c r := by
  obtain ⟨k, v, g⟩ := x
  rcases hl with ⟨rfl, hl⟩ | ⟨rfl, hl⟩ | ⟨rfl, hl⟩ | ⟨rfl, hl⟩
  · have hr : Avl r := by simpa [OkP] using hr
    have := joinA_ok hl hr k v
    refine ⟨⟨.inl ⟨rfl, this.1⟩, by simp⟩, ?_⟩
    have e := this.2
    rw [itsC_pairs (by decide), itsC_pairs (by decide), itsC_pairs (by decide)]
    show (joinA l k v r).pairs.map _ = _
    rw [e]; simp [itC]
  · have hr : Rb r := by simpa [OkP] using hr
    have := joinR_ok hl hr k v
    refine ⟨⟨.inr (.inl ⟨rfl, this.1⟩), fun _ => this.2.1⟩, ?_⟩
    have e := this.2.2
    rw [itsC_pairs (by decide), itsC_pairs (by decide), itsC_pairs (by decide)]
    show (joinR l k v r).pairs.map _ = _
    rw [e]; simp [itC]
  · have hr : Wb r := by simpa [OkP] using hr
    have := joinW_ok hl hr k v
    refine ⟨⟨.inr (.inr (.inl ⟨rfl, this.1⟩)), by simp⟩, ?_⟩
    have e := this.2
    rw [itsC_pairs (by decide), itsC_pairs (by decide), itsC_pairs (by decide)]
    show (joinW l k v r).pairs.map _ = _
    rw [e]; simp [itC]
  · have hr : Tp r := by simpa [OkP] using hr
    have := joinT_ok (l.size + r.size) k v g (Nat.le_refl _) hl hr
    refine ⟨⟨.inr (.inr (.inr ⟨rfl, this.tp⟩)), by simp⟩, ?_⟩
    show (itT (joinT (l.size + r.size) l k v g r)).map _ = _
    rw [this.items]; simp [itsC]
theorem joinC_size {c : Int} {l r : Tr} (hl : OkP c l) (hr : OkP c r) (x : It) : (joinC c l x r).size = l.size + 1 + r.size := by
  have := congrArg List.length (joinC_ok hl hr x).2
  simp only [itsC_len, List.length_append, List.length_cons] at this
  omega
def wholeC (c : Int) (t : Tr) : Tr := if c = 2 then blkR t else t
theorem wholeC_ok {c : Int} {t : Tr} (h : OkP c t) : OkM c (wholeC c t) ∧ itsC c (wholeC c t) = itsC c t := by
  unfold wholeC
  split
  · rename_i e; subst e
    have h : Rb t := by simpa [OkP] using h
    have := blkR_ok h
    refine ⟨⟨.inr (.inl ⟨rfl, this.1⟩), fun _ => this.2.1⟩, ?_⟩
    rw [itsC_pairs (by decide), itsC_pairs (by decide), blkR_pairs]
  · rename_i e
    exact ⟨⟨h, fun e' => absurd e' e⟩, rfl⟩
theorem wholeC_size {c : Int} {t : Tr} (h : OkP c t) : (wholeC c t).size = t.size := by
  rw [← itsC_len c, ← itsC_len c t, (wholeC_ok h).2]
/-! ### parted -/
def rootC (c : Int) (t : Tr) : It := if t.nn then itC c (t.key, t.val, t.tag) else (0, 0, 0)
def splitC (c o key : Int) : Tr → Tr × Option It × Tr
  | .nil => (.nil, none, .nil)
  | .node l k v g r =>
    if cmpI o k key < 0 then (joinC c l (itC c (k, v, g)) (splitC c o key r).1, (splitC c o key r).2.1, (splitC c o key r).2.2)
    else if 0 < cmpI o k key then ((splitC c o key l).1, (splitC c o key l).2.1, joinC c (splitC c o key l).2.2 (itC c (k, v, g)) r)
    else (wholeC c l, some (itC c (k, v, g)), wholeC c r)
abbrev asc (o : Int) (l : List It) : Prop := (l.map (·.1)).Pairwise (ltO o)
def ltF (o key : Int) (l : List It) : List It := l.filter fun x => decide (cmpI o x.1 key < 0)
def eqF (o key : Int) (l : List It) : List It := l.filter fun x => decide (cmpI o x.1 key = 0)
def gtF (o key : Int) (l : List It) : List It := l.filter fun x => decide (0 < cmpI o x.1 key)
theorem cmpI_eqr {o a b c : Int} (h1 : cmpI o a b < 0) (h2 : cmpI o b c = 0) : cmpI o a c < 0 := by
  unfold cmpI at *
  split at h1
  · rename_i h
    rw [if_pos h] at h2 ⊢
    split at h1
    · split at h2
      · omega
      · split at h2
        · omega
        · rw [if_pos (by omega)]; omega
    · split at h1 <;> omega
  · omega
theorem cmpI_eql {o a b c : Int} (h1 : cmpI o a b < 0) (h2 : cmpI o a c = 0) : 0 < cmpI o b c := by
  unfold cmpI at *
  split at h1
  · rename_i h
    rw [if_pos h] at h2 ⊢
    split at h1
    · split at h2
      · omega
      · split at h2
        · omega
        · rw [if_neg (by omega), if_pos (by omega)]; omega
    · split at h1 <;> omega
  · omega
theorem asc_node {o c : Int} {l r : Tr} {k v g : Int} (h : asc o (itsC c (.node l k v g r))) : asc o (itsC c l) ∧ asc o (itsC c r) ∧ (∀ x ∈ itsC c l, cmpI o x.1 k < 0) ∧ (∀ x ∈ itsC c r, cmpI o k x.1 < 0) := by
  rw [itsC_node] at h
  unfold asc at h ⊢
  simp only [List.map_append, List.map_cons, List.pairwise_append, List.pairwise_cons, itC_key, List.mem_map, List.mem_cons] at h
  refine ⟨h.1, h.2.1.2, fun x hx => h.2.2 _ ⟨x, hx, rfl⟩ _ (.inl rfl), fun x hx => h.2.1.1 _ ⟨x, hx, rfl⟩⟩
theorem filt_all {p : It → Bool} {l : List It} (h : ∀ x ∈ l, p x = true) : l.filter p = l := List.filter_eq_self.2 h
theorem filt_no {p : It → Bool} {l : List It} (h : ∀ x ∈ l, p x = false) : l.filter p = [] := List.filter_eq_nil_iff.2 fun x hx => by simp [h x hx]
structure SplitOk (c o key : Int) (l : List It) (s : Tr × Option It × Tr) : Prop where
  okl : OkM c s.1
  okr : OkM c s.2.2
  lt : itsC c s.1 = ltF o key l
  eq : s.2.1.toList = eqF o key l
  gt : itsC c s.2.2 = gtF o key l
theorem splitC_ok {c o key : Int} : ∀ {t : Tr}, OkP c t → asc o (itsC c t) → SplitOk c o key (itsC c t) (splitC c o key t)
  | .nil, h, _ => ⟨.nil h.s, .nil h.s, rfl, rfl, rfl⟩
  | .node l k v g r, h, ha => by
    obtain ⟨hl, hr⟩ := h.sides
    obtain ⟨al, ar, bl, br⟩ := asc_node ha
    have IL := splitC_ok (key := key) hl al
    have IR := splitC_ok (key := key) hr ar
    unfold splitC
    split
    · rename_i h1
      have j := joinC_ok hl IR.okl.1 (itC c (k, v, g))
      have e1 : ∀ x ∈ itsC c l, cmpI o x.1 key < 0 := fun x hx => cmpI_trans (bl x hx) h1
      refine ⟨j.1, IR.okr, ?_, ?_, ?_⟩
      · rw [j.2, IR.lt, itsC_node, itC_itC]
        unfold ltF
        rw [List.filter_append, List.filter_cons, filt_all (l := itsC c l) (fun x hx => decide_eq_true (e1 x hx)), itC_key, if_pos (decide_eq_true h1)]
      · rw [IR.eq, itsC_node]
        unfold eqF
        rw [List.filter_append, List.filter_cons, filt_no (l := itsC c l) (fun x hx => decide_eq_false (by have := e1 x hx; omega)), itC_key, if_neg (by simp; omega)]; rfl
      · rw [IR.gt, itsC_node]
        unfold gtF
        rw [List.filter_append, List.filter_cons, filt_no (l := itsC c l) (fun x hx => decide_eq_false (by have := e1 x hx; omega)), itC_key, if_neg (by simp; omega)]; rfl
    · rename_i h1
      split
      · rename_i h2
        have j := joinC_ok IL.okr.1 hr (itC c (k, v, g))
        have e1 : ∀ x ∈ itsC c r, 0 < cmpI o x.1 key := fun x hx => cmpI_neg (cmpI_trans (cmpI_pos h2) (br x hx))
        refine ⟨IL.okl, j.1, ?_, ?_, ?_⟩
        · rw [IL.lt, itsC_node]
          unfold ltF
          rw [List.filter_append, List.filter_cons, filt_no (l := itsC c r) (fun x hx => decide_eq_false (by have := e1 x hx; omega)), itC_key, if_neg (by simp; omega)]; simp
        · rw [IL.eq, itsC_node]
          unfold eqF
          rw [List.filter_append, List.filter_cons, filt_no (l := itsC c r) (fun x hx => decide_eq_false (by have := e1 x hx; omega)), itC_key, if_neg (by simp; omega)]; simp
        · rw [j.2, IL.gt, itsC_node, itC_itC]
          unfold gtF
          rw [List.filter_append, List.filter_cons, filt_all (l := itsC c r) (fun x hx => decide_eq_true (e1 x hx)), itC_key, if_pos (decide_eq_true h2)]
      · rename_i h2
        have h0 : cmpI o k key = 0 := by omega
        have e1 : ∀ x ∈ itsC c l, cmpI o x.1 key < 0 := fun x hx => cmpI_eqr (bl x hx) h0
        have e2 : ∀ x ∈ itsC c r, 0 < cmpI o x.1 key := fun x hx => cmpI_eql (br x hx) h0
        have wl := wholeC_ok hl
        have wr := wholeC_ok hr
        refine ⟨wl.1, wr.1, ?_, ?_, ?_⟩
        · rw [wl.2, itsC_node]
          unfold ltF
          rw [List.filter_append, List.filter_cons, filt_all (l := itsC c l) (fun x hx => decide_eq_true (e1 x hx)), filt_no (l := itsC c r) (fun x hx => decide_eq_false (by have := e2 x hx; omega)), itC_key, if_neg (by simp; omega)]; simp
        · rw [itsC_node]
          unfold eqF
          rw [List.filter_append, List.filter_cons, filt_no (l := itsC c l) (fun x hx => decide_eq_false (by have := e1 x hx; omega)), filt_no (l := itsC c r) (fun x hx => decide_eq_false (by have := e2 x hx; omega)), itC_key, if_pos (decide_eq_true h0)]; rfl
        · rw [wr.2, itsC_node]
          unfold gtF
          rw [List.filter_append, List.filter_cons, filt_no (l := itsC c l) (fun x hx => decide_eq_false (by have := e1 x hx; omega)), filt_all (l := itsC c r) (fun x hx => decide_eq_true (e2 x hx)), itC_key, if_neg (by simp; omega)]; rfl
/-! ### cut off, and two made into one -/
def lastC (c : Int) : Tr → Tr × It
  | .nil => (.nil, (0, 0, 0))
  | .node l k v g .nil => (wholeC c l, itC c (k, v, g))
  | .node l k v g r => (joinC c l (itC c (k, v, g)) (lastC c r).1, (lastC c r).2)
theorem lastC_ok {c : Int} : ∀ {t : Tr}, t.nn = true → OkP c t → OkM c (lastC c t).1 ∧ itsC c t = itsC c (lastC c t).1 ++ [(lastC c t).2]
  | .nil, h, _ => by cases h
  | .node l k v g .nil, _, h => by
    have w := wholeC_ok h.sides.1
    unfold lastC
    refine ⟨w.1, ?_⟩
    rw [itsC_node]
    simp only [w.2]; rfl
  | .node l k v g (.node a b d e f), _, h => by
    have I := lastC_ok (t := .node a b d e f) rfl h.sides.2
    have j := joinC_ok h.sides.1 I.1.1 (itC c (k, v, g))
    unfold lastC
    refine ⟨j.1, ?_⟩
    rw [itsC_node, j.2, itC_itC, I.2]
    simp
def join2C (c : Int) (l r : Tr) : Tr := if l.nn then joinC c (lastC c l).1 (lastC c l).2 r else wholeC c r
theorem lastC_it {c : Int} : ∀ {t : Tr}, t.nn = true → itC c (lastC c t).2 = (lastC c t).2
  | .nil, h => by cases h
  | .node l k v g .nil, _ => itC_itC _ _
  | .node l k v g (.node a b d e f), _ => lastC_it (t := .node a b d e f) rfl
theorem join2C_ok {c : Int} {l r : Tr} (hl : OkP c l) (hr : OkP c r) : OkM c (join2C c l r) ∧ itsC c (join2C c l r) = itsC c l ++ itsC c r := by
  unfold join2C
  split
  · rename_i hn
    have I := lastC_ok hn hl
    have j := joinC_ok I.1.1 hr (lastC c l).2
    refine ⟨j.1, ?_⟩
    rw [j.2, lastC_it hn, I.2]
    simp
  · rename_i hn
    have w := wholeC_ok hr
    have hn : l.nn = false := by simpa using hn
    rw [Tr.size0 hn]
    exact ⟨w.1, w.2⟩
end Go.Proofs.YtlddfgfmkapoiaaGreat

namespace Go.Proofs.YtlddfgfmkapoiaaGreat
open Go Go.Sh

theorem o_disable (w : World) : (callFunc 353 #[]).run Tryz.prog w = .ok (.value (.tuple #[])) w := run_call_mark0 Tryz.func353 (by kernel_rfl) (by kernel_rfl) (by kernel_rfl) .disable (by kernel_rfl) w
theorem o_enable (w : World) : (callFunc 355 #[]).run Tryz.prog w = .ok (.value (.tuple #[])) w := run_call_mark0 Tryz.func355 (by kernel_rfl) (by kernel_rfl) (by kernel_rfl) .enable (by kernel_rfl) w
theorem o_acquire (a : Addr) (w : World) : (callFunc 356 #[.pointer (some a)]).run Tryz.prog w = .ok (.value (.tuple #[])) w := run_call_marked Tryz.func356 (by kernel_rfl) (by kernel_rfl) (by kernel_rfl) .acquire (by kernel_rfl) a w
theorem o_releaseMerge (a : Addr) (w : World) : (callFunc 358 #[.pointer (some a)]).run Tryz.prog w = .ok (.value (.tuple #[])) w := run_call_marked Tryz.func358 (by kernel_rfl) (by kernel_rfl) (by kernel_rfl) .releaseMerge (by kernel_rfl) a w
set_option maxRecDepth 100000 in
set_option maxHeartbeats 1600000 in
/-- the store, as a deferred call -/
theorem o_store (a : Addr) (x : Value) (u : FrameMode) (w : World) (hc : w.cell? a = some x) (hz : w.frozen? a = false) :
    CallsD Tryz.prog 338 #[.pointer (some a), .bool true] u w fun e u' w' => u' = u ∧ (e = .returned (.tuple #[]) ∧ w' = w.drew.setCell a (.int .u32 1)) := by
  have hc' : w.drew.cell? a = some x := by go_simp
  have hz' : w.drew.frozen? a = false := by go_simp
  have hst := run_call_store (P := Tryz.prog) Tryz.func350 (by kernel_rfl) (by kernel_rfl) (by kernel_rfl) (by kernel_rfl) (k := .u32) (y := 1) hc' hz'
  go_enter_d Tryz.func338, Tryz.ntmps338
  go_wp2
  go_region_calls
  all_goals (go_end0; exact ⟨rfl, rfl⟩)
set_option maxRecDepth 100000 in
set_option maxHeartbeats 1600000 in
/-- the unlock, as a deferred call -/
theorem o_unlock (a : Addr) (u : FrameMode) (w : World) (hc : w.cell? a = some (.int .i32 1)) (hz : w.frozen? a = false) :
    CallsD Tryz.prog 337 #[.pointer (some a)] u w fun e u' w' => u' = u ∧ (e = .returned (.tuple #[]) ∧ w' = w.setCell a (.int .i32 0)) := by
  have hd := o_disable
  have he := o_enable
  have hr := o_releaseMerge
  have hadd := run_call_add (P := Tryz.prog) Tryz.func359 (by kernel_rfl) (by kernel_rfl) (by kernel_rfl) .i32 (by kernel_rfl) (y := -1) (s := 0) hc hz (by simp [go_sem]; rfl)
  have hcv := run_convert_to_unsafe (P := Tryz.prog) (src := 382) (dst := 386) Tryz.underlying382 Tryz.underlying386 (by kernel_rfl) hc
  go_enter_d Tryz.func337, Tryz.ntmps337
  go_wp2
  go_end0
  go_wp2
  go_end0
  exact ⟨rfl, rfl⟩
set_option maxRecDepth 100000 in
set_option maxHeartbeats 1600000 in
theorem o_lock (a : Addr) (w : World) (hc : w.cell? a = some (.int .i32 0)) (hz : w.frozen? a = false) :
    Calls Tryz.prog 336 #[.pointer (some a)] w fun e w' => e = .returned (.tuple #[]) ∧ w' = w.setCell a (.int .i32 1) := by
  have hd := o_disable
  have he := o_enable
  have ha := o_acquire
  have hcas := run_call_cas_hit (P := Tryz.prog) Tryz.func354 (by kernel_rfl) (by kernel_rfl) (by kernel_rfl) .i32 (by kernel_rfl) (y := 1) hc hz
  have hc' : (w.setCell a (.int .i32 1)).cell? a = some (.int .i32 1) := World.cell?_setCell_same w a _ hc
  have hcv := run_convert_to_unsafe (P := Tryz.prog) (src := 382) (dst := 386) Tryz.underlying382 Tryz.underlying386 (by kernel_rfl) hc'
  go_enter Tryz.func336, Tryz.ntmps336
  go_wp2
  first | go_end0 | (simp only [Exit.inBlock, Exit.then]; refine bodyPost_ret (results_none rfl _ _ _) rfl ?_) | refine bodyPost_ret (results_none rfl _ _ _) rfl ?_
  go_wp2
  go_end0
  exact ⟨rfl, rfl⟩
end Go.Proofs.YtlddfgfmkapoiaaGreat

namespace Go.Proofs.YtlddfgfmkapoiaaGreat
open Go Go.Sh

/-- what the function that is done once finds, and leaves -/
structure OnceQ (b off : Nat) (w : World) : Prop where
  c0 : w.cell? ⟨b, off, none⟩ = some (.int .u32 0)
  c1 : w.cell? ⟨b, off + 1, none⟩ = some (.int .i32 1)
  f0 : w.frozen? ⟨b, off, none⟩ = false
  f1 : w.frozen? ⟨b, off + 1, none⟩ = false
set_option maxRecDepth 100000 in
set_option maxHeartbeats 1600000 in
theorem o_slow (b off : Nat) (pl : Addr) (w : World) (Q : World → Prop)
    (h0 : w.cell? ⟨b, off, none⟩ = some (.int .u32 0)) (h1 : w.cell? ⟨b, off + 1, none⟩ = some (.int .i32 0)) (_f0 : w.frozen? ⟨b, off, none⟩ = false) (f1 : w.frozen? ⟨b, off + 1, none⟩ = false)
    (hf : Calls Tryz.prog 245 #[.pointer (some pl)] (w.setCell ⟨b, off + 1, none⟩ (.int .i32 1)) fun e w2 => e = .returned (.tuple #[]) ∧ Q w2) (hQ : ∀ w2, Q w2 → OnceQ b off w2) :
    Calls Tryz.prog 304 #[.pointer (some ⟨b, off, none⟩), .func (.func 245) #[] #[.pointer (some pl)]] w fun e w' => e = .returned (.tuple #[]) ∧
      ∃ w2, Q w2 ∧ w' = (w2.drew.setCell ⟨b, off, none⟩ (.int .u32 1)).setCell ⟨b, off + 1, none⟩ (.int .i32 0) := by
  have hl := run_call_load (P := Tryz.prog) Tryz.func335 (by kernel_rfl) (by kernel_rfl) (by kernel_rfl) .u32 (by kernel_rfl) (w := w.setCell ⟨b, off + 1, none⟩ (.int .i32 1)) (a := ⟨b, off, none⟩) (x := 0) ((World.cell?_setCell_other _ ⟨b, off + 1, none⟩ ⟨b, off, none⟩ _ (by simp)).trans h0)
  have hnot : ∀ (x : Bool) (w : World), (Op.unary .not (.bool x)).run Tryz.prog w = .ok (.bool (!x)) w := fun _ _ => rfl
  go_enter_defers Tryz.func304, Tryz.ntmps304
  go_wp2_with (first | (go_at_call 336; refine (o_lock ⟨b, off + 1, none⟩ _ (by go_simp) (by go_simp)).mono ?_; rintro e w' ⟨rfl, rfl⟩) | (go_at_call 245; refine hf.mono ?_; rintro e w2 ⟨rfl, hw2⟩) | (go_at_call 303; go_in))
  obtain ⟨q0, q1, g0, g1⟩ := hQ w2 hw2
  show Leaves _ _ _ _ _ _ _
  refine leaves_cons (f := 338) (args := #[.pointer (some ⟨b, off, none⟩), .bool true]) (by simp) (by simp [go_sem]) ?_
  refine (o_store ⟨b, off, none⟩ (.int .u32 0) .returning _ q0 g0).mono ?_
  rintro e u' w'' ⟨rfl, rfl, rfl⟩
  refine leaves_cons (f := 337) (args := #[.pointer (some ⟨b, off + 1, none⟩)]) (by simp [settle]) (by simp [go_sem]) ?_
  refine (o_unlock ⟨b, off + 1, none⟩ _ _ ?_ (by simp [g1])).mono ?_
  · refine (World.cell?_setCell_other _ ⟨b, off, none⟩ ⟨b, off + 1, none⟩ _ (by simp)).trans ?_
    rw [World.cell?_drew]
    exact q1
  rintro e u' w'' ⟨rfl, rfl, rfl⟩
  simp [Leaves, settle, results, Tryz.results304]
  exact ⟨w2, hw2, rfl⟩
set_option maxRecDepth 100000 in
set_option maxHeartbeats 1600000 in
/-- not yet done -/
theorem o_first (b off : Nat) (pl : Addr) (w : World) (Q : World → Prop)
    (h0 : w.cell? ⟨b, off, none⟩ = some (.int .u32 0)) (h1 : w.cell? ⟨b, off + 1, none⟩ = some (.int .i32 0)) (f0 : w.frozen? ⟨b, off, none⟩ = false) (f1 : w.frozen? ⟨b, off + 1, none⟩ = false)
    (hf : Calls Tryz.prog 245 #[.pointer (some pl)] (w.setCell ⟨b, off + 1, none⟩ (.int .i32 1)) fun e w2 => e = .returned (.tuple #[]) ∧ Q w2) (hQ : ∀ w2, Q w2 → OnceQ b off w2) :
    Calls Tryz.prog 244 #[.pointer (some ⟨b, off, none⟩), .func (.func 245) #[] #[.pointer (some pl)]] w fun e w' => e = .returned (.tuple #[]) ∧
      ∃ w2, Q w2 ∧ w' = (w2.drew.setCell ⟨b, off, none⟩ (.int .u32 1)).setCell ⟨b, off + 1, none⟩ (.int .i32 0) := by
  have hl := run_call_load (P := Tryz.prog) Tryz.func335 (by kernel_rfl) (by kernel_rfl) (by kernel_rfl) .u32 (by kernel_rfl) h0
  have hnot : ∀ (x : Bool) (w : World), (Op.unary .not (.bool x)).run Tryz.prog w = .ok (.bool (!x)) w := fun _ _ => rfl
  go_enter Tryz.func244, Tryz.ntmps244
  go_wp2_with (first | (go_at_call 304; refine (o_slow b off pl _ Q h0 h1 f0 f1 hf hQ).mono ?_; rintro e w' ⟨rfl, w2, hw2, rfl⟩) | (go_at_call 303; go_in))
  go_end0
  exact ⟨rfl, w2, hw2, rfl⟩
set_option maxRecDepth 100000 in
set_option maxHeartbeats 1600000 in
/-- done already -/
theorem o_done (a : Addr) (fv : Value) (w : World) (h0 : w.cell? a = some (.int .u32 1)) :
    Calls Tryz.prog 244 #[.pointer (some a), fv] w fun e w' => e = .returned (.tuple #[]) ∧ w' = w := by
  have hl := run_call_load (P := Tryz.prog) Tryz.func335 (by kernel_rfl) (by kernel_rfl) (by kernel_rfl) .u32 (by kernel_rfl) h0
  have hnot : ∀ (x : Bool) (w : World), (Op.unary .not (.bool x)).run Tryz.prog w = .ok (.bool (!x)) w := fun _ _ => rfl
  go_enter Tryz.func244, Tryz.ntmps244
  go_wp2
  go_end0
  exact ⟨rfl, rfl⟩
/-- the count of joins -/
theorem o_add {a : Addr} {x : Int} {w : World} {R : Ending → World → Prop} (hc : w.cell? a = some (.int .u64 x)) (hz : w.frozen? a = false) (h : R (.returned (.int .u64 (IntKind.wrap .u64 (x + 1)))) (w.setCell a (.int .u64 (IntKind.wrap .u64 (x + 1))))) :
    doCall Tryz.prog (.func (.func 243) #[] #[]) #[.pointer (some a), .int .u64 1] w R := by
  refine ⟨?_⟩
  have hadd := run_call_add (P := Tryz.prog) Tryz.func243 (by kernel_rfl) (by kernel_rfl) (by kernel_rfl) .u64 (by kernel_rfl) (y := 1) (s := IntKind.wrap .u64 (x + 1)) hc hz (by simp [go_sem])
  have e : (invoke (.fn (.func 243) #[]) (#[] ++ #[.pointer (some a), .int .u64 1])).run Tryz.prog w = .ok (.value (.int .u64 (IntKind.wrap .u64 (x + 1)))) (w.setCell a (.int .u64 (IntKind.wrap .u64 (x + 1)))) := by
    simp only [invoke]
    simpa using hadd
  unfold callV goV
  simp only [e]
  exact h
end Go.Proofs.YtlddfgfmkapoiaaGreat

namespace Go.Proofs.YtlddfgfmkapoiaaGreat
open Go Go.Sh Go.RowKit

theorem do_maxk {P : Program} {ts : Array TypeId} {ty : TypeId} {bs : Array Bool} {kk : IntKind} {a b : Int} {w : World} {R : Ending → World → Prop} (h : R (.returned (.int kk (max a b))) w) :
    doGo P (.builtin .max ts ty bs) #[.int kk a, .int kk b] w R := by
  refine ⟨?_⟩
  unfold goV
  have e : max a b = (if b > a then b else a) := by omega
  have hr : (Builtin.max_ ts ty #[.int kk a, .int kk b]).run P w = .ok (.int kk (max a b)) w := by rw [e]; simp [Builtin.max_, Builtin.max2]
  simp only [invoke, builtin, Sem.run_bind, hr, Result.andThen_ok, Sem.run_pure]
  exact h
theorem do_mink {P : Program} {ts : Array TypeId} {ty : TypeId} {bs : Array Bool} {kk : IntKind} {a b : Int} {w : World} {R : Ending → World → Prop} (h : R (.returned (.int kk (min a b))) w) :
    doGo P (.builtin .min ts ty bs) #[.int kk a, .int kk b] w R := by
  refine ⟨?_⟩
  unfold goV
  have e : min a b = (if b < a then b else a) := by omega
  have hr : (Builtin.min_ ts ty #[.int kk a, .int kk b]).run P w = .ok (.int kk (min a b)) w := by rw [e]; simp [Builtin.min_, Builtin.min2]
  simp only [invoke, builtin, Sem.run_bind, hr, Result.andThen_ok, Sem.run_pure]
  exact h
theorem wrapU_of {x : Int} (h1 : 0 ≤ x) (h2 : x < 18446744073709551616) : IntKind.wrap .u64 x = x := by
  simp only [IntKind.wrap, IntKind.signed, IntKind.bits]
  simp
  omega
abbrev BIG : Nat := 1000000000000
theorem c_arank {p : Option Addr} {t : Tr} {w : World} {R : Ending → World → Prop} (ht : IsN w p t) (h1 : 0 ≤ t.tag) (h2 : t.tag ≤ BIG) (h : ∀ w', Ext w w' → R (.returned (.int .i64 t.tag)) w') : Calls Tryz.prog 221 #[.pointer p] w R := by
  refine sh221_ok _ ?_
  unfold sh221
  refine do_call Tryz.call196 (c_tag ht fun w1 e1 => retS_ret ⟨_, rfl, ?_⟩)
  rw [wrap_of (by omega) (by simp only [BIG] at h2; omega)]
  exact h _ e1
theorem c_amake {pl pr : Option Addr} {l r : Tr} {k v : Int} {w : World} {R : Ending → World → Prop} (hl : IsN w pl l) (hr : IsN w pr r) (hs : l.size + 1 + r.size ≤ BIG) (t1 : 0 ≤ l.tag ∧ l.tag ≤ BIG) (t2 : 0 ≤ r.tag ∧ r.tag ≤ BIG)
    (h : ∀ q w', Ext w w' → IsN w' q (mkA l k v r) → R (.returned (.pointer q)) w') : Calls Tryz.prog 265 #[.pointer pl, .int .i64 k, .int .i64 v, .pointer pr] w R := by
  refine sh265_ok _ _ _ _ ?_
  unfold sh265
  simp only [BIG] at hs t1 t2
  refine do_call Tryz.call196 (c_tag hl fun w1 e1 => retS_ret ⟨_, rfl, ?_⟩)
  refine do_call Tryz.call196 (c_tag (hr.ext e1) fun w2 e2 => retS_ret ⟨_, rfl, ?_⟩)
  have E2 := e1.trans e2
  refine do_maxk (retS_ret ⟨_, rfl, ?_⟩)
  rw [wrapU_of (by omega) (by omega)]
  exact do_call Tryz.call105 (c_new (hl.ext E2) (hr.ext E2) (by omega) fun b w3 e3 h3 _ => retS_ret ⟨_, rfl, h _ _ (E2.trans e3) h3⟩)
/-! ### sides -/
def inF (s : Bool) : Nat := cond s 123 125
def outF (s : Bool) : Nat := cond s 125 123
def mkFA (s : Bool) : Nat := cond s 309 312
theorem do_in (s : Bool) {p : Option Addr} {t : Tr} {w : World} {R : Ending → World → Prop} (ht : IsN w p t) (h : ∀ q, IsN w q (inS s t) → R (.returned (.pointer q)) w) : doCall Tryz.prog (.func (.func (inF s)) #[] #[]) #[.pointer p] w R := by
  cases s
  · exact do_call Tryz.call125 (c_right ht h)
  · exact do_call Tryz.call123 (c_left ht h)
theorem do_out (s : Bool) {p : Option Addr} {t : Tr} {w : World} {R : Ending → World → Prop} (ht : IsN w p t) (h : ∀ q, IsN w q (outS s t) → R (.returned (.pointer q)) w) : doCall Tryz.prog (.func (.func (outF s)) #[] #[]) #[.pointer p] w R := by
  cases s
  · exact do_call Tryz.call123 (c_left ht h)
  · exact do_call Tryz.call125 (c_right ht h)
theorem do_mkA (s : Bool) {pi pp po : Option Addr} {i o pr : Tr} {w : World} {R : Ending → World → Prop} (hi : IsN w pi i) (hp : IsN w pp pr) (ho : IsN w po o) (hs : i.size + 1 + o.size ≤ BIG) (t1 : 0 ≤ i.tag ∧ i.tag ≤ BIG) (t2 : 0 ≤ o.tag ∧ o.tag ≤ BIG)
    (h : ∀ q w', Ext w w' → IsN w' q (mkAS s i pr.key pr.val o) → R (.returned (.pointer q)) w') : doCall Tryz.prog (.func (.func (mkFA s)) #[] #[]) #[.pointer pi, .pointer pp, .pointer po] w R := by
  cases s
  · refine do_call Tryz.call312 (sh312_ok _ _ _ ?_)
    unfold sh312
    refine do_call Tryz.call108 (c_key hp fun w1 e1 => retS_ret ⟨_, rfl, ?_⟩)
    refine do_call Tryz.call126 (c_val (hp.ext e1) fun w2 e2 => retS_ret ⟨_, rfl, ?_⟩)
    have E2 := e1.trans e2
    exact do_call Tryz.call265 (c_amake (ho.ext E2) (hi.ext E2) (by omega) t2 t1 fun q w3 e3 h3 => retS_ret ⟨_, rfl, h _ _ (E2.trans e3) h3⟩)
  · refine do_call Tryz.call309 (sh309_ok _ _ _ ?_)
    unfold sh309
    refine do_call Tryz.call108 (c_key hp fun w1 e1 => retS_ret ⟨_, rfl, ?_⟩)
    refine do_call Tryz.call126 (c_val (hp.ext e1) fun w2 e2 => retS_ret ⟨_, rfl, ?_⟩)
    have E2 := e1.trans e2
    exact do_call Tryz.call265 (c_amake (hi.ext E2) (ho.ext E2) hs t1 t2 fun q w3 e3 h3 => retS_ret ⟨_, rfl, h _ _ (E2.trans e3) h3⟩)
abbrev sideA (s : Bool) : Value := .agg #[.func (.func (inF s)) #[] #[], .func (.func (outF s)) #[] #[], .func (.func (mkFA s)) #[] #[]]
abbrev sideAc (s : Bool) : Array Value := #[.func (.func (inF s)) #[] #[], .func (.func (outF s)) #[] #[], .func (.func (mkFA s)) #[] #[]]
theorem do_st3 {w : World} {b : Nat} {v0 v1 v2 x0 x1 x2 : Value} {t : TypeId} (h : Blk w b #[v0, v1, v2] t) {K : World → Prop} (k : ∀ w', Blk w' b #[x0, x1, x2] t → w.grownBy w' (some b) → K w') :
    doSt ((blk b).add 0) x0 w fun w1 => doSt ((blk b).add 1) x1 w1 fun w2 => doSt ((blk b).add 2) x2 w2 K := by
  refine do_st h (i := 0) (add_blk b 0) (by simp) fun w1 h1 g1 => ?_
  have k1 : Blk w1 b #[x0, v1, v2] t := h1
  refine do_st k1 (i := 1) (add_blk b 1) (by simp) fun w2 h2 g2 => ?_
  have k2 : Blk w2 b #[x0, x1, v2] t := h2
  refine do_st k2 (i := 2) (add_blk b 2) (by simp) fun w3 h3 g3 => ?_
  exact k _ h3 (grown_trans (grown_trans g1 g2) g3)
theorem c_aside (s : Bool) {w : World} {R : Ending → World → Prop} (h : ∀ w', Ext w w' → R (.returned (sideA s)) w') : doCall Tryz.prog (.func (.func (cond s 266 268)) #[] #[]) #[] w R := by
  cases s
  · refine do_call Tryz.call268 (sh268_ok ?_)
    unfold sh268
    refine ⟨do_st3 (blk_alloc w _ _) fun w1 h1 g1 => ?_⟩
    exact ⟨_, _, _, h1.cell (i := 0) (add_blk _ _) rfl, _, _, _, h1.cell (i := 1) (add_blk _ _) rfl, _, _, _, h1.cell (i := 2) (add_blk _ _) rfl, h _ ((ext_alloc w _).st g1 (Nat.le_refl _))⟩
  · refine do_call Tryz.call266 (sh266_ok ?_)
    unfold sh266
    refine ⟨do_st3 (blk_alloc w _ _) fun w1 h1 g1 => ?_⟩
    exact ⟨_, _, _, h1.cell (i := 0) (add_blk _ _) rfl, _, _, _, h1.cell (i := 1) (add_blk _ _) rfl, _, _, _, h1.cell (i := 2) (add_blk _ _) rfl, h _ ((ext_alloc w _).st g1 (Nat.le_refl _))⟩
/-- heights that are not too large -/
abbrev Tg (t : Tr) : Prop := 0 ≤ t.tag ∧ t.tag ≤ BIG
theorem mkAS_size (s : Bool) (i o : Tr) (k v : Int) : (mkAS s i k v o).size = i.size + 1 + o.size := by cases s <;> simp [mkAS, mkA, Tr.size] <;> omega
theorem c_inward (s : Bool) {p : Option Addr} {t : Tr} {w : World} {R : Ending → World → Prop} (ht : IsN w p t) (hs : (inS s t).size + 1 + ((inS s (outS s t)).size + 1 + (outS s (outS s t)).size) + 1 ≤ BIG)
    (t1 : Tg (inS s t)) (t2 : Tg (inS s (outS s t))) (t3 : Tg (outS s (outS s t))) (t4 : max (inS s t).tag (inS s (outS s t)).tag + 1 ≤ BIG)
    (h : ∀ q w', Ext w w' → IsN w' q (inwardA s t) → R (.returned (.pointer q)) w') : Calls Tryz.prog 310 #[sideA s, .pointer p] w R := by
  refine sh310_ok _ _ _ _ _ _ _ _ _ _ ?_
  unfold sh310
  refine ⟨?_⟩
  have e1 := ext_alloc w (.cells (sideAc s) 331)
  have hb := blk_alloc w (sideAc s) 331
  generalize w.alloc (.cells (sideAc s) 331) = w1 at *
  refine ⟨_, _, _, hb.cell (i := 1) (add_blk _ _) rfl, do_out s (ht.ext e1) fun qu hu => retS_ret ⟨_, rfl, ?_⟩⟩
  refine ⟨⟨fun w' => Ext w1 w', ext_drew _, _, _, _, fun w' e => (hb.ext e).cell (i := 2) (add_blk _ _) rfl, _, _, _, fun w' e => (hb.ext e).cell (i := 2) (add_blk _ _) rfl, _, _, _, fun w' e => (hb.ext e).cell (i := 0) (add_blk _ _) rfl, _, _, _, fun w' e => (hb.ext e).cell (i := 0) (add_blk _ _) rfl, _, _, _, fun w' e => (hb.ext e).cell (i := 1) (add_blk _ _) rfl, ?_⟩⟩
  have d := ext_drew w1
  refine do_in s ((ht.ext e1).ext d) fun q1 h1 => retS_ret ⟨_, rfl, d, ?_⟩
  refine do_in s (hu.ext d) fun q2 h2 => retS_ret ⟨_, rfl, d, ?_⟩
  refine do_mkA s h1 ((ht.ext e1).ext d) h2 (by omega) t1 t2 fun q3 w3 e3 h3 => retS_ret ⟨_, rfl, d.trans e3, ?_⟩
  have E3 := d.trans e3
  refine do_out s (hu.ext E3) fun q4 h4 => retS_ret ⟨_, rfl, E3, ?_⟩
  refine do_mkA s h3 (hu.ext E3) h4 (by rw [mkAS_size]; omega) (by rw [mkAS_tag]; have := t1.1; omega) t3 fun q5 w5 e5 h5 => retS_ret ⟨_, rfl, E3.trans e5, h _ _ ((e1.trans E3).trans e5) h5⟩
theorem c_outward (s : Bool) {p : Option Addr} {t : Tr} {w : World} {R : Ending → World → Prop} (ht : IsN w p t) (hs : (outS s t).size + 1 + ((outS s (inS s t)).size + 1 + (inS s (inS s t)).size) + 1 ≤ BIG)
    (t1 : Tg (outS s t)) (t2 : Tg (outS s (inS s t))) (t3 : Tg (inS s (inS s t))) (t4 : max (outS s (inS s t)).tag (outS s t).tag + 1 ≤ BIG)
    (h : ∀ q w', Ext w w' → IsN w' q (outwardA s t) → R (.returned (.pointer q)) w') : Calls Tryz.prog 311 #[sideA s, .pointer p] w R := by
  refine sh311_ok _ _ _ _ _ _ _ _ _ _ ?_
  unfold sh311
  refine ⟨?_⟩
  have e1 := ext_alloc w (.cells (sideAc s) 331)
  have hb := blk_alloc w (sideAc s) 331
  generalize w.alloc (.cells (sideAc s) 331) = w1 at *
  refine ⟨_, _, _, hb.cell (i := 0) (add_blk _ _) rfl, do_in s (ht.ext e1) fun qu hu => retS_ret ⟨_, rfl, ?_⟩⟩
  refine ⟨⟨fun w' => Ext w1 w', ext_drew _, _, _, _, fun w' e => (hb.ext e).cell (i := 2) (add_blk _ _) rfl, _, _, _, fun w' e => (hb.ext e).cell (i := 0) (add_blk _ _) rfl, _, _, _, fun w' e => (hb.ext e).cell (i := 2) (add_blk _ _) rfl, _, _, _, fun w' e => (hb.ext e).cell (i := 1) (add_blk _ _) rfl, _, _, _, fun w' e => (hb.ext e).cell (i := 1) (add_blk _ _) rfl, ?_⟩⟩
  have d := ext_drew w1
  refine do_in s (hu.ext d) fun q1 h1 => retS_ret ⟨_, rfl, d, ?_⟩
  refine do_out s (hu.ext d) fun q2 h2 => retS_ret ⟨_, rfl, d, ?_⟩
  refine do_out s ((ht.ext e1).ext d) fun q3 h3 => retS_ret ⟨_, rfl, d, ?_⟩
  refine do_mkA s h2 ((ht.ext e1).ext d) h3 (by omega) t2 t1 fun q4 w4 e4 h4 => retS_ret ⟨_, rfl, d.trans e4, ?_⟩
  have E4 := d.trans e4
  refine do_mkA s (h1.ext e4) (hu.ext E4) h4 (by rw [mkAS_size]; omega) t3 (by rw [mkAS_tag]; have := t1.1; omega) fun q5 w5 e5 h5 => retS_ret ⟨_, rfl, E4.trans e5, h _ _ ((e1.trans E4).trans e5) h5⟩
end Go.Proofs.YtlddfgfmkapoiaaGreat

