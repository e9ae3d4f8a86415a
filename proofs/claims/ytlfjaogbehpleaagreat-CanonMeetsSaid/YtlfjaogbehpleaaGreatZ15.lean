/-
  What the functions of row do, part 3: rows of one's own: Clone, Insert, Delete, Put, Drop, Sum.
-/
/-
  What the document's answers of layer 4 (joineryref04) do.
-/
/-
  Trees, and rows of beads: plain. No claim of its own.
-/
/-
  What the functions of node do, and those of joineryref09 and joinerylaw09 that make trees of beads.
-/
/-
  Parts, Make, Pairs, Height of beads; whether beads are a tree.
-/
import Derived.Test.YtlfjaogbehpleaaGreatZ14
import Derived.Test.YtlfjaogbehpleaaGreatZ13

namespace Go.Proofs.YtlfjaogbehpleaaGreat
open Go Go.Sh Go.RowKit

/-- a row of pairs of one's own -/
abbrev OwnP (w : World) (base : Nat) (p : Option Addr) (n c : Nat) (l : List Pr) : Prop := w.ownsRow base 63 2 (.slice p n c) n (prs l)
theorem ownP_open {w : World} {base n c : Nat} {p : Option Addr} {l : List Pr} (h : OwnP w base p n c l) : (p = none ∧ n = 0 ∧ c = 0) ∨
    ∃ g cur, p = some ⟨g, 0, none⟩ ∧ base ≤ g ∧ Blk w g (List.toArray cur) 63 ∧ n ≤ c ∧ c ≤ maxLen ∧ cur.length = c * 2 ∧ cur.take (n * 2) = prs l := by
  rcases h.2 with ⟨hv, hn⟩ | ⟨g, cap, cur, hv, hb, hg, h1, h2, h3, h4⟩
  · cases hv; exact .inl ⟨rfl, rfl, rfl⟩
  · cases hv; exact .inr ⟨g, cur.toList, rfl, hb, hg, h1, h2, by simpa using h3, h4⟩
theorem ownP_len {w : World} {base n c : Nat} {p : Option Addr} {l : List Pr} (h : OwnP w base p n c l) : l.length = n := by have := h.1; simp at this; omega
theorem ownP_cs {w : World} {base n c : Nat} {p : Option Addr} {l : List Pr} (h : OwnP w base p n c l) : Cs w p (prs l) := Cs.of_row h
theorem ownP_nil (w : World) (base : Nat) : OwnP w base none 0 0 [] := World.ownsRow_nil _ _ _ _
theorem cs_prs_nil {w : World} {q : Option Addr} {l : List Pr} (h : Cs w q (prs l)) (hq : q = none) : l = [] := by
  subst hq
  cases l with
  | nil => rfl
  | cons x xs => obtain ⟨a, ha, _⟩ := h 0 (.int .i64 x.1) rfl; cases ha
theorem c_clone {l : List Pr} {q : Option Addr} {n c : Nat} {w : World} {R : Ending → World → Prop} (hl : Cs w q (prs l)) (hn : l.length = n) (hm : n ≤ 1000000000000)
    (h : ∀ p c' w', OwnP w' w.heap.size p n c' l → Ext w w' → R (.returned (.slice p n c')) w') : Calls Tryz.prog 37 #[.slice q n c] w R := by
  refine sh37_ok _ _ _ ?_
  unfold sh37
  cases q with
  | none =>
    have h0 := cs_prs_nil hl rfl
    subst h0
    have hn0 : n = 0 := by simpa using hn.symm
    subst hn0
    exact ifB_t rfl (h _ _ _ (ownP_nil w _) (ext_refl w))
  | some a =>
    refine ifB_f rfl ⟨?_⟩
    have e1 := ext_alloc w (.cells #[] 63)
    have hr := World.ownsRow_lit (base := w.heap.size) (size := 2) (e := 63) w #[] 0 (Nat.le_refl _) (by simp [maxLen]) (by simp)
    refine do_append elP hr (news := prs l) (hl.ext e1) (by simp [hn]) prs_one (by simp only [maxLen]; omega) (by omega) e1.size fun p c' w' h1 h2 => retS_ret ⟨_, _, _, rfl, ?_⟩
    simp only [Nat.zero_add, List.nil_append] at h1 ⊢
    exact h p c' w' h1 (e1.grown h2 (by rintro _ ⟨⟩; exact Nat.le_refl _))
theorem row_to {w w' : World} {base base' n c : Nat} {p : Option Addr} {l : List Pr} (h : OwnP w base p n c l) (e : Ext w w') (hb : base' ≤ base) : OwnP w' base' p n c l := row_mono (e.row h) hb
theorem ext_own {a w w' : World} {base n c : Nat} {p : Option Addr} {l : List Pr} (h : OwnP w base p n c l) (e : Ext a w) (g : w.grownBy w' (Value.slice p n c).ownBlock) (hb : a.heap.size ≤ base) : Ext a w' :=
  e.grown g fun k hk => Nat.le_trans hb (World.ownsRow.lt h k hk).1
/-- what is put -/
def putR (o p : Int) (l : List Pr) (x : Pr) : List Pr :=
  cond (mayR o l && may p) (cond (hasR o l x.1) (l.set (posR o l x.1) (x.1, comb p (l.getD (posR o l x.1) (0, 0)).2 x.2)) (l.take (posR o l x.1) ++ x :: l.drop (posR o l x.1))) []
theorem prs_set2 {l : List Pr} {k : Nat} (hk : k < l.length) (v : Int) : (prs l).set (k * 2 + 1) (.int .i64 v) = prs (l.set k (l[k].1, v)) := by
  induction l generalizing k with
  | nil => simp at hk
  | cons x xs ih =>
    cases k with
    | zero => rfl
    | succ k =>
      have := ih (k := k) (by simpa using hk)
      rw [show (k + 1) * 2 + 1 = k * 2 + 1 + 1 + 1 by omega]
      simp only [prs_cons, List.set_cons_succ, List.getElem_cons_succ, this]
theorem prs_set1 {l : List Pr} {k : Nat} (hk : k < l.length) (v : Int) : (prs l).set (k * 2) (.int .i64 v) = prs (l.set k (v, l[k].2)) := by
  induction l generalizing k with
  | nil => simp at hk
  | cons x xs ih =>
    cases k with
    | zero => rfl
    | succ k =>
      have := ih (k := k) (by simpa using hk)
      rw [show (k + 1) * 2 = k * 2 + 1 + 1 by omega]
      simp only [prs_cons, List.set_cons_succ, List.getElem_cons_succ, this]
theorem own_st2 {l : List Pr} {p : Option Addr} {n c base k : Nat} {w : World} (ho : OwnP w base p n c l) (hk : k < n) {a : Addr} (ha : ∃ b, p = some b ∧ a = b.add (k * 2)) {v : Int} {K : World → Prop}
    (h : ∀ w', OwnP w' base p n c (l.set k ((l[k]'(by rw [ownP_len ho]; exact hk)).1, v)) → w.grownBy w' (Value.slice p n c).ownBlock → K w') : doSt ((a.add 1).add 0) (.int .i64 v) w K := by
  obtain ⟨b, hb, rfl⟩ := ha
  have hl := ownP_len ho
  rcases ownP_open ho with ⟨hp, hn0, _⟩ | ⟨g, cur, hp, hbg, hg, _, hcm, hcl, hct⟩
  · omega
  subst hp; cases hb
  rw [add_zero', add_add]
  have ea : (⟨g, 0, none⟩ : Addr).add (k * 2 + 1) = ⟨g, k * 2 + 1, none⟩ := add_blk g _
  rw [ea]
  have hs := ho.stored (k * 2 + 1) (.int .i64 v)
  rw [prs_set2 (by omega)] at hs
  exact ⟨⟨_, by rw [ho.cellAt _ (by omega)]; exact List.getElem?_eq_getElem (by simp; omega)⟩, ho.frozenAt _, h _ hs.1 hs.2⟩
end Go.Proofs.YtlfjaogbehpleaaGreat

namespace Go.Proofs.YtlfjaogbehpleaaGreat
open Go Go.Sh Go.RowKit

theorem cmpI_self (o a : Int) : cmpI o a a = 0 := by unfold cmpI; split <;> simp
theorem cmpI_neg {o a b : Int} (h : cmpI o a b < 0) : 0 < cmpI o b a := by
  unfold cmpI at *
  split at h
  · rename_i ho
    rw [if_pos ho]
    split at h
    · rw [if_neg (by omega), if_pos (by omega)]; omega
    · split at h <;> omega
  · omega
theorem cmpI_pos {o a b : Int} (h : 0 < cmpI o a b) : cmpI o b a < 0 := by
  unfold cmpI at *
  split at h
  · rename_i ho
    rw [if_pos ho]
    split at h
    · omega
    · split at h
      · rw [if_pos (by omega)]; omega
      · omega
  · omega
theorem cmpI_eq {o a b : Int} (ho : isO o = true) (ha : In a) (hb : In b) (h : cmpI o a b = 0) : a = b := by
  have ho' : 1 ≤ o ∧ o ≤ 7 := by simpa [isO] using ho
  unfold cmpI at h
  rw [if_pos ho'] at h
  split at h
  · omega
  · split at h
    · omega
    · exact codeI_inj (o := o) ha hb (by omega)
/-- a key that stands in the row stands at its place -/
theorem idx_of_mem {o : Int} {l : List Pr} (hc : chain o l = true) {i : Nat} (hi : i < l.length) : idxR o l l[i].1 = i :=
  idxR_eq (by omega) (fun j hj hji => chain_lt hc hji hi) fun _ => by rw [cmpI_self]; omega
theorem hasR_iff {o : Int} {l : List Pr} {key : Int} (hm : mayR o l = true) : hasR o l key = true ↔ ∃ i, ∃ h : i < l.length, l[i].1 = key := by
  constructor
  · intro h; exact ⟨_, hasR_lt h, hasR_key h⟩
  · rintro ⟨i, hi, rfl⟩
    have := idx_of_mem (mayR_chain hm) hi
    unfold hasR
    rw [hm, this, List.getElem?_eq_getElem hi]
    simp
/-! ### Put, Drop, Floor -/
end Go.Proofs.YtlfjaogbehpleaaGreat

namespace Go.Sh
open Go Go.RowKit

structure Bd where
  key : Int
  val : Int
  sum : Int
  size : Int
  tag : Int
  left : Bool
  right : Bool
deriving DecidableEq
theorem flat_drop {α : Type} {ec : α → List Value} {s : Nat} (hs : ∀ x, (ec x).length = s) (l : List α) (k : Nat) : (l.flatMap ec).drop (k * s) = (l.drop k).flatMap ec := by
  induction l generalizing k with
  | nil => simp
  | cons x xs ih =>
    cases k with
    | zero => simp
    | succ k =>
      rw [List.flatMap_cons, List.drop_succ_cons, ← ih k, show (k + 1) * s = (ec x).length + k * s by rw [hs, Nat.add_mul]; omega, List.drop_append]
      simp [List.drop_of_length_le]
theorem flat_take {α : Type} {ec : α → List Value} {s : Nat} (hs : ∀ x, (ec x).length = s) (l : List α) (k : Nat) : (l.flatMap ec).take (k * s) = (l.take k).flatMap ec := by
  induction l generalizing k with
  | nil => simp
  | cons x xs ih =>
    cases k with
    | zero => simp
    | succ k =>
      rw [List.flatMap_cons, List.take_succ_cons, List.flatMap_cons, ← ih k, show (k + 1) * s = (ec x).length + k * s by rw [hs, Nat.add_mul]; omega, List.take_append]
      simp [List.take_of_length_le]
/-- A part of a slice of structs. -/
theorem sl_flat {α : Type} {ec : α → List Value} {s : Nat} (hs : ∀ x, (ec x).length = s) (h0 : 0 < s) {w : World} {q : Option Addr} {n c : Nat} {lo hi : Int} {l : List α} {K : Option Addr → Nat → Nat → Prop} (hl : Cs w q (l.flatMap ec)) (hn : l.length = n) (hnc : n ≤ c) {a b : Nat} (ha : lo = (a : Int)) (hb : hi = (b : Int)) (h1 : a ≤ b) (h2 : b ≤ n)
    (k : ∀ p, (∀ w', Cs w' q (l.flatMap ec) → Cs w' p (((l.take b).drop a).flatMap ec)) → K p (b - a) (c - a)) : doSl q c s lo hi K := by
  subst ha; subst hb
  refine ⟨by omega, by omega, by omega, ?_⟩
  rw [Int.toNat_natCast, Int.toNat_natCast]
  refine k _ fun w' hl' => ?_
  rw [← flat_drop hs, ← flat_take hs]
  split
  · rw [List.drop_of_length_le (by rw [List.length_take, flat_length hs]; rename_i h; subst h; exact Nat.le_trans (Nat.min_le_left _ _) (Nat.mul_le_mul_right _ (by omega)))]; exact cs_nil _ _
  · cases q with
    | none =>
      have : l = [] := by
        cases l with
        | nil => rfl
        | cons x xs =>
          obtain ⟨a, ha, _⟩ := hl 0 ((ec x)[0]'(by rw [hs]; exact h0)) (by rw [List.flatMap_cons, List.getElem?_append_left (by rw [hs]; exact h0)]; exact List.getElem?_eq_getElem _)
          cases ha
      subst this; simp; exact cs_nil _ _
    | some ad => exact (hl'.take _).drop _

/-! ### Trees of beads -/
inductive BT where
  | nil
  | node (x : Bd) (l r : BT)
def BT.beads : BT → List Bd
  | .nil => []
  | .node x l r => x :: (l.beads ++ r.beads)
def BT.nn : BT → Bool
  | .nil => false
  | .node .. => true
def BT.wf : BT → Bool
  | .nil => true
  | .node x l r => (x.left == l.nn) && (x.right == r.nn) && l.wf && r.wf
def BT.depth : BT → Nat
  | .nil => 0
  | .node _ l r => 1 + max l.depth r.depth
abbrev BT.size (t : BT) : Nat := t.beads.length
/-! ### Trees as they are kept -/
inductive Tr where
  | nil
  | node (l : Tr) (k v g : Int) (r : Tr)
def Tr.size : Tr → Nat
  | .nil => 0
  | .node l _ _ _ r => l.size + 1 + r.size
def Tr.sum : Tr → Int
  | .nil => 0
  | .node l _ v _ r => IntKind.wrap .i64 (IntKind.wrap .i64 (l.sum + v) + r.sum)
def Tr.left : Tr → Tr
  | .nil => .nil
  | .node l _ _ _ _ => l
def Tr.right : Tr → Tr
  | .nil => .nil
  | .node _ _ _ _ r => r
def Tr.key : Tr → Int
  | .nil => 0
  | .node _ k _ _ _ => k
def Tr.val : Tr → Int
  | .nil => 0
  | .node _ _ v _ _ => v
def Tr.tag : Tr → Int
  | .nil => 0
  | .node _ _ _ g _ => g
def Tr.nn : Tr → Bool
  | .nil => false
  | .node .. => true
/-- the pairs, from left to right -/
def Tr.pairs : Tr → List (Int × Int)
  | .nil => []
  | .node l k v _ r => l.pairs ++ (k, v) :: r.pairs
theorem Tr.pairs_length (t : Tr) : t.pairs.length = t.size := by
  induction t with
  | nil => rfl
  | node l k v g r ihl ihr => simp only [Tr.pairs, Tr.size, List.length_append, List.length_cons, ihl, ihr]; omega
def Tr.All (t : Tr) (p : Int × Int → Prop) : Prop := ∀ x ∈ t.pairs, p x
theorem Tr.All.node {l r : Tr} {k v g : Int} {p : Int × Int → Prop} (h : (Tr.node l k v g r).All p) : l.All p ∧ p (k, v) ∧ r.All p :=
  ⟨fun x hx => h x (by simp [Tr.pairs, hx]), h _ (by simp [Tr.pairs]), fun x hx => h x (by simp [Tr.pairs, hx])⟩
def BT.tr : BT → Tr
  | .nil => .nil
  | .node x l r => .node l.tr x.key x.val x.tag r.tr
theorem BT.tr_mem {t : BT} {x : Int × Int} (h : x ∈ t.tr.pairs) : ∃ b ∈ t.beads, x = (b.key, b.val) := by
  induction t with
  | nil => simp [BT.tr, Tr.pairs] at h
  | node y l r ihl ihr =>
    simp only [BT.tr, Tr.pairs, List.mem_append, List.mem_cons] at h
    simp only [BT.beads, List.mem_cons, List.mem_append]
    rcases h with h | h | h
    · obtain ⟨b, hb, e⟩ := ihl h; exact ⟨b, .inr (.inl hb), e⟩
    · exact ⟨y, .inl rfl, h⟩
    · obtain ⟨b, hb, e⟩ := ihr h; exact ⟨b, .inr (.inr hb), e⟩
/-- a tree that lies in memory; 'ty' is the type of a node -/
def IsT (ty : TypeId) (w : World) : Option Addr → Tr → Prop
  | p, .nil => p = none
  | p, .node l k v g r => ∃ b pl pr, p = some (blk b) ∧
      Blk w b #[.int .i64 k, .int .i64 v, .int .i64 (Tr.node l k v g r).sum, .int .u64 g, .int .i64 ((Tr.node l k v g r).size : Nat), .pointer pl, .pointer pr] ty ∧ IsT ty w pl l ∧ IsT ty w pr r
theorem IsT.ext {ty : TypeId} {w w' : World} {p : Option Addr} {t : Tr} (h : IsT ty w p t) (e : Ext w w') : IsT ty w' p t := by
  induction t generalizing p with
  | nil => exact h
  | node l k v g r ihl ihr =>
    obtain ⟨b, pl, pr, hp, hb, hl, hr⟩ := h
    exact ⟨b, pl, pr, hp, hb.ext e, ihl hl, ihr hr⟩
theorem IsT.none {ty : TypeId} {w : World} {t : Tr} (h : IsT ty w none t) : t = .nil := by
  cases t with
  | nil => rfl
  | node l k v g r => obtain ⟨b, pl, pr, hp, _⟩ := h; cases hp
theorem IsT.isNone {ty : TypeId} {w : World} {p : Option Addr} {t : Tr} (h : IsT ty w p t) : p.isNone = !t.nn := by
  cases t with
  | nil => rw [show p = Option.none from h]; rfl
  | node l k v g r => obtain ⟨b, pl, pr, rfl, _⟩ := h; rfl
/-- the side on which the way goes on -/
def Tr.next (o key : Int) (t : Tr) : Tr := if cmpI o key t.key < 0 then t.left else t.right
theorem Tr.All.left {t : Tr} {p : Int × Int → Prop} (h : t.All p) : t.left.All p := by
  cases t with
  | nil => exact h
  | node l k v g r => exact h.node.1
theorem Tr.All.right {t : Tr} {p : Int × Int → Prop} (h : t.All p) : t.right.All p := by
  cases t with
  | nil => exact h
  | node l k v g r => exact h.node.2.2
theorem Tr.nn_size {t : Tr} : t.nn = decide (0 < t.size) := by
  cases t with
  | nil => rfl
  | node l k v g r => simp only [Tr.nn, Tr.size]; exact (decide_eq_true (by omega)).symm
theorem Tr.next_lt {t : Tr} (h : t.nn = true) (o key : Int) : (t.next o key).size < t.size := by
  cases t with
  | nil => cases h
  | node l k v g r => unfold Tr.next; split <;> simp only [Tr.left, Tr.right, Tr.size] <;> omega
/-! ### Beads with their sizes and sums -/
def sumV (l : List Bd) : Int := l.foldl (fun s b => IntKind.wrap .i64 (s + b.val)) 0
def BT.of : BT → BT
  | .nil => .nil
  | .node x l r => .node { x with size := ((BT.node x l r).size : Nat), sum := sumV (BT.node x l r).beads } l.of r.of
end Go.Sh

namespace Go.Proofs.YtlfjaogbehpleaaGreat
open Go Go.Sh Go.RowKit

abbrev IsN (w : World) (p : Option Addr) (t : Tr) : Prop := IsT 220 w p t
/-! ### Nodes -/
def keptV (t : Tr) : Value := .agg #[.int .i64 t.key, .int .i64 t.val, .int .i64 t.sum, .int .u64 t.tag, .int .i64 (t.size : Nat)]
theorem do_st5 {w : World} {b : Nat} {v0 v1 v2 v3 v4 x0 x1 x2 x3 x4 : Value} {t : TypeId} (h : Blk w b #[v0, v1, v2, v3, v4] t) {K : World → Prop} (k : ∀ w', Blk w' b #[x0, x1, x2, x3, x4] t → w.grownBy w' (some b) → K w') :
    doSt ((blk b).add 0) x0 w fun w1 => doSt ((blk b).add 1) x1 w1 fun w2 => doSt ((blk b).add 2) x2 w2 fun w3 => doSt ((blk b).add 3) x3 w3 fun w4 => doSt ((blk b).add 4) x4 w4 K := by
  refine do_st h (i := 0) (add_blk b 0) (by simp) fun w1 h1 g1 => ?_
  have k1 : Blk w1 b #[x0, v1, v2, v3, v4] t := h1
  have e1 := g1
  refine do_st k1 (i := 1) (add_blk b 1) (by simp) fun w2 h2 g2 => ?_
  have k2 : Blk w2 b #[x0, x1, v2, v3, v4] t := h2
  have e2 := grown_trans e1 g2
  refine do_st k2 (i := 2) (add_blk b 2) (by simp) fun w3 h3 g3 => ?_
  have k3 : Blk w3 b #[x0, x1, x2, v3, v4] t := h3
  have e3 := grown_trans e2 g3
  refine do_st k3 (i := 3) (add_blk b 3) (by simp) fun w4 h4 g4 => ?_
  have k4 : Blk w4 b #[x0, x1, x2, x3, v4] t := h4
  have e4 := grown_trans e3 g4
  refine do_st k4 (i := 4) (add_blk b 4) (by simp) fun w5 h5 g5 => ?_
  have k5 : Blk w5 b #[x0, x1, x2, x3, x4] t := h5
  have e5 := grown_trans e4 g5
  exact k _ k5 e5
theorem c_of {p : Option Addr} {t : Tr} {w : World} {R : Ending → World → Prop} (ht : IsN w p t) (h : ∀ w', Ext w w' → R (.returned (keptV t)) w') : Calls Tryz.prog 79 #[.pointer p] w R := by
  refine sh79_ok _ ?_
  unfold sh79
  refine ⟨?_⟩
  have e1 := ext_alloc w (.cells #[.int .i64 0, .int .i64 0, .int .i64 0, .int .u64 0, .int .i64 0] 137)
  have hb := blk_alloc w #[.int .i64 0, .int .i64 0, .int .i64 0, .int .u64 0, .int .i64 0] 137
  cases t with
  | nil =>
    obtain rfl : p = none := ht
    refine ifB_t rfl (do_st5 hb fun w2 h2 g2 => ⟨_, h2.cell (i := 0) (add_blk _ _) rfl, _, h2.cell (i := 1) (add_blk _ _) rfl, _, h2.cell (i := 2) (add_blk _ _) rfl, _, h2.cell (i := 3) (add_blk _ _) rfl, _, h2.cell (i := 4) (add_blk _ _) rfl, h _ (e1.st g2 (Nat.le_refl _))⟩)
  | node l k v g r =>
    obtain ⟨b, pl, pr, rfl, hn, _, _⟩ := ht
    have hn1 := hn.ext e1
    refine ifB_f rfl ⟨_, rfl, _, hn1.cell (i := 0) (by rw [add_zero', add_blk]) rfl, _, hn1.cell (i := 1) (by rw [add_zero', add_blk]) rfl, _, hn1.cell (i := 2) (by rw [add_zero', add_blk]) rfl, _, hn1.cell (i := 3) (by rw [add_zero', add_blk]) rfl, _, hn1.cell (i := 4) (by rw [add_zero', add_blk]) rfl, ?_⟩
    refine do_st5 hb fun w2 h2 g2 => ⟨_, h2.cell (i := 0) (add_blk _ _) rfl, _, h2.cell (i := 1) (add_blk _ _) rfl, _, h2.cell (i := 2) (add_blk _ _) rfl, _, h2.cell (i := 3) (add_blk _ _) rfl, _, h2.cell (i := 4) (add_blk _ _) rfl, h _ (e1.st g2 (Nat.le_refl _))⟩
theorem c_left0 {p : Option Addr} {t : Tr} {w0 w : World} {R : Ending → World → Prop} (ht : IsN w0 p t) (e : Ext w0 w) (h : ∀ q, IsN w0 q t.left → R (.returned (.pointer q)) w) : Calls Tryz.prog 128 #[.pointer p] w R := by
  refine sh128_ok _ ?_
  unfold sh128
  cases t with
  | nil => obtain rfl : p = none := ht; exact ifB_t rfl (h _ rfl)
  | node l k v g r =>
    obtain ⟨b, pl, pr, rfl, hn, hl, hr⟩ := ht
    exact ifB_f rfl ⟨_, rfl, _, (hn.ext e).cell (i := 5) (add_blk _ _) rfl, h _ hl⟩
theorem c_left {p : Option Addr} {t : Tr} {w : World} {R : Ending → World → Prop} (ht : IsN w p t) (h : ∀ q, IsN w q t.left → R (.returned (.pointer q)) w) : Calls Tryz.prog 128 #[.pointer p] w R := c_left0 ht (ext_refl w) h
theorem c_right0 {p : Option Addr} {t : Tr} {w0 w : World} {R : Ending → World → Prop} (ht : IsN w0 p t) (e : Ext w0 w) (h : ∀ q, IsN w0 q t.right → R (.returned (.pointer q)) w) : Calls Tryz.prog 130 #[.pointer p] w R := by
  refine sh130_ok _ ?_
  unfold sh130
  cases t with
  | nil => obtain rfl : p = none := ht; exact ifB_t rfl (h _ rfl)
  | node l k v g r =>
    obtain ⟨b, pl, pr, rfl, hn, hl, hr⟩ := ht
    exact ifB_f rfl ⟨_, rfl, _, (hn.ext e).cell (i := 6) (add_blk _ _) rfl, h _ hr⟩
theorem c_right {p : Option Addr} {t : Tr} {w : World} {R : Ending → World → Prop} (ht : IsN w p t) (h : ∀ q, IsN w q t.right → R (.returned (.pointer q)) w) : Calls Tryz.prog 130 #[.pointer p] w R := c_right0 ht (ext_refl w) h
theorem c_key {p : Option Addr} {t : Tr} {w : World} {R : Ending → World → Prop} (ht : IsN w p t) (h : ∀ w', Ext w w' → R (.returned (.int .i64 t.key)) w') : Calls Tryz.prog 131 #[.pointer p] w R := by
  refine sh131_ok _ ?_
  unfold sh131
  exact do_call Tryz.call79 (c_of ht fun w1 e1 => retS_ret ⟨_, _, _, _, _, rfl, h _ e1⟩)
theorem c_val {p : Option Addr} {t : Tr} {w : World} {R : Ending → World → Prop} (ht : IsN w p t) (h : ∀ w', Ext w w' → R (.returned (.int .i64 t.val)) w') : Calls Tryz.prog 132 #[.pointer p] w R := by
  refine sh132_ok _ ?_
  unfold sh132
  exact do_call Tryz.call79 (c_of ht fun w1 e1 => retS_ret ⟨_, _, _, _, _, rfl, h _ e1⟩)
theorem c_tag {p : Option Addr} {t : Tr} {w : World} {R : Ending → World → Prop} (ht : IsN w p t) (h : ∀ w', Ext w w' → R (.returned (.int .u64 t.tag)) w') : Calls Tryz.prog 214 #[.pointer p] w R := by
  refine sh214_ok _ ?_
  unfold sh214
  exact do_call Tryz.call79 (c_of ht fun w1 e1 => retS_ret ⟨_, _, _, _, _, rfl, h _ e1⟩)
theorem c_tsize {p : Option Addr} {t : Tr} {w : World} {R : Ending → World → Prop} (ht : IsN w p t) (h : ∀ w', Ext w w' → R (.returned (.int .i64 (t.size : Nat))) w') : Calls Tryz.prog 32 #[.pointer p] w R := by
  refine sh32_ok _ ?_
  unfold sh32
  exact do_call Tryz.call79 (c_of ht fun w1 e1 => retS_ret ⟨_, _, _, _, _, rfl, h _ e1⟩)
theorem c_tsum {p : Option Addr} {t : Tr} {w : World} {R : Ending → World → Prop} (ht : IsN w p t) (h : ∀ w', Ext w w' → R (.returned (.int .i64 t.sum)) w') : Calls Tryz.prog 216 #[.pointer p] w R := by
  refine sh216_ok _ ?_
  unfold sh216
  exact do_call Tryz.call79 (c_of ht fun w1 e1 => retS_ret ⟨_, _, _, _, _, rfl, h _ e1⟩)
theorem c_new {pl pr : Option Addr} {l r : Tr} {k v g : Int} {w : World} {R : Ending → World → Prop} (hl : IsN w pl l) (hr : IsN w pr r) (hs : l.size + 1 + r.size ≤ 4611686018427387903)
    (h : ∀ b w', Ext w w' → IsN w' (some (blk b)) (.node l k v g r) → w.heap.size ≤ b → R (.returned (.pointer (some (blk b)))) w') : Calls Tryz.prog 261 #[.pointer pl, .int .i64 k, .int .i64 v, .int .u64 g, .pointer pr] w R := by
  refine sh261_ok _ _ _ _ _ ?_
  unfold sh261
  refine do_call Tryz.call32 (c_tsize hl fun w1 e1 => retS_ret ⟨_, rfl, ?_⟩)
  refine do_call Tryz.call32 (c_tsize (hr.ext e1) fun w2 e2 => retS_ret ⟨_, rfl, ?_⟩)
  have E2 := e1.trans e2
  refine do_call Tryz.call216 (c_tsum (hl.ext E2) fun w3 e3 => retS_ret ⟨_, rfl, ?_⟩)
  have E3 := E2.trans e3
  refine do_call Tryz.call216 (c_tsum (hr.ext E3) fun w4 e4 => retS_ret ⟨_, rfl, ⟨?_⟩⟩)
  have E4 := E3.trans e4
  have e : IntKind.wrap .i64 (IntKind.wrap .i64 ((l.size : Int) + 1) + (r.size : Int)) = ((l.size + 1 + r.size : Nat) : Int) := by
    rw [wrap_of (x := (l.size : Int) + 1) (by omega) (by omega), wrap_of (by omega) (by omega)]; omega
  rw [e]
  have e5 := ext_alloc w4 (.cells #[.int .i64 k, .int .i64 v, .int .i64 (IntKind.wrap .i64 (IntKind.wrap .i64 (l.sum + v) + r.sum)), .int .u64 g, .int .i64 ((l.size + 1 + r.size : Nat) : Int), .pointer pl, .pointer pr] 220)
  exact h _ _ (E4.trans e5) ⟨_, pl, pr, rfl, blk_alloc w4 _ _, hl.ext (E4.trans e5), hr.ext (E4.trans e5)⟩ E4.size
/-! ### Beads -/
end Go.Proofs.YtlfjaogbehpleaaGreat

namespace Go.Proofs.YtlfjaogbehpleaaGreat
open Go Go.Sh Go.RowKit

end Go.Proofs.YtlfjaogbehpleaaGreat

