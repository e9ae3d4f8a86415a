/-
  Trees, and rows of beads: plain. No claim of its own.
-/
/-
  What the functions of node do, and those of joineryref09 and joinerylaw09 that make trees of beads.
-/
/-
  Parts, Make, Pairs, Height of beads; whether beads are a tree.
-/
import Derived.Test.YtlddfgfmkapoiaaGreatZ12
import Derived.Test.YtlddfgfmkapoiaaGreatZ11

namespace Go.Sh
open Go Go.RowKit

structure Bd where
  key : Int
  val : Int
  sum : Int
  size : Int
  tag : Int
  left : Bool
  right : Bool
deriving DecidableEq
def ecB (x : Bd) : List Value := [.int .i64 x.key, .int .i64 x.val, .int .i64 x.sum, .int .i64 x.size, .int .u64 x.tag, .bool x.left, .bool x.right]
theorem ecB_len (x : Bd) : (ecB x).length = 7 := rfl
abbrev bds (l : List Bd) : List Value := l.flatMap ecB
theorem bds_length (l : List Bd) : (bds l).length = l.length * 7 := flat_length ecB_len l
theorem bds_append (l r : List Bd) : bds (l ++ r) = bds l ++ bds r := List.flatMap_append
theorem bds_one {l : List Bd} : ∀ u ∈ bds l, u.oneCell' = true := fun u hu => by
  simp only [List.mem_flatMap] at hu
  obtain ⟨x, _, hx⟩ := hu
  simp [ecB] at hx
  rcases hx with rfl | rfl | rfl | rfl | rfl | rfl | rfl <;> rfl
theorem flat_drop {α : Type} {ec : α → List Value} {s : Nat} (hs : ∀ x, (ec x).length = s) (l : List α) (k : Nat) : (l.flatMap ec).drop (k * s) = (l.drop k).flatMap ec := by
  induction l generalizing k with
  | nil => simp
  | cons x xs ih =>
    cases k with
    | zero => simp
    | succ k =>
      rw [List.flatMap_cons, List.drop_succ_cons, ← ih k, show (k + 1) * s = (ec x).length + k * s by rw [hs, Nat.add_mul]; omega, List.drop_append]
      simp [List.drop_of_length_le]
theorem flat_take {α : Type} {ec : α → List Value} {s : Nat} (hs : ∀ x, (ec x).length = s) (l : List α) (k : Nat) : (l.flatMap ec).take (k * s) = (l.take k).flatMap ec := by
  induction l generalizing k with
  | nil => simp
  | cons x xs ih =>
    cases k with
    | zero => simp
    | succ k =>
      rw [List.flatMap_cons, List.take_succ_cons, List.flatMap_cons, ← ih k, show (k + 1) * s = (ec x).length + k * s by rw [hs, Nat.add_mul]; omega, List.take_append]
      simp [List.take_of_length_le]
/-- A part of a slice of structs. -/
theorem sl_flat {α : Type} {ec : α → List Value} {s : Nat} (hs : ∀ x, (ec x).length = s) (h0 : 0 < s) {w : World} {q : Option Addr} {n c : Nat} {lo hi : Int} {l : List α} {K : Option Addr → Nat → Nat → Prop} (hl : Cs w q (l.flatMap ec)) (hn : l.length = n) (hnc : n ≤ c) {a b : Nat} (ha : lo = (a : Int)) (hb : hi = (b : Int)) (h1 : a ≤ b) (h2 : b ≤ n)
    (k : ∀ p, (∀ w', Cs w' q (l.flatMap ec) → Cs w' p (((l.take b).drop a).flatMap ec)) → K p (b - a) (c - a)) : doSl q c s lo hi K := by
  subst ha; subst hb
  refine ⟨by omega, by omega, by omega, ?_⟩
  rw [Int.toNat_natCast, Int.toNat_natCast]
  refine k _ fun w' hl' => ?_
  rw [← flat_drop hs, ← flat_take hs]
  split
  · rw [List.drop_of_length_le (by rw [List.length_take, flat_length hs]; rename_i h; subst h; exact Nat.le_trans (Nat.min_le_left _ _) (Nat.mul_le_mul_right _ (by omega)))]; exact cs_nil _ _
  · cases q with
    | none =>
      have : l = [] := by
        cases l with
        | nil => rfl
        | cons x xs =>
          obtain ⟨a, ha, _⟩ := hl 0 ((ec x)[0]'(by rw [hs]; exact h0)) (by rw [List.flatMap_cons, List.getElem?_append_left (by rw [hs]; exact h0)]; exact List.getElem?_eq_getElem _)
          cases ha
      subst this; simp; exact cs_nil _ _
    | some ad => exact (hl'.take _).drop _

/-! ### Trees of beads -/
inductive BT where
  | nil
  | node (x : Bd) (l r : BT)
def BT.beads : BT → List Bd
  | .nil => []
  | .node x l r => x :: (l.beads ++ r.beads)
def BT.nn : BT → Bool
  | .nil => false
  | .node .. => true
def BT.wf : BT → Bool
  | .nil => true
  | .node x l r => (x.left == l.nn) && (x.right == r.nn) && l.wf && r.wf
def BT.depth : BT → Nat
  | .nil => 0
  | .node _ l r => 1 + max l.depth r.depth
abbrev BT.size (t : BT) : Nat := t.beads.length
theorem BT.size_node (x : Bd) (l r : BT) : (BT.node x l r).size = 1 + l.size + r.size := by simp [BT.size, BT.beads]; omega
theorem BT.nn_iff (t : BT) : t.nn = decide (0 < t.size) := by
  cases t with
  | nil => rfl
  | node x l r => simp [BT.nn, BT.size, BT.beads]
theorem BT.size_nil {t : BT} (h : t.nn = false) : t = .nil := by cases t <;> simp [BT.nn] at h ⊢
theorem BT.depth_le (t : BT) : t.depth ≤ t.size := by
  induction t with
  | nil => exact Nat.le_refl _
  | node x l r ihl ihr => simp only [BT.depth, BT.size_node]; omega
theorem BT.wf_node {x : Bd} {l r : BT} (h : (BT.node x l r).wf = true) : x.left = l.nn ∧ x.right = r.nn ∧ l.wf = true ∧ r.wf = true := by
  simp [BT.wf] at h
  exact ⟨h.1.1.1, h.1.1.2, h.1.2, h.2⟩
def parse : Nat → List Bd → Option BT
  | 0, _ => none
  | _ + 1, [] => none
  | f + 1, x :: xs =>
    (cond x.left (parse f xs) (some .nil)).bind fun l => (cond x.right (parse f (xs.drop l.size)) (some .nil)).bind fun r => some (.node x l r)
theorem parse_some : ∀ {f : Nat} {l : List Bd} {t : BT}, parse f l = some t → t.nn = true ∧ t.wf = true ∧ l = t.beads ++ l.drop t.size
  | 0, _, _, h => by simp [parse] at h
  | _ + 1, [], _, h => by simp [parse] at h
  | f + 1, x :: xs, t, h => by
    simp only [parse, Option.bind_eq_some_iff] at h
    obtain ⟨l, hl, r, hr, ht⟩ := h
    obtain rfl := Option.some.inj ht
    have hl' : l.nn = x.left ∧ l.wf = true ∧ xs = l.beads ++ xs.drop l.size := by
      cases hx : x.left with
      | true =>
        rw [hx] at hl
        have := parse_some hl
        exact this
      | false => rw [hx] at hl; obtain rfl := Option.some.inj hl; exact ⟨rfl, rfl, by simp [BT.beads, BT.size]⟩
    have hr' : r.nn = x.right ∧ r.wf = true ∧ xs.drop l.size = r.beads ++ (xs.drop l.size).drop r.size := by
      cases hx : x.right with
      | true =>
        rw [hx] at hr
        have := parse_some hr
        exact this
      | false => rw [hx] at hr; obtain rfl := Option.some.inj hr; exact ⟨rfl, rfl, by simp [BT.beads, BT.size]⟩
    refine ⟨rfl, ?_, ?_⟩
    · simp [BT.wf, hl'.1, hl'.2.1, hr'.1, hr'.2.1]
    · rw [BT.size_node, show 1 + l.size + r.size = (l.size + r.size) + 1 by omega, List.drop_succ_cons]
      simp only [BT.beads, List.cons_append, List.append_assoc]
      congr 1
      rw [← List.drop_drop, ← hr'.2.2]
      exact hl'.2.2
theorem parse_of : ∀ {t : BT} {f : Nat} (rest : List Bd), t.nn = true → t.wf = true → t.depth ≤ f → parse f (t.beads ++ rest) = some t
  | .nil, _, _, h, _, _ => by simp [BT.nn] at h
  | .node x l r, 0, _, _, _, h => by simp only [BT.depth] at h; omega
  | .node x l r, f + 1, rest, _, hw, hd => by
    obtain ⟨h1, h2, h3, h4⟩ := BT.wf_node hw
    simp only [BT.depth] at hd
    simp only [BT.beads, List.cons_append, parse, List.append_assoc]
    have hl : cond x.left (parse f (l.beads ++ (r.beads ++ rest))) (some .nil) = some l := by
      rw [h1]
      cases hn : l.nn with
      | true => exact parse_of _ hn h3 (by omega)
      | false => rw [BT.size_nil hn]; rfl
    have hr : cond x.right (parse f (r.beads ++ rest)) (some .nil) = some r := by
      rw [h2]
      cases hn : r.nn with
      | true => exact parse_of _ hn h4 (by omega)
      | false => rw [BT.size_nil hn]; rfl
    rw [hl]
    simp only [Option.bind_some, List.drop_left]
    rw [hr]; rfl
/-- are beads those of a tree? -/
def mayB (l : List Bd) : Bool := l.isEmpty || (match parse 5001 l with | some t => t.size == l.length | none => false)
theorem mayB_some {l : List Bd} (h : mayB l = true) : ∃ t : BT, t.wf = true ∧ l = t.beads := by
  unfold mayB at h
  cases l with
  | nil => exact ⟨.nil, rfl, rfl⟩
  | cons x xs =>
    simp only [List.isEmpty_cons, Bool.false_or] at h
    cases hp : parse 5001 (x :: xs) with
    | none => rw [hp] at h; cases h
    | some t =>
      rw [hp] at h
      have hs := parse_some hp
      refine ⟨t, hs.2.1, ?_⟩
      have : t.size = (x :: xs).length := by simpa using h
      rw [hs.2.2, this, List.drop_length, List.append_nil]
/-! ### Trees as they are kept -/
inductive Tr where
  | nil
  | node (l : Tr) (k v g : Int) (r : Tr)
def Tr.size : Tr → Nat
  | .nil => 0
  | .node l _ _ _ r => l.size + 1 + r.size
def Tr.sum : Tr → Int
  | .nil => 0
  | .node l _ v _ r => IntKind.wrap .i64 (IntKind.wrap .i64 (l.sum + v) + r.sum)
def Tr.left : Tr → Tr
  | .nil => .nil
  | .node l _ _ _ _ => l
def Tr.right : Tr → Tr
  | .nil => .nil
  | .node _ _ _ _ r => r
def Tr.key : Tr → Int
  | .nil => 0
  | .node _ k _ _ _ => k
def Tr.val : Tr → Int
  | .nil => 0
  | .node _ _ v _ _ => v
def Tr.tag : Tr → Int
  | .nil => 0
  | .node _ _ _ g _ => g
def Tr.nn : Tr → Bool
  | .nil => false
  | .node .. => true
/-- the pairs, from left to right -/
def Tr.pairs : Tr → List (Int × Int)
  | .nil => []
  | .node l k v _ r => l.pairs ++ (k, v) :: r.pairs
theorem Tr.pairs_length (t : Tr) : t.pairs.length = t.size := by
  induction t with
  | nil => rfl
  | node l k v g r ihl ihr => simp only [Tr.pairs, Tr.size, List.length_append, List.length_cons, ihl, ihr]; omega
def Tr.All (t : Tr) (p : Int × Int → Prop) : Prop := ∀ x ∈ t.pairs, p x
theorem Tr.All.node {l r : Tr} {k v g : Int} {p : Int × Int → Prop} (h : (Tr.node l k v g r).All p) : l.All p ∧ p (k, v) ∧ r.All p :=
  ⟨fun x hx => h x (by simp [Tr.pairs, hx]), h _ (by simp [Tr.pairs]), fun x hx => h x (by simp [Tr.pairs, hx])⟩
def BT.tr : BT → Tr
  | .nil => .nil
  | .node x l r => .node l.tr x.key x.val x.tag r.tr
theorem BT.tr_size (t : BT) : t.tr.size = t.size := by
  induction t with
  | nil => rfl
  | node x l r ihl ihr => rw [BT.size_node, BT.tr, Tr.size, ihl, ihr]; omega
theorem BT.tr_mem {t : BT} {x : Int × Int} (h : x ∈ t.tr.pairs) : ∃ b ∈ t.beads, x = (b.key, b.val) := by
  induction t with
  | nil => simp [BT.tr, Tr.pairs] at h
  | node y l r ihl ihr =>
    simp only [BT.tr, Tr.pairs, List.mem_append, List.mem_cons] at h
    simp only [BT.beads, List.mem_cons, List.mem_append]
    rcases h with h | h | h
    · obtain ⟨b, hb, e⟩ := ihl h; exact ⟨b, .inr (.inl hb), e⟩
    · exact ⟨y, .inl rfl, h⟩
    · obtain ⟨b, hb, e⟩ := ihr h; exact ⟨b, .inr (.inr hb), e⟩
/-- a tree that lies in memory; 'ty' is the type of a node -/
def IsT (ty : TypeId) (w : World) : Option Addr → Tr → Prop
  | p, .nil => p = none
  | p, .node l k v g r => ∃ b pl pr, p = some (blk b) ∧
      Blk w b #[.int .i64 k, .int .i64 v, .int .i64 (Tr.node l k v g r).sum, .int .u64 g, .int .i64 ((Tr.node l k v g r).size : Nat), .pointer pl, .pointer pr] ty ∧ IsT ty w pl l ∧ IsT ty w pr r
theorem IsT.ext {ty : TypeId} {w w' : World} {p : Option Addr} {t : Tr} (h : IsT ty w p t) (e : Ext w w') : IsT ty w' p t := by
  induction t generalizing p with
  | nil => exact h
  | node l k v g r ihl ihr =>
    obtain ⟨b, pl, pr, hp, hb, hl, hr⟩ := h
    exact ⟨b, pl, pr, hp, hb.ext e, ihl hl, ihr hr⟩
theorem IsT.none {ty : TypeId} {w : World} {t : Tr} (h : IsT ty w none t) : t = .nil := by
  cases t with
  | nil => rfl
  | node l k v g r => obtain ⟨b, pl, pr, hp, _⟩ := h; cases hp
theorem IsT.isNone {ty : TypeId} {w : World} {p : Option Addr} {t : Tr} (h : IsT ty w p t) : p.isNone = !t.nn := by
  cases t with
  | nil => rw [show p = Option.none from h]; rfl
  | node l k v g r => obtain ⟨b, pl, pr, rfl, _⟩ := h; rfl
/-- the side on which the way goes on -/
def Tr.next (o key : Int) (t : Tr) : Tr := if cmpI o key t.key < 0 then t.left else t.right
theorem Tr.All.left {t : Tr} {p : Int × Int → Prop} (h : t.All p) : t.left.All p := by
  cases t with
  | nil => exact h
  | node l k v g r => exact h.node.1
theorem Tr.All.right {t : Tr} {p : Int × Int → Prop} (h : t.All p) : t.right.All p := by
  cases t with
  | nil => exact h
  | node l k v g r => exact h.node.2.2
/-! ### Beads with their sizes and sums -/
def sumV (l : List Bd) : Int := l.foldl (fun s b => IntKind.wrap .i64 (s + b.val)) 0
def BT.of : BT → BT
  | .nil => .nil
  | .node x l r => .node { x with size := ((BT.node x l r).size : Nat), sum := sumV (BT.node x l r).beads } l.of r.of
theorem BT.of_size (t : BT) : t.of.size = t.size := by
  induction t with
  | nil => rfl
  | node x l r ihl ihr => rw [BT.of, BT.size_node, BT.size_node, ihl, ihr]
theorem BT.tr_nn (t : BT) : t.tr.nn = t.nn := by cases t <;> rfl
end Go.Sh

namespace Go.Proofs.YtlddfgfmkapoiaaGreat
open Go Go.Sh Go.RowKit

abbrev IsN (w : World) (p : Option Addr) (t : Tr) : Prop := IsT 249 w p t
set_option maxRecDepth 100000 in
theorem elB : ElT Tryz.prog 57 150 (.agg #[.int .i64 0, .int .i64 0, .int .i64 0, .int .i64 0, .int .u64 0, .bool false, .bool false]) 7 48 := ⟨Tryz.underlying57, ⟨_, Tryz.type150, by kernel_rfl, by kernel_rfl, by kernel_rfl⟩, rfl, by omega⟩
/-! ### Nodes -/
def keptV (t : Tr) : Value := .agg #[.int .i64 t.key, .int .i64 t.val, .int .i64 t.sum, .int .u64 t.tag, .int .i64 (t.size : Nat)]
theorem do_st5 {w : World} {b : Nat} {v0 v1 v2 v3 v4 x0 x1 x2 x3 x4 : Value} {t : TypeId} (h : Blk w b #[v0, v1, v2, v3, v4] t) {K : World → Prop} (k : ∀ w', Blk w' b #[x0, x1, x2, x3, x4] t → w.grownBy w' (some b) → K w') :
    doSt ((blk b).add 0) x0 w fun w1 => doSt ((blk b).add 1) x1 w1 fun w2 => doSt ((blk b).add 2) x2 w2 fun w3 => doSt ((blk b).add 3) x3 w3 fun w4 => doSt ((blk b).add 4) x4 w4 K := by
  refine do_st h (i := 0) (add_blk b 0) (by simp) fun w1 h1 g1 => ?_
  have k1 : Blk w1 b #[x0, v1, v2, v3, v4] t := h1
  have e1 := g1
  refine do_st k1 (i := 1) (add_blk b 1) (by simp) fun w2 h2 g2 => ?_
  have k2 : Blk w2 b #[x0, x1, v2, v3, v4] t := h2
  have e2 := grown_trans e1 g2
  refine do_st k2 (i := 2) (add_blk b 2) (by simp) fun w3 h3 g3 => ?_
  have k3 : Blk w3 b #[x0, x1, x2, v3, v4] t := h3
  have e3 := grown_trans e2 g3
  refine do_st k3 (i := 3) (add_blk b 3) (by simp) fun w4 h4 g4 => ?_
  have k4 : Blk w4 b #[x0, x1, x2, x3, v4] t := h4
  have e4 := grown_trans e3 g4
  refine do_st k4 (i := 4) (add_blk b 4) (by simp) fun w5 h5 g5 => ?_
  have k5 : Blk w5 b #[x0, x1, x2, x3, x4] t := h5
  have e5 := grown_trans e4 g5
  exact k _ k5 e5
theorem do_st7 {w : World} {b : Nat} {v0 v1 v2 v3 v4 v5 v6 x0 x1 x2 x3 x4 x5 x6 : Value} {t : TypeId} (h : Blk w b #[v0, v1, v2, v3, v4, v5, v6] t) {K : World → Prop} (k : ∀ w', Blk w' b #[x0, x1, x2, x3, x4, x5, x6] t → w.grownBy w' (some b) → K w') :
    doSt ((blk b).add 0) x0 w fun w1 => doSt ((blk b).add 1) x1 w1 fun w2 => doSt ((blk b).add 2) x2 w2 fun w3 => doSt ((blk b).add 3) x3 w3 fun w4 => doSt ((blk b).add 4) x4 w4 fun w5 => doSt ((blk b).add 5) x5 w5 fun w6 => doSt ((blk b).add 6) x6 w6 K := by
  refine do_st h (i := 0) (add_blk b 0) (by simp) fun w1 h1 g1 => ?_
  have k1 : Blk w1 b #[x0, v1, v2, v3, v4, v5, v6] t := h1
  have e1 := g1
  refine do_st k1 (i := 1) (add_blk b 1) (by simp) fun w2 h2 g2 => ?_
  have k2 : Blk w2 b #[x0, x1, v2, v3, v4, v5, v6] t := h2
  have e2 := grown_trans e1 g2
  refine do_st k2 (i := 2) (add_blk b 2) (by simp) fun w3 h3 g3 => ?_
  have k3 : Blk w3 b #[x0, x1, x2, v3, v4, v5, v6] t := h3
  have e3 := grown_trans e2 g3
  refine do_st k3 (i := 3) (add_blk b 3) (by simp) fun w4 h4 g4 => ?_
  have k4 : Blk w4 b #[x0, x1, x2, x3, v4, v5, v6] t := h4
  have e4 := grown_trans e3 g4
  refine do_st k4 (i := 4) (add_blk b 4) (by simp) fun w5 h5 g5 => ?_
  have k5 : Blk w5 b #[x0, x1, x2, x3, x4, v5, v6] t := h5
  have e5 := grown_trans e4 g5
  refine do_st k5 (i := 5) (add_blk b 5) (by simp) fun w6 h6 g6 => ?_
  have k6 : Blk w6 b #[x0, x1, x2, x3, x4, x5, v6] t := h6
  have e6 := grown_trans e5 g6
  refine do_st k6 (i := 6) (add_blk b 6) (by simp) fun w7 h7 g7 => ?_
  have k7 : Blk w7 b #[x0, x1, x2, x3, x4, x5, x6] t := h7
  have e7 := grown_trans e6 g7
  exact k _ k7 e7
theorem c_of {p : Option Addr} {t : Tr} {w : World} {R : Ending → World → Prop} (ht : IsN w p t) (h : ∀ w', Ext w w' → R (.returned (keptV t)) w') : Calls Tryz.prog 166 #[.pointer p] w R := by
  refine sh166_ok _ ?_
  unfold sh166
  refine ⟨?_⟩
  have e1 := ext_alloc w (.cells #[.int .i64 0, .int .i64 0, .int .i64 0, .int .u64 0, .int .i64 0] 205)
  have hb := blk_alloc w #[.int .i64 0, .int .i64 0, .int .i64 0, .int .u64 0, .int .i64 0] 205
  cases t with
  | nil =>
    obtain rfl : p = none := ht
    refine ifB_t rfl (do_st5 hb fun w2 h2 g2 => ⟨_, h2.cell (i := 0) (add_blk _ _) rfl, _, h2.cell (i := 1) (add_blk _ _) rfl, _, h2.cell (i := 2) (add_blk _ _) rfl, _, h2.cell (i := 3) (add_blk _ _) rfl, _, h2.cell (i := 4) (add_blk _ _) rfl, h _ (e1.st g2 (Nat.le_refl _))⟩)
  | node l k v g r =>
    obtain ⟨b, pl, pr, rfl, hn, _, _⟩ := ht
    have hn1 := hn.ext e1
    refine ifB_f rfl ⟨_, rfl, _, hn1.cell (i := 0) (by rw [add_zero', add_blk]) rfl, _, hn1.cell (i := 1) (by rw [add_zero', add_blk]) rfl, _, hn1.cell (i := 2) (by rw [add_zero', add_blk]) rfl, _, hn1.cell (i := 3) (by rw [add_zero', add_blk]) rfl, _, hn1.cell (i := 4) (by rw [add_zero', add_blk]) rfl, ?_⟩
    refine do_st5 hb fun w2 h2 g2 => ⟨_, h2.cell (i := 0) (add_blk _ _) rfl, _, h2.cell (i := 1) (add_blk _ _) rfl, _, h2.cell (i := 2) (add_blk _ _) rfl, _, h2.cell (i := 3) (add_blk _ _) rfl, _, h2.cell (i := 4) (add_blk _ _) rfl, h _ (e1.st g2 (Nat.le_refl _))⟩
theorem c_left0 {p : Option Addr} {t : Tr} {w0 w : World} {R : Ending → World → Prop} (ht : IsN w0 p t) (e : Ext w0 w) (h : ∀ q, IsN w0 q t.left → R (.returned (.pointer q)) w) : Calls Tryz.prog 123 #[.pointer p] w R := by
  refine sh123_ok _ ?_
  unfold sh123
  cases t with
  | nil => obtain rfl : p = none := ht; exact ifB_t rfl (h _ rfl)
  | node l k v g r =>
    obtain ⟨b, pl, pr, rfl, hn, hl, hr⟩ := ht
    exact ifB_f rfl ⟨_, rfl, _, (hn.ext e).cell (i := 5) (add_blk _ _) rfl, h _ hl⟩
theorem c_left {p : Option Addr} {t : Tr} {w : World} {R : Ending → World → Prop} (ht : IsN w p t) (h : ∀ q, IsN w q t.left → R (.returned (.pointer q)) w) : Calls Tryz.prog 123 #[.pointer p] w R := c_left0 ht (ext_refl w) h
theorem c_right0 {p : Option Addr} {t : Tr} {w0 w : World} {R : Ending → World → Prop} (ht : IsN w0 p t) (e : Ext w0 w) (h : ∀ q, IsN w0 q t.right → R (.returned (.pointer q)) w) : Calls Tryz.prog 125 #[.pointer p] w R := by
  refine sh125_ok _ ?_
  unfold sh125
  cases t with
  | nil => obtain rfl : p = none := ht; exact ifB_t rfl (h _ rfl)
  | node l k v g r =>
    obtain ⟨b, pl, pr, rfl, hn, hl, hr⟩ := ht
    exact ifB_f rfl ⟨_, rfl, _, (hn.ext e).cell (i := 6) (add_blk _ _) rfl, h _ hr⟩
theorem c_right {p : Option Addr} {t : Tr} {w : World} {R : Ending → World → Prop} (ht : IsN w p t) (h : ∀ q, IsN w q t.right → R (.returned (.pointer q)) w) : Calls Tryz.prog 125 #[.pointer p] w R := c_right0 ht (ext_refl w) h
theorem c_key {p : Option Addr} {t : Tr} {w : World} {R : Ending → World → Prop} (ht : IsN w p t) (h : ∀ w', Ext w w' → R (.returned (.int .i64 t.key)) w') : Calls Tryz.prog 108 #[.pointer p] w R := by
  refine sh108_ok _ ?_
  unfold sh108
  exact do_call Tryz.call166 (c_of ht fun w1 e1 => retS_ret ⟨_, _, _, _, _, rfl, h _ e1⟩)
theorem c_val {p : Option Addr} {t : Tr} {w : World} {R : Ending → World → Prop} (ht : IsN w p t) (h : ∀ w', Ext w w' → R (.returned (.int .i64 t.val)) w') : Calls Tryz.prog 126 #[.pointer p] w R := by
  refine sh126_ok _ ?_
  unfold sh126
  exact do_call Tryz.call166 (c_of ht fun w1 e1 => retS_ret ⟨_, _, _, _, _, rfl, h _ e1⟩)
theorem c_tag {p : Option Addr} {t : Tr} {w : World} {R : Ending → World → Prop} (ht : IsN w p t) (h : ∀ w', Ext w w' → R (.returned (.int .u64 t.tag)) w') : Calls Tryz.prog 196 #[.pointer p] w R := by
  refine sh196_ok _ ?_
  unfold sh196
  exact do_call Tryz.call166 (c_of ht fun w1 e1 => retS_ret ⟨_, _, _, _, _, rfl, h _ e1⟩)
theorem c_tsize {p : Option Addr} {t : Tr} {w : World} {R : Ending → World → Prop} (ht : IsN w p t) (h : ∀ w', Ext w w' → R (.returned (.int .i64 (t.size : Nat))) w') : Calls Tryz.prog 91 #[.pointer p] w R := by
  refine sh91_ok _ ?_
  unfold sh91
  exact do_call Tryz.call166 (c_of ht fun w1 e1 => retS_ret ⟨_, _, _, _, _, rfl, h _ e1⟩)
theorem c_tsum {p : Option Addr} {t : Tr} {w : World} {R : Ending → World → Prop} (ht : IsN w p t) (h : ∀ w', Ext w w' → R (.returned (.int .i64 t.sum)) w') : Calls Tryz.prog 107 #[.pointer p] w R := by
  refine sh107_ok _ ?_
  unfold sh107
  exact do_call Tryz.call166 (c_of ht fun w1 e1 => retS_ret ⟨_, _, _, _, _, rfl, h _ e1⟩)
theorem c_new {pl pr : Option Addr} {l r : Tr} {k v g : Int} {w : World} {R : Ending → World → Prop} (hl : IsN w pl l) (hr : IsN w pr r) (hs : l.size + 1 + r.size ≤ 4611686018427387903)
    (h : ∀ b w', Ext w w' → IsN w' (some (blk b)) (.node l k v g r) → w.heap.size ≤ b → R (.returned (.pointer (some (blk b)))) w') : Calls Tryz.prog 105 #[.pointer pl, .int .i64 k, .int .i64 v, .int .u64 g, .pointer pr] w R := by
  refine sh105_ok _ _ _ _ _ ?_
  unfold sh105
  refine do_call Tryz.call91 (c_tsize hl fun w1 e1 => retS_ret ⟨_, rfl, ?_⟩)
  refine do_call Tryz.call91 (c_tsize (hr.ext e1) fun w2 e2 => retS_ret ⟨_, rfl, ?_⟩)
  have E2 := e1.trans e2
  refine do_call Tryz.call107 (c_tsum (hl.ext E2) fun w3 e3 => retS_ret ⟨_, rfl, ?_⟩)
  have E3 := E2.trans e3
  refine do_call Tryz.call107 (c_tsum (hr.ext E3) fun w4 e4 => retS_ret ⟨_, rfl, ⟨?_⟩⟩)
  have E4 := E3.trans e4
  have e : IntKind.wrap .i64 (IntKind.wrap .i64 ((l.size : Int) + 1) + (r.size : Int)) = ((l.size + 1 + r.size : Nat) : Int) := by
    rw [wrap_of (x := (l.size : Int) + 1) (by omega) (by omega), wrap_of (by omega) (by omega)]; omega
  rw [e]
  have e5 := ext_alloc w4 (.cells #[.int .i64 k, .int .i64 v, .int .i64 (IntKind.wrap .i64 (IntKind.wrap .i64 (l.sum + v) + r.sum)), .int .u64 g, .int .i64 ((l.size + 1 + r.size : Nat) : Int), .pointer pl, .pointer pr] 249)
  exact h _ _ (E4.trans e5) ⟨_, pl, pr, rfl, blk_alloc w4 _ _, hl.ext (E4.trans e5), hr.ext (E4.trans e5)⟩ E4.size
/-! ### Beads -/
theorem c_ends {l : List Bd} {q : Option Addr} {n c : Nat} {w : World} (hl : Cs w q (bds l)) (hn : l.length = n) (hm : n ≤ 1000000000000) : ∀ (f d a : Nat) (R : Ending → World → Prop), f + d = 5001 → a ≤ n →
    R (.returned (.int .i64 (match parse f (l.drop a) with | some t => (t.size : Int) | none => -1))) w → Calls Tryz.prog 189 #[.slice q n c, .int .i64 (a : Nat), .int .i64 (d : Nat)] w R := by
  intro f
  induction f with
  | zero =>
    intro d a R hd ha hR
    refine sh189_ok _ _ _ _ _ ?_
    unfold sh189
    refine ifB_intro (fun _ => hR) fun _ => ?_
    exact ifB_t (decide_eq_true (by omega)) hR
  | succ f ih =>
    intro d a R hd ha hR
    refine sh189_ok _ _ _ _ _ ?_
    unfold sh189
    refine ifB_intro (fun hge => ?_) fun hlt => ?_
    · have hge : n ≤ a := by have := of_decide_eq_true hge; omega
      rw [List.drop_of_length_le (by omega)] at hR
      exact hR
    · have hlt : a < n := by have := of_decide_eq_false hlt; omega
      refine ifB_f (decide_eq_false (by omega)) ?_
      rw [List.drop_eq_getElem_cons (by omega)] at hR
      have e1 : IntKind.wrap .i64 ((a : Int) + 1) = ((a + 1 : Nat) : Int) := wrap_succ hlt (by omega)
      have e2 : IntKind.wrap .i64 ((d : Int) + 1) = ((d + 1 : Nat) : Int) := wrap_succ (n := 5001) (by omega) (by omega)
      obtain ⟨x, hx⟩ : ∃ x, x = l[a]'(by omega) := ⟨_, rfl⟩
      rw [← hx] at hR
      -- the right side, behind k beads
      have hright : ∀ (L : BT), cond x.left (parse f (l.drop (a + 1))) (some .nil) = some L → L.size ≤ n - (a + 1) →
          doIx q n 7 (a : Nat) (fun a15 => ∃ (x16 : Bool), World.cell? w (a15.add 6) = some (.bool x16) ∧ (ifB x16 (
            doCall Tryz.prog (.func (.func 189) #[] #[]) #[.slice q n c, .int .i64 (IntKind.wrap .i64 ((a : Int) + ((1 + L.size : Nat) : Int))), .int .i64 (IntKind.wrap .i64 ((d : Int) + 1))] w (retS (fun v18 w19 => ∃ (x17 : Int), v18 = (.int .i64 x17 : Value) ∧ (
              ifB (decide ((x17 : Int) < 0)) (R (.returned (.int .i64 (-1))) w19) (R (.returned (.int .i64 (IntKind.wrap .i64 (((1 + L.size : Nat) : Int) + x17)))) w19))) (fun ch w => Kfn R ch [] w))) (
            R (.returned (.int .i64 ((1 + L.size : Nat) : Int))) w))) := by
        intro L hL hLs
        refine ix_flat ecB_len (by omega) hl hn rfl hlt fun a0 r0 _ => ?_
        rw [← hx] at r0
        refine ⟨x.right, r0 6 _ rfl, ?_⟩
        have hL' : parse (f + 1) (x :: l.drop (a + 1)) = (cond x.right (parse f ((l.drop (a + 1)).drop L.size)) (some .nil)).bind fun r => some (.node x L r) := by
          simp only [parse]; rw [hL]; rfl
        rw [hL'] at hR
        refine ifB_intro (fun hrt => ?_) fun hrt => ?_
        · have e3 : IntKind.wrap .i64 ((a : Int) + ((1 + L.size : Nat) : Int)) = ((a + 1 + L.size : Nat) : Int) := by rw [wrap_of (by omega) (by omega)]; omega
          rw [e2, e3]
          refine do_call Tryz.call189 (ih (d + 1) (a + 1 + L.size) _ (by omega) (by omega) (retS_ret ⟨_, rfl, ?_⟩))
          rw [hrt, cond_true, List.drop_drop] at hR
          cases hp : parse f (l.drop (a + 1 + L.size)) with
          | none =>
            rw [hp] at hR
            exact ifB_t (by simp) hR
          | some r =>
            rw [hp] at hR
            have hps := (parse_some hp).2.2
            have hrl : L.size + 1 + r.size ≤ n := by
              have := congrArg List.length hps
              simp at this
              have : r.size = r.beads.length := rfl
              omega
            refine ifB_f (decide_eq_false (by simp)) ?_
            simp only [Option.bind_some, BT.size_node] at hR
            simp only
            rw [wrap_of (x := ((1 + L.size : Nat) : Int) + (r.size : Int)) (by omega) (by omega), ← Int.natCast_add]
            exact hR
        · rw [hrt, cond_false] at hR
          simp only [Option.bind_some, BT.size_node] at hR
          exact hR
      refine ix_flat ecB_len (by omega) hl hn rfl hlt fun a0 r0 _ => ?_
      rw [← hx] at r0
      refine ⟨x.left, r0 5 _ rfl, ?_⟩
      refine ifB_intro (fun hlf => ?_) fun hlf => ?_
      · rw [e1, e2]
        refine do_call Tryz.call189 (ih (d + 1) (a + 1) _ (by omega) (by omega) (retS_ret ⟨_, rfl, ?_⟩))
        cases hp : parse f (l.drop (a + 1)) with
        | none =>
          have hL' : parse (f + 1) (x :: l.drop (a + 1)) = none := by simp only [parse]; rw [hlf, cond_true, hp]; rfl
          rw [hL'] at hR
          exact ifB_t (by simp) hR
        | some L =>
          have hps := (parse_some hp).2.2
          have hLs : L.size ≤ n - (a + 1) := by
            have := congrArg List.length hps
            simp at this
            have : L.size = L.beads.length := rfl
            omega
          refine ifB_f (decide_eq_false (by simp)) ?_
          simp only
          rw [wrap_of (x := 1 + (L.size : Int)) (by omega) (by omega)]
          have := hright L (by rw [hlf, cond_true, hp]) hLs
          rw [e2] at this
          simp only [Int.natCast_add, Int.cast_ofNat_Int] at this
          exact this
      · have := hright .nil (by rw [hlf, cond_false]) (by simp [BT.size, BT.beads])
        simpa [BT.size, BT.beads] using this
end Go.Proofs.YtlddfgfmkapoiaaGreat

namespace Go.Proofs.YtlddfgfmkapoiaaGreat
open Go Go.Sh Go.RowKit

def bdV (x : Bd) : Value := .agg #[.int .i64 x.key, .int .i64 x.val, .int .i64 x.sum, .int .i64 x.size, .int .u64 x.tag, .bool x.left, .bool x.right]
set_option maxRecDepth 20000 in
theorem c_parts {x : Bd} {L Rt : BT} {q : Option Addr} {n c : Nat} {w : World} {R : Ending → World → Prop} (hl : Cs w q (bds (BT.node x L Rt).beads)) (hn : (BT.node x L Rt).size = n) (hnc : n ≤ c) (hw : (BT.node x L Rt).wf = true) (hm : n ≤ 5000)
    (h : ∀ p1 c1 p2 c2 w', Ext w w' → (∀ w'', Cs w'' q (bds (BT.node x L Rt).beads) → Cs w'' p1 (bds L.beads) ∧ Cs w'' p2 (bds Rt.beads)) → L.size ≤ c1 → Rt.size ≤ c2 → R (.returned (.tuple #[bdV x, .slice p1 L.size c1, .slice p2 Rt.size c2])) w') :
    Calls Tryz.prog 109 #[.slice q n c] w R := by
  refine sh109_ok _ _ _ ?_
  unfold sh109
  refine ⟨?_⟩
  obtain ⟨w1f, _, w2f, w3f⟩ := BT.wf_node hw
  have e1 := ext_alloc w (.cells #[.int .i64 0, .int .i64 0, .int .i64 0, .int .i64 0, .int .u64 0, .bool false, .bool false] 150)
  have hb := blk_alloc w #[.int .i64 0, .int .i64 0, .int .i64 0, .int .i64 0, .int .u64 0, .bool false, .bool false] 150
  generalize hb0 : w.heap.size = b at *
  generalize w.alloc (.cells #[.int .i64 0, .int .i64 0, .int .i64 0, .int .i64 0, .int .u64 0, .bool false, .bool false] 150) = w1 at *
  have hsz := BT.size_node x L Rt
  have hln : (BT.node x L Rt).beads.length = n := hn
  have hk : ∀ k : Int, k = (L.size : Int) → _ := fun k hk => by
    subst hk
    have ew : IntKind.wrap .i64 (1 + (L.size : Int)) = ((1 + L.size : Nat) : Int) := by rw [wrap_of (by omega) (by omega)]; omega
    refine (show doDr w1 (fun w10 => ∃ (C9 : World → Prop), C9 w10 ∧ (
      doIx q n 7 (0) (fun a11 => ∃ (x12 : Int), (∀ w, C9 w → World.cell? w (a11.add 0) = some (.int .i64 x12)) ∧ (
      ∃ (x13 : Int), (∀ w, C9 w → World.cell? w (a11.add 1) = some (.int .i64 x13)) ∧ (
      ∃ (x14 : Int), (∀ w, C9 w → World.cell? w (a11.add 2) = some (.int .i64 x14)) ∧ (
      ∃ (x15 : Int), (∀ w, C9 w → World.cell? w (a11.add 3) = some (.int .i64 x15)) ∧ (
      ∃ (x16 : Int), (∀ w, C9 w → World.cell? w (a11.add 4) = some (.int .u64 x16)) ∧ (
      ∃ (x17 : Bool), (∀ w, C9 w → World.cell? w (a11.add 5) = some (.bool x17)) ∧ (
      ∃ (x18 : Bool), (∀ w, C9 w → World.cell? w (a11.add 6) = some (.bool x18)) ∧ (
      doSl q c 7 (1) (IntKind.wrap .i64 (1 + (L.size : Int))) (fun p19 n20 c21 =>
      doSl q c 7 (IntKind.wrap .i64 (1 + (L.size : Int))) (((n : Nat) : Int)) (fun p22 n23 c24 =>
      doSt ((blk b).add 0) (.int .i64 x12) w10 (fun w25 => doSt ((blk b).add 1) (.int .i64 x13) w25 (fun w26 =>
      doSt ((blk b).add 2) (.int .i64 x14) w26 (fun w27 => doSt ((blk b).add 3) (.int .i64 x15) w27 (fun w28 =>
      doSt ((blk b).add 4) (.int .u64 x16) w28 (fun w29 => doSt ((blk b).add 5) (.bool x17) w29 (fun w30 =>
      doSt ((blk b).add 6) (.bool x18) w30 (fun w31 =>
      ∃ (x32 : Int), World.cell? w31 ((blk b).add 0) = some (.int .i64 x32) ∧ (
      ∃ (x33 : Int), World.cell? w31 ((blk b).add 1) = some (.int .i64 x33) ∧ (
      ∃ (x34 : Int), World.cell? w31 ((blk b).add 2) = some (.int .i64 x34) ∧ (
      ∃ (x35 : Int), World.cell? w31 ((blk b).add 3) = some (.int .i64 x35) ∧ (
      ∃ (x36 : Int), World.cell? w31 ((blk b).add 4) = some (.int .u64 x36) ∧ (
      ∃ (x37 : Bool), World.cell? w31 ((blk b).add 5) = some (.bool x37) ∧ (
      ∃ (x38 : Bool), World.cell? w31 ((blk b).add 6) = some (.bool x38) ∧ (
      R (.returned (.tuple #[.agg #[.int .i64 x32, .int .i64 x33, .int .i64 x34, .int .i64 x35, .int .u64 x36, .bool x37, .bool x38], .slice p19 n20 c21, .slice p22 n23 c24])) w31)))))))))))))))))))))))))) from ?_)
    refine ⟨⟨fun w' => Ext w w', e1.drew, ?_⟩⟩
    refine ix_flatC ecB_len (by omega) (C := fun w' => Ext w w') (fun w' e => hl.ext e) e1 hln (k := 0) rfl (by omega) fun a r => ?_
    refine ⟨_, fun w' e => r w' e 0 _ rfl, _, fun w' e => r w' e 1 _ rfl, _, fun w' e => r w' e 2 _ rfl, _, fun w' e => r w' e 3 _ rfl, _, fun w' e => r w' e 4 _ rfl, _, fun w' e => r w' e 5 _ rfl, _, fun w' e => r w' e 6 _ rfl, ?_⟩
    refine sl_flat ecB_len (by omega) hl hln hnc (a := 1) (b := 1 + L.size) rfl ew (by omega) (by omega) fun p1 hp1 => ?_
    refine sl_flat ecB_len (by omega) hl hln hnc (a := 1 + L.size) (b := n) ew rfl (by omega) (Nat.le_refl n) fun p2 hp2 => ?_
    refine do_st7 (w := w1.drew) hb fun w2 h2 g2 => ?_
    refine ⟨_, h2.cell (i := 0) (add_blk _ _) rfl, _, h2.cell (i := 1) (add_blk _ _) rfl, _, h2.cell (i := 2) (add_blk _ _) rfl, _, h2.cell (i := 3) (add_blk _ _) rfl, _, h2.cell (i := 4) (add_blk _ _) rfl, _, h2.cell (i := 5) (add_blk _ _) rfl, _, h2.cell (i := 6) (add_blk _ _) rfl, ?_⟩
    have hL1 : 1 + L.size - 1 = L.size := by omega
    have hR1 : n - (1 + L.size) = Rt.size := by omega
    rw [hL1, hR1]
    refine h p1 _ p2 _ w2 (e1.drew.st g2 (by omega)) (fun w'' hc => ⟨?_, ?_⟩) (by omega) (by omega)
    · have := hp1 w'' hc
      rw [show ((BT.node x L Rt).beads.take (1 + L.size)).drop 1 = L.beads by
        simp only [BT.beads]
        rw [show 1 + L.size = L.size + 1 by omega, List.take_succ_cons, List.drop_succ_cons, List.drop_zero, List.take_left]] at this
      exact this
    · have := hp2 w'' hc
      rw [show ((BT.node x L Rt).beads.take n).drop (1 + L.size) = Rt.beads by
        rw [List.take_of_length_le (by omega)]
        simp only [BT.beads]
        rw [show 1 + L.size = L.size + 1 by omega, List.drop_succ_cons, List.drop_left]] at this
      exact this
  refine ix_flat ecB_len (by omega) (hl.ext e1) hln (k := 0) rfl (by omega) fun a r _ => ?_
  refine ⟨x.left, r 5 _ rfl, ?_⟩
  refine ifB_intro (fun hlf => ?_) fun hlf => ?_
  · refine do_call Tryz.call189 (c_ends (hl.ext e1) hln (by omega) 5001 0 1 _ rfl (by omega) (retS_ret ⟨_, rfl, ?_⟩))
    have hp : parse 5001 ((BT.node x L Rt).beads.drop 1) = some L := by
      simp only [BT.beads, List.drop_succ_cons, List.drop_zero]
      exact parse_of _ (by rw [← w1f]; exact hlf) w2f (by have := L.depth_le; omega)
    rw [hp]
    exact hk _ rfl
  · have : L.size = 0 := by
      have := L.nn_iff
      rw [← w1f, hlf] at this
      simpa using this
    have h2 := hk _ rfl
    rw [show (L.size : Int) = 0 by rw [this]; rfl] at h2
    exact h2
theorem c_bmay {l : List Bd} {q : Option Addr} {n c : Nat} {w : World} {R : Ending → World → Prop} (hl : Cs w q (bds l)) (hn : l.length = n) (hm : n ≤ 1000000000000)
    (h : R (.returned (.bool (mayB l))) w) : Calls Tryz.prog 120 #[.slice q n c] w R := by
  refine sh120_ok _ _ _ ?_
  unfold sh120
  refine ifB_intro (fun h0 => ?_) fun h0 => ?_
  · have h0 : n = 0 := by simpa using h0
    have : l = [] := List.eq_nil_of_length_eq_zero (by omega)
    subst this
    exact h
  · have h0 : n ≠ 0 := by simpa using h0
    refine do_call Tryz.call189 (c_ends hl hn hm 5001 0 0 _ rfl (by omega) (retS_ret ⟨_, rfl, ?_⟩))
    have he : l.isEmpty = false := by cases l <;> simp_all
    rw [List.drop_zero]
    unfold mayB at h
    rw [he, Bool.false_or] at h
    cases hp : parse 5001 l with
    | none =>
      rw [hp] at h
      have : ((-1 : Int) == (n : Int)) = false := by simp
      simp only [this]
      exact h
    | some t =>
      rw [hp] at h
      have : ((t.size : Int) == (n : Int)) = (t.size == l.length) := by
        rw [hn, Bool.eq_iff_iff]; simp only [beq_iff_eq]; exact Int.ofNat_inj
      simp only [this]
      exact h
/-- beads of which a statement makes no tree -/
theorem c_long {l : List Bd} {q : Option Addr} {n c : Nat} {w : World} {R : Ending → World → Prop} (hl : Cs w q (bds l)) (hn : l.length = n)
    (h : ∀ b, (b = true ∨ (b = false ∧ n ≤ 400 ∧ ∃ t : BT, t.wf = true ∧ l = t.beads)) → R (.returned (.bool b)) w) : Calls Tryz.prog 52 #[.slice q n c] w R := by
  refine sh52_ok _ _ _ ?_
  unfold sh52
  refine ifB_intro (fun _ => h _ (.inl rfl)) fun hle => ?_
  have hle : n ≤ 400 := by have := of_decide_eq_false hle; omega
  refine do_call Tryz.call120 (c_bmay hl hn (by omega) (retS_ret ⟨_, rfl, h _ ?_⟩))
  cases hm : mayB l
  · exact .inl rfl
  · exact .inr ⟨rfl, hle, mayB_some hm⟩
set_option maxRecDepth 20000 in
theorem c_make : ∀ (t : BT) {q : Option Addr} {n c : Nat} {w : World} {R : Ending → World → Prop} (_hl : Cs w q (bds t.beads)) (_hn : t.size = n) (_hnc : n ≤ c) (_hw : t.wf = true) (_hm : n ≤ 5000)
    (_h : ∀ p w', Ext w w' → IsN w' p t.tr → R (.returned (.pointer p)) w'), Calls Tryz.prog 39 #[.slice q n c] w R
  | .nil, q, n, c, w, R, hl, hn, hnc, hw, hm, h => by
    refine sh39_ok _ _ _ ?_
    unfold sh39
    have : n = 0 := by rw [← hn]; rfl
    subst this
    exact ifB_t rfl (h _ _ (ext_refl w) rfl)
  | .node x L Rt, q, n, c, w, R, hl, hn, hnc, hw, hm, h => by
    refine sh39_ok _ _ _ ?_
    unfold sh39
    have hsz := BT.size_node x L Rt
    obtain ⟨_, _, w2f, w3f⟩ := BT.wf_node hw
    refine ifB_f (by simp; omega) ?_
    refine do_call Tryz.call109 (c_parts hl hn hnc hw hm fun p1 c1 p2 c2 w1 e1 hp h1 h2 => retS_ret ⟨_, _, _, _, _, _, _, _, _, _, _, _, _, rfl, ⟨?_⟩⟩)
    refine do_st7 (blk_alloc w1 _ _) fun w2 hb2 g2 => ?_
    have e2 : Ext w1 w2 := (ext_alloc w1 _).st g2 (Nat.le_refl _)
    have E2 := e1.trans e2
    have hcs := fun (w'' : World) (e : Ext w2 w'') => hp w'' (hl.ext (E2.trans e))
    refine ⟨⟨fun w' => Ext w2 w', ext_drew _, _, fun w' e => (hb2.ext e).cell (i := 0) (add_blk _ _) rfl, _, fun w' e => (hb2.ext e).cell (i := 1) (add_blk _ _) rfl, _, fun w' e => (hb2.ext e).cell (i := 4) (add_blk _ _) rfl, ?_⟩⟩
    refine do_call Tryz.call39 (c_make L (hcs _ (ext_drew _)).1 rfl h1 w2f (by omega) fun pl w3 e3 hL => retS_ret ⟨_, rfl, (ext_drew w2).trans e3, ?_⟩)
    have E3 := (ext_drew w2).trans e3
    refine do_call Tryz.call39 (c_make Rt (hcs _ E3).2 rfl h2 w3f (by omega) fun pr w4 e4 hR => retS_ret ⟨_, rfl, E3.trans e4, ?_⟩)
    have E4 := E3.trans e4
    refine do_call Tryz.call105 (c_new (hL.ext e4) hR (by rw [BT.tr_size, BT.tr_size]; omega) fun b w5 e5 hN _ => retS_ret ⟨_, rfl, h _ _ (E2.trans (E4.trans e5)) hN⟩)
end Go.Proofs.YtlddfgfmkapoiaaGreat

