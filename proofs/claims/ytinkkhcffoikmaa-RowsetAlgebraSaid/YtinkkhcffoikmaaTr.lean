/-
  Trees, and rows of beads: plain. No claim of its own.
-/
import Derived.Test.YtinkkhcffoikmaaAp
import Derived.Test.YtinkkhcffoikmaaBt
namespace Go.Sh
open Go Go.RowKit

structure Bd where
  key : Int
  val : Int
  sum : Int
  size : Int
  tag : Int
  left : Bool
  right : Bool
deriving DecidableEq
def ecB (x : Bd) : List Value := [.int .i64 x.key, .int .i64 x.val, .int .i64 x.sum, .int .i64 x.size, .int .u64 x.tag, .bool x.left, .bool x.right]
theorem ecB_len (x : Bd) : (ecB x).length = 7 := rfl
abbrev bds (l : List Bd) : List Value := l.flatMap ecB
theorem bds_length (l : List Bd) : (bds l).length = l.length * 7 := flat_length ecB_len l
theorem bds_append (l r : List Bd) : bds (l ++ r) = bds l ++ bds r := List.flatMap_append
theorem bds_one {l : List Bd} : ∀ u ∈ bds l, u.oneCell' = true := fun u hu => by
  simp only [List.mem_flatMap] at hu
  obtain ⟨x, _, hx⟩ := hu
  simp [ecB] at hx
  rcases hx with rfl | rfl | rfl | rfl | rfl | rfl | rfl <;> rfl
theorem flat_drop {α : Type} {ec : α → List Value} {s : Nat} (hs : ∀ x, (ec x).length = s) (l : List α) (k : Nat) : (l.flatMap ec).drop (k * s) = (l.drop k).flatMap ec := by
  induction l generalizing k with
  | nil => simp
  | cons x xs ih =>
    cases k with
    | zero => simp
    | succ k =>
      rw [List.flatMap_cons, List.drop_succ_cons, ← ih k, show (k + 1) * s = (ec x).length + k * s by rw [hs, Nat.add_mul]; omega, List.drop_append]
      simp [List.drop_of_length_le]
theorem flat_take {α : Type} {ec : α → List Value} {s : Nat} (hs : ∀ x, (ec x).length = s) (l : List α) (k : Nat) : (l.flatMap ec).take (k * s) = (l.take k).flatMap ec := by
  induction l generalizing k with
  | nil => simp
  | cons x xs ih =>
    cases k with
    | zero => simp
    | succ k =>
      rw [List.flatMap_cons, List.take_succ_cons, List.flatMap_cons, ← ih k, show (k + 1) * s = (ec x).length + k * s by rw [hs, Nat.add_mul]; omega, List.take_append]
      simp [List.take_of_length_le]
/-- A part of a slice of structs. -/
theorem sl_flat {α : Type} {ec : α → List Value} {s : Nat} (hs : ∀ x, (ec x).length = s) (h0 : 0 < s) {w : World} {q : Option Addr} {n c : Nat} {lo hi : Int} {l : List α} {K : Option Addr → Nat → Nat → Prop} (hl : Cs w q (l.flatMap ec)) (hn : l.length = n) (hnc : n ≤ c) {a b : Nat} (ha : lo = (a : Int)) (hb : hi = (b : Int)) (h1 : a ≤ b) (h2 : b ≤ n)
    (k : ∀ p, (∀ w', Cs w' q (l.flatMap ec) → Cs w' p (((l.take b).drop a).flatMap ec)) → K p (b - a) (c - a)) : doSl q c s lo hi K := by
  subst ha; subst hb
  refine ⟨by omega, by omega, by omega, ?_⟩
  rw [Int.toNat_natCast, Int.toNat_natCast]
  refine k _ fun w' hl' => ?_
  rw [← flat_drop hs, ← flat_take hs]
  split
  · rw [List.drop_of_length_le (by rw [List.length_take, flat_length hs]; rename_i h; subst h; exact Nat.le_trans (Nat.min_le_left _ _) (Nat.mul_le_mul_right _ (by omega)))]; exact cs_nil _ _
  · cases q with
    | none =>
      have : l = [] := by
        cases l with
        | nil => rfl
        | cons x xs =>
          obtain ⟨a, ha, _⟩ := hl 0 ((ec x)[0]'(by rw [hs]; exact h0)) (by rw [List.flatMap_cons, List.getElem?_append_left (by rw [hs]; exact h0)]; exact List.getElem?_eq_getElem _)
          cases ha
      subst this; simp; exact cs_nil _ _
    | some ad => exact (hl'.take _).drop _

/-! ### Trees of beads -/
inductive BT where
  | nil
  | node (x : Bd) (l r : BT)
def BT.beads : BT → List Bd
  | .nil => []
  | .node x l r => x :: (l.beads ++ r.beads)
def BT.nn : BT → Bool
  | .nil => false
  | .node .. => true
def BT.wf : BT → Bool
  | .nil => true
  | .node x l r => (x.left == l.nn) && (x.right == r.nn) && l.wf && r.wf
def BT.depth : BT → Nat
  | .nil => 0
  | .node _ l r => 1 + max l.depth r.depth
abbrev BT.size (t : BT) : Nat := t.beads.length
theorem BT.size_node (x : Bd) (l r : BT) : (BT.node x l r).size = 1 + l.size + r.size := by simp [BT.size, BT.beads]; omega
theorem BT.nn_iff (t : BT) : t.nn = decide (0 < t.size) := by
  cases t with
  | nil => rfl
  | node x l r => simp [BT.nn, BT.size, BT.beads]
theorem BT.size_nil {t : BT} (h : t.nn = false) : t = .nil := by cases t <;> simp [BT.nn] at h ⊢
theorem BT.depth_le (t : BT) : t.depth ≤ t.size := by
  induction t with
  | nil => exact Nat.le_refl _
  | node x l r ihl ihr => simp only [BT.depth, BT.size_node]; omega
theorem BT.wf_node {x : Bd} {l r : BT} (h : (BT.node x l r).wf = true) : x.left = l.nn ∧ x.right = r.nn ∧ l.wf = true ∧ r.wf = true := by
  simp [BT.wf] at h
  exact ⟨h.1.1.1, h.1.1.2, h.1.2, h.2⟩
def parse : Nat → List Bd → Option BT
  | 0, _ => none
  | _ + 1, [] => none
  | f + 1, x :: xs =>
    (cond x.left (parse f xs) (some .nil)).bind fun l => (cond x.right (parse f (xs.drop l.size)) (some .nil)).bind fun r => some (.node x l r)
theorem parse_some : ∀ {f : Nat} {l : List Bd} {t : BT}, parse f l = some t → t.nn = true ∧ t.wf = true ∧ l = t.beads ++ l.drop t.size
  | 0, _, _, h => by simp [parse] at h
  | _ + 1, [], _, h => by simp [parse] at h
  | f + 1, x :: xs, t, h => by
    simp only [parse, Option.bind_eq_some_iff] at h
    obtain ⟨l, hl, r, hr, ht⟩ := h
    obtain rfl := Option.some.inj ht
    have hl' : l.nn = x.left ∧ l.wf = true ∧ xs = l.beads ++ xs.drop l.size := by
      cases hx : x.left with
      | true =>
        rw [hx] at hl
        have := parse_some hl
        exact this
      | false => rw [hx] at hl; obtain rfl := Option.some.inj hl; exact ⟨rfl, rfl, by simp [BT.beads, BT.size]⟩
    have hr' : r.nn = x.right ∧ r.wf = true ∧ xs.drop l.size = r.beads ++ (xs.drop l.size).drop r.size := by
      cases hx : x.right with
      | true =>
        rw [hx] at hr
        have := parse_some hr
        exact this
      | false => rw [hx] at hr; obtain rfl := Option.some.inj hr; exact ⟨rfl, rfl, by simp [BT.beads, BT.size]⟩
    refine ⟨rfl, ?_, ?_⟩
    · simp [BT.wf, hl'.1, hl'.2.1, hr'.1, hr'.2.1]
    · rw [BT.size_node, show 1 + l.size + r.size = (l.size + r.size) + 1 by omega, List.drop_succ_cons]
      simp only [BT.beads, List.cons_append, List.append_assoc]
      congr 1
      rw [← List.drop_drop, ← hr'.2.2]
      exact hl'.2.2
theorem parse_of : ∀ {t : BT} {f : Nat} (rest : List Bd), t.nn = true → t.wf = true → t.depth ≤ f → parse f (t.beads ++ rest) = some t
  | .nil, _, _, h, _, _ => by simp [BT.nn] at h
  | .node x l r, 0, _, _, _, h => by simp only [BT.depth] at h; omega
  | .node x l r, f + 1, rest, _, hw, hd => by
    obtain ⟨h1, h2, h3, h4⟩ := BT.wf_node hw
    simp only [BT.depth] at hd
    simp only [BT.beads, List.cons_append, parse, List.append_assoc]
    have hl : cond x.left (parse f (l.beads ++ (r.beads ++ rest))) (some .nil) = some l := by
      rw [h1]
      cases hn : l.nn with
      | true => exact parse_of _ hn h3 (by omega)
      | false => rw [BT.size_nil hn]; rfl
    have hr : cond x.right (parse f (r.beads ++ rest)) (some .nil) = some r := by
      rw [h2]
      cases hn : r.nn with
      | true => exact parse_of _ hn h4 (by omega)
      | false => rw [BT.size_nil hn]; rfl
    rw [hl]
    simp only [Option.bind_some, List.drop_left]
    rw [hr]; rfl
/-- are beads those of a tree? -/
def mayB (l : List Bd) : Bool := l.isEmpty || (match parse 5001 l with | some t => t.size == l.length | none => false)
theorem mayB_some {l : List Bd} (h : mayB l = true) : ∃ t : BT, t.wf = true ∧ l = t.beads := by
  unfold mayB at h
  cases l with
  | nil => exact ⟨.nil, rfl, rfl⟩
  | cons x xs =>
    simp only [List.isEmpty_cons, Bool.false_or] at h
    cases hp : parse 5001 (x :: xs) with
    | none => rw [hp] at h; cases h
    | some t =>
      rw [hp] at h
      have hs := parse_some hp
      refine ⟨t, hs.2.1, ?_⟩
      have : t.size = (x :: xs).length := by simpa using h
      rw [hs.2.2, this, List.drop_length, List.append_nil]
theorem mayB_of {t : BT} (hw : t.wf = true) (hs : t.size ≤ 5000) : mayB t.beads = true := by
  unfold mayB
  cases hn : t.nn with
  | false => rw [BT.size_nil hn]; rfl
  | true =>
    have := parse_of (f := 5001) [] hn hw (by have := t.depth_le; omega)
    rw [List.append_nil] at this
    rw [this]; simp
/-! ### Trees as they are kept -/
inductive Tr where
  | nil
  | node (l : Tr) (k v g : Int) (r : Tr)
def Tr.size : Tr → Nat
  | .nil => 0
  | .node l _ _ _ r => l.size + 1 + r.size
def Tr.sum : Tr → Int
  | .nil => 0
  | .node l _ v _ r => IntKind.wrap .i64 (IntKind.wrap .i64 (l.sum + v) + r.sum)
def Tr.left : Tr → Tr
  | .nil => .nil
  | .node l _ _ _ _ => l
def Tr.right : Tr → Tr
  | .nil => .nil
  | .node _ _ _ _ r => r
def Tr.key : Tr → Int
  | .nil => 0
  | .node _ k _ _ _ => k
def Tr.val : Tr → Int
  | .nil => 0
  | .node _ _ v _ _ => v
def Tr.tag : Tr → Int
  | .nil => 0
  | .node _ _ _ g _ => g
def Tr.nn : Tr → Bool
  | .nil => false
  | .node .. => true
/-- the pairs, from left to right -/
def Tr.pairs : Tr → List (Int × Int)
  | .nil => []
  | .node l k v _ r => l.pairs ++ (k, v) :: r.pairs
theorem Tr.pairs_length (t : Tr) : t.pairs.length = t.size := by
  induction t with
  | nil => rfl
  | node l k v g r ihl ihr => simp only [Tr.pairs, Tr.size, List.length_append, List.length_cons, ihl, ihr]; omega
def Tr.Keys (t : Tr) (p : Int → Prop) : Prop := ∀ x ∈ t.pairs, p x.1
def Tr.All (t : Tr) (p : Int × Int → Prop) : Prop := ∀ x ∈ t.pairs, p x
theorem Tr.All.node {l r : Tr} {k v g : Int} {p : Int × Int → Prop} (h : (Tr.node l k v g r).All p) : l.All p ∧ p (k, v) ∧ r.All p :=
  ⟨fun x hx => h x (by simp [Tr.pairs, hx]), h _ (by simp [Tr.pairs]), fun x hx => h x (by simp [Tr.pairs, hx])⟩
def BT.tr : BT → Tr
  | .nil => .nil
  | .node x l r => .node l.tr x.key x.val x.tag r.tr
theorem BT.tr_size (t : BT) : t.tr.size = t.size := by
  induction t with
  | nil => rfl
  | node x l r ihl ihr => rw [BT.size_node, BT.tr, Tr.size, ihl, ihr]; omega
theorem BT.tr_mem {t : BT} {x : Int × Int} (h : x ∈ t.tr.pairs) : ∃ b ∈ t.beads, x = (b.key, b.val) := by
  induction t with
  | nil => simp [BT.tr, Tr.pairs] at h
  | node y l r ihl ihr =>
    simp only [BT.tr, Tr.pairs, List.mem_append, List.mem_cons] at h
    simp only [BT.beads, List.mem_cons, List.mem_append]
    rcases h with h | h | h
    · obtain ⟨b, hb, e⟩ := ihl h; exact ⟨b, .inr (.inl hb), e⟩
    · exact ⟨y, .inl rfl, h⟩
    · obtain ⟨b, hb, e⟩ := ihr h; exact ⟨b, .inr (.inr hb), e⟩
/-- a tree that lies in memory; 'ty' is the type of a node -/
def IsT (ty : TypeId) (w : World) : Option Addr → Tr → Prop
  | p, .nil => p = none
  | p, .node l k v g r => ∃ b pl pr, p = some (blk b) ∧
      Blk w b #[.int .i64 k, .int .i64 v, .int .i64 (Tr.node l k v g r).sum, .int .u64 g, .int .i64 ((Tr.node l k v g r).size : Nat), .pointer pl, .pointer pr] ty ∧ IsT ty w pl l ∧ IsT ty w pr r
theorem IsT.ext {ty : TypeId} {w w' : World} {p : Option Addr} {t : Tr} (h : IsT ty w p t) (e : Ext w w') : IsT ty w' p t := by
  induction t generalizing p with
  | nil => exact h
  | node l k v g r ihl ihr =>
    obtain ⟨b, pl, pr, hp, hb, hl, hr⟩ := h
    exact ⟨b, pl, pr, hp, hb.ext e, ihl hl, ihr hr⟩
theorem IsT.none {ty : TypeId} {w : World} {t : Tr} (h : IsT ty w none t) : t = .nil := by
  cases t with
  | nil => rfl
  | node l k v g r => obtain ⟨b, pl, pr, hp, _⟩ := h; cases hp
theorem IsT.isNone {ty : TypeId} {w : World} {p : Option Addr} {t : Tr} (h : IsT ty w p t) : p.isNone = !t.nn := by
  cases t with
  | nil => rw [show p = Option.none from h]; rfl
  | node l k v g r => obtain ⟨b, pl, pr, rfl, _⟩ := h; rfl
/-- the side on which the way goes on -/
def Tr.next (o key : Int) (t : Tr) : Tr := if cmpI o key t.key < 0 then t.left else t.right
theorem Tr.All.left {t : Tr} {p : Int × Int → Prop} (h : t.All p) : t.left.All p := by
  cases t with
  | nil => exact h
  | node l k v g r => exact h.node.1
theorem Tr.All.right {t : Tr} {p : Int × Int → Prop} (h : t.All p) : t.right.All p := by
  cases t with
  | nil => exact h
  | node l k v g r => exact h.node.2.2
theorem Tr.All.nx {t : Tr} {p : Int × Int → Prop} (h : t.All p) (o key : Int) : (t.next o key).All p := by
  unfold Tr.next; split
  · exact h.left
  · exact h.right
theorem Tr.nn_size {t : Tr} : t.nn = decide (0 < t.size) := by
  cases t with
  | nil => rfl
  | node l k v g r => simp only [Tr.nn, Tr.size]; exact (decide_eq_true (by omega)).symm
theorem Tr.next_lt {t : Tr} (h : t.nn = true) (o key : Int) : (t.next o key).size < t.size := by
  cases t with
  | nil => cases h
  | node l k v g r => unfold Tr.next; split <;> simp only [Tr.left, Tr.right, Tr.size] <;> omega
/-! ### Beads with their sizes and sums -/
def sumV (l : List Bd) : Int := l.foldl (fun s b => IntKind.wrap .i64 (s + b.val)) 0
def BT.of : BT → BT
  | .nil => .nil
  | .node x l r => .node { x with size := ((BT.node x l r).size : Nat), sum := sumV (BT.node x l r).beads } l.of r.of
theorem BT.of_size (t : BT) : t.of.size = t.size := by
  induction t with
  | nil => rfl
  | node x l r ihl ihr => rw [BT.of, BT.size_node, BT.size_node, ihl, ihr]
theorem BT.of_nn (t : BT) : t.of.nn = t.nn := by cases t <;> rfl
theorem BT.of_wf (t : BT) : t.of.wf = t.wf := by
  induction t with
  | nil => rfl
  | node x l r ihl ihr => simp only [BT.of, BT.wf, BT.of_nn, ihl, ihr]
theorem BT.of_tr (t : BT) : t.of.tr = t.tr := by
  induction t with
  | nil => rfl
  | node x l r ihl ihr => simp only [BT.of, BT.tr, ihl, ihr]
theorem BT.tr_nn (t : BT) : t.tr.nn = t.nn := by cases t <;> rfl
def BT.height : BT → Nat
  | .nil => 0
  | .node _ l r => 1 + max l.height r.height
theorem BT.of_height (t : BT) : t.of.height = t.height := by
  induction t with
  | nil => rfl
  | node x l r ihl ihr => simp only [BT.of, BT.height, ihl, ihr]
theorem BT.height_le (t : BT) : t.height ≤ t.size := by
  induction t with
  | nil => exact Nat.le_refl _
  | node x l r ihl ihr => simp only [BT.height, BT.size_node]; omega
/-- numbers of one cell -/
abbrev u8s (l : List Int) : List Value := l.flatMap fun x => [.int .u8 x]
theorem u8_len (x : Int) : ([.int .u8 x] : List Value).length = 1 := rfl
end Go.Sh
