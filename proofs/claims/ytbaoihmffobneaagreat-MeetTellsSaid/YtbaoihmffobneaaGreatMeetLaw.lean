/-
  What two rows of items have both, and what one has alone. Plain.
-/
import Derived.Test.YtbaoihmffobneaaGreatUni2
namespace Go.Proofs.YtbaoihmffobneaaGreat
open Go Go.Sh Go.RowKit

def findK (b : List It) (k : Int) : Option It := b.find? fun z => decide (z.1 = k)
def lessL (a b : List It) : List It := a.filter fun x => (findK b x.1).isNone
def meetG (p : Int) (b : List It) (x : It) : Option It := (findK b x.1).map fun y => (x.1, comb p x.2.1 y.2.1, x.2.2)
def meetL (p : Int) (a b : List It) : List It := a.filterMap (meetG p b)
theorem findK_filter {b : List It} {k : Int} {q : It → Bool} (h : ∀ z ∈ b, z.1 = k → q z = true) : findK (b.filter q) k = findK b k := by
  unfold findK
  rw [List.find?_filter]
  induction b with
  | nil => rfl
  | cons z b ih =>
    have ih := ih fun y hy => h y (.tail _ hy)
    simp only [List.find?_cons]
    by_cases hz : z.1 = k
    · simp [h z (.head _) hz, hz]
    · simp [hz]; simpa using ih
theorem findK_eq {o k : Int} {b : List It} (ho : isO o = true) (hk : In k) (hb : ∀ z ∈ b, In z.1) : findK b k = (eqF o k b).head? := by
  unfold findK eqF
  rw [List.head?_filter]
  induction b with
  | nil => rfl
  | cons z b ih =>
    have ih := ih fun y hy => hb y (.tail _ hy)
    simp only [List.find?_cons]
    have : decide (z.1 = k) = decide (cmpI o z.1 k = 0) := by
      by_cases hz : z.1 = k
      · rw [decide_eq_true hz, hz, cmpI_self]; rfl
      · rw [decide_eq_false hz, decide_eq_false fun g => hz (cmpI_eq ho (hb z (.head _)) hk g)]
    rw [this, ih]
theorem findK_none {b : List It} {k : Int} (h : ∀ z ∈ b, z.1 ≠ k) : findK b k = none := by
  unfold findK
  rw [List.find?_eq_none]
  intro z hz
  simp [h z hz]
theorem less_nil (a : List It) : lessL a [] = a := filt_all fun _ _ => rfl
theorem less_app (a d b : List It) : lessL (a ++ d) b = lessL a b ++ lessL d b := List.filter_append ..
theorem less_congr {a b d : List It} (h : ∀ x ∈ a, findK b x.1 = findK d x.1) : lessL a b = lessL a d := by
  unfold lessL
  exact List.filter_congr fun x hx => by rw [h x hx]
theorem meet_congr {p : Int} {a b d : List It} (h : ∀ x ∈ a, findK b x.1 = findK d x.1) : meetL p a b = meetL p a d := by
  unfold meetL
  induction a with
  | nil => rfl
  | cons x a ih =>
    rw [List.filterMap_cons, List.filterMap_cons, ih fun y hy => h y (.tail _ hy)]
    unfold meetG
    rw [h x (.head _)]
theorem mem_less {a b : List It} {x : It} (h : x ∈ lessL a b) : x ∈ a := (List.mem_filter.1 h).1
/-- what stands below a key is found below it -/
theorem find_lt {o k : Int} {a b : List It} (h : ∀ x ∈ a, cmpI o x.1 k < 0) : ∀ x ∈ a, findK b x.1 = findK (ltF o k b) x.1 := fun x hx =>
  (findK_filter fun z _ e => by rw [e]; exact decide_eq_true (h x hx)).symm
theorem find_gt {o k : Int} {a b : List It} (h : ∀ x ∈ a, 0 < cmpI o x.1 k) : ∀ x ∈ a, findK b x.1 = findK (gtF o k b) x.1 := fun x hx =>
  (findK_filter fun z _ e => by rw [e]; exact decide_eq_true (h x hx)).symm
/-! ### trees -/
/-- two trees, gone down together -/
def goC (c o : Int) (f1 f2 : Tr → Tr) (it : It → It → Bool → It × Bool) : Tr → Tr → Tr
  | .nil, u => f2 u
  | .node l k v g r, u =>
    if u.nn then
      if (it (itC c (k, v, g)) (itO (splitC c o k u).2.1) (splitC c o k u).2.1.isSome).2 then
        joinC c (goC c o f1 f2 it l (splitC c o k u).1) (it (itC c (k, v, g)) (itO (splitC c o k u).2.1) (splitC c o k u).2.1.isSome).1 (goC c o f1 f2 it r (splitC c o k u).2.2)
      else join2C c (goC c o f1 f2 it l (splitC c o k u).1) (goC c o f1 f2 it r (splitC c o k u).2.2)
    else f1 (.node l k v g r)
theorem join2C_size {c : Int} {l r : Tr} (hl : OkP c l) (hr : OkP c r) : (join2C c l r).size = l.size + r.size := by
  have := congrArg List.length (join2C_ok hl hr).2
  simp only [itsC_len, List.length_append] at this
  omega
structure Side (c : Int) (f : Tr → Tr) : Prop where
  ok : ∀ t, OkP c t → OkM c (f t)
  sz : ∀ t, OkP c t → (f t).size ≤ t.size
theorem goC_p {c o : Int} {f1 f2 : Tr → Tr} {it : It → It → Bool → It × Bool} (h1 : Side c f1) (h2 : Side c f2) : ∀ {a u : Tr}, OkP c a → OkM c u → OkM c (goC c o f1 f2 it a u) ∧ (goC c o f1 f2 it a u).size ≤ a.size + u.size
  | .nil, u, _, hu => ⟨h2.ok u hu.1, by have := h2.sz u hu.1; show (f2 u).size ≤ 0 + u.size; omega⟩
  | .node l k v g r, u, ha, hu => by
    obtain ⟨hl, hr⟩ := ha.sides
    have e : (Tr.node l k v g r).size = l.size + 1 + r.size := rfl
    unfold goC
    split
    · have sp := splitC_p (o := o) (key := k) hu.1
      have IL := goC_p (o := o) (it := it) h1 h2 hl sp.1
      have IR := goC_p (o := o) (it := it) h1 h2 hr sp.2.1
      split
      · have j := joinC_ok IL.1.1 IR.1.1 (it (itC c (k, v, g)) (itO (splitC c o k u).2.1) (splitC c o k u).2.1.isSome).1
        have js := joinC_size IL.1.1 IR.1.1 (it (itC c (k, v, g)) (itO (splitC c o k u).2.1) (splitC c o k u).2.1.isSome).1
        exact ⟨j.1, by rw [js]; omega⟩
      · have j := join2C_ok IL.1.1 IR.1.1
        have js := join2C_size IL.1.1 IR.1.1
        exact ⟨j.1, by rw [js]; omega⟩
    · exact ⟨h1.ok _ ha, by have := h1.sz _ ha; omega⟩
/-- whatever goes by parts: if it holds of what is empty, and goes by parts, it holds -/
theorem goC_its {c o : Int} {f1 f2 : Tr → Tr} {it : It → It → Bool → It × Bool} (h1 : Side c f1) (h2 : Side c f2) (W : List It → List It → List It)
    (w1 : ∀ t, OkP c t → asc o (itsC c t) → itsC c (f2 t) = W [] (itsC c t)) (w2 : ∀ t, OkP c t → itsC c (f1 t) = W (itsC c t) [])
    (hi : ∀ x y is, itC c x = x → itC c (it x y is).1 = (it x y is).1)
    (w3 : ∀ l r x b (z : Option It), asc o (l ++ x :: r) → asc o b → In x.1 → (∀ y ∈ l, In y.1) → (∀ y ∈ r, In y.1) → (∀ y ∈ b, In y.1) → (∀ y ∈ l, cmpI o y.1 x.1 < 0) → (∀ y ∈ r, cmpI o x.1 y.1 < 0) → z.toList = eqF o x.1 b →
      W (l ++ x :: r) b = W l (ltF o x.1 b) ++ (cond (it x (itO z) z.isSome).2 [(it x (itO z) z.isSome).1] []) ++ W r (gtF o x.1 b)) :
    ∀ {a u : Tr}, OkP c a → OkM c u → asc o (itsC c a) → asc o (itsC c u) → InK a → InK u → itsC c (goC c o f1 f2 it a u) = W (itsC c a) (itsC c u)
  | .nil, u, _, hu, _, hau, _, _ => w1 u hu.1 hau
  | .node l k v g r, u, ha, hu, haa, hau, hka, hku => by
    obtain ⟨hl, hr⟩ := ha.sides
    obtain ⟨al, ar, bl, br⟩ := asc_node haa
    obtain ⟨kl, kk, kr⟩ := hka
    unfold goC
    split
    · have S := splitC_ok (o := o) (key := k) hu.1 hau
      have q1 : asc o (itsC c (splitC c o k u).1) := by rw [S.lt]; exact asc_filter hau
      have q2 : asc o (itsC c (splitC c o k u).2.2) := by rw [S.gt]; exact asc_filter hau
      have kuI := (inK_its (c := c)).1 hku
      have k1 : InK (splitC c o k u).1 := (inK_its (c := c)).2 fun x hx => by rw [S.lt] at hx; exact kuI x (List.mem_filter.1 hx).1
      have k2 : InK (splitC c o k u).2.2 := (inK_its (c := c)).2 fun x hx => by rw [S.gt] at hx; exact kuI x (List.mem_filter.1 hx).1
      have IL := goC_its h1 h2 W w1 w2 hi w3 hl S.okl al q1 kl k1
      have IR := goC_its h1 h2 W w1 w2 hi w3 hr S.okr ar q2 kr k2
      have pL := goC_p (o := o) (it := it) h1 h2 hl S.okl
      have pR := goC_p (o := o) (it := it) h1 h2 hr S.okr
      have hxk : (itC c (k, v, g)).1 = k := itC_key _ _
      have w := w3 (itsC c l) (itsC c r) (itC c (k, v, g)) (itsC c u) (splitC c o k u).2.1 (by rw [← itsC_node]; exact haa) hau (by rw [hxk]; exact kk) ((inK_its (c := c)).1 kl) ((inK_its (c := c)).1 kr) kuI (by rw [hxk]; exact bl) (by rw [hxk]; exact br) (by rw [hxk]; exact S.eq)
      rw [hxk] at w
      rw [itsC_node, w]
      have hfix := hi (itC c (k, v, g)) (itO (splitC c o k u).2.1) (splitC c o k u).2.1.isSome (itC_itC c _)
      split
      · rename_i hy
        have j := joinC_ok pL.1.1 pR.1.1 (it (itC c (k, v, g)) (itO (splitC c o k u).2.1) (splitC c o k u).2.1.isSome).1
        rw [j.2, IL, IR, S.lt, S.gt, hfix, hy]
        simp
      · rename_i hy
        have j := join2C_ok pL.1.1 pR.1.1
        rw [j.2, IL, IR, S.lt, S.gt, (Bool.not_eq_true _).mp hy]
        simp
    · rename_i hn
      have : u = .nil := by cases u with
        | nil => rfl
        | node _ _ _ _ _ => exact absurd rfl hn
      subst this
      exact w2 _ ha
end Go.Proofs.YtbaoihmffobneaaGreat
