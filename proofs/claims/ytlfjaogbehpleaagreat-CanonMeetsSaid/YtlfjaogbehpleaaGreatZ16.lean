/-
  What joins of two trees, and a pair between them, come to, by each of the four schemes. Plain.
-/
/-
  avl, avljoin: what a join makes.
-/
/-
  What the statements of layer 4 come to: RowEnds, RowTells.
-/
import Derived.Test.YtlfjaogbehpleaaGreatZ15

namespace Go.Proofs.YtlfjaogbehpleaaGreat
open Go Go.Sh

def inS (s : Bool) (t : Tr) : Tr := cond s t.left t.right
def outS (s : Bool) (t : Tr) : Tr := cond s t.right t.left
theorem Tr.size0 {t : Tr} (h : t.nn = false) : t = .nil := by cases t <;> simp [Tr.nn] at h ⊢
/-- the pairs of both sides, and one between -/
def flS (s : Bool) (i : List (Int × Int)) (x : Int × Int) (o : List (Int × Int)) : List (Int × Int) := cond s (i ++ x :: o) (o ++ x :: i)
theorem fl_node (s : Bool) {t : Tr} (h : t.nn = true) : t.pairs = flS s (inS s t).pairs (t.key, t.val) (outS s t).pairs := by
  cases t with
  | nil => cases h
  | node l k v g r => cases s <;> rfl
theorem fl_assoc (s : Bool) (a b c : List (Int × Int)) (x y : Int × Int) : flS s a x (flS s b y c) = flS s (flS s a x b) y c := by
  cases s <;> simp [flS]
theorem fl_len (s : Bool) (a b : List (Int × Int)) (x : Int × Int) : (flS s a x b).length = a.length + b.length + 1 := by
  cases s <;> simp [flS] <;> omega
/-! ### by heights -/
def mkA (l : Tr) (k v : Int) (r : Tr) : Tr := .node l k v (max l.tag r.tag + 1) r
def mkAS (s : Bool) (i : Tr) (k v : Int) (o : Tr) : Tr := cond s (mkA i k v o) (mkA o k v i)
def Avl : Tr → Prop
  | .nil => True
  | .node l _ _ g r => Avl l ∧ Avl r ∧ g = max l.tag r.tag + 1 ∧ l.tag ≤ r.tag + 1 ∧ r.tag ≤ l.tag + 1
theorem Avl.tag : ∀ {t : Tr}, Avl t → 0 ≤ t.tag ∧ t.tag ≤ t.size ∧ (t.nn = true → 0 < t.tag)
  | .nil, _ => ⟨Int.le_refl _, Int.le_refl _, by simp [Tr.nn]⟩
  | .node l k v g r, h => by
    have h1 := h.1.tag
    have h2 := h.2.1.tag
    have h3 := h.2.2.1
    simp only [Tr.tag, Tr.size]
    omega
theorem mkAS_in (s : Bool) (i o : Tr) (k v : Int) : inS s (mkAS s i k v o) = i := by cases s <;> rfl
theorem mkAS_out (s : Bool) (i o : Tr) (k v : Int) : outS s (mkAS s i k v o) = o := by cases s <;> rfl
theorem mkAS_key (s : Bool) (i o : Tr) (k v : Int) : (mkAS s i k v o).key = k ∧ (mkAS s i k v o).val = v := by cases s <;> exact ⟨rfl, rfl⟩
theorem mkAS_nn (s : Bool) (i o : Tr) (k v : Int) : (mkAS s i k v o).nn = true := by cases s <;> rfl
theorem mkAS_tag (s : Bool) (i o : Tr) (k v : Int) : (mkAS s i k v o).tag = max i.tag o.tag + 1 := by
  cases s
  · show max o.tag i.tag + 1 = _; omega
  · rfl
theorem mkAS_pairs (s : Bool) (i o : Tr) (k v : Int) : (mkAS s i k v o).pairs = flS s i.pairs (k, v) o.pairs := by cases s <;> rfl
theorem mkAS_avl {s : Bool} {i o : Tr} {k v : Int} (h1 : Avl i) (h2 : Avl o) (h3 : i.tag ≤ o.tag + 1) (h4 : o.tag ≤ i.tag + 1) : Avl (mkAS s i k v o) := by
  cases s
  · exact ⟨h2, h1, rfl, h4, h3⟩
  · exact ⟨h1, h2, rfl, h3, h4⟩
theorem Avl.sides (s : Bool) {t : Tr} (h : Avl t) (hn : t.nn = true) : Avl (inS s t) ∧ Avl (outS s t) ∧ t.tag = max (inS s t).tag (outS s t).tag + 1 ∧ (inS s t).tag ≤ (outS s t).tag + 1 ∧ (outS s t).tag ≤ (inS s t).tag + 1 := by
  cases t with
  | nil => cases hn
  | node l k v g r =>
    obtain ⟨h1, h2, h3, h4, h5⟩ := h
    cases s
    · refine ⟨h2, h1, ?_, h5, h4⟩
      show g = max r.tag l.tag + 1; omega
    · exact ⟨h1, h2, h3, h4, h5⟩
def inwardA (s : Bool) (t : Tr) : Tr := mkAS s (mkAS s (inS s t) t.key t.val (inS s (outS s t))) (outS s t).key (outS s t).val (outS s (outS s t))
def outwardA (s : Bool) (t : Tr) : Tr := mkAS s (inS s (inS s t)) (inS s t).key (inS s t).val (mkAS s (outS s (inS s t)) t.key t.val (outS s t))
def hangA (s : Bool) (k v : Int) (low : Tr) : Tr → Tr
  | .nil => mkAS s .nil k v low
  | .node l tk tv _ r =>
    let i := cond s l r
    let o := cond s r l
    let base := !o.nn || decide (o.tag ≤ low.tag + 1)
    let x := cond base (mkAS s o k v low) (cond s (hangA s k v low r) (hangA s k v low l))
    if x.tag ≤ i.tag + 1 then mkAS s i tk tv x else if base then inwardA s (mkAS s i tk tv (outwardA s x)) else inwardA s (mkAS s i tk tv x)
theorem hangA_eq (s : Bool) (k v : Int) (low : Tr) {t : Tr} (h : t.nn = true) : hangA s k v low t =
    (let i := inS s t
     let o := outS s t
     let base := !o.nn || decide (o.tag ≤ low.tag + 1)
     let x := cond base (mkAS s o k v low) (hangA s k v low o)
     if x.tag ≤ i.tag + 1 then mkAS s i t.key t.val x else if base then inwardA s (mkAS s i t.key t.val (outwardA s x)) else inwardA s (mkAS s i t.key t.val x)) := by
  cases t with
  | nil => cases h
  | node l tk tv g r => cases s <;> rfl
theorem outS_size {s : Bool} {t : Tr} (h : t.nn = true) : (outS s t).size < t.size := by
  cases t with
  | nil => cases h
  | node l k v g r => cases s <;> simp [outS, Tr.left, Tr.right, Tr.size] <;> omega
/-- what hanging comes to -/
structure HangA (s : Bool) (k v : Int) (low t x : Tr) : Prop where
  avl : Avl x
  nn : x.nn = true
  tag : x.tag = t.tag ∨ (x.tag = t.tag + 1 ∧ (outS s x).tag = (inS s x).tag + 1)
  pairs : x.pairs = flS s t.pairs (k, v) low.pairs
theorem hangA_ok (s : Bool) (k v : Int) (low : Tr) (hlow : Avl low) : ∀ (n : Nat) (t : Tr), t.size ≤ n → Avl t → low.tag + 1 < t.tag → HangA s k v low t (hangA s k v low t)
  | 0, t, hn, ht, hg => by
    have := ht.tag.2.1
    have := hlow.tag.1
    omega
  | n + 1, t, hn, ht, hg => by
    have hl0 := hlow.tag.1
    have hnn : t.nn = true := by
      cases h : t.nn with
      | true => rfl
      | false => rw [Tr.size0 h] at hg; have e0 : Tr.nil.tag = 0 := rfl; rw [e0] at hg; omega
    obtain ⟨hi, ho, htag, h1, h2⟩ := ht.sides s hnn
    have hpr := fl_node s hnn
    have hos := outS_size (s := s) hnn
    rw [hangA_eq s k v low hnn]
    generalize hI : inS s t = i at *
    generalize hO : outS s t = o at *
    have hi0 := hi.tag
    have ho0 := ho.tag
    have hb : o.nn = false → o.tag = 0 := fun h => by rw [Tr.size0 h]; rfl
    by_cases hbase : (!o.nn || decide (o.tag ≤ low.tag + 1)) = true
    · have hbt : o.tag ≤ low.tag + 1 := by
        cases hq : o.nn with
        | false => have := hb hq; omega
        | true => rw [hq] at hbase; simpa using hbase
      simp only [hbase, cond_true, mkAS_tag, if_true]
      have hx : Avl (mkAS s o k v low) := mkAS_avl ho hlow (by omega) (by omega)
      have hxp : (mkAS s o k v low).pairs = flS s o.pairs (k, v) low.pairs := mkAS_pairs _ _ _ _ _
      by_cases hc : max o.tag low.tag + 1 ≤ i.tag + 1
      · rw [if_pos hc]
        refine ⟨mkAS_avl hi hx (by rw [mkAS_tag]; omega) (by rw [mkAS_tag]; omega), mkAS_nn _ _ _ _ _, ?_, ?_⟩
        · simp only [mkAS_tag, mkAS_in, mkAS_out]; omega
        · rw [mkAS_pairs, hxp, hpr, fl_assoc]
      · rw [if_neg hc]
        have hon : o.nn = true := by
          cases hq : o.nn with
          | true => rfl
          | false => have := hb hq; omega
        obtain ⟨hoi, hoo, hot, ho1, ho2⟩ := ho.sides s hon
        have hop := fl_node s hon
        unfold inwardA outwardA
        simp only [mkAS_in, mkAS_out, mkAS_key]
        have hA : Avl (mkAS s i t.key t.val (inS s o)) := mkAS_avl hi hoi (by omega) (by omega)
        have hB : Avl (mkAS s (outS s o) k v low) := mkAS_avl hoo hlow (by omega) (by omega)
        refine ⟨mkAS_avl hA hB (by simp only [mkAS_tag]; omega) (by simp only [mkAS_tag]; omega), mkAS_nn _ _ _ _ _, ?_, ?_⟩
        · simp only [mkAS_tag, mkAS_in, mkAS_out]; omega
        · simp only [mkAS_pairs]
          rw [hpr, hop]
          simp only [fl_assoc]
    · have hbase : (!o.nn || decide (o.tag ≤ low.tag + 1)) = false := by simpa using hbase
      have hon : o.nn = true := by
        cases hq : o.nn with
        | true => rfl
        | false => rw [hq] at hbase; simp at hbase
      have hbt : low.tag + 1 < o.tag := by rw [hon] at hbase; simp at hbase; omega
      have ih := hangA_ok s k v low hlow n o (by omega) ho hbt
      simp only [hbase, cond_false, Bool.false_eq_true, if_false]
      generalize hangA s k v low o = x at *
      have hxt := ih.tag
      by_cases hc : x.tag ≤ i.tag + 1
      · rw [if_pos hc]
        refine ⟨mkAS_avl hi ih.avl (by omega) (by omega), mkAS_nn _ _ _ _ _, ?_, ?_⟩
        · simp only [mkAS_tag, mkAS_in, mkAS_out]; omega
        · rw [mkAS_pairs, ih.pairs, hpr, fl_assoc]
      · rw [if_neg hc]
        obtain ⟨hxi, hxo, hxt', hx1, hx2⟩ := ih.avl.sides s ih.nn
        have hxp := fl_node s ih.nn
        unfold inwardA
        simp only [mkAS_in, mkAS_out, mkAS_key]
        have hA : Avl (mkAS s i t.key t.val (inS s x)) := mkAS_avl hi hxi (by omega) (by omega)
        refine ⟨mkAS_avl hA hxo (by simp only [mkAS_tag]; omega) (by simp only [mkAS_tag]; omega), mkAS_nn _ _ _ _ _, ?_, ?_⟩
        · simp only [mkAS_tag, mkAS_in, mkAS_out]; omega
        · simp only [mkAS_pairs]
          rw [hpr, ← fl_assoc, ← hxp, ih.pairs, fl_assoc]
def joinA (l : Tr) (k v : Int) (r : Tr) : Tr := if r.tag + 1 < l.tag then hangA true k v r l else if l.tag + 1 < r.tag then hangA false k v l r else mkA l k v r
theorem joinA_ok {l r : Tr} (hl : Avl l) (hr : Avl r) (k v : Int) : Avl (joinA l k v r) ∧ (joinA l k v r).pairs = l.pairs ++ (k, v) :: r.pairs := by
  unfold joinA
  split
  · have := hangA_ok true k v r hr l.size l (Nat.le_refl _) hl (by assumption)
    exact ⟨this.avl, this.pairs⟩
  · split
    · have := hangA_ok false k v l hl r.size r (Nat.le_refl _) hr (by assumption)
      exact ⟨this.avl, this.pairs⟩
    · exact ⟨⟨hl, hr, rfl, by omega, by omega⟩, rfl⟩
/-! ### by colours -/
def hiR (t : Tr) : Int := t.tag / 2
def redR (t : Tr) : Bool := t.tag % 2 == 1
def mkR (l : Tr) (k v : Int) (c : Bool) (r : Tr) : Tr := .node l k v (if c then 2 * hiR l + 1 else 2 * (hiR l + 1)) r
def mkRS (s : Bool) (i : Tr) (k v : Int) (c : Bool) (o : Tr) : Tr := cond s (mkR i k v c o) (mkR o k v c i)
def blkR (t : Tr) : Tr := if redR t then .node t.left t.key t.val (t.tag + 1) t.right else t
def Rb : Tr → Prop
  | .nil => True
  | .node l _ _ g r => Rb l ∧ Rb r ∧ hiR l = hiR r ∧ ((g = 2 * hiR l + 1 ∧ redR l = false ∧ redR r = false) ∨ g = 2 * hiR l + 2)
theorem Rb.tag : ∀ {t : Tr}, Rb t → 0 ≤ t.tag ∧ hiR t ≤ t.size ∧ (t.nn = true → 0 < t.tag)
  | .nil, _ => ⟨Int.le_refl _, by simp [hiR, Tr.tag, Tr.size], by simp [Tr.nn]⟩
  | .node l k v g r, h => by
    have h1 := h.1.tag
    have h2 := h.2.1.tag
    have h3 := h.2.2
    have e : (Tr.node l k v g r).tag = g := rfl
    have e2 : (Tr.node l k v g r).size = l.size + 1 + r.size := rfl
    unfold hiR at *
    rw [e, e2]
    have := h3.2
    refine ⟨?_, ?_, fun _ => ?_⟩
    · rcases this with ⟨h, _⟩ | h <;> omega
    · rcases this with ⟨h, _⟩ | h <;> omega
    · rcases this with ⟨h, _⟩ | h <;> omega
theorem red_iff {t : Tr} : redR t = true ↔ t.tag % 2 = 1 := by simp [redR]
theorem red_no {t : Tr} : redR t = false ↔ t.tag % 2 ≠ 1 := by simp [redR]
theorem mkRS_in (s : Bool) (i o : Tr) (k v : Int) (c : Bool) : inS s (mkRS s i k v c o) = i := by cases s <;> rfl
theorem mkRS_out (s : Bool) (i o : Tr) (k v : Int) (c : Bool) : outS s (mkRS s i k v c o) = o := by cases s <;> rfl
theorem mkRS_nn (s : Bool) (i o : Tr) (k v : Int) (c : Bool) : (mkRS s i k v c o).nn = true := by cases s <;> rfl
theorem mkRS_pairs (s : Bool) (i o : Tr) (k v : Int) (c : Bool) : (mkRS s i k v c o).pairs = flS s i.pairs (k, v) o.pairs := by cases s <;> rfl
theorem mkRS_tag {s : Bool} {i o : Tr} {k v : Int} {c : Bool} (h : hiR i = hiR o) : (mkRS s i k v c o).tag = if c then 2 * hiR i + 1 else 2 * (hiR i + 1) := by
  cases s
  · show (if c then 2 * hiR o + 1 else 2 * (hiR o + 1)) = _; rw [h]
  · rfl
theorem mkRS_hi {s : Bool} {i o : Tr} {k v : Int} {c : Bool} (h : hiR i = hiR o) : hiR (mkRS s i k v c o) = if c then hiR i else hiR i + 1 := by
  show (mkRS s i k v c o).tag / 2 = _
  rw [mkRS_tag h]
  cases c <;> simp <;> omega
theorem mkRS_red {s : Bool} {i o : Tr} {k v : Int} {c : Bool} (h : hiR i = hiR o) : redR (mkRS s i k v c o) = c := by
  show ((mkRS s i k v c o).tag % 2 == 1) = _
  rw [mkRS_tag h]
  cases c
  · rw [if_neg (by simp)]
    have : (2 * (hiR i + 1)) % 2 = 0 := by omega
    rw [this]; rfl
  · rw [if_pos rfl]
    have : (2 * hiR i + 1) % 2 = 1 := by omega
    rw [this]; rfl
theorem mkRS_rb {s : Bool} {i o : Tr} {k v : Int} {c : Bool} (h1 : Rb i) (h2 : Rb o) (h : hiR i = hiR o) (hc : c = true → redR i = false ∧ redR o = false) : Rb (mkRS s i k v c o) := by
  cases s
  · refine ⟨h2, h1, h.symm, ?_⟩
    cases c
    · right; show (if false = true then _ else 2 * (hiR o + 1)) = _; rw [if_neg (by simp)]; omega
    · left; exact ⟨rfl, (hc rfl).2, (hc rfl).1⟩
  · refine ⟨h1, h2, h, ?_⟩
    cases c
    · right; show (if false = true then _ else 2 * (hiR i + 1)) = _; rw [if_neg (by simp)]; omega
    · left; exact ⟨rfl, (hc rfl).1, (hc rfl).2⟩
theorem Rb.sides (s : Bool) {t : Tr} (h : Rb t) (hn : t.nn = true) : Rb (inS s t) ∧ Rb (outS s t) ∧ hiR (inS s t) = hiR (outS s t) ∧
    ((redR t = true ∧ hiR t = hiR (inS s t) ∧ redR (inS s t) = false ∧ redR (outS s t) = false) ∨ (redR t = false ∧ hiR t = hiR (inS s t) + 1)) := by
  cases t with
  | nil => cases hn
  | node l k v g r =>
    obtain ⟨h1, h2, h3, h4⟩ := h
    have key : (redR (.node l k v g r) = true ∧ hiR (.node l k v g r) = hiR l ∧ redR l = false ∧ redR r = false) ∨ (redR (.node l k v g r) = false ∧ hiR (.node l k v g r) = hiR l + 1) := by
      rcases h4 with ⟨h, h5, h6⟩ | h
      · left; refine ⟨?_, ?_, h5, h6⟩
        · rw [red_iff]; show g % 2 = 1; omega
        · show g / 2 = _; omega
      · right; refine ⟨?_, ?_⟩
        · rw [red_no]; show g % 2 ≠ 1; omega
        · show g / 2 = _; omega
    cases s
    · refine ⟨h2, h1, h3.symm, ?_⟩
      rcases key with ⟨a, b, c, d⟩ | ⟨a, b⟩
      · exact .inl ⟨a, b.trans h3, d, c⟩
      · exact .inr ⟨a, by rw [b, h3]; rfl⟩
    · exact ⟨h1, h2, h3, key⟩
theorem blkR_black {t : Tr} (h : redR t = false) : blkR t = t := by unfold blkR; rw [h]; rfl
theorem red_nn {t : Tr} (h : redR t = true) : t.nn = true := by
  cases t with
  | nil => simp [redR, Tr.tag] at h
  | node => rfl
theorem blkR_pairs (t : Tr) : (blkR t).pairs = t.pairs := by
  unfold blkR
  split
  · cases t <;> rename_i h
    · simp [redR, Tr.tag] at h
    · rfl
  · rfl
theorem blkR_size (t : Tr) : (blkR t).size = t.size := by rw [← Tr.pairs_length, ← Tr.pairs_length, blkR_pairs]
theorem blkR_ok {t : Tr} (h : Rb t) : Rb (blkR t) ∧ redR (blkR t) = false ∧ (redR t = true → hiR (blkR t) = hiR t + 1) := by
  cases hr : redR t with
  | false => rw [blkR_black hr]; exact ⟨h, hr, by simp⟩
  | true =>
    have hn := red_nn hr
    unfold blkR
    rw [hr, if_pos rfl]
    cases t with
    | nil => cases hn
    | node l k v g r =>
      obtain ⟨h1, h2, h3, h4⟩ := h
      have hg := red_iff.1 hr
      have hg : g % 2 = 1 := hg
      have hgl : g = 2 * hiR l + 1 := by
        rcases h4 with ⟨h, _⟩ | h <;> omega
      refine ⟨⟨h1, h2, h3, .inr ?_⟩, ?_, fun _ => ?_⟩
      · show g + 1 = 2 * hiR l + 2; omega
      · rw [red_no]; show (g + 1) % 2 ≠ 1; omega
      · show (g + 1) / 2 = g / 2 + 1; omega
def hangR (s : Bool) (k v : Int) (low : Tr) : Tr → Tr
  | .nil => mkRS s .nil k v true low
  | .node l tk tv g r =>
    let t := Tr.node l tk tv g r
    if !redR t && decide (hiR t ≤ hiR low) then mkRS s t k v true low else
    let i := cond s l r
    let x := cond s (hangR s k v low r) (hangR s k v low l)
    if !redR t && redR x && redR (outS s x) then mkRS s (mkRS s i tk tv false (inS s x)) x.key x.val true (blkR (outS s x)) else mkRS s i tk tv (redR t) x
theorem hangR_eq (s : Bool) (k v : Int) (low : Tr) {t : Tr} (h : t.nn = true) : hangR s k v low t =
    if !redR t && decide (hiR t ≤ hiR low) then mkRS s t k v true low else
      (let x := hangR s k v low (outS s t)
       if !redR t && redR x && redR (outS s x) then mkRS s (mkRS s (inS s t) t.key t.val false (inS s x)) x.key x.val true (blkR (outS s x)) else mkRS s (inS s t) t.key t.val (redR t) x) := by
  cases t with
  | nil => cases h
  | node l tk tv g r => cases s <;> rfl
structure HangR (s : Bool) (k v : Int) (low t x : Tr) : Prop where
  hi : hiR x = hiR t
  rb : redR t = false → Rb x
  weak : redR t = true → redR x = true ∧ Rb (inS s x) ∧ Rb (outS s x) ∧ hiR (inS s x) = hiR x ∧ hiR (outS s x) = hiR x ∧ redR (inS s x) = false
  nn : x.nn = true
  pairs : x.pairs = flS s t.pairs (k, v) low.pairs
theorem hangR_ok (s : Bool) (k v : Int) (low : Tr) (hlow : Rb low) (hlb : redR low = false) : ∀ (n : Nat) (t : Tr), t.size ≤ n → Rb t → hiR low ≤ hiR t → HangR s k v low t (hangR s k v low t) := fun n => by
  induction n with
  | zero =>
    intro t hn ht hh
    have : t = .nil := by
      cases t with
      | nil => rfl
      | node l a b c r => simp [Tr.size] at hn
    subst this
    have h0 := hlow.tag
    have e : hiR low = hiR .nil := by
      have : hiR Tr.nil = 0 := rfl
      rw [this] at hh ⊢
      unfold hiR at *; omega
    have e' : hiR Tr.nil = hiR low := e.symm
    refine ⟨(mkRS_hi e').trans rfl, fun _ => mkRS_rb trivial hlow e' (fun _ => ⟨rfl, hlb⟩), (fun h => by cases h), mkRS_nn _ _ _ _ _ _, mkRS_pairs _ _ _ _ _ _⟩
  | succ n ih =>
    intro t hn ht hh
    cases hnn : t.nn with
    | false =>
      have := Tr.size0 hnn
      subst this
      exact ih .nil (Nat.zero_le _) ht hh
    | true =>
    obtain ⟨hi, ho, hio, hside⟩ := ht.sides s hnn
    have hpr := fl_node s hnn
    have hos := outS_size (s := s) hnn
    rw [hangR_eq s k v low hnn]
    by_cases hb : (!redR t && decide (hiR t ≤ hiR low)) = true
    · rw [if_pos hb]
      have hb : redR t = false ∧ hiR t ≤ hiR low := by simpa using hb
      have e : hiR t = hiR low := by omega
      exact ⟨mkRS_hi e, fun _ => mkRS_rb ht hlow e fun _ => ⟨hb.1, hlb⟩, (fun h => by rw [hb.1] at h; cases h), mkRS_nn _ _ _ _ _ _, mkRS_pairs _ _ _ _ _ _⟩
    · rw [if_neg hb]
      have hlo : hiR low ≤ hiR (outS s t) := by
        rcases hside with ⟨a, b, c, d⟩ | ⟨a, b⟩
        · omega
        · rw [a] at hb; simp at hb; omega
      have IH := ih (outS s t) (by omega) ho hlo
      generalize hangR s k v low (outS s t) = x at *
      generalize inS s t = i at *
      generalize outS s t = o at *
      simp only
      have hix : hiR i = hiR x := by rw [IH.hi]; exact hio
      by_cases hc : (!redR t && redR x && redR (outS s x)) = true
      · rw [if_pos hc]
        have hc : redR t = false ∧ redR x = true ∧ redR (outS s x) = true := both3' hc
        have hti : hiR t = hiR i + 1 := by
          rcases hside with ⟨a, b, c, d⟩ | ⟨a, b⟩
          · rw [hc.1] at a; cases a
          · exact b
        have hor : redR o = true := by
          cases hq : redR o with
          | true => rfl
          | false =>
            have hx := IH.rb hq
            obtain ⟨_, _, _, h5⟩ := hx.sides s IH.nn
            rcases h5 with ⟨a, b, c, d⟩ | ⟨a, b⟩
            · rw [hc.2.2] at d; cases d
            · rw [hc.2.1] at a; cases a
        obtain ⟨w1, w2, w3, w4, w5, w6⟩ := IH.weak hor
        have hbk := blkR_ok w3
        have e1 : hiR i = hiR (inS s x) := by rw [w4, hix]
        have hA := mkRS_hi (s := s) (k := t.key) (v := t.val) (c := false) e1
        rw [if_neg (by simp)] at hA
        have hB := hbk.2.2 hc.2.2
        have e2 : hiR (mkRS s i t.key t.val false (inS s x)) = hiR (blkR (outS s x)) := by rw [hA, hB, w5, hix]
        refine ⟨?_, fun _ => mkRS_rb (mkRS_rb hi w2 e1 (by simp)) hbk.1 e2 fun _ => ⟨mkRS_red e1, hbk.2.1⟩, (fun h => by rw [hc.1] at h; cases h), mkRS_nn _ _ _ _ _ _, ?_⟩
        · rw [mkRS_hi e2, if_pos rfl, hA, hti]
        · rw [mkRS_pairs, mkRS_pairs, blkR_pairs, hpr, ← fl_assoc, ← fl_node s IH.nn, IH.pairs, fl_assoc]
      · rw [if_neg hc]
        have hp : (mkRS s i t.key t.val (redR t) x).pairs = flS s t.pairs (k, v) low.pairs := by rw [mkRS_pairs, IH.pairs, hpr, fl_assoc]
        rcases hside with ⟨a, b, c, d⟩ | ⟨a, b⟩
        · refine ⟨?_, (fun h => by rw [a] at h; cases h), fun _ => ?_, mkRS_nn _ _ _ _ _ _, hp⟩
          · rw [mkRS_hi hix, a, if_pos rfl, b]
          · rw [mkRS_in, mkRS_out, mkRS_hi hix, mkRS_red hix, a, if_pos rfl]
            exact ⟨rfl, hi, IH.rb d, rfl, hix.symm, c⟩
        · have hx : Rb x := by
            cases hq : redR o with
            | false => exact IH.rb hq
            | true =>
              obtain ⟨w1, w2, w3, w4, w5, w6⟩ := IH.weak hq
              have hor : redR (outS s x) = false := by
                cases hz : redR (outS s x) with
                | false => rfl
                | true => rw [a, w1, hz] at hc; simp at hc
              exact rb_of w1 IH.nn w2 w3 w4 w5 w6 hor
          refine ⟨?_, fun _ => mkRS_rb hi hx hix (by rw [a]; simp), (fun h => by rw [a] at h; cases h), mkRS_nn _ _ _ _ _ _, hp⟩
          rw [mkRS_hi hix, a, if_neg (by simp), b]
where
  both3' {x y z : Bool} (h : (!x && y && z) = true) : x = false ∧ y = true ∧ z = true := by cases x <;> cases y <;> cases z <;> simp at h ⊢
  rb_of {s : Bool} {x : Tr} (w1 : redR x = true) (hn : x.nn = true) (w2 : Rb (inS s x)) (w3 : Rb (outS s x)) (w4 : hiR (inS s x) = hiR x) (w5 : hiR (outS s x) = hiR x) (w6 : redR (inS s x) = false) (w7 : redR (outS s x) = false) : Rb x := by
    cases x with
    | nil => cases hn
    | node l k v g r =>
      have hg : g % 2 = 1 := red_iff.1 w1
      have hh : hiR (.node l k v g r) = g / 2 := rfl
      rw [hh] at w4 w5
      cases s
      · have a1 : hiR r = g / 2 := w4
        have a2 : hiR l = g / 2 := w5
        exact ⟨w3, w2, by rw [a1, a2], .inl ⟨by rw [a2]; omega, w7, w6⟩⟩
      · have a1 : hiR l = g / 2 := w4
        have a2 : hiR r = g / 2 := w5
        exact ⟨w2, w3, by rw [a1, a2], .inl ⟨by rw [a1]; omega, w6, w7⟩⟩
def joinR (l : Tr) (k v : Int) (r : Tr) : Tr :=
  if hiR (blkR r) < hiR (blkR l) then blkR (hangR true k v (blkR r) (blkR l)) else if hiR (blkR l) < hiR (blkR r) then blkR (hangR false k v (blkR l) (blkR r)) else mkR (blkR l) k v false (blkR r)
theorem joinR_ok {l r : Tr} (hl : Rb l) (hr : Rb r) (k v : Int) : Rb (joinR l k v r) ∧ redR (joinR l k v r) = false ∧ (joinR l k v r).pairs = l.pairs ++ (k, v) :: r.pairs := by
  have bl := blkR_ok hl
  have br := blkR_ok hr
  have pl := blkR_pairs l
  have pr := blkR_pairs r
  unfold joinR
  generalize blkR l = l' at *
  generalize blkR r = r' at *
  split
  · have h := hangR_ok true k v r' br.1 br.2.1 l'.size l' (Nat.le_refl _) bl.1 (by omega)
    have hb := blkR_ok (h.rb bl.2.1)
    exact ⟨hb.1, hb.2.1, by rw [blkR_pairs, h.pairs, ← pl, ← pr]; rfl⟩
  · split
    · have h := hangR_ok false k v l' bl.1 bl.2.1 r'.size r' (Nat.le_refl _) br.1 (by omega)
      have hb := blkR_ok (h.rb br.2.1)
      exact ⟨hb.1, hb.2.1, by rw [blkR_pairs, h.pairs, ← pl, ← pr]; rfl⟩
    · have e : hiR l' = hiR r' := by omega
      refine ⟨mkRS_rb (s := true) bl.1 br.1 e (by simp), mkRS_red (s := true) e, ?_⟩
      rw [← pl, ← pr]; rfl
/-! ### by weights -/
def wtW (t : Tr) : Nat := t.size + 1
def likeW (a b : Nat) : Bool := decide (29 * (a + b) ≤ 100 * a ∧ 29 * (a + b) ≤ 100 * b)
theorem likeW_iff {a b : Nat} : likeW a b = true ↔ 29 * (a + b) ≤ 100 * a ∧ 29 * (a + b) ≤ 100 * b := by simp [likeW]
theorem likeW_not {a b : Nat} : likeW a b = false ↔ ¬(29 * (a + b) ≤ 100 * a ∧ 29 * (a + b) ≤ 100 * b) := by rw [← likeW_iff]; simp
theorem likeW_symm {a b : Nat} (h : likeW a b = true) : likeW b a = true := by rw [likeW_iff] at h ⊢; omega
def mkW (l : Tr) (k v : Int) (r : Tr) : Tr := .node l k v 0 r
def mkWS (s : Bool) (i : Tr) (k v : Int) (o : Tr) : Tr := cond s (mkW i k v o) (mkW o k v i)
def Wb : Tr → Prop
  | .nil => True
  | .node l _ _ g r => Wb l ∧ Wb r ∧ g = 0 ∧ likeW (wtW l) (wtW r) = true
theorem mkWS_nn (s : Bool) (i o : Tr) (k v : Int) : (mkWS s i k v o).nn = true := by cases s <;> rfl
theorem mkWS_wt (s : Bool) (i o : Tr) (k v : Int) : wtW (mkWS s i k v o) = wtW i + wtW o := by
  cases s
  · show o.size + 1 + i.size + 1 = i.size + 1 + (o.size + 1); omega
  · show i.size + 1 + o.size + 1 = i.size + 1 + (o.size + 1); omega
theorem mkWS_pairs (s : Bool) (i o : Tr) (k v : Int) : (mkWS s i k v o).pairs = flS s i.pairs (k, v) o.pairs := by cases s <;> rfl
theorem mkWS_wb {s : Bool} {i o : Tr} {k v : Int} (h1 : Wb i) (h2 : Wb o) (h3 : likeW (wtW i) (wtW o) = true) : Wb (mkWS s i k v o) := by
  cases s
  · exact ⟨h2, h1, rfl, likeW_symm h3⟩
  · exact ⟨h1, h2, rfl, h3⟩
theorem Wb.sides (s : Bool) {t : Tr} (h : Wb t) (hn : t.nn = true) : Wb (inS s t) ∧ Wb (outS s t) ∧ wtW t = wtW (inS s t) + wtW (outS s t) ∧ likeW (wtW (inS s t)) (wtW (outS s t)) = true := by
  cases t with
  | nil => cases hn
  | node l k v g r =>
    obtain ⟨h1, h2, h3, h4⟩ := h
    cases s
    · exact ⟨h2, h1, (by show l.size + 1 + r.size + 1 = r.size + 1 + (l.size + 1); omega), likeW_symm h4⟩
    · exact ⟨h1, h2, (by show l.size + 1 + r.size + 1 = l.size + 1 + (r.size + 1); omega), h4⟩
theorem wtW_pos (t : Tr) : 1 ≤ wtW t := by unfold wtW; omega
theorem wtW_nn {t : Tr} (h : 2 ≤ wtW t) : t.nn = true := by
  cases t with
  | nil => simp [wtW, Tr.size] at h
  | node => rfl
def onceW (s : Bool) (i : Tr) (tk tv : Int) (x : Tr) : Tr := mkWS s (mkWS s i tk tv (inS s x)) x.key x.val (outS s x)
def twiceW (s : Bool) (i : Tr) (tk tv : Int) (x : Tr) : Tr := mkWS s (mkWS s i tk tv (inS s (inS s x))) (inS s x).key (inS s x).val (mkWS s (outS s (inS s x)) x.key x.val (outS s x))
def backW (s : Bool) (i : Tr) (tk tv : Int) (x : Tr) : Tr :=
  if likeW (wtW i) (wtW x) then mkWS s i tk tv x else
  if likeW (wtW i) (wtW (inS s x)) && likeW (wtW i + wtW (inS s x)) (wtW (outS s x)) then onceW s i tk tv x else twiceW s i tk tv x
def hangW (s : Bool) (k v : Int) (low : Tr) : Tr → Tr
  | .nil => mkWS s .nil k v low
  | .node l tk tv g r =>
    if likeW (wtW (.node l tk tv g r)) (wtW low) then mkWS s (.node l tk tv g r) k v low else
    backW s (cond s l r) tk tv (cond s (hangW s k v low r) (hangW s k v low l))
theorem hangW_eq (s : Bool) (k v : Int) (low : Tr) {t : Tr} (h : t.nn = true) : hangW s k v low t =
    if likeW (wtW t) (wtW low) then mkWS s t k v low else backW s (inS s t) t.key t.val (hangW s k v low (outS s t)) := by
  cases t with
  | nil => cases h
  | node l tk tv g r => cases s <;> rfl
theorem wb_arith1 {I O L A B : Nat} (h1 : 29 * (I + O) ≤ 100 * I) (h2 : 29 * (I + O) ≤ 100 * O) (h3 : 71 * L < 29 * (I + O)) (h4 : ¬(29 * (I + (O + L)) ≤ 100 * I ∧ 29 * (I + (O + L)) ≤ 100 * (O + L)))
    (hAB : A + B = O + L) (h5 : 29 * (A + B) ≤ 100 * A)
    (h7 : ¬((29 * (I + A) ≤ 100 * I ∧ 29 * (I + A) ≤ 100 * A) ∧ (29 * (I + A + B) ≤ 100 * (I + A) ∧ 29 * (I + A + B) ≤ 100 * B))) : 29 * (I + A + B) > 100 * B := by
  omega
theorem wb_arith2 {I O L A B C D : Nat} (h1 : 29 * (I + O) ≤ 100 * I) (h2 : 29 * (I + O) ≤ 100 * O) (h3 : 71 * L < 29 * (I + O)) (h4 : 29 * (I + (O + L)) > 100 * I)
    (hAB : A + B = O + L) (h5 : 29 * (A + B) ≤ 100 * A) (h6 : 29 * (A + B) ≤ 100 * B) (h7 : 29 * (I + A + B) > 100 * B) (hCD : C + D = A) (h8 : 29 * (C + D) ≤ 100 * C) (h9 : 29 * (C + D) ≤ 100 * D) :
    (29 * (I + C) ≤ 100 * I ∧ 29 * (I + C) ≤ 100 * C) ∧ (29 * (D + B) ≤ 100 * D ∧ 29 * (D + B) ≤ 100 * B) ∧ (29 * (I + C + (D + B)) ≤ 100 * (I + C) ∧ 29 * (I + C + (D + B)) ≤ 100 * (D + B)) := by
  omega
structure HangW (s : Bool) (k v : Int) (low t x : Tr) : Prop where
  wb : Wb x
  nn : x.nn = true
  wt : wtW x = wtW t + wtW low
  pairs : x.pairs = flS s t.pairs (k, v) low.pairs
theorem hangW_ok (s : Bool) (k v : Int) (low : Tr) (hlow : Wb low) : ∀ (n : Nat) (t : Tr), t.size ≤ n → Wb t → 29 * wtW low ≤ 71 * wtW t → HangW s k v low t (hangW s k v low t) := fun n => by
  induction n with
  | zero =>
    intro t hn ht hh
    have : t = .nil := by
      cases t with
      | nil => rfl
      | node l a b c r => simp [Tr.size] at hn
    subst this
    have hp := wtW_pos low
    have e : wtW Tr.nil = 1 := rfl
    rw [e] at hh
    have : likeW (wtW Tr.nil) (wtW low) = true := by rw [likeW_iff, e]; omega
    exact ⟨mkWS_wb trivial hlow this, mkWS_nn _ _ _ _ _, mkWS_wt _ _ _ _ _, mkWS_pairs _ _ _ _ _⟩
  | succ n ih =>
    intro t hn ht hh
    cases hnn : t.nn with
    | false =>
      have := Tr.size0 hnn
      subst this
      exact ih .nil (Nat.zero_le _) ht hh
    | true =>
    obtain ⟨hi, ho, hwt, hlk⟩ := ht.sides s hnn
    have hpr := fl_node s hnn
    have hos := outS_size (s := s) hnn
    rw [hangW_eq s k v low hnn]
    cases hb : likeW (wtW t) (wtW low) with
    | true =>
      rw [if_pos rfl]
      exact ⟨mkWS_wb ht hlow hb, mkWS_nn _ _ _ _ _, mkWS_wt _ _ _ _ _, mkWS_pairs _ _ _ _ _⟩
    | false =>
      rw [if_neg (by simp)]
      rw [likeW_not] at hb
      have hlk' := likeW_iff.1 hlk
      have h3 : 71 * wtW low < 29 * (wtW (inS s t) + wtW (outS s t)) := by omega
      have IH := ih (outS s t) (by omega) ho (by omega)
      generalize hangW s k v low (outS s t) = x at *
      generalize inS s t = i at *
      generalize outS s t = o at *
      unfold backW
      obtain ⟨hxi, hxo, hxw, hxl⟩ := IH.wb.sides s IH.nn
      have hxp := fl_node s IH.nn
      have hxl' := likeW_iff.1 hxl
      have hxt := IH.wt
      cases hc : likeW (wtW i) (wtW x) with
      | true =>
        rw [if_pos rfl]
        exact ⟨mkWS_wb hi IH.wb hc, mkWS_nn _ _ _ _ _, (by rw [mkWS_wt]; omega), (by rw [mkWS_pairs, IH.pairs, hpr, fl_assoc])⟩
      | false =>
        rw [if_neg (by simp)]
        rw [likeW_not] at hc
        cases hd : likeW (wtW i) (wtW (inS s x)) && likeW (wtW i + wtW (inS s x)) (wtW (outS s x)) with
        | true =>
          rw [if_pos rfl]
          have hd : likeW (wtW i) (wtW (inS s x)) = true ∧ likeW (wtW i + wtW (inS s x)) (wtW (outS s x)) = true := by simpa using hd
          unfold onceW
          refine ⟨mkWS_wb (mkWS_wb hi hxi hd.1) hxo (by rw [mkWS_wt]; exact hd.2), mkWS_nn _ _ _ _ _, (by rw [mkWS_wt, mkWS_wt]; omega), ?_⟩
          rw [mkWS_pairs, mkWS_pairs, hpr, ← fl_assoc, ← hxp, IH.pairs, fl_assoc]
        | false =>
          rw [if_neg (by simp)]
          have hd : ¬((29 * (wtW i + wtW (inS s x)) ≤ 100 * wtW i ∧ 29 * (wtW i + wtW (inS s x)) ≤ 100 * wtW (inS s x)) ∧ (29 * (wtW i + wtW (inS s x) + wtW (outS s x)) ≤ 100 * (wtW i + wtW (inS s x)) ∧ 29 * (wtW i + wtW (inS s x) + wtW (outS s x)) ≤ 100 * wtW (outS s x))) := by
            rw [← likeW_iff, ← likeW_iff]
            intro h; rw [h.1, h.2] at hd; cases hd
          have hAB : wtW (inS s x) + wtW (outS s x) = wtW o + wtW low := by omega
          have h7 := wb_arith1 hlk'.1 hlk'.2 h3 (by rw [← hxt]; exact hc) hAB hxl'.1 hd
          have hp1 := wtW_pos (outS s x)
          have hA2 : 2 ≤ wtW (inS s x) := by omega
          have hmn := wtW_nn hA2
          obtain ⟨hmi, hmo, hmw, hml⟩ := hxi.sides s hmn
          have hmp := fl_node s hmn
          have hml' := likeW_iff.1 hml
          obtain ⟨r1, r2, r3⟩ := wb_arith2 hlk'.1 hlk'.2 h3 (by omega) hAB hxl'.1 hxl'.2 h7 hmw.symm (by omega) (by omega)
          unfold twiceW
          refine ⟨mkWS_wb (mkWS_wb hi hmi (likeW_iff.2 r1)) (mkWS_wb hmo hxo (likeW_iff.2 r2)) (by rw [mkWS_wt, mkWS_wt]; exact likeW_iff.2 r3), mkWS_nn _ _ _ _ _, (by simp only [mkWS_wt]; omega), ?_⟩
          simp only [mkWS_pairs]
          rw [hpr, ← fl_assoc]
          have : flS s (inS s (inS s x)).pairs ((inS s x).key, (inS s x).val) (flS s (outS s (inS s x)).pairs (x.key, x.val) (outS s x).pairs) = x.pairs := by
            rw [fl_assoc, ← hmp, ← hxp]
          rw [this, IH.pairs, fl_assoc]
def joinW (l : Tr) (k v : Int) (r : Tr) : Tr := if wtW l < wtW r then hangW false k v l r else hangW true k v r l
theorem joinW_ok {l r : Tr} (hl : Wb l) (hr : Wb r) (k v : Int) : Wb (joinW l k v r) ∧ (joinW l k v r).pairs = l.pairs ++ (k, v) :: r.pairs := by
  unfold joinW
  split
  · have h := hangW_ok false k v l hl r.size r (Nat.le_refl _) hr (by omega)
    exact ⟨h.wb, h.pairs⟩
  · have h := hangW_ok true k v r hr l.size l (Nat.le_refl _) hl (by omega)
    exact ⟨h.wb, h.pairs⟩
/-! ### by tags -/
/-- the items, from left to right -/
def itT : Tr → List (Int × Int × Int)
  | .nil => []
  | .node l k v g r => (itT l) ++ (k, v, g) :: (itT r)
theorem items_pairs (t : Tr) : t.pairs = (itT t).map fun x => (x.1, x.2.1) := by
  induction t with
  | nil => rfl
  | node l k v g r ihl ihr => simp [Tr.pairs, itT, ihl, ihr]
/-- does a root stand above another one? -/
def abT (a b : Tr) : Bool := a.nn && (b.nn && (decide (b.tag < a.tag) || (decide (a.tag = b.tag) && decide (b.key < a.key))))
theorem abT_iff {a b : Tr} : abT a b = true ↔ a.nn = true ∧ b.nn = true ∧ (b.tag < a.tag ∨ (a.tag = b.tag ∧ b.key < a.key)) := by
  simp [abT]
def Tp : Tr → Prop
  | .nil => True
  | .node l k v g r => Tp l ∧ Tp r ∧ abT l (.node l k v g r) = false ∧ abT r (.node l k v g r) = false
theorem abT_not {a b : Tr} : abT a b = false ↔ (a.nn = true → b.nn = true → a.tag ≤ b.tag ∧ (a.tag = b.tag → a.key ≤ b.key)) := by
  have := @abT_iff a b
  constructor
  · intro h h1 h2
    rw [h] at this
    have := mt this.2 (by simp)
    refine ⟨?_, fun h3 => ?_⟩
    · rcases Int.lt_or_le b.tag a.tag with h4 | h4
      · exact absurd ⟨h1, h2, .inl h4⟩ this
      · exact h4
    · rcases Int.lt_or_le b.key a.key with h4 | h4
      · exact absurd ⟨h1, h2, .inr ⟨h3, h4⟩⟩ this
      · exact h4
  · intro h
    cases hx : abT a b with
    | false => rfl
    | true =>
      obtain ⟨h1, h2, h3⟩ := this.1 hx
      have := h h1 h2
      rcases h3 with h3 | h3
      · omega
      · have := this.2 h3.1; omega
def midT (k v g : Int) : Tr := .node .nil k v g .nil
/-- does the left one stand on top? -/
def topT (a b m : Tr) : Bool := abT a m && (!b.nn || abT a b)
def joinT : Nat → Tr → Int → Int → Int → Tr → Tr
  | 0, l, k, v, g, r => .node l k v g r
  | n + 1, l, k, v, g, r =>
    if topT l r (midT k v g) then .node l.left l.key l.val l.tag (joinT n l.right k v g r)
    else if topT r l (midT k v g) then .node (joinT n l k v g r.left) r.key r.val r.tag r.right
    else if abT l (midT k v g) then .node l.left l.key l.val l.tag (joinT n l.right k v g r)
    else if abT r (midT k v g) then .node (joinT n l k v g r.left) r.key r.val r.tag r.right
    else .node l k v g r
structure JoinT (l : Tr) (k v g : Int) (r x : Tr) : Prop where
  tp : Tp x
  nn : x.nn = true
  root : ∀ b, b.nn = true → abT l b = false → abT r b = false → abT (midT k v g) b = false → abT x b = false
  items : (itT x) = (itT l) ++ (k, v, g) :: (itT r)
theorem items_nn {t : Tr} (h : t.nn = true) : (itT t) = (itT t.left) ++ (t.key, t.val, t.tag) :: (itT t.right) := by
  cases t with
  | nil => cases h
  | node l k v g r => rfl
theorem Tp.sides {t : Tr} (h : Tp t) (hn : t.nn = true) : Tp t.left ∧ Tp t.right ∧ abT t.left t = false ∧ abT t.right t = false := by
  cases t with
  | nil => cases hn
  | node l k v g r => exact h
theorem abT_re {a t : Tr} (hn : t.nn = true) (l r : Tr) : abT a (.node l t.key t.val t.tag r) = abT a t := by
  cases t with
  | nil => cases hn
  | node l k v g r => rfl
theorem size_nn {t : Tr} (h : t.nn = true) : t.size = t.left.size + 1 + t.right.size := by
  cases t with
  | nil => cases h
  | node l k v g r => rfl
theorem joinT_l {l r : Tr} {k v g : Int} {x : Tr} (hl : Tp l) (h1 : abT l (midT k v g) = true) (h2 : abT r l = false) (H : JoinT l.right k v g r x) : JoinT l k v g r (.node l.left l.key l.val l.tag x) := by
  obtain ⟨n1, n2, n3⟩ := abT_iff.1 h1
  obtain ⟨s1, s2, s3, s4⟩ := hl.sides n1
  have hm : abT (midT k v g) l = false := by
    rw [abT_not]
    intro _ _
    rcases n3 with h | h
    · exact ⟨by omega, by omega⟩
    · exact ⟨by omega, by omega⟩
  refine ⟨⟨s1, H.tp, ?_, ?_⟩, rfl, fun b hb b1 b2 b3 => ?_, ?_⟩
  · rw [abT_re n1]; exact s3
  · rw [abT_re n1]; exact H.root l n1 s4 h2 hm
  · rw [abT_not] at b1 ⊢
    exact fun _ q => b1 n1 q
  · show (itT l.left) ++ (l.key, l.val, l.tag) :: (itT x) = _
    rw [H.items, items_nn n1]; simp
theorem joinT_r {l r : Tr} {k v g : Int} {x : Tr} (hr : Tp r) (h1 : abT r (midT k v g) = true) (h2 : abT l r = false) (H : JoinT l k v g r.left x) : JoinT l k v g r (.node x r.key r.val r.tag r.right) := by
  obtain ⟨n1, n2, n3⟩ := abT_iff.1 h1
  obtain ⟨s1, s2, s3, s4⟩ := hr.sides n1
  have hm : abT (midT k v g) r = false := by
    rw [abT_not]
    intro _ _
    rcases n3 with h | h
    · exact ⟨by omega, by omega⟩
    · exact ⟨by omega, by omega⟩
  refine ⟨⟨H.tp, s2, ?_, ?_⟩, rfl, fun b hb b1 b2 b3 => ?_, ?_⟩
  · rw [abT_re n1]; exact H.root r n1 h2 s3 hm
  · rw [abT_re n1]; exact s4
  · rw [abT_not] at b2 ⊢
    exact fun _ q => b2 n1 q
  · show (itT x) ++ (r.key, r.val, r.tag) :: (itT r.right) = _
    rw [H.items, items_nn n1]; simp
theorem joinT_ok : ∀ (n : Nat) {l r : Tr} (k v g : Int), l.size + r.size ≤ n → Tp l → Tp r → JoinT l k v g r (joinT n l k v g r) := fun n => by
  induction n with
  | zero =>
    intro l r k v g hn hl hr
    obtain rfl : l = .nil := by cases l <;> simp [Tr.size] at hn ⊢
    obtain rfl : r = .nil := by cases r <;> simp [Tr.size] at hn ⊢
    exact ⟨⟨trivial, trivial, rfl, rfl⟩, rfl, fun b hb b1 b2 b3 => b3, rfl⟩
  | succ n ih =>
    intro l r k v g hn hl hr
    have no {a b : Tr} (h : topT a b (midT k v g) = true) : abT a (midT k v g) = true ∧ abT b a = false := by
      unfold topT at h
      have h : abT a (midT k v g) = true ∧ (b.nn = false ∨ abT a b = true) := by simpa using h
      refine ⟨h.1, ?_⟩
      rcases h.2 with h2 | h2
      · simp [abT, h2]
      · rw [abT_not]
        obtain ⟨h3, h4, h5⟩ := abT_iff.1 h2
        intro _ _
        rcases h5 with h5 | h5
        · exact ⟨by omega, by omega⟩
        · exact ⟨by omega, by omega⟩
    have big {a b : Tr} (h1 : topT a b (midT k v g) = false) (h2 : topT b a (midT k v g) = false) (h3 : abT a (midT k v g) = true) : abT b a = false := by
      unfold topT at h1 h2
      cases hba : abT b a with
      | false => rfl
      | true =>
        rw [hba] at h2
        simp at h2
        obtain ⟨p1, p2, p3⟩ := abT_iff.1 hba
        obtain ⟨q1, q2, q3⟩ := abT_iff.1 h3
        rw [abT_not] at h2
        have := h2 p1 rfl
        have e1 : (midT k v g).tag = g := rfl
        have e2 : (midT k v g).key = k := rfl
        rw [e1, e2] at *
        omega
    unfold joinT
    split
    · rename_i h
      obtain ⟨a1, a2⟩ := no h
      have := size_nn (abT_iff.1 a1).1
      exact joinT_l hl a1 a2 (ih k v g (by omega) (hl.sides (abT_iff.1 a1).1).2.1 hr)
    · rename_i h1
      split
      · rename_i h
        obtain ⟨a1, a2⟩ := no h
        have := size_nn (abT_iff.1 a1).1
        exact joinT_r hr a1 a2 (ih k v g (by omega) hl (hr.sides (abT_iff.1 a1).1).1)
      · rename_i h2
        have h1 : topT l r (midT k v g) = false := by simpa using h1
        have h2 : topT r l (midT k v g) = false := by simpa using h2
        split
        · rename_i a1
          have := size_nn (abT_iff.1 a1).1
          exact joinT_l hl a1 (big h1 h2 a1) (ih k v g (by omega) (hl.sides (abT_iff.1 a1).1).2.1 hr)
        · rename_i h3
          split
          · rename_i a1
            have := size_nn (abT_iff.1 a1).1
            exact joinT_r hr a1 (big h2 h1 a1) (ih k v g (by omega) hl (hr.sides (abT_iff.1 a1).1).1)
          · rename_i h4
            refine ⟨⟨hl, hr, ?_, ?_⟩, rfl, fun b hb b1 b2 b3 => b3, rfl⟩
            · have : abT l (midT k v g) = false := by simpa using h3
              exact this
            · have : abT r (midT k v g) = false := by simpa using h4
              exact this
end Go.Proofs.YtlfjaogbehpleaaGreat

namespace Go.Proofs.YtlfjaogbehpleaaGreat
open Go Go.Sh Go.RowKit

theorem do_maxk {P : Program} {ts : Array TypeId} {ty : TypeId} {bs : Array Bool} {kk : IntKind} {a b : Int} {w : World} {R : Ending → World → Prop} (h : R (.returned (.int kk (max a b))) w) :
    doGo P (.builtin .max ts ty bs) #[.int kk a, .int kk b] w R := by
  refine ⟨?_⟩
  unfold goV
  have e : max a b = (if b > a then b else a) := by omega
  have hr : (Builtin.max_ ts ty #[.int kk a, .int kk b]).run P w = .ok (.int kk (max a b)) w := by rw [e]; simp [Builtin.max_, Builtin.max2]
  simp only [invoke, builtin, Sem.run_bind, hr, Result.andThen_ok, Sem.run_pure]
  exact h
theorem do_mink {P : Program} {ts : Array TypeId} {ty : TypeId} {bs : Array Bool} {kk : IntKind} {a b : Int} {w : World} {R : Ending → World → Prop} (h : R (.returned (.int kk (min a b))) w) :
    doGo P (.builtin .min ts ty bs) #[.int kk a, .int kk b] w R := by
  refine ⟨?_⟩
  unfold goV
  have e : min a b = (if b < a then b else a) := by omega
  have hr : (Builtin.min_ ts ty #[.int kk a, .int kk b]).run P w = .ok (.int kk (min a b)) w := by rw [e]; simp [Builtin.min_, Builtin.min2]
  simp only [invoke, builtin, Sem.run_bind, hr, Result.andThen_ok, Sem.run_pure]
  exact h
theorem wrapU_of {x : Int} (h1 : 0 ≤ x) (h2 : x < 18446744073709551616) : IntKind.wrap .u64 x = x := by
  simp only [IntKind.wrap, IntKind.signed, IntKind.bits]
  simp
  omega
abbrev BIG : Nat := 1000000000000
theorem c_arank {p : Option Addr} {t : Tr} {w : World} {R : Ending → World → Prop} (ht : IsN w p t) (h1 : 0 ≤ t.tag) (h2 : t.tag ≤ BIG) (h : ∀ w', Ext w w' → R (.returned (.int .i64 t.tag)) w') : Calls Tryz.prog 196 #[.pointer p] w R := by
  refine sh196_ok _ ?_
  unfold sh196
  refine do_call Tryz.call214 (c_tag ht fun w1 e1 => retS_ret ⟨_, rfl, ?_⟩)
  rw [wrap_of (by omega) (by simp only [BIG] at h2; omega)]
  exact h _ e1
theorem c_amake {pl pr : Option Addr} {l r : Tr} {k v : Int} {w : World} {R : Ending → World → Prop} (hl : IsN w pl l) (hr : IsN w pr r) (hs : l.size + 1 + r.size ≤ BIG) (t1 : 0 ≤ l.tag ∧ l.tag ≤ BIG) (t2 : 0 ≤ r.tag ∧ r.tag ≤ BIG)
    (h : ∀ q w', Ext w w' → IsN w' q (mkA l k v r) → R (.returned (.pointer q)) w') : Calls Tryz.prog 250 #[.pointer pl, .int .i64 k, .int .i64 v, .pointer pr] w R := by
  refine sh250_ok _ _ _ _ ?_
  unfold sh250
  simp only [BIG] at hs t1 t2
  refine do_call Tryz.call214 (c_tag hl fun w1 e1 => retS_ret ⟨_, rfl, ?_⟩)
  refine do_call Tryz.call214 (c_tag (hr.ext e1) fun w2 e2 => retS_ret ⟨_, rfl, ?_⟩)
  have E2 := e1.trans e2
  refine do_maxk (retS_ret ⟨_, rfl, ?_⟩)
  rw [wrapU_of (by omega) (by omega)]
  exact do_call Tryz.call261 (c_new (hl.ext E2) (hr.ext E2) (by omega) fun b w3 e3 h3 _ => retS_ret ⟨_, rfl, h _ _ (E2.trans e3) h3⟩)
/-! ### sides -/
def inF (s : Bool) : Nat := cond s 128 130
def outF (s : Bool) : Nat := cond s 130 128
def mkFA (s : Bool) : Nat := cond s 308 311
theorem do_in (s : Bool) {p : Option Addr} {t : Tr} {w : World} {R : Ending → World → Prop} (ht : IsN w p t) (h : ∀ q, IsN w q (inS s t) → R (.returned (.pointer q)) w) : doCall Tryz.prog (.func (.func (inF s)) #[] #[]) #[.pointer p] w R := by
  cases s
  · exact do_call Tryz.call130 (c_right ht h)
  · exact do_call Tryz.call128 (c_left ht h)
theorem do_out (s : Bool) {p : Option Addr} {t : Tr} {w : World} {R : Ending → World → Prop} (ht : IsN w p t) (h : ∀ q, IsN w q (outS s t) → R (.returned (.pointer q)) w) : doCall Tryz.prog (.func (.func (outF s)) #[] #[]) #[.pointer p] w R := by
  cases s
  · exact do_call Tryz.call128 (c_left ht h)
  · exact do_call Tryz.call130 (c_right ht h)
theorem do_mkA (s : Bool) {pi pp po : Option Addr} {i o pr : Tr} {w : World} {R : Ending → World → Prop} (hi : IsN w pi i) (hp : IsN w pp pr) (ho : IsN w po o) (hs : i.size + 1 + o.size ≤ BIG) (t1 : 0 ≤ i.tag ∧ i.tag ≤ BIG) (t2 : 0 ≤ o.tag ∧ o.tag ≤ BIG)
    (h : ∀ q w', Ext w w' → IsN w' q (mkAS s i pr.key pr.val o) → R (.returned (.pointer q)) w') : doCall Tryz.prog (.func (.func (mkFA s)) #[] #[]) #[.pointer pi, .pointer pp, .pointer po] w R := by
  cases s
  · refine do_call Tryz.call311 (sh311_ok _ _ _ ?_)
    unfold sh311
    refine do_call Tryz.call131 (c_key hp fun w1 e1 => retS_ret ⟨_, rfl, ?_⟩)
    refine do_call Tryz.call132 (c_val (hp.ext e1) fun w2 e2 => retS_ret ⟨_, rfl, ?_⟩)
    have E2 := e1.trans e2
    exact do_call Tryz.call250 (c_amake (ho.ext E2) (hi.ext E2) (by omega) t2 t1 fun q w3 e3 h3 => retS_ret ⟨_, rfl, h _ _ (E2.trans e3) h3⟩)
  · refine do_call Tryz.call308 (sh308_ok _ _ _ ?_)
    unfold sh308
    refine do_call Tryz.call131 (c_key hp fun w1 e1 => retS_ret ⟨_, rfl, ?_⟩)
    refine do_call Tryz.call132 (c_val (hp.ext e1) fun w2 e2 => retS_ret ⟨_, rfl, ?_⟩)
    have E2 := e1.trans e2
    exact do_call Tryz.call250 (c_amake (hi.ext E2) (ho.ext E2) hs t1 t2 fun q w3 e3 h3 => retS_ret ⟨_, rfl, h _ _ (E2.trans e3) h3⟩)
abbrev sideA (s : Bool) : Value := .agg #[.func (.func (inF s)) #[] #[], .func (.func (outF s)) #[] #[], .func (.func (mkFA s)) #[] #[]]
abbrev sideAc (s : Bool) : Array Value := #[.func (.func (inF s)) #[] #[], .func (.func (outF s)) #[] #[], .func (.func (mkFA s)) #[] #[]]
theorem do_st3 {w : World} {b : Nat} {v0 v1 v2 x0 x1 x2 : Value} {t : TypeId} (h : Blk w b #[v0, v1, v2] t) {K : World → Prop} (k : ∀ w', Blk w' b #[x0, x1, x2] t → w.grownBy w' (some b) → K w') :
    doSt ((blk b).add 0) x0 w fun w1 => doSt ((blk b).add 1) x1 w1 fun w2 => doSt ((blk b).add 2) x2 w2 K := by
  refine do_st h (i := 0) (add_blk b 0) (by simp) fun w1 h1 g1 => ?_
  have k1 : Blk w1 b #[x0, v1, v2] t := h1
  refine do_st k1 (i := 1) (add_blk b 1) (by simp) fun w2 h2 g2 => ?_
  have k2 : Blk w2 b #[x0, x1, v2] t := h2
  refine do_st k2 (i := 2) (add_blk b 2) (by simp) fun w3 h3 g3 => ?_
  exact k _ h3 (grown_trans (grown_trans g1 g2) g3)
theorem c_aside (s : Bool) {w : World} {R : Ending → World → Prop} (h : ∀ w', Ext w w' → R (.returned (sideA s)) w') : doCall Tryz.prog (.func (.func (cond s 251 253)) #[] #[]) #[] w R := by
  cases s
  · refine do_call Tryz.call253 (sh253_ok ?_)
    unfold sh253
    refine ⟨do_st3 (blk_alloc w _ _) fun w1 h1 g1 => ?_⟩
    exact ⟨_, _, _, h1.cell (i := 0) (add_blk _ _) rfl, _, _, _, h1.cell (i := 1) (add_blk _ _) rfl, _, _, _, h1.cell (i := 2) (add_blk _ _) rfl, h _ ((ext_alloc w _).st g1 (Nat.le_refl _))⟩
  · refine do_call Tryz.call251 (sh251_ok ?_)
    unfold sh251
    refine ⟨do_st3 (blk_alloc w _ _) fun w1 h1 g1 => ?_⟩
    exact ⟨_, _, _, h1.cell (i := 0) (add_blk _ _) rfl, _, _, _, h1.cell (i := 1) (add_blk _ _) rfl, _, _, _, h1.cell (i := 2) (add_blk _ _) rfl, h _ ((ext_alloc w _).st g1 (Nat.le_refl _))⟩
/-- heights that are not too large -/
abbrev Tg (t : Tr) : Prop := 0 ≤ t.tag ∧ t.tag ≤ BIG
theorem mkAS_size (s : Bool) (i o : Tr) (k v : Int) : (mkAS s i k v o).size = i.size + 1 + o.size := by cases s <;> simp [mkAS, mkA, Tr.size] <;> omega
theorem c_inward (s : Bool) {p : Option Addr} {t : Tr} {w : World} {R : Ending → World → Prop} (ht : IsN w p t) (hs : (inS s t).size + 1 + ((inS s (outS s t)).size + 1 + (outS s (outS s t)).size) + 1 ≤ BIG)
    (t1 : Tg (inS s t)) (t2 : Tg (inS s (outS s t))) (t3 : Tg (outS s (outS s t))) (t4 : max (inS s t).tag (inS s (outS s t)).tag + 1 ≤ BIG)
    (h : ∀ q w', Ext w w' → IsN w' q (inwardA s t) → R (.returned (.pointer q)) w') : Calls Tryz.prog 309 #[sideA s, .pointer p] w R := by
  refine sh309_ok _ _ _ _ _ _ _ _ _ _ ?_
  unfold sh309
  refine ⟨?_⟩
  have e1 := ext_alloc w (.cells (sideAc s) 299)
  have hb := blk_alloc w (sideAc s) 299
  generalize w.alloc (.cells (sideAc s) 299) = w1 at *
  refine ⟨_, _, _, hb.cell (i := 1) (add_blk _ _) rfl, do_out s (ht.ext e1) fun qu hu => retS_ret ⟨_, rfl, ?_⟩⟩
  refine ⟨⟨fun w' => Ext w1 w', ext_drew _, _, _, _, fun w' e => (hb.ext e).cell (i := 2) (add_blk _ _) rfl, _, _, _, fun w' e => (hb.ext e).cell (i := 2) (add_blk _ _) rfl, _, _, _, fun w' e => (hb.ext e).cell (i := 0) (add_blk _ _) rfl, _, _, _, fun w' e => (hb.ext e).cell (i := 0) (add_blk _ _) rfl, _, _, _, fun w' e => (hb.ext e).cell (i := 1) (add_blk _ _) rfl, ?_⟩⟩
  have d := ext_drew w1
  refine do_in s ((ht.ext e1).ext d) fun q1 h1 => retS_ret ⟨_, rfl, d, ?_⟩
  refine do_in s (hu.ext d) fun q2 h2 => retS_ret ⟨_, rfl, d, ?_⟩
  refine do_mkA s h1 ((ht.ext e1).ext d) h2 (by omega) t1 t2 fun q3 w3 e3 h3 => retS_ret ⟨_, rfl, d.trans e3, ?_⟩
  have E3 := d.trans e3
  refine do_out s (hu.ext E3) fun q4 h4 => retS_ret ⟨_, rfl, E3, ?_⟩
  refine do_mkA s h3 (hu.ext E3) h4 (by rw [mkAS_size]; omega) (by rw [mkAS_tag]; have := t1.1; omega) t3 fun q5 w5 e5 h5 => retS_ret ⟨_, rfl, E3.trans e5, h _ _ ((e1.trans E3).trans e5) h5⟩
theorem c_outward (s : Bool) {p : Option Addr} {t : Tr} {w : World} {R : Ending → World → Prop} (ht : IsN w p t) (hs : (outS s t).size + 1 + ((outS s (inS s t)).size + 1 + (inS s (inS s t)).size) + 1 ≤ BIG)
    (t1 : Tg (outS s t)) (t2 : Tg (outS s (inS s t))) (t3 : Tg (inS s (inS s t))) (t4 : max (outS s (inS s t)).tag (outS s t).tag + 1 ≤ BIG)
    (h : ∀ q w', Ext w w' → IsN w' q (outwardA s t) → R (.returned (.pointer q)) w') : Calls Tryz.prog 310 #[sideA s, .pointer p] w R := by
  refine sh310_ok _ _ _ _ _ _ _ _ _ _ ?_
  unfold sh310
  refine ⟨?_⟩
  have e1 := ext_alloc w (.cells (sideAc s) 299)
  have hb := blk_alloc w (sideAc s) 299
  generalize w.alloc (.cells (sideAc s) 299) = w1 at *
  refine ⟨_, _, _, hb.cell (i := 0) (add_blk _ _) rfl, do_in s (ht.ext e1) fun qu hu => retS_ret ⟨_, rfl, ?_⟩⟩
  refine ⟨⟨fun w' => Ext w1 w', ext_drew _, _, _, _, fun w' e => (hb.ext e).cell (i := 2) (add_blk _ _) rfl, _, _, _, fun w' e => (hb.ext e).cell (i := 0) (add_blk _ _) rfl, _, _, _, fun w' e => (hb.ext e).cell (i := 2) (add_blk _ _) rfl, _, _, _, fun w' e => (hb.ext e).cell (i := 1) (add_blk _ _) rfl, _, _, _, fun w' e => (hb.ext e).cell (i := 1) (add_blk _ _) rfl, ?_⟩⟩
  have d := ext_drew w1
  refine do_in s (hu.ext d) fun q1 h1 => retS_ret ⟨_, rfl, d, ?_⟩
  refine do_out s (hu.ext d) fun q2 h2 => retS_ret ⟨_, rfl, d, ?_⟩
  refine do_out s ((ht.ext e1).ext d) fun q3 h3 => retS_ret ⟨_, rfl, d, ?_⟩
  refine do_mkA s h2 ((ht.ext e1).ext d) h3 (by omega) t2 t1 fun q4 w4 e4 h4 => retS_ret ⟨_, rfl, d.trans e4, ?_⟩
  have E4 := d.trans e4
  refine do_mkA s (h1.ext e4) (hu.ext E4) h4 (by rw [mkAS_size]; omega) t3 (by rw [mkAS_tag]; have := t1.1; omega) fun q5 w5 e5 h5 => retS_ret ⟨_, rfl, E4.trans e5, h _ _ ((e1.trans E4).trans e5) h5⟩
end Go.Proofs.YtlfjaogbehpleaaGreat

namespace Go.Proofs.YtlfjaogbehpleaaGreat
open Go Go.Sh Go.RowKit

theorem pos_at {o : Int} {l : List Pr} (hm : mayR o l = true) {i : Nat} (hi : i < l.length) : posR o l l[i].1 = i ∧ hasR o l l[i].1 = true ∧ getR o l l[i].1 = l[i].2 := by
  have h1 : posR o l l[i].1 = i := by unfold posR; rw [hm]; exact idx_of_mem (mayR_chain hm) hi
  have h2 : hasR o l l[i].1 = true := (hasR_iff hm).2 ⟨i, hi, rfl⟩
  refine ⟨h1, h2, ?_⟩
  unfold getR
  rw [h1, h2, getD_of hi]; rfl
end Go.Proofs.YtlfjaogbehpleaaGreat

