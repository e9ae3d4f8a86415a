/-
  Less, Meet, Apart: what the trees have. Plain.
-/
import Derived.Test.YtbaoihmffobneaaGreatMeetLaw
namespace Go.Proofs.YtbaoihmffobneaaGreat
open Go Go.Sh Go.RowKit

def aloneI (x _ : It) (is : Bool) : It × Bool := (x, !is)
def meetI (p : Int) (x y : It) (is : Bool) : It × Bool := ((x.1, comb p x.2.1 y.2.1, x.2.2), is)
theorem side_whole (c : Int) : Side c (wholeC c) := ⟨fun _ h => (wholeC_ok h).1, fun _ h => Nat.le_of_eq (wholeC_size h)⟩
theorem side_none {c : Int} (hc : isS c = true) : Side c fun _ => .nil := ⟨fun _ _ => .nil hc, fun _ _ => Nat.zero_le _⟩
theorem head_one {l : List It} {z : Option It} (h : z.toList = l) : l.head? = z := by subst h; cases z <;> rfl
theorem find_app (a d : List It) (k : Int) : findK (a ++ d) k = (findK a k).or (findK d k) := List.find?_append
theorem itC_same {c v : Int} {x : It} (h : itC c x = x) : itC c (x.1, v, x.2.2) = (x.1, v, x.2.2) := by
  unfold itC at h ⊢
  split
  · rfl
  · rename_i hc
    rw [if_neg hc] at h
    have := congrArg (fun y : It => y.2.2) h
    simp at this
    simp [this]
theorem less_parts {o : Int} (ho : isO o = true) {l r b : List It} {x : It} {z : Option It} (hx : In x.1) (hb : ∀ y ∈ b, In y.1) (bl : ∀ y ∈ l, cmpI o y.1 x.1 < 0) (br : ∀ y ∈ r, cmpI o x.1 y.1 < 0) (hz : z.toList = eqF o x.1 b) :
    lessL (l ++ x :: r) b = lessL l (ltF o x.1 b) ++ (cond (!z.isSome) [x] []) ++ lessL r (gtF o x.1 b) := by
  rw [show l ++ x :: r = (l ++ [x]) ++ r by simp, less_app, less_app, less_congr (find_lt (b := b) bl), less_congr (a := r) (find_gt (b := b) fun y hy => cmpI_neg (br y hy))]
  congr 2
  unfold lessL
  rw [List.filter_cons, List.filter_nil, findK_eq ho hx hb, head_one hz]
  cases z <;> rfl
theorem meet_parts {o p : Int} (ho : isO o = true) {l r b : List It} {x : It} {z : Option It} (hx : In x.1) (hb : ∀ y ∈ b, In y.1) (bl : ∀ y ∈ l, cmpI o y.1 x.1 < 0) (br : ∀ y ∈ r, cmpI o x.1 y.1 < 0) (hz : z.toList = eqF o x.1 b) :
    meetL p (l ++ x :: r) b = meetL p l (ltF o x.1 b) ++ (cond (meetI p x (itO z) z.isSome).2 [(meetI p x (itO z) z.isSome).1] []) ++ meetL p r (gtF o x.1 b) := by
  rw [← meet_congr (find_lt (b := b) bl), ← meet_congr (a := r) (find_gt (b := b) fun y hy => cmpI_neg (br y hy))]
  unfold meetL
  rw [show l ++ x :: r = (l ++ [x]) ++ r by simp, List.filterMap_append, List.filterMap_append]
  congr 2
  rw [List.filterMap_cons, List.filterMap_nil]
  unfold meetG
  rw [findK_eq ho hx hb, head_one hz]
  cases z <;> rfl
def lessC (c o : Int) : Tr → Tr → Tr := goC c o (wholeC c) (fun _ => .nil) aloneI
def meetC (c o p : Int) : Tr → Tr → Tr := goC c o (fun _ => .nil) (fun _ => .nil) (meetI p)
def apartC (c o : Int) : Tr → Tr → Tr := goC c o (wholeC c) (wholeC c) aloneI
def apartL (o : Int) (a b : List It) : List It := foldI o 1 (lessL a b) (lessL b a)
theorem lessC_ok {c o : Int} (ho : isO o = true) {a u : Tr} (ha : OkU c o a) (hu : OkU c o u) : OkM c (lessC c o a u) ∧ itsC c (lessC c o a u) = lessL (itsC c a) (itsC c u) ∧ (lessC c o a u).size ≤ a.size + u.size := by
  have hc := ha.ok.1.s
  have P := goC_p (o := o) (it := aloneI) (side_whole c) (side_none hc) ha.ok.1 hu.ok
  refine ⟨P.1, goC_its (side_whole c) (side_none hc) lessL (fun _ _ _ => rfl) (fun t ht => by rw [(wholeC_ok ht).2, less_nil]) (fun _ _ _ h => h) (fun l r x b z _ _ hx _ _ hb bl br hz => less_parts ho hx hb bl br hz) ha.ok.1 hu.ok ha.asc hu.asc ha.k hu.k, P.2⟩
theorem meetC_ok {c o p : Int} (ho : isO o = true) {a u : Tr} (ha : OkU c o a) (hu : OkU c o u) : OkM c (meetC c o p a u) ∧ itsC c (meetC c o p a u) = meetL p (itsC c a) (itsC c u) ∧ (meetC c o p a u).size ≤ a.size + u.size := by
  have hc := ha.ok.1.s
  have P := goC_p (o := o) (it := meetI p) (side_none hc) (side_none hc) ha.ok.1 hu.ok
  refine ⟨P.1, goC_its (side_none hc) (side_none hc) (meetL p) (fun _ _ _ => rfl) (fun t _ => ?_) (fun x y is h => itC_same (v := comb p x.2.1 y.2.1) h) (fun l r x b z _ _ hx _ _ hb bl br hz => meet_parts ho hx hb bl br hz) ha.ok.1 hu.ok ha.asc hu.asc ha.k hu.k, P.2⟩
  symm
  show List.filterMap (meetG p []) (itsC c t) = []
  rw [List.filterMap_eq_nil_iff]
  intro x _
  rfl
theorem less_below {o : Int} {l r : List It} {x : It} {b : List It} (bl : ∀ y ∈ b, cmpI o y.1 x.1 < 0) (br : ∀ y ∈ r, cmpI o x.1 y.1 < 0) : lessL b (l ++ x :: r) = lessL b l := less_congr fun y hy => by
  rw [find_app, findK_none (b := x :: r) fun z hz e => ?_, Option.or_none]
  have g := bl y hy
  rw [← e] at g
  rcases List.mem_cons.1 hz with rfl | hz
  · have := cmpI_self o z.1; omega
  · have := cmpI_neg (br z hz); omega
theorem less_above {o : Int} {l r : List It} {x : It} {b : List It} (bb : ∀ y ∈ b, 0 < cmpI o y.1 x.1) (bl : ∀ y ∈ l, cmpI o y.1 x.1 < 0) : lessL b (l ++ x :: r) = lessL b r := less_congr fun y hy => by
  rw [show l ++ x :: r = (l ++ [x]) ++ r by simp, find_app, findK_none (b := l ++ [x]) fun z hz e => ?_, Option.none_or]
  have g := bb y hy
  rw [← e] at g
  rcases List.mem_append.1 hz with hz | hz
  · have := bl z hz; omega
  · simp at hz; subst hz
    have := cmpI_self o z.1; omega
theorem apart_parts {o : Int} (ho : isO o = true) {l r b : List It} {x : It} {z : Option It} (hb0 : asc o b) (hx : In x.1) (hb : ∀ y ∈ b, In y.1) (bl : ∀ y ∈ l, cmpI o y.1 x.1 < 0) (br : ∀ y ∈ r, cmpI o x.1 y.1 < 0) (hz : z.toList = eqF o x.1 b) :
    apartL o (l ++ x :: r) b = apartL o l (ltF o x.1 b) ++ (cond (!z.isSome) [x] []) ++ apartL o r (gtF o x.1 b) := by
  have mlt : ∀ y ∈ ltF o x.1 b, cmpI o y.1 x.1 < 0 := fun z hz => of_decide_eq_true (List.mem_filter.1 hz).2
  have meq : ∀ y ∈ eqF o x.1 b, cmpI o y.1 x.1 = 0 := fun z hz => of_decide_eq_true (List.mem_filter.1 hz).2
  have mgt : ∀ y ∈ gtF o x.1 b, 0 < cmpI o y.1 x.1 := fun z hz => of_decide_eq_true (List.mem_filter.1 hz).2
  have e2 : lessL b (l ++ x :: r) = lessL (ltF o x.1 b) l ++ lessL (gtF o x.1 b) r := by
    have hp := asc_parts (key := x.1) hb0
    rw [show lessL b (l ++ x :: r) = lessL (ltF o x.1 b ++ (eqF o x.1 b ++ gtF o x.1 b)) (l ++ x :: r) from congrArg (fun q => lessL q (l ++ x :: r)) hp]
    rw [less_app, less_app, less_below mlt br, less_above mgt bl]
    have : lessL (eqF o x.1 b) (l ++ x :: r) = [] := filt_no fun y hy => by
      have e := cmpI_eq ho (hb y (List.mem_filter.1 hy).1) hx (meq y hy)
      rw [find_app, Option.isNone_or]
      have : findK (x :: r) y.1 = some x := by unfold findK; rw [List.find?_cons, decide_eq_true e.symm]
      rw [this]; simp
    rw [this, List.nil_append]
  unfold apartL
  rw [less_parts ho hx hb bl br hz, e2, foldI_app, List.append_assoc]
  have hX : ∀ y ∈ (cond (!z.isSome) [x] [] : List It), y = x := fun y hy => by cases z <;> simp at hy; exact hy
  rw [foldI_left (l := lessL l (ltF o x.1 b)) fun w hw y hy => by
    have g := mlt w (mem_less hw)
    rcases List.mem_append.1 hy with hy | hy
    · rw [hX y hy]; exact cmpI_neg g
    · exact cmpI_neg (cmpI_trans g (br y (mem_less hy)))]
  rw [← List.append_assoc, foldI_right fun w hw y hy => ?_]
  have g := cmpI_pos (mgt w (mem_less hw))
  rcases List.mem_append.1 hy with hy | hy
  · exact cmpI_trans (foldI_all (P := fun a _ => cmpI o a x.1 < 0) (fun y hy => bl y (mem_less hy)) (fun y hy => mlt y (mem_less hy)) y hy) g
  · rw [hX y hy]; exact g
theorem apartC_ok {c o : Int} (ho : isO o = true) {a u : Tr} (ha : OkU c o a) (hu : OkU c o u) : OkM c (apartC c o a u) ∧ itsC c (apartC c o a u) = apartL o (itsC c a) (itsC c u) ∧ (apartC c o a u).size ≤ a.size + u.size := by
  have P := goC_p (o := o) (it := aloneI) (side_whole c) (side_whole c) ha.ok.1 hu.ok
  refine ⟨P.1, goC_its (side_whole c) (side_whole c) (apartL o) (fun t ht hat => ?_) (fun t ht => ?_) (fun _ _ _ h => h) (fun l r x b z _ hb0 hx _ _ hb bl br hz => apart_parts ho hb0 hx hb bl br hz) ha.ok.1 hu.ok ha.asc hu.asc ha.k hu.k, P.2⟩
  · rw [(wholeC_ok ht).2]
    unfold apartL
    rw [less_nil]
    exact (foldI_none hat).symm
  · rw [(wholeC_ok ht).2]
    unfold apartL
    rw [less_nil]; rfl
end Go.Proofs.YtbaoihmffobneaaGreat
