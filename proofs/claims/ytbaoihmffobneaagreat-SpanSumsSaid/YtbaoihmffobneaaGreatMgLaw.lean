/-
  Two rows of items made one. Plain.
-/
import Derived.Test.YtbaoihmffobneaaGreatEdit2
namespace Go.Proofs.YtbaoihmffobneaaGreat
open Go Go.Sh Go.RowKit

def insL (o p : Int) (l : List It) (z : It) : List It := editL o z.1 (insI p z (lastE o z.1 l) (anyE o z.1 l)) l
def foldI (o p : Int) (l b : List It) : List It := b.foldl (insL o p) l
theorem foldI_nil (o p : Int) (l : List It) : foldI o p l [] = l := rfl
theorem foldI_cons (o p : Int) (l b : List It) (z : It) : foldI o p l (z :: b) = foldI o p (insL o p l z) b := rfl
theorem foldI_app (o p : Int) (l b d : List It) : foldI o p l (b ++ d) = foldI o p (foldI o p l b) d := List.foldl_append
theorem cmpI_sym {o a b : Int} (h : cmpI o a b = 0) : cmpI o b a = 0 := by
  rcases Int.lt_trichotomy (cmpI o b a) 0 with g | g | g
  · have := cmpI_neg g; omega
  · exact g
  · have := cmpI_pos g; omega
theorem insL_left {o p : Int} {l m : List It} {z : It} (h : ∀ x ∈ m, 0 < cmpI o x.1 z.1) : insL o p (l ++ m) z = insL o p l z ++ m := by
  have e1 : ltF o z.1 (l ++ m) = ltF o z.1 l := by
    unfold ltF; rw [List.filter_append, filt_no (l := m) fun x hx => decide_eq_false (by have := h x hx; omega), List.append_nil]
  have e2 : eqF o z.1 (l ++ m) = eqF o z.1 l := by
    unfold eqF; rw [List.filter_append, filt_no (l := m) fun x hx => decide_eq_false (by have := h x hx; omega), List.append_nil]
  have e3 : gtF o z.1 (l ++ m) = gtF o z.1 l ++ m := by
    unfold gtF; rw [List.filter_append, filt_all (l := m) fun x hx => decide_eq_true (h x hx)]
  unfold insL editL lastE anyE
  rw [e1, e2, e3, List.append_assoc, List.append_assoc, List.append_assoc]
theorem insL_right {o p : Int} {l m : List It} {z : It} (h : ∀ x ∈ l, cmpI o x.1 z.1 < 0) : insL o p (l ++ m) z = l ++ insL o p m z := by
  have e1 : ltF o z.1 (l ++ m) = l ++ ltF o z.1 m := by
    unfold ltF; rw [List.filter_append, filt_all (l := l) fun x hx => decide_eq_true (h x hx)]
  have e2 : eqF o z.1 (l ++ m) = eqF o z.1 m := by
    unfold eqF; rw [List.filter_append, filt_no (l := l) fun x hx => decide_eq_false (by have := h x hx; omega), List.nil_append]
  have e3 : gtF o z.1 (l ++ m) = gtF o z.1 m := by
    unfold gtF; rw [List.filter_append, filt_no (l := l) fun x hx => decide_eq_false (by have := h x hx; omega), List.nil_append]
  unfold insL editL lastE anyE
  rw [e1, e2, e3, List.append_assoc, List.append_assoc, List.append_assoc]
theorem insL_nil {o p : Int} {z : It} : insL o p [] z = [z] := rfl
theorem insL_mid {o p : Int} {x z : It} (h : cmpI o x.1 z.1 = 0) : insL o p [x] z = [(x.1, comb p x.2.1 z.2.1, x.2.2)] := by
  unfold insL editL lastE anyE ltF eqF gtF
  simp [h, insI]
theorem foldI_left {o p : Int} {m : List It} : ∀ {b l : List It}, (∀ z ∈ b, ∀ x ∈ m, 0 < cmpI o x.1 z.1) → foldI o p (l ++ m) b = foldI o p l b ++ m
  | [], l, _ => rfl
  | z :: b, l, h => by
    rw [foldI_cons, foldI_cons, insL_left (h z (.head _)), foldI_left fun y hy => h y (.tail _ hy)]
theorem foldI_right {o p : Int} {l : List It} : ∀ {b m : List It}, (∀ z ∈ b, ∀ x ∈ l, cmpI o x.1 z.1 < 0) → foldI o p (l ++ m) b = l ++ foldI o p m b
  | [], m, _ => rfl
  | z :: b, m, h => by
    rw [foldI_cons, foldI_cons, insL_right (h z (.head _)), foldI_right fun y hy => h y (.tail _ hy)]
theorem asc_cons {o : Int} {x : It} {l : List It} (h : asc o (x :: l)) : (∀ y ∈ l, cmpI o x.1 y.1 < 0) ∧ asc o l := by
  unfold asc at h ⊢
  rw [List.map_cons, List.pairwise_cons] at h
  exact ⟨fun y hy => h.1 _ (List.mem_map_of_mem hy), h.2⟩
theorem foldI_none {o p : Int} : ∀ {b : List It}, asc o b → foldI o p [] b = b
  | [], _ => rfl
  | z :: b, h => by
    obtain ⟨h1, h2⟩ := asc_cons h
    rw [foldI_cons, insL_nil, show [z] = [z] ++ ([] : List It) from rfl, foldI_right fun y hy x hx => by simp at hx; subst hx; exact h1 y hy]
    rw [foldI_none h2]; rfl
theorem asc_parts {o key : Int} : ∀ {l : List It}, asc o l → l = ltF o key l ++ (eqF o key l ++ gtF o key l)
  | [], _ => rfl
  | x :: l, h => by
    obtain ⟨h1, h2⟩ := asc_cons h
    have ih := asc_parts (key := key) h2
    rcases Int.lt_trichotomy (cmpI o x.1 key) 0 with g | g | g
    · have e1 : ltF o key (x :: l) = x :: ltF o key l := by unfold ltF; rw [List.filter_cons, if_pos (decide_eq_true g)]
      have e2 : eqF o key (x :: l) = eqF o key l := by unfold eqF; rw [List.filter_cons, if_neg (by simp; omega)]
      have e3 : gtF o key (x :: l) = gtF o key l := by unfold gtF; rw [List.filter_cons, if_neg (by simp; omega)]
      rw [e1, e2, e3, List.cons_append, ← ih]
    · have hgt : ∀ y ∈ l, 0 < cmpI o y.1 key := fun y hy => cmpI_eql (h1 y hy) g
      have e1 : ltF o key (x :: l) = [] := by unfold ltF; rw [List.filter_cons, if_neg (by simp; omega), filt_no fun y hy => decide_eq_false (by have := hgt y hy; omega)]
      have e2 : eqF o key (x :: l) = [x] := by unfold eqF; rw [List.filter_cons, if_pos (decide_eq_true g), filt_no fun y hy => decide_eq_false (by have := hgt y hy; omega)]
      have e3 : gtF o key (x :: l) = l := by unfold gtF; rw [List.filter_cons, if_neg (by simp; omega), filt_all fun y hy => decide_eq_true (hgt y hy)]
      rw [e1, e2, e3]; rfl
    · have hgt : ∀ y ∈ l, 0 < cmpI o y.1 key := fun y hy => by
        have := cmpI_trans (cmpI_pos g) (h1 y hy)
        exact cmpI_neg this
      have e1 : ltF o key (x :: l) = [] := by unfold ltF; rw [List.filter_cons, if_neg (by simp; omega), filt_no fun y hy => decide_eq_false (by have := hgt y hy; omega)]
      have e2 : eqF o key (x :: l) = [] := by unfold eqF; rw [List.filter_cons, if_neg (by simp; omega), filt_no fun y hy => decide_eq_false (by have := hgt y hy; omega)]
      have e3 : gtF o key (x :: l) = x :: l := by unfold gtF; rw [List.filter_cons, if_pos (decide_eq_true g), filt_all fun y hy => decide_eq_true (hgt y hy)]
      rw [e1, e2, e3]; rfl
theorem lastE_mem {o key : Int} {l : List It} (h : anyE o key l = true) : lastE o key l ∈ l ∧ cmpI o (lastE o key l).1 key = 0 := by
  unfold anyE at h
  unfold lastE
  cases hq : (eqF o key l).getLast? with
  | none => rw [List.getLast?_eq_none_iff] at hq; rw [hq] at h; cases h
  | some x =>
    have := List.mem_of_getLast? hq
    unfold eqF at this
    rw [List.mem_filter] at this
    exact ⟨this.1, of_decide_eq_true this.2⟩
theorem mem_insL {o p : Int} {l : List It} {z y : It} (h : y ∈ insL o p l z) : y ∈ l ∨ y = z ∨ ∃ u ∈ l, y = (u.1, comb p u.2.1 z.2.1, u.2.2) := by
  unfold insL editL insI at h
  rcases List.mem_append.1 h with h | h
  · rcases List.mem_append.1 h with h | h
    · exact .inl (List.mem_filter.1 h).1
    · simp only [cond_true, List.mem_singleton] at h
      cases ha : anyE o z.1 l with
      | false => rw [ha] at h; exact .inr (.inl h)
      | true => rw [ha] at h; exact .inr (.inr ⟨_, (lastE_mem ha).1, h⟩)
  · exact .inl (List.mem_filter.1 h).1
/-- what all keys and tags have -/
theorem foldI_all {o p : Int} {P : Int → Int → Prop} : ∀ {b l : List It}, (∀ y ∈ l, P y.1 y.2.2) → (∀ y ∈ b, P y.1 y.2.2) → ∀ y ∈ foldI o p l b, P y.1 y.2.2
  | [], l, hl, _ => hl
  | z :: b, l, hl, hb => by
    refine foldI_all (l := insL o p l z) (b := b) (fun y hy => ?_) fun y hy => hb y (.tail _ hy)
    rcases mem_insL hy with h | rfl | ⟨u, hu, rfl⟩
    · exact hl y h
    · exact hb _ (.head _)
    · exact hl u hu
theorem parts_len {o key : Int} : ∀ l : List It, (ltF o key l).length + (eqF o key l).length + (gtF o key l).length = l.length
  | [] => rfl
  | x :: l => by
    have ih := parts_len (o := o) (key := key) l
    unfold ltF eqF gtF at *
    simp only [List.filter_cons]
    rcases Int.lt_trichotomy (cmpI o x.1 key) 0 with g | g | g
    · rw [if_pos (decide_eq_true g), if_neg (by simp; omega), if_neg (by simp; omega), List.length_cons, List.length_cons]; omega
    · rw [if_neg (by simp; omega), if_pos (decide_eq_true g), if_neg (by simp; omega), List.length_cons, List.length_cons]; omega
    · rw [if_neg (by simp; omega), if_neg (by simp; omega), if_pos (decide_eq_true g), List.length_cons, List.length_cons]; omega
theorem insL_len {o p : Int} {l : List It} {z : It} : (insL o p l z).length ≤ l.length + 1 := by
  have := parts_len (o := o) (key := z.1) l
  unfold insL editL insI
  simp only [List.length_append, cond_true, List.length_singleton]
  omega
theorem foldI_len {o p : Int} : ∀ {b l : List It}, (foldI o p l b).length ≤ l.length + b.length
  | [], l => Nat.le_refl _
  | z :: b, l => by
    have h1 := foldI_len (o := o) (p := p) (b := b) (l := insL o p l z)
    have h2 := insL_len (o := o) (p := p) (l := l) (z := z)
    rw [foldI_cons, List.length_cons]; omega
theorem asc_filter {o : Int} {l : List It} {q : It → Bool} (h : asc o l) : asc o (l.filter q) := List.Pairwise.sublist (List.Sublist.map _ List.filter_sublist) h
theorem asc_insL {o p : Int} {l : List It} {z : It} (h : asc o l) : asc o (insL o p l z) := by
  have hy : cmpI o (insI p z (lastE o z.1 l) (anyE o z.1 l)).1.1 z.1 = 0 := by
    unfold insI
    cases ha : anyE o z.1 l with
    | false => exact cmpI_self _ _
    | true => exact (lastE_mem ha).2
  unfold insL editL
  generalize (insI p z (lastE o z.1 l) (anyE o z.1 l)).1 = y at *
  show asc o (ltF o z.1 l ++ [y] ++ gtF o z.1 l)
  have h1 : asc o (ltF o z.1 l) := asc_filter h
  have h3 : asc o (gtF o z.1 l) := asc_filter h
  have a1 : ∀ x ∈ ltF o z.1 l, cmpI o x.1 y.1 < 0 := fun x hx => cmpI_eqr (of_decide_eq_true (List.mem_filter.1 hx).2) (cmpI_sym hy)
  have a2 : ∀ x ∈ gtF o z.1 l, cmpI o y.1 x.1 < 0 := fun x hx => by
    have g := cmpI_pos (of_decide_eq_true (List.mem_filter.1 hx).2)
    have g := cmpI_neg g
    rcases Int.lt_trichotomy (cmpI o y.1 x.1) 0 with k | k | k
    · exact k
    · have := cmpI_eqr (cmpI_pos g) (cmpI_sym k); have := cmpI_neg this; have := cmpI_sym hy; omega
    · have := cmpI_trans (cmpI_pos g) (cmpI_pos k); have := cmpI_neg this; omega
  unfold asc at *
  rw [List.map_append, List.map_append, List.pairwise_append, List.pairwise_append]
  refine ⟨⟨h1, by simp, fun a ha b hb => ?_⟩, h3, fun a ha b hb => ?_⟩
  · obtain ⟨x, hx, rfl⟩ := List.mem_map.1 ha
    simp at hb; subst hb
    exact a1 x hx
  · obtain ⟨x, hx, rfl⟩ := List.mem_map.1 hb
    rcases List.mem_append.1 ha with ha | ha
    · obtain ⟨u, hu, rfl⟩ := List.mem_map.1 ha
      exact cmpI_trans (a1 u hu) (a2 x hx)
    · simp at ha; subst ha
      exact a2 x hx
theorem asc_foldI {o p : Int} : ∀ {b l : List It}, asc o l → asc o (foldI o p l b)
  | [], _, h => h
  | _ :: b, _, h => asc_foldI (b := b) (asc_insL h)
/-! ### trees -/
def ofI (p : Int) (x y : It) (is : Bool) : It := cond is (x.1, comb p x.2.1 y.2.1, x.2.2) x
def unionC (c o p : Int) : Tr → Tr → Tr
  | .nil, u => u
  | .node l k v g r, u =>
    if u.nn then joinC c (unionC c o p l (splitC c o k u).1) (ofI p (itC c (k, v, g)) (itO (splitC c o k u).2.1) (splitC c o k u).2.1.isSome) (unionC c o p r (splitC c o k u).2.2)
    else wholeC c (.node l k v g r)
theorem unionC_p {c o p : Int} : ∀ {a u : Tr}, OkP c a → OkM c u → OkM c (unionC c o p a u) ∧ (unionC c o p a u).size ≤ a.size + u.size
  | .nil, u, _, hu => ⟨hu, by show u.size ≤ 0 + u.size; omega⟩
  | .node l k v g r, u, ha, hu => by
    obtain ⟨hl, hr⟩ := ha.sides
    have e : (Tr.node l k v g r).size = l.size + 1 + r.size := rfl
    unfold unionC
    split
    · have sp := splitC_p (o := o) (key := k) hu.1
      have IL := unionC_p (o := o) (p := p) hl sp.1
      have IR := unionC_p (o := o) (p := p) hr sp.2.1
      have j := joinC_ok IL.1.1 IR.1.1 (ofI p (itC c (k, v, g)) (itO (splitC c o k u).2.1) (splitC c o k u).2.1.isSome)
      have js := joinC_size IL.1.1 IR.1.1 (ofI p (itC c (k, v, g)) (itO (splitC c o k u).2.1) (splitC c o k u).2.1.isSome)
      exact ⟨j.1, by rw [js]; omega⟩
    · exact ⟨(wholeC_ok ha).1, by rw [wholeC_size ha]; omega⟩
theorem itC_ofI {c p : Int} {x y : It} {is : Bool} (h : itC c x = x) : itC c (ofI p x y is) = ofI p x y is := by
  unfold ofI
  cases is with
  | false => exact h
  | true =>
    unfold itC at h ⊢
    split
    · rfl
    · rename_i hc
      rw [if_neg hc] at h
      have := congrArg (fun y : It => y.2.2) h
      simp at this
      simp [this]
theorem unionC_ok {c o p : Int} : ∀ {a u : Tr}, OkP c a → OkM c u → asc o (itsC c a) → asc o (itsC c u) → itsC c (unionC c o p a u) = foldI o p (itsC c a) (itsC c u)
  | .nil, u, _, hu, _, hau => (foldI_none hau).symm
  | .node l k v g r, u, ha, hu, haa, hau => by
    obtain ⟨hl, hr⟩ := ha.sides
    obtain ⟨al, ar, bl, br⟩ := asc_node haa
    unfold unionC
    split
    · have S := splitC_ok (o := o) (key := k) hu.1 hau
      have sp := splitC_p (o := o) (key := k) hu.1
      have q1 : asc o (itsC c (splitC c o k u).1) := by rw [S.lt]; exact asc_filter hau
      have q2 : asc o (itsC c (splitC c o k u).2.2) := by rw [S.gt]; exact asc_filter hau
      have IL := unionC_ok (p := p) hl S.okl al q1
      have IR := unionC_ok (p := p) hr S.okr ar q2
      have pL := unionC_p (o := o) (p := p) hl S.okl
      have pR := unionC_p (o := o) (p := p) hr S.okr
      have j := joinC_ok pL.1.1 pR.1.1 (ofI p (itC c (k, v, g)) (itO (splitC c o k u).2.1) (splitC c o k u).2.1.isSome)
      rw [j.2, IL, IR, S.lt, S.gt, itC_ofI (itC_itC c _), itsC_node]
      generalize hx : itC c (k, v, g) = x
      have hxk : x.1 = k := by rw [← hx]; exact itC_key _ _
      have hp := asc_parts (key := k) hau
      have E := S.eq
      generalize itsC c l = L at *
      generalize itsC c r = Rr at *
      generalize itsC c u = B at *
      rw [show foldI o p (L ++ x :: Rr) B = foldI o p (L ++ x :: Rr) (ltF o k B ++ (eqF o k B ++ gtF o k B)) from congrArg _ hp]
      have mlt : ∀ z ∈ ltF o k B, cmpI o z.1 k < 0 := fun z hz => of_decide_eq_true (List.mem_filter.1 hz).2
      have meq : ∀ z ∈ eqF o k B, cmpI o z.1 k = 0 := fun z hz => of_decide_eq_true (List.mem_filter.1 hz).2
      have mgt : ∀ z ∈ gtF o k B, 0 < cmpI o z.1 k := fun z hz => of_decide_eq_true (List.mem_filter.1 hz).2
      rw [foldI_app, foldI_app, foldI_left (l := L) (m := x :: Rr) fun z hz y hy => by
        rcases List.mem_cons.1 hy with rfl | hy
        · rw [hxk]; exact cmpI_neg (mlt z hz)
        · exact cmpI_neg (cmpI_trans (mlt z hz) (br y hy))]
      have hL : ∀ y ∈ foldI o p L (ltF o k B), cmpI o y.1 k < 0 := foldI_all (P := fun a _ => cmpI o a k < 0) bl mlt
      generalize foldI o p L (ltF o k B) = L' at *
      have hmid : foldI o p (L' ++ x :: Rr) (eqF o k B) = L' ++ ofI p x (itO (splitC c o k u).2.1) (splitC c o k u).2.1.isSome :: Rr := by
        rw [← E]
        cases hq : (splitC c o k u).2.1 with
        | none => rfl
        | some z =>
          have hz : cmpI o z.1 k = 0 := meq z (by rw [← E, hq]; simp)
          show insL o p (L' ++ x :: Rr) z = _
          rw [insL_right fun y hy => cmpI_eqr (hL y hy) (cmpI_sym hz), show x :: Rr = [x] ++ Rr from rfl, insL_left fun y hy => cmpI_eql (br y hy) (cmpI_sym hz), insL_mid (by rw [hxk]; exact cmpI_sym hz)]
          rfl
      rw [hmid, show L' ++ ofI p x (itO (splitC c o k u).2.1) (splitC c o k u).2.1.isSome :: Rr = (L' ++ [ofI p x (itO (splitC c o k u).2.1) (splitC c o k u).2.1.isSome]) ++ Rr by simp, foldI_right fun z hz y hy => ?_]
      · simp
      · rcases List.mem_append.1 hy with hy | hy
        · exact cmpI_trans (hL y hy) (cmpI_pos (mgt z hz))
        · simp at hy
          subst hy
          have : (ofI p x (itO (splitC c o k u).2.1) (splitC c o k u).2.1.isSome).1 = k := by unfold ofI; cases (splitC c o k u).2.1.isSome <;> exact hxk
          rw [this]
          exact cmpI_pos (mgt z hz)
    · rename_i hn
      have : u = .nil := by cases u with
        | nil => rfl
        | node _ _ _ _ _ => exact absurd rfl hn
      subst this
      rw [(wholeC_ok ha).2]; rfl
end Go.Proofs.YtbaoihmffobneaaGreat
