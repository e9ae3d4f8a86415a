/-
  Rows as sets: plain laws of what is looked up, of the walk over two rows, and of sorting.
-/
import Derived.Test.YtinkkhcffoikmaaRowset3
namespace Go.Proofs.Ytinkkhcffoikmaa
open Go Go.Sh Go.RowKit

/-- what a row has of a key -/
def lk (o : Int) (r : List Pr) (k : Int) : Option Int := cond (hasR o r k) (some (getR o r k)) none
theorem lk_iff {o : Int} {r : List Pr} (hm : mayR o r = true) {k v : Int} : lk o r k = some v ↔ (k, v) ∈ r := by
  unfold lk
  constructor
  · intro h
    cases hh : hasR o r k
    · rw [hh] at h; cases h
    · rw [hh] at h
      have := has_mem hh
      rw [cond_true, Option.some.injEq] at h
      rw [← h]; exact this
  · intro h
    have := mem_get hm h
    rw [this.1, this.2]; rfl
theorem lk_none {o : Int} {r : List Pr} (hm : mayR o r = true) {k : Int} : lk o r k = none ↔ ∀ x ∈ r, x.1 ≠ k := by
  constructor
  · rintro h ⟨k', v⟩ hx rfl
    have := (lk_iff hm).2 hx
    rw [h] at this; cases this
  · intro h
    cases hk : lk o r k with
    | none => rfl
    | some v => exact absurd rfl (h _ ((lk_iff hm).1 hk))
theorem lk_nil (o k : Int) : lk o [] k = none := by
  unfold lk hasR; simp
theorem lk_put {o p : Int} {l : List Pr} {x : Pr} (hm : mayR o l = true) (hp : may p = true) (hI : InP l) (hx : In x.1) (k : Int) :
    lk o (putR o p l x) k = if k = x.1 then some (match lk o l k with | none => x.2 | some y => comb p y x.2) else lk o l k := by
  by_cases hk : k = x.1
  · rw [if_pos hk]; subst hk
    have := put_key hm hp hI hx
    unfold lk
    rw [this.1, this.2]
    cases hasR o l x.1 <;> rfl
  · rw [if_neg hk]
    have := put_other hm hp hI hx hk
    unfold lk
    rw [this.1, this.2]
theorem ltO_irrefl {o a : Int} : ¬ ltO o a a := by unfold ltO; rw [cmpI_self]; omega
theorem ltO_asymm {o a b : Int} (h : ltO o a b) : ¬ ltO o b a := fun k => ltO_irrefl (cmpI_trans h k)
theorem pw_ext {o : Int} : ∀ {r s : List Pr}, (r.map (·.1)).Pairwise (ltO o) → (s.map (·.1)).Pairwise (ltO o) → (∀ x, x ∈ r ↔ x ∈ s) → r = s
  | [], [], _, _, _ => rfl
  | [], y :: s, _, _, h => by have := (h y).2 (by simp); cases this
  | x :: r, [], _, _, h => by have := (h x).1 (by simp); cases this
  | x :: r, y :: s, hr, hs, h => by
    simp only [List.map_cons, List.pairwise_cons, List.mem_map, forall_exists_index, and_imp, forall_apply_eq_imp_iff₂] at hr hs
    have hxy : x = y := by
      rcases List.mem_cons.1 ((h x).1 (by simp)) with e | h1
      · exact e
      · rcases List.mem_cons.1 ((h y).2 (by simp)) with e | h2
        · exact e.symm
        · exact absurd (hs.1 x h1) (ltO_asymm (hr.1 y h2))
    subst hxy
    rw [pw_ext hr.2 hs.2 fun z => ?_]
    constructor
    · intro hz
      rcases List.mem_cons.1 ((h z).1 (by simp [hz])) with e | h1
      · exact absurd (hr.1 z hz) (by rw [e]; exact ltO_irrefl)
      · exact h1
    · intro hz
      rcases List.mem_cons.1 ((h z).2 (by simp [hz])) with e | h1
      · exact absurd (hs.1 z hz) (by rw [e]; exact ltO_irrefl)
      · exact h1
theorem row_ext {o : Int} {r s : List Pr} (hr : mayR o r = true) (hs : mayR o s = true) (h : ∀ k, lk o r k = lk o s k) : r = s :=
  pw_ext (mayR_iff.1 hr).2 (mayR_iff.1 hs).2 fun x => by rw [show x = (x.1, x.2) from rfl, ← lk_iff hr, ← lk_iff hs, h]
/-- what the walk over two rows tells of a key -/
structure KeOf (a b : List Pr) (e : Ke) : Prop where
  yesA : e.inA = true → (e.key, e.a) ∈ a
  noA : e.inA = false → e.a = 0 ∧ ∀ x ∈ a, x.1 ≠ e.key
  yesB : e.inB = true → (e.key, e.b) ∈ b
  noB : e.inB = false → e.b = 0 ∧ ∀ x ∈ b, x.1 ≠ e.key
  one : (e.inA || e.inB) = true
structure Mg (o : Int) (a b : List Pr) (m : List Ke) : Prop where
  asc : (m.map (·.key)).Pairwise (ltO o)
  of : ∀ e ∈ m, KeOf a b e
  hasA : ∀ x ∈ a, ∃ e ∈ m, e.key = x.1
  hasB : ∀ x ∈ b, ∃ e ∈ m, e.key = x.1
theorem ltO_ne {o a b : Int} (h : ltO o a b) : a ≠ b := fun e => by subst e; exact ltO_irrefl h
theorem asc_cons {o : Int} {e : Ke} {m : List Ke} (h : ∀ x ∈ m, ltO o e.key x.key) (hm : (m.map (·.key)).Pairwise (ltO o)) : ((e :: m).map (·.key)).Pairwise (ltO o) := by
  rw [List.map_cons, List.pairwise_cons]
  exact ⟨fun k hk => by obtain ⟨x, hx, rfl⟩ := List.mem_map.1 hk; exact h x hx, hm⟩
theorem ne_cons {k : Int} {x : Pr} {a : List Pr} (hx : x.1 ≠ k) (h : ∀ z ∈ a, z.1 ≠ k) : ∀ z ∈ x :: a, z.1 ≠ k := fun z hz => by
  rcases List.mem_cons.1 hz with rfl | hz
  · exact hx
  · exact h z hz
theorem mg_of {o : Int} (ho : isO o = true) (a b : List Pr) (ha : (a.map (·.1)).Pairwise (ltO o)) (hb : (b.map (·.1)).Pairwise (ltO o)) (hIa : InP a) (hIb : InP b) : Mg o a b (mg o a b) := by
  induction a, b using mg.induct o with
  | case1 => rw [mg]; exact ⟨List.Pairwise.nil, (fun e he => by cases he), (fun x hx => by cases hx), (fun x hx => by cases hx)⟩
  | case2 y b ih =>
    rw [mg]
    simp only [List.map_cons, List.pairwise_cons, List.mem_map, forall_exists_index, and_imp, forall_apply_eq_imp_iff₂] at hb
    have I := ih ha hb.2 hIa fun x hx => hIb x (by simp [hx])
    have hgt : ∀ e ∈ mg o [] b, ltO o y.1 e.key := mg_key o [] b (fun x hx => by cases hx) hb.1
    refine ⟨asc_cons hgt I.asc, fun e he => ?_, (fun x hx => by cases hx), fun x hx => ?_⟩
    · rcases List.mem_cons.1 he with rfl | hm
      · exact ⟨by simp, fun _ => ⟨rfl, by simp⟩, fun _ => by simp, by simp, rfl⟩
      · have K := I.of e hm
        exact ⟨K.yesA, K.noA, fun g => by simp [K.yesB g], fun g => ⟨(K.noB g).1, ne_cons (ltO_ne (hgt e hm)) (K.noB g).2⟩, K.one⟩
    · rcases List.mem_cons.1 hx with rfl | h
      · exact ⟨_, List.mem_cons_self, rfl⟩
      · obtain ⟨e, he, hk⟩ := I.hasB x h; exact ⟨e, by simp [he], hk⟩
  | case3 x a ih =>
    rw [mg]
    simp only [List.map_cons, List.pairwise_cons, List.mem_map, forall_exists_index, and_imp, forall_apply_eq_imp_iff₂] at ha
    have I := ih ha.2 hb (fun x hx => hIa x (by simp [hx])) hIb
    have hgt : ∀ e ∈ mg o a [], ltO o x.1 e.key := mg_key o a [] ha.1 (fun x hx => by cases hx)
    refine ⟨asc_cons hgt I.asc, fun e he => ?_, fun z hx => ?_, fun x hx => by cases hx⟩
    · rcases List.mem_cons.1 he with rfl | hm
      · exact ⟨fun _ => by simp, by simp, by simp, fun _ => ⟨rfl, by simp⟩, rfl⟩
      · have K := I.of e hm
        exact ⟨fun g => by simp [K.yesA g], fun g => ⟨(K.noA g).1, ne_cons (ltO_ne (hgt e hm)) (K.noA g).2⟩, K.yesB, K.noB, K.one⟩
    · rcases List.mem_cons.1 hx with rfl | h
      · exact ⟨_, List.mem_cons_self, rfl⟩
      · obtain ⟨e, he, hk⟩ := I.hasA z h; exact ⟨e, by simp [he], hk⟩
  | case4 x a y b h ih =>
    rw [mg, if_pos h]
    have ha' := ha
    have hb' := hb
    simp only [List.map_cons, List.pairwise_cons, List.mem_map, forall_exists_index, and_imp, forall_apply_eq_imp_iff₂] at ha' hb'
    have I := ih ha'.2 hb (fun x hx => hIa x (by simp [hx])) hIb
    have hyb : ∀ z ∈ y :: b, ltO o x.1 z.1 := fun z hz => by
      rcases List.mem_cons.1 hz with rfl | hz
      · exact h
      · exact cmpI_trans h (hb'.1 z hz)
    have hgt : ∀ e ∈ mg o a (y :: b), ltO o x.1 e.key := mg_key o a (y :: b) ha'.1 hyb
    refine ⟨asc_cons hgt I.asc, fun e he => ?_, fun z hx => ?_, fun z hx => ?_⟩
    · rcases List.mem_cons.1 he with rfl | hm
      · exact ⟨fun _ => by simp, by simp, by simp, fun _ => ⟨rfl, fun z hz => (ltO_ne (hyb z hz)).symm⟩, rfl⟩
      · have K := I.of e hm
        exact ⟨fun g => by simp [K.yesA g], fun g => ⟨(K.noA g).1, ne_cons (ltO_ne (hgt e hm)) (K.noA g).2⟩, K.yesB, K.noB, K.one⟩
    · rcases List.mem_cons.1 hx with rfl | h
      · exact ⟨_, List.mem_cons_self, rfl⟩
      · obtain ⟨e, he, hk⟩ := I.hasA z h; exact ⟨e, by simp [he], hk⟩
    · obtain ⟨e, he, hk⟩ := I.hasB z hx; exact ⟨e, by simp [he], hk⟩
  | case5 x a y b h h2 h3 ih =>
    rw [mg, if_neg h, if_pos h2, if_pos h3]
    simp only [List.map_cons, List.pairwise_cons, List.mem_map, forall_exists_index, and_imp, forall_apply_eq_imp_iff₂] at ha hb
    have I := ih ha.2 hb.2 (fun x hx => hIa x (by simp [hx])) (fun x hx => hIb x (by simp [hx]))
    have hgt : ∀ e ∈ mg o a b, ltO o x.1 e.key := mg_key o a b ha.1 (by rw [h3]; exact hb.1)
    refine ⟨asc_cons hgt I.asc, fun e he => ?_, fun z hx => ?_, fun z hx => ?_⟩
    · rcases List.mem_cons.1 he with rfl | hm
      · exact ⟨fun _ => by simp, by simp, fun _ => by simp [h3], by simp, rfl⟩
      · have K := I.of e hm
        exact ⟨fun g => by simp [K.yesA g], fun g => ⟨(K.noA g).1, ne_cons (ltO_ne (hgt e hm)) (K.noA g).2⟩,
               fun g => by simp [K.yesB g], fun g => ⟨(K.noB g).1, ne_cons (by rw [← h3]; exact ltO_ne (hgt e hm)) (K.noB g).2⟩, K.one⟩
    · rcases List.mem_cons.1 hx with rfl | h
      · exact ⟨_, List.mem_cons_self, rfl⟩
      · obtain ⟨e, he, hk⟩ := I.hasA z h; exact ⟨e, by simp [he], hk⟩
    · rcases List.mem_cons.1 hx with rfl | h
      · exact ⟨_, List.mem_cons_self, h3⟩
      · obtain ⟨e, he, hk⟩ := I.hasB z h; exact ⟨e, by simp [he], hk⟩
  | case6 x a y b h h2 h3 ih => exact absurd (cmpI_eq ho (hIa x (by simp)).1 (hIb y (by simp)).1 h2) h3
  | case7 x a y b h h2 ih =>
    rw [mg, if_neg h, if_neg h2]
    have hlt : ltO o y.1 x.1 := cmpI_pos (by omega)
    have ha' := ha
    simp only [List.map_cons, List.pairwise_cons, List.mem_map, forall_exists_index, and_imp, forall_apply_eq_imp_iff₂] at ha' hb
    have I := ih ha hb.2 hIa (fun x hx => hIb x (by simp [hx]))
    have hxa : ∀ z ∈ x :: a, ltO o y.1 z.1 := fun z hz => by
      rcases List.mem_cons.1 hz with rfl | hz
      · exact hlt
      · exact cmpI_trans hlt (ha'.1 z hz)
    have hgt : ∀ e ∈ mg o (x :: a) b, ltO o y.1 e.key := mg_key o (x :: a) b hxa hb.1
    refine ⟨asc_cons hgt I.asc, fun e he => ?_, fun z hx => ?_, fun z hx => ?_⟩
    · rcases List.mem_cons.1 he with rfl | hm
      · exact ⟨by simp, fun _ => ⟨rfl, fun z hz => (ltO_ne (hxa z hz)).symm⟩, fun _ => by simp, by simp, rfl⟩
      · have K := I.of e hm
        exact ⟨K.yesA, K.noA, fun g => by simp [K.yesB g], fun g => ⟨(K.noB g).1, ne_cons (ltO_ne (hgt e hm)) (K.noB g).2⟩, K.one⟩
    · obtain ⟨e, he, hk⟩ := I.hasA z hx; exact ⟨e, by simp [he], hk⟩
    · rcases List.mem_cons.1 hx with rfl | h
      · exact ⟨_, List.mem_cons_self, rfl⟩
      · obtain ⟨e, he, hk⟩ := I.hasB z h; exact ⟨e, by simp [he], hk⟩
theorem mg_row {o : Int} {a b : List Pr} (ha : mayR o a = true) (hb : mayR o b = true) (hIa : InP a) (hIb : InP b) : Mg o a b (mg o a b) :=
  mg_of (mayR_o ha) a b (mayR_iff.1 ha).2 (mayR_iff.1 hb).2 hIa hIb
/-- what is wanted of a key, by what both rows have of it -/
def wantK (p : Int) (want : Ke → Bool) (k : Int) : Option Int → Option Int → Option Int
  | none, none => none
  | some x, none => if want ⟨k, x, 0, true, false⟩ then some x else none
  | none, some y => if want ⟨k, 0, y, false, true⟩ then some y else none
  | some x, some y => if want ⟨k, x, y, true, true⟩ then some (comb p x y) else none
theorem someL_may {o p : Int} {want : Ke → Bool} {a b : List Pr} (ha : mayR o a = true) (hb : mayR o b = true) (hIa : InP a) (hIb : InP b) : mayR o (someL o p want a b) = true := by
  rw [mayR_iff]
  refine ⟨mayR_o ha, ?_⟩
  have h := (mg_row ha hb hIa hIb).asc
  unfold someL outL
  rw [List.map_map]
  exact List.Pairwise.sublist ((List.filter_sublist).map _) h
theorem wrap_id {x : Int} (h : In x) : IntKind.wrap .i64 x = x := by
  unfold In at h
  exact wrap_of (by omega) (by omega)
theorem KeOf.lkA {o : Int} {a b : List Pr} {e : Ke} (h : KeOf a b e) (ha : mayR o a = true) : lk o a e.key = if e.inA then some e.a else none := by
  cases g : e.inA
  · rw [if_neg (by simp)]; exact (lk_none ha).2 (h.noA g).2
  · rw [if_pos rfl]; exact (lk_iff ha).2 (h.yesA g)
theorem KeOf.lkB {o : Int} {a b : List Pr} {e : Ke} (h : KeOf a b e) (hb : mayR o b = true) : lk o b e.key = if e.inB then some e.b else none := by
  cases g : e.inB
  · rw [if_neg (by simp)]; exact (lk_none hb).2 (h.noB g).2
  · rw [if_pos rfl]; exact (lk_iff hb).2 (h.yesB g)
theorem KeOf.wantK {o p : Int} {want : Ke → Bool} {a b : List Pr} {e : Ke} (h : KeOf a b e) (ha : mayR o a = true) (hb : mayR o b = true) (hIa : InP a) (hIb : InP b) :
    wantK p want e.key (lk o a e.key) (lk o b e.key) = if want e then some (valK p e) else none := by
  rw [h.lkA ha, h.lkB hb]
  obtain ⟨k, x, y, ia, ib⟩ := e
  have hx : ia = true → In x := fun g => (hIa _ (h.yesA g)).2
  have hy : ib = true → In y := fun g => (hIb _ (h.yesB g)).2
  have h0a : ia = false → x = 0 := fun g => (h.noA g).1
  have h0b : ib = false → y = 0 := fun g => (h.noB g).1
  have hs := h.one
  cases ia <;> cases ib
  · simp at hs
  · have := h0a rfl; subst this
    simp only [if_true, Bool.false_eq_true, if_false, Proofs.Ytinkkhcffoikmaa.wantK, valK, Bool.false_and, Int.zero_add, wrap_id (hy rfl)]
  · have := h0b rfl; subst this
    simp only [if_true, Bool.false_eq_true, if_false, Proofs.Ytinkkhcffoikmaa.wantK, valK, Bool.and_false, Int.add_zero, wrap_id (hx rfl)]
  · simp [Proofs.Ytinkkhcffoikmaa.wantK, valK]
theorem someL_lk {o p : Int} {want : Ke → Bool} {a b : List Pr} (ha : mayR o a = true) (hb : mayR o b = true) (hIa : InP a) (hIb : InP b) (k : Int) :
    lk o (someL o p want a b) k = wantK p want k (lk o a k) (lk o b k) := by
  have hs := someL_may (p := p) (want := want) ha hb hIa hIb
  have M := mg_row ha hb hIa hIb
  have key : ∀ v, lk o (someL o p want a b) k = some v → wantK p want k (lk o a k) (lk o b k) = some v := fun v hv => by
    rw [lk_iff hs] at hv
    unfold someL outL at hv
    obtain ⟨e, he, hev⟩ := List.mem_map.1 hv
    obtain ⟨he, hw⟩ := List.mem_filter.1 he
    injection hev with h1 h2
    have := (M.of e he).wantK (p := p) (want := want) ha hb hIa hIb
    rw [h1, hw, h2] at this
    exact this
  cases hv : lk o (someL o p want a b) k with
  | some v => exact (key v hv).symm
  | none =>
    cases hw : wantK p want k (lk o a k) (lk o b k) with
    | none => rfl
    | some v =>
      exfalso
      have he : ∃ e ∈ mg o a b, e.key = k := by
        cases hA : lk o a k with
        | some x => exact M.hasA _ ((lk_iff ha).1 hA)
        | none =>
          cases hB : lk o b k with
          | some y => exact M.hasB _ ((lk_iff hb).1 hB)
          | none => rw [hA, hB] at hw; cases hw
      obtain ⟨e, he, rfl⟩ := he
      have := (M.of e he).wantK (p := p) (want := want) ha hb hIa hIb
      rw [hw] at this
      cases hwe : want e
      · rw [hwe] at this; cases this
      · rw [hwe] at this
        have hmem : (e.key, valK p e) ∈ someL o p want a b := List.mem_map.2 ⟨e, List.mem_filter.2 ⟨he, hwe⟩, rfl⟩
        have := (lk_iff hs).2 hmem
        rw [hv] at this; cases this
/-- what comes of the values of a key, in a row of pairs -/
def addO (p : Int) (v : Option Int) (y : Int) : Option Int := some (match v with | none => y | some x => comb p x y)
theorem sortL_lk {o p : Int} (ho : isO o = true) (hp : may p = true) (k : Int) : ∀ (l : List Pr) (r : List Pr), mayR o r = true → InP r → InP l →
    lk o (l.foldl (fun r x => putR o p r x) r) k = ((l.filter fun x => x.1 == k).map (·.2)).foldl (addO p) (lk o r k)
  | [], r, _, _, _ => rfl
  | x :: l, r, hm, hI, hl => by
    have hx := hl x (by simp)
    rw [List.foldl_cons, sortL_lk ho hp k l _ (put_may hm hp hI hx.1) (put_in hm hp hI hx) fun y hy => hl y (by simp [hy]), lk_put hm hp hI hx.1]
    by_cases hk : k = x.1
    · rw [if_pos hk, List.filter_cons_of_pos (by simp [hk])]; rfl
    · rw [if_neg hk, List.filter_cons_of_neg (by simp; exact fun e => hk e.symm)]
theorem mayR_nil {o : Int} (ho : isO o = true) : mayR o [] = true := by simp [mayR, ho, chain]
theorem sortL_lk0 {o p : Int} (ho : isO o = true) (hp : may p = true) {l : List Pr} (hl : InP l) (k : Int) : lk o (sortL o p l) k = ((l.filter fun x => x.1 == k).map (·.2)).foldl (addO p) none := by
  have := sortL_lk ho hp k l [] (mayR_nil ho) (by intro x hx; cases hx) hl
  rw [lk_nil] at this
  exact this
theorem sortL_stab {o p : Int} (ho : isO o = true) (hp : may p = true) {l l' : List Pr} (hl : InP l) (h : Stab l' l) : sortL o p l' = sortL o p l := by
  have hl' : InP l' := fun x hx => hl x ((h.mem x).1 hx)
  exact row_ext (sortL_may ho hp hl').1 (sortL_may ho hp hl).1 fun k => by rw [sortL_lk0 ho hp hl', sortL_lk0 ho hp hl, h k]
end Go.Proofs.Ytinkkhcffoikmaa
