/-
  Rows as sets: plain laws of what is looked up, of the walk over two rows, and of sorting.
-/
import Derived.Test.YtmdboekndjlmgaaGreatZ24
import Derived.Test.YtmdboekndjlmgaaGreatZ22
import Derived.Test.YtmdboekndjlmgaaGreatZ23
import Derived.Test.YtmdboekndjlmgaaGreatZ21

set_option maxRecDepth 100000
set_option maxHeartbeats 6400000
namespace Go.Proofs.YtmdboekndjlmgaaGreat
open Go Go.Sh Go.RowKit

def lk (o : Int) (r : List Pr) (k : Int) : Option Int := cond (hasR o r k) (some (getR o r k)) none
theorem lk_iff {o : Int} {r : List Pr} (hm : mayR o r = true) {k v : Int} : lk o r k = some v ↔ (k, v) ∈ r := by
  unfold lk
  constructor
  · intro h
    cases hh : hasR o r k
    · rw [hh] at h; cases h
    · rw [hh] at h
      have := has_mem hh
      rw [cond_true, Option.some.injEq] at h
      rw [← h]; exact this
  · intro h
    have := mem_get hm h
    rw [this.1, this.2]; rfl
theorem lk_nil (o k : Int) : lk o [] k = none := by
  unfold lk hasR; simp
theorem lk_put {o p : Int} {l : List Pr} {x : Pr} (hm : mayR o l = true) (hp : may p = true) (hI : InP l) (hx : In x.1) (k : Int) :
    lk o (putR o p l x) k = if k = x.1 then some (match lk o l k with | none => x.2 | some y => comb p y x.2) else lk o l k := by
  by_cases hk : k = x.1
  · rw [if_pos hk]; subst hk
    have := put_key hm hp hI hx
    unfold lk
    rw [this.1, this.2]
    cases hasR o l x.1 <;> rfl
  · rw [if_neg hk]
    have := put_other hm hp hI hx hk
    unfold lk
    rw [this.1, this.2]
theorem ltO_irrefl {o a : Int} : ¬ ltO o a a := by unfold ltO; rw [cmpI_self]; omega
theorem ltO_asymm {o a b : Int} (h : ltO o a b) : ¬ ltO o b a := fun k => ltO_irrefl (cmpI_trans h k)
theorem pw_ext {o : Int} : ∀ {r s : List Pr}, (r.map (·.1)).Pairwise (ltO o) → (s.map (·.1)).Pairwise (ltO o) → (∀ x, x ∈ r ↔ x ∈ s) → r = s
  | [], [], _, _, _ => rfl
  | [], y :: s, _, _, h => by have := (h y).2 (by simp); cases this
  | x :: r, [], _, _, h => by have := (h x).1 (by simp); cases this
  | x :: r, y :: s, hr, hs, h => by
    simp only [List.map_cons, List.pairwise_cons, List.mem_map, forall_exists_index, and_imp, forall_apply_eq_imp_iff₂] at hr hs
    have hxy : x = y := by
      rcases List.mem_cons.1 ((h x).1 (by simp)) with e | h1
      · exact e
      · rcases List.mem_cons.1 ((h y).2 (by simp)) with e | h2
        · exact e.symm
        · exact absurd (hs.1 x h1) (ltO_asymm (hr.1 y h2))
    subst hxy
    rw [pw_ext hr.2 hs.2 fun z => ?_]
    constructor
    · intro hz
      rcases List.mem_cons.1 ((h z).1 (by simp [hz])) with e | h1
      · exact absurd (hr.1 z hz) (by rw [e]; exact ltO_irrefl)
      · exact h1
    · intro hz
      rcases List.mem_cons.1 ((h z).2 (by simp [hz])) with e | h1
      · exact absurd (hs.1 z hz) (by rw [e]; exact ltO_irrefl)
      · exact h1
theorem row_ext {o : Int} {r s : List Pr} (hr : mayR o r = true) (hs : mayR o s = true) (h : ∀ k, lk o r k = lk o s k) : r = s :=
  pw_ext (mayR_iff.1 hr).2 (mayR_iff.1 hs).2 fun x => by rw [show x = (x.1, x.2) from rfl, ← lk_iff hr, ← lk_iff hs, h]
structure KeOf (a b : List Pr) (e : Ke) : Prop where
  yesA : e.inA = true → (e.key, e.a) ∈ a
  noA : e.inA = false → e.a = 0 ∧ ∀ x ∈ a, x.1 ≠ e.key
  yesB : e.inB = true → (e.key, e.b) ∈ b
  noB : e.inB = false → e.b = 0 ∧ ∀ x ∈ b, x.1 ≠ e.key
  one : (e.inA || e.inB) = true
structure Mg (o : Int) (a b : List Pr) (m : List Ke) : Prop where
  asc : (m.map (·.key)).Pairwise (ltO o)
  of : ∀ e ∈ m, KeOf a b e
  hasA : ∀ x ∈ a, ∃ e ∈ m, e.key = x.1
  hasB : ∀ x ∈ b, ∃ e ∈ m, e.key = x.1
theorem ltO_ne {o a b : Int} (h : ltO o a b) : a ≠ b := fun e => by subst e; exact ltO_irrefl h
theorem asc_consK {o : Int} {e : Ke} {m : List Ke} (h : ∀ x ∈ m, ltO o e.key x.key) (hm : (m.map (·.key)).Pairwise (ltO o)) : ((e :: m).map (·.key)).Pairwise (ltO o) := by
  rw [List.map_cons, List.pairwise_cons]
  exact ⟨fun k hk => by obtain ⟨x, hx, rfl⟩ := List.mem_map.1 hk; exact h x hx, hm⟩
theorem ne_cons {k : Int} {x : Pr} {a : List Pr} (hx : x.1 ≠ k) (h : ∀ z ∈ a, z.1 ≠ k) : ∀ z ∈ x :: a, z.1 ≠ k := fun z hz => by
  rcases List.mem_cons.1 hz with rfl | hz
  · exact hx
  · exact h z hz
theorem mg_of {o : Int} (ho : isO o = true) (a b : List Pr) (ha : (a.map (·.1)).Pairwise (ltO o)) (hb : (b.map (·.1)).Pairwise (ltO o)) (hIa : InP a) (hIb : InP b) : Mg o a b (mg o a b) := by
  induction a, b using mg.induct o with
  | case1 => rw [mg]; exact ⟨List.Pairwise.nil, (fun e he => by cases he), (fun x hx => by cases hx), (fun x hx => by cases hx)⟩
  | case2 y b ih =>
    rw [mg]
    simp only [List.map_cons, List.pairwise_cons, List.mem_map, forall_exists_index, and_imp, forall_apply_eq_imp_iff₂] at hb
    have I := ih ha hb.2 hIa fun x hx => hIb x (by simp [hx])
    have hgt : ∀ e ∈ mg o [] b, ltO o y.1 e.key := mg_key o [] b (fun x hx => by cases hx) hb.1
    refine ⟨asc_consK hgt I.asc, fun e he => ?_, (fun x hx => by cases hx), fun x hx => ?_⟩
    · rcases List.mem_cons.1 he with rfl | hm
      · exact ⟨by simp, fun _ => ⟨rfl, by simp⟩, fun _ => by simp, by simp, rfl⟩
      · have K := I.of e hm
        exact ⟨K.yesA, K.noA, fun g => by simp [K.yesB g], fun g => ⟨(K.noB g).1, ne_cons (ltO_ne (hgt e hm)) (K.noB g).2⟩, K.one⟩
    · rcases List.mem_cons.1 hx with rfl | h
      · exact ⟨_, List.mem_cons_self, rfl⟩
      · obtain ⟨e, he, hk⟩ := I.hasB x h; exact ⟨e, by simp [he], hk⟩
  | case3 x a ih =>
    rw [mg]
    simp only [List.map_cons, List.pairwise_cons, List.mem_map, forall_exists_index, and_imp, forall_apply_eq_imp_iff₂] at ha
    have I := ih ha.2 hb (fun x hx => hIa x (by simp [hx])) hIb
    have hgt : ∀ e ∈ mg o a [], ltO o x.1 e.key := mg_key o a [] ha.1 (fun x hx => by cases hx)
    refine ⟨asc_consK hgt I.asc, fun e he => ?_, fun z hx => ?_, fun x hx => by cases hx⟩
    · rcases List.mem_cons.1 he with rfl | hm
      · exact ⟨fun _ => by simp, by simp, by simp, fun _ => ⟨rfl, by simp⟩, rfl⟩
      · have K := I.of e hm
        exact ⟨fun g => by simp [K.yesA g], fun g => ⟨(K.noA g).1, ne_cons (ltO_ne (hgt e hm)) (K.noA g).2⟩, K.yesB, K.noB, K.one⟩
    · rcases List.mem_cons.1 hx with rfl | h
      · exact ⟨_, List.mem_cons_self, rfl⟩
      · obtain ⟨e, he, hk⟩ := I.hasA z h; exact ⟨e, by simp [he], hk⟩
  | case4 x a y b h ih =>
    rw [mg, if_pos h]
    have ha' := ha
    have hb' := hb
    simp only [List.map_cons, List.pairwise_cons, List.mem_map, forall_exists_index, and_imp, forall_apply_eq_imp_iff₂] at ha' hb'
    have I := ih ha'.2 hb (fun x hx => hIa x (by simp [hx])) hIb
    have hyb : ∀ z ∈ y :: b, ltO o x.1 z.1 := fun z hz => by
      rcases List.mem_cons.1 hz with rfl | hz
      · exact h
      · exact cmpI_trans h (hb'.1 z hz)
    have hgt : ∀ e ∈ mg o a (y :: b), ltO o x.1 e.key := mg_key o a (y :: b) ha'.1 hyb
    refine ⟨asc_consK hgt I.asc, fun e he => ?_, fun z hx => ?_, fun z hx => ?_⟩
    · rcases List.mem_cons.1 he with rfl | hm
      · exact ⟨fun _ => by simp, by simp, by simp, fun _ => ⟨rfl, fun z hz => (ltO_ne (hyb z hz)).symm⟩, rfl⟩
      · have K := I.of e hm
        exact ⟨fun g => by simp [K.yesA g], fun g => ⟨(K.noA g).1, ne_cons (ltO_ne (hgt e hm)) (K.noA g).2⟩, K.yesB, K.noB, K.one⟩
    · rcases List.mem_cons.1 hx with rfl | h
      · exact ⟨_, List.mem_cons_self, rfl⟩
      · obtain ⟨e, he, hk⟩ := I.hasA z h; exact ⟨e, by simp [he], hk⟩
    · obtain ⟨e, he, hk⟩ := I.hasB z hx; exact ⟨e, by simp [he], hk⟩
  | case5 x a y b h h2 h3 ih =>
    rw [mg, if_neg h, if_pos h2, if_pos h3]
    simp only [List.map_cons, List.pairwise_cons, List.mem_map, forall_exists_index, and_imp, forall_apply_eq_imp_iff₂] at ha hb
    have I := ih ha.2 hb.2 (fun x hx => hIa x (by simp [hx])) (fun x hx => hIb x (by simp [hx]))
    have hgt : ∀ e ∈ mg o a b, ltO o x.1 e.key := mg_key o a b ha.1 (by rw [h3]; exact hb.1)
    refine ⟨asc_consK hgt I.asc, fun e he => ?_, fun z hx => ?_, fun z hx => ?_⟩
    · rcases List.mem_cons.1 he with rfl | hm
      · exact ⟨fun _ => by simp, by simp, fun _ => by simp [h3], by simp, rfl⟩
      · have K := I.of e hm
        exact ⟨fun g => by simp [K.yesA g], fun g => ⟨(K.noA g).1, ne_cons (ltO_ne (hgt e hm)) (K.noA g).2⟩,
               fun g => by simp [K.yesB g], fun g => ⟨(K.noB g).1, ne_cons (by rw [← h3]; exact ltO_ne (hgt e hm)) (K.noB g).2⟩, K.one⟩
    · rcases List.mem_cons.1 hx with rfl | h
      · exact ⟨_, List.mem_cons_self, rfl⟩
      · obtain ⟨e, he, hk⟩ := I.hasA z h; exact ⟨e, by simp [he], hk⟩
    · rcases List.mem_cons.1 hx with rfl | h
      · exact ⟨_, List.mem_cons_self, h3⟩
      · obtain ⟨e, he, hk⟩ := I.hasB z h; exact ⟨e, by simp [he], hk⟩
  | case6 x a y b h h2 h3 ih => exact absurd (cmpI_eq ho (hIa x (by simp)).1 (hIb y (by simp)).1 h2) h3
  | case7 x a y b h h2 ih =>
    rw [mg, if_neg h, if_neg h2]
    have hlt : ltO o y.1 x.1 := cmpI_pos (by omega)
    have ha' := ha
    simp only [List.map_cons, List.pairwise_cons, List.mem_map, forall_exists_index, and_imp, forall_apply_eq_imp_iff₂] at ha' hb
    have I := ih ha hb.2 hIa (fun x hx => hIb x (by simp [hx]))
    have hxa : ∀ z ∈ x :: a, ltO o y.1 z.1 := fun z hz => by
      rcases List.mem_cons.1 hz with rfl | hz
      · exact hlt
      · exact cmpI_trans hlt (ha'.1 z hz)
    have hgt : ∀ e ∈ mg o (x :: a) b, ltO o y.1 e.key := mg_key o (x :: a) b hxa hb.1
    refine ⟨asc_consK hgt I.asc, fun e he => ?_, fun z hx => ?_, fun z hx => ?_⟩
    · rcases List.mem_cons.1 he with rfl | hm
      · exact ⟨by simp, fun _ => ⟨rfl, fun z hz => (ltO_ne (hxa z hz)).symm⟩, fun _ => by simp, by simp, rfl⟩
      · have K := I.of e hm
        exact ⟨K.yesA, K.noA, fun g => by simp [K.yesB g], fun g => ⟨(K.noB g).1, ne_cons (ltO_ne (hgt e hm)) (K.noB g).2⟩, K.one⟩
    · obtain ⟨e, he, hk⟩ := I.hasA z hx; exact ⟨e, by simp [he], hk⟩
    · rcases List.mem_cons.1 hx with rfl | h
      · exact ⟨_, List.mem_cons_self, rfl⟩
      · obtain ⟨e, he, hk⟩ := I.hasB z h; exact ⟨e, by simp [he], hk⟩
theorem mg_row {o : Int} {a b : List Pr} (ha : mayR o a = true) (hb : mayR o b = true) (hIa : InP a) (hIb : InP b) : Mg o a b (mg o a b) :=
  mg_of (mayR_o ha) a b (mayR_iff.1 ha).2 (mayR_iff.1 hb).2 hIa hIb
theorem someL_may {o p : Int} {want : Ke → Bool} {a b : List Pr} (ha : mayR o a = true) (hb : mayR o b = true) (hIa : InP a) (hIb : InP b) : mayR o (someL o p want a b) = true := by
  rw [mayR_iff]
  refine ⟨mayR_o ha, ?_⟩
  have h := (mg_row ha hb hIa hIb).asc
  unfold someL outL
  rw [List.map_map]
  exact List.Pairwise.sublist ((List.filter_sublist).map _) h
def addO (p : Int) (v : Option Int) (y : Int) : Option Int := some (match v with | none => y | some x => comb p x y)
theorem sortL_lk {o p : Int} (ho : isO o = true) (hp : may p = true) (k : Int) : ∀ (l : List Pr) (r : List Pr), mayR o r = true → InP r → InP l →
    lk o (l.foldl (fun r x => putR o p r x) r) k = ((l.filter fun x => x.1 == k).map (·.2)).foldl (addO p) (lk o r k)
  | [], r, _, _, _ => rfl
  | x :: l, r, hm, hI, hl => by
    have hx := hl x (by simp)
    rw [List.foldl_cons, sortL_lk ho hp k l _ (put_may hm hp hI hx.1) (put_in hm hp hI hx) fun y hy => hl y (by simp [hy]), lk_put hm hp hI hx.1]
    by_cases hk : k = x.1
    · rw [if_pos hk, List.filter_cons_of_pos (by simp [hk])]; rfl
    · rw [if_neg hk, List.filter_cons_of_neg (by simp; exact fun e => hk e.symm)]
theorem mayR_nil {o : Int} (ho : isO o = true) : mayR o [] = true := by simp [mayR, ho, chain]
theorem sortL_lk0 {o p : Int} (ho : isO o = true) (hp : may p = true) {l : List Pr} (hl : InP l) (k : Int) : lk o (sortL o p l) k = ((l.filter fun x => x.1 == k).map (·.2)).foldl (addO p) none := by
  have := sortL_lk ho hp k l [] (mayR_nil ho) (by intro x hx; cases hx) hl
  rw [lk_nil] at this
  exact this
theorem sortL_stab {o p : Int} (ho : isO o = true) (hp : may p = true) {l l' : List Pr} (hl : InP l) (h : Stab l' l) : sortL o p l' = sortL o p l := by
  have hl' : InP l' := fun x hx => hl x ((h.mem x).1 hx)
  exact row_ext (sortL_may ho hp hl').1 (sortL_may ho hp hl).1 fun k => by rw [sortL_lk0 ho hp hl', sortL_lk0 ho hp hl, h k]
end Go.Proofs.YtmdboekndjlmgaaGreat

namespace Go.Proofs.YtmdboekndjlmgaaGreat
open Go Go.Sh Go.RowKit

theorem put_end {o p : Int} {r : List Pr} {x : Pr} (hm : mayR o r = true) (hp : may p = true) (h : ∀ y ∈ r, ltO o y.1 x.1) : putR o p r x = r ++ [x] := by
  have hh : hasR o r x.1 = false := by
    cases hq : hasR o r x.1
    · rfl
    · obtain ⟨i, hi, e⟩ := (hasR_iff hm).1 hq
      exact absurd e (ltO_ne (h _ (List.getElem_mem hi)))
  have hpos : posR o r x.1 = r.length := by
    unfold posR; rw [hm, cond_true]
    exact idxR_eq (Nat.le_refl _) (fun i hi _ => h _ (List.getElem_mem hi)) fun hi => absurd hi (Nat.lt_irrefl _)
  rw [put_miss hm hp hh, hpos, List.take_length, List.drop_length]
theorem put_last {o p : Int} {r : List Pr} {x : Pr} (hm : mayR o r = true) (hp : may p = true) (h0 : 0 < r.length) (h : (r[r.length - 1]).1 = x.1) :
    putR o p r x = r.set (r.length - 1) ((r[r.length - 1]).1, comb p (r[r.length - 1]).2 x.2) := by
  have := pos_at hm (show r.length - 1 < r.length by omega)
  rw [h] at this
  rw [put_hit hm hp this.2.1, this.1, this.2.2, h]
theorem sortL_keys {o p : Int} (ho : isO o = true) (hp : may p = true) {l : List Pr} (hl : InP l) : ∀ y ∈ sortL o p l, ∃ z ∈ l, z.1 = y.1 := fun y hy => by
  have := (lk_iff (sortL_may ho hp hl).1 (k := y.1) (v := y.2)).2 hy
  rw [sortL_lk0 ho hp hl] at this
  cases hf : l.filter (fun x => x.1 == y.1) with
  | nil => rw [hf] at this; cases this
  | cons z t =>
    have hz : z ∈ l.filter (fun x => x.1 == y.1) := by rw [hf]; simp
    have := List.mem_filter.1 hz
    exact ⟨z, this.1, by simpa using this.2⟩
theorem c_srt1 {o : Int} {b : Nat} {w0 : World} (h : Blk w0 b #[.int .u8 o] 5) : Cmp o w0 (.func 145) #[] #[.pointer (some (blk b))] := by
  intro x y hx hy w e R h'
  refine do_callc Tryz.call145 (by rfl) (sh145_ok _ _ _ _ _ ?_)
  unfold sh145
  refine ⟨⟨?_⟩⟩
  have e1 := ext_alloc w (.cells #[.int .i64 x.1, .int .i64 x.2] 63)
  have h1 := blk_alloc w #[.int .i64 x.1, .int .i64 x.2] 63
  generalize hb1 : w.heap.size = b1 at *
  generalize w.alloc (.cells #[.int .i64 x.1, .int .i64 x.2] 63) = w1 at *
  have e2 := ext_alloc w1 (.cells #[.int .i64 y.1, .int .i64 y.2] 63)
  have h2 := blk_alloc w1 #[.int .i64 y.1, .int .i64 y.2] 63
  generalize hb2 : w1.heap.size = b2 at *
  generalize w1.alloc (.cells #[.int .i64 y.1, .int .i64 y.2] 63) = w2 at *
  refine ⟨_, (h.ext ((e.trans e1).trans e2)).cell (i := 0) rfl rfl, _, (h1.ext e2).cell (i := 0) (add_blk _ _) rfl, _, h2.cell (i := 0) (add_blk _ _) rfl, ?_⟩
  exact do_call Tryz.call54 (c_compare hx hy fun w3 e3 => retS_ret ⟨_, rfl, h' _ ((e1.trans e2).trans e3)⟩)
theorem c_rsort {o p : Int} {l : List Pr} {q : OA} {n c : Nat} {w : World} {R : EW} (hl : Cs w q (prs l)) (hn : l.length = n) (hm : n ≤ 1000000) (hI : InP l)
    (h : ∀ p' n' c' w', OwnP w' w.heap.size p' n' c' (cond (isO o && may p) (sortL o p l) []) → Ext w w' → R (.returned (.tuple #[.slice p' n' c', .int .i64 (cond (isO o && may p) 0 2)])) w') :
    Calls Tryz.prog 106 #[.int .u8 o, .int .u8 p, .slice q n c] w R := by
  refine sh106_ok _ _ _ _ _ ?_
  unfold sh106
  refine ⟨?_⟩
  have e1 := ext_alloc w (.cells #[.int .u8 o] 5)
  have h1 := blk_alloc w #[.int .u8 o] 5
  generalize w.heap.size = b1 at h1
  generalize w.alloc (.cells #[.int .u8 o] 5) = w1 at *
  refine ⟨_, h1.cell (i := 0) rfl rfl, ?_⟩
  refine do_call Tryz.call30 (c_name fun w2 e2 => retS_ret ⟨_, rfl, ?_⟩)
  rw [name_empty]
  cases ho : isO o
  · refine ifB_t rfl ?_
    have hr := h none 0 0 w2
    rw [ho, Bool.false_and] at hr
    exact hr (ownP_nil _ _) (e1.trans e2)
  refine ifB_f rfl ?_
  refine do_call Tryz.call118 (c_fmay fun w3 e3 => retS_ret ⟨_, rfl, ?_⟩)
  cases hp : may p
  · refine ifB_t rfl ?_
    have hr := h none 0 0 w3
    rw [ho, hp, Bool.and_false] at hr
    exact hr (ownP_nil _ _) ((e1.trans e2).trans e3)
  refine ifB_f rfl ?_
  rw [ho, hp] at h
  simp only [Bool.and_self, cond_true] at h
  have E3 := (e1.trans e2).trans e3
  have h3 := (h1.ext e2).ext e3
  clear e1 e2 e3
  refine do_call Tryz.call27 (c_clone (hl.ext E3) hn (by omega) fun q4 c4 w4 g4 e4 => retS_ret ⟨_, _, _, rfl, ?_⟩)
  refine do_call Tryz.call144 (c_sortStable (o := o) (w0 := w3) (B := w3.heap.size) (Nat.le_refl _) (by omega) (c_srt1 h3) ho (l := l) ⟨g4, e4, fun x hx => (hI x hx).1⟩ fun w5 S hS hst hw5 => retS_ret ⟨rfl, ?_⟩)
  have E5 := E3.trans hw5.ext
  have hIS : InP S := fun x hx => hI x ((hst.mem x).1 hx)
  have hSn : S.length = n := hw5.len
  have hsrc := ownP_cs hw5.own
  have hsz5 : w.heap.size ≤ w5.heap.size := E5.size
  clear h1 h3 g4 e4 hl
  refine ⟨fun vs w' => ∃ (i nn cc : Nat) (qq : OA), vs = [.slice qq nn cc, .int .i64 i] ∧ i ≤ n ∧ Ext w5 w' ∧ OwnP w' w5.heap.size qq nn cc (sortL o p (S.take i)),
    fun vs _ => n - (intOf (vs.getD 1 undef)).toNat, ⟨0, 0, 0, none, rfl, by omega, ext_refl _, ownP_nil _ _⟩, ?_⟩
  rintro q' n' c' x' _ w6 ⟨i, nn, cc, qq, hv, hi, e6, hrow⟩
  simp only [List.cons.injEq, Value.slice.injEq, Value.int.injEq, true_and, and_true] at hv
  obtain ⟨⟨rfl, rfl, rfl⟩, rfl⟩ := hv
  refine ifB_intro (fun hlt => ?_) fun hge => ?_
  rotate_left
  · have hge : ¬ (i : Int) < n := of_decide_eq_false hge
    rw [List.take_of_length_le (by omega), sortL_stab ho hp hI hst] at hrow
    exact h _ _ _ _ (row_mono hrow hsz5) (E5.trans e6)
  have hlt : i < n := by have := of_decide_eq_true hlt; omega
  have hi' : i < S.length := by omega
  have hinv : ∀ x ∈ S.take i, In x.1 ∧ In x.2 := fun x hx => hIS x (List.mem_of_mem_take hx)
  obtain ⟨m1, m2, m3⟩ := sortL_may (p := p) ho hp hinv
  have hkeys := sortL_keys ho hp hinv
  have hxI := hIS _ (List.getElem_mem hi')
  have hle : ∀ y ∈ sortL o p (S.take i), codeI o y.1 ≤ codeI o S[i].1 := fun y hy => by
    obtain ⟨z, hz, e⟩ := hkeys y hy
    obtain ⟨j, hj, e'⟩ := List.getElem_of_mem hz
    rw [List.length_take] at hj
    rw [← e, ← e', List.getElem_take]
    exact srt_get hS (by omega) hi'
  have hstep : sortL o p (S.take (i + 1)) = putR o p (sortL o p (S.take i)) S[i] := sortL_take hi'
  rw [List.length_take] at m3
  have hrl := ownP_len hrow
  have hcap : n' ≤ n := by omega
  generalize hr0 : sortL o p (S.take i) = r at *
  refine ix_pr (hsrc.ext e6) hSn rfl hlt fun a r1 r2 _ => ⟨_, r1, _, r2, ⟨?_⟩⟩
  have e7 := ext_alloc w6 (.cells #[.int .i64 0, .int .i64 0] 63)
  refine do_st2 (blk_alloc w6 _ _) fun w8 h8 g8 => ?_
  have E8 : Ext w6 w8 := e7.st g8 (Nat.le_refl _)
  generalize hbx : w6.heap.size = bx at *
  have hrow8 := E8.row hrow
  have hnext : IntKind.wrap .i64 ((i : Int) + 1) = ((i + 1 : Nat) : Int) := wrap_succ (n := n) (by omega) (by omega)
  have hmu : n - (intOf ((([.slice q' n' c', .int .i64 ((i + 1 : Nat) : Int)] : List Value)).getD 1 undef)).toNat < n - (intOf ((([.slice q' n' c', .int .i64 (i : Int)] : List Value)).getD 1 undef)).toNat := by
    show n - (((i + 1 : Nat) : Int)).toNat < n - ((i : Nat) : Int).toNat
    omega
  have hbsz : w5.heap.size ≤ bx := by rw [← hbx]; exact e6.size
  -- a new key
  have hnew : ∀ w', Ext w8 w' → (∀ y ∈ r, ltO o y.1 S[i].1) → ∃ (x41 : Int), World.cell? w' ((blk bx).add 0) = some (.int .i64 x41) ∧ (
     ∃ (x42 : Int), World.cell? w' ((blk bx).add 1) = some (.int .i64 x42) ∧ (
     doAl (.cells #[.int .i64 x41, .int .i64 x42] 63) w' (fun b43 w44 =>
     doGo Tryz.prog (.builtin .append #[22, 22] 22 #[false, false]) #[.slice q' n' c', .slice (some (blk b43)) 1 1] w44 (retS (fun v48 w49 => ∃ (xp45 : OA), ∃ (xn46 : Nat), ∃ (xc47 : Nat), v48 = (.slice xp45 xn46 xc47 : Value) ∧ (
       (∃ (i' nn cc : Nat) (qq : OA), ([.slice xp45 xn46 xc47, .int .i64 (IntKind.wrap .i64 ((i : Int) + 1))] : List Value) = [.slice qq nn cc, .int .i64 i'] ∧ i' ≤ n ∧ Ext w5 w49 ∧ OwnP w49 w5.heap.size qq nn cc (sortL o p (S.take i'))) ∧
       n - (intOf (([.slice xp45 xn46 xc47, .int .i64 (IntKind.wrap .i64 ((i : Int) + 1))] : List Value).getD 1 undef)).toNat < n - (intOf (([.slice q' n' c', .int .i64 (i : Int)] : List Value).getD 1 undef)).toNat)) (fun ch w => Kfn R ch [] w))))) := by
    intro w' e9 hall
    have h9 := h8.ext e9
    refine ⟨_, h9.cell (i := 0) (add_blk _ _) rfl, _, h9.cell (i := 1) (add_blk _ _) rfl, ⟨?_⟩⟩
    have e10 := ext_alloc w' (.cells #[.int .i64 S[i].1, .int .i64 S[i].2] 63)
    have hrow10 := (e9.trans e10).row hrow8
    refine do_app elP hrow10 (m := 1) (cs_alloc w' _ _) (by simp) (by simp [Value.oneCell']) (by simp only [maxLen]; omega) (by omega) (Nat.le_trans e6.size (Nat.le_trans E8.size (e9.trans e10).size)) fun q11 c11 w11 h11 g11 => retS_ret ⟨_, _, _, rfl, ?_⟩
    rw [hnext]
    refine ⟨⟨i + 1, n' + 1, c11, q11, rfl, by omega, ?_, ?_⟩, ?_⟩
    · exact ext_own hrow10 (((e6.trans E8).trans e9).trans e10) g11 (Nat.le_refl _)
    · rw [hstep, put_end m1 hp hall]
      unfold OwnP; rw [prs_append]; exact h11
    · show n - (((i + 1 : Nat) : Int)).toNat < n - ((i : Nat) : Int).toNat
      omega
  refine ⟨⟨fun w' => Ext w8 w', ext_drew _, ?_⟩⟩
  refine ifB_intro (fun h0 => ?_) fun h0 => ?_
  · have h0 : n' = 0 := by simpa using h0
    refine ifB_t rfl (hnew _ (ext_drew _) ?_)
    have : r = [] := List.eq_nil_of_length_eq_zero (by omega)
    subst this; intro y hy; cases hy
  have h0 : 0 < n' := by have : ¬ n' = 0 := by simpa using h0
                         omega
  have hw1 : IntKind.wrap .i64 ((n' : Int) - 1) = ((n' - 1 : Nat) : Int) := by rw [wrap_of (by omega) (by omega)]; omega
  rw [hw1]
  refine ix_prC (fun w' e' => (ownP_cs hrow8).ext e') (ext_refl _) hrl (k := n' - 1) rfl (by omega) fun a s1 _ => ⟨_, s1, _, fun w' e' => (h8.ext e').cell (i := 0) (add_blk _ _) rfl, ?_⟩
  refine ifB_intro (fun hne => ?_) fun heq => ?_
  · have hne : (r[n' - 1]'(by omega)).1 ≠ S[i].1 := by simpa using hne
    refine hnew _ (ext_drew _) fun y hy => ?_
    have hlast : ltO o (r[n' - 1]'(by omega)).1 S[i].1 := by
      have h1 := hle _ (List.getElem_mem (show n' - 1 < r.length by omega))
      show cmpI o _ _ < 0
      rw [cmp_lt ho]
      rcases Int.lt_or_le (codeI o (r[n' - 1]'(by omega)).1) (codeI o S[i].1) with h | h
      · exact h
      · exfalso
        refine hne (cmpI_eq ho (m2 _ (List.getElem_mem _)).1 hxI.1 ?_)
        have k1 : ¬ cmpI o (r[n' - 1]'(by omega)).1 S[i].1 < 0 := by rw [cmp_lt ho]; omega
        have k2 : ¬ 0 < cmpI o (r[n' - 1]'(by omega)).1 S[i].1 := fun k => by
          have := cmpI_pos k
          rw [cmp_lt ho] at this; omega
        omega
    obtain ⟨j, hj, e⟩ := List.getElem_of_mem hy
    rcases Nat.lt_or_ge j (n' - 1) with hjl | hjl
    · rw [← e]; exact cmpI_trans (chain_lt (mayR_chain m1) hjl (by omega)) hlast
    · have : j = n' - 1 := by omega
      subst this; rw [← e]; exact hlast
  have heq : (r[n' - 1]'(by omega)).1 = S[i].1 := by simpa using heq
  refine ⟨⟨fun w' => Ext w8.drew w', ext_drew _, ?_⟩⟩
  have e9 := ext_drew w8
  refine ix_prC (fun w' e' => ((ownP_cs hrow8).ext e9).ext e') (ext_refl _) hrl (k := n' - 1) rfl (by omega) fun a _ s2 => ⟨_, s2, _, fun w' e' => ((h8.ext e9).ext e').cell (i := 1) (add_blk _ _) rfl, ?_⟩
  refine do_call Tryz.call142 (c_comb fun w11 e11 => retS_ret ⟨_, _, rfl, ?_⟩)
  rw [hp, cond_true]
  have E11 := (e9.trans (ext_drew _)).trans e11
  have hrow11 := E11.row hrow8
  refine ix_pr (ownP_cs hrow11) hrl (k := n' - 1) rfl (by omega) fun a' _ _ ha' => ?_
  refine own_st2 hrow11 (by omega) ha' fun w12 h12 g12 => ?_
  rw [hnext]
  refine ⟨⟨i + 1, n', c', q', rfl, by omega, ext_own hrow11 ((e6.trans E8).trans E11) g12 (Nat.le_refl _), ?_⟩, hmu⟩
  rw [hstep, put_last m1 hp (by omega) (by simpa [hrl] using heq)]
  simp only [hrl]
  exact h12
end Go.Proofs.YtmdboekndjlmgaaGreat

namespace Go.Proofs.YtmdboekndjlmgaaGreat
open Go Go.Sh Go.RowKit

theorem do_append2 {P : Program} {t e : TypeId} {z : Value} {size bytes : Nat} (E : ElT P t e z size bytes) {base : Nat} {v : Value} {n : Nat} {xs : List Value} {w : World}
    (hown : w.ownsRow base e size v n xs) {ad : Addr} {m c : Nat} {news : List Value} (hnews : Cs w (some ad) news) (hl : news.length = m * size) (h1 : ∀ u ∈ news, u.oneCell' = true) (hm0 : 0 < m)
    (h63 : n + m ≤ maxLen) (hbytes : (n + m) * bytes ≤ 140737488355328) (hbase : base ≤ w.heap.size) {bs : Array Bool} {R : EW}
    (h : ∀ p c w', w'.ownsRow base e size (.slice p (n + m) c) (n + m) (xs ++ news) → w.grownBy w' v.ownBlock → ((Value.slice p (n + m) c).ownBlock = v.ownBlock ∨ (Value.slice p (n + m) c).ownBlock = some w.heap.size) → R (.returned (.slice p (n + m) c)) w') :
    doGo P (.builtin .append #[t, t] t bs) #[v, .slice (some ad) m c] w R := by
  obtain ⟨i, hi, hz, hsz, hby⟩ := E.hi
  have hnews' : ∀ j u, news[j]? = some u → w.cell? (ad.add j) = some u := fun j u hu => by obtain ⟨a, ha, hc⟩ := hnews j u hu; cases ha; exact hc
  obtain ⟨v', w', hr, h2, h3, _⟩ := run_append_own (P := P) w base t t e i z size bytes E.ht hi hz hsz hby E.hz E.hs v n xs hown ad m c news hl hnews' h1 h63 hbytes hbase
  obtain ⟨p, c', rfl⟩ := row_slice h2
  refine goV_append hr (h p c' w' h2 h3 ?_)
  have hmax : n + m ≤ 9223372036854775807 := by simp only [maxLen] at h63; omega
  subst hsz
  subst hby
  rcases hown.2 with ⟨rfl, rfl⟩ | ⟨g, cap, cur, rfl, hbg, hg, hnc, hcm, hcs, htake⟩
  · have := run_append_nil (P := P) w t t e i z E.ht hi hz ad m c news hl hnews' hm0 (by omega) (by have hb := hbytes; rw [Nat.zero_add] at hb; omega)
    rw [this] at hr
    injection hr with hr1 _
    right; rw [← hr1]; rfl
  · by_cases hroom : n + m ≤ cap
    · have := run_append_room (P := P) w t t e i E.ht hi g n cap cur hg ad m c news hl hnews' h1 hroom (by rw [hl, hcs, ← Nat.add_mul]; exact Nat.mul_le_mul_right _ hroom)
      rw [this] at hr
      injection hr with hr1 _
      left; rw [← hr1]; rfl
    · have := run_append_grow (P := P) w t t e i z E.ht hi hz ⟨g, 0, none⟩ n cap xs hown.1 (hown.cells (g := g) rfl) ad m c news hl hnews' (by omega) (by omega) (growslice_fits (by omega) hbytes)
      rw [this] at hr
      injection hr with hr1 _
      right; rw [← hr1]; rfl
theorem do_app1 {q : OA} {n c base : Nat} {r : List Pr} {w : World} (hrow : OwnP w base q n c r) (hn : n ≤ 1000000000000) (hb : base ≤ w.heap.size) {u v : Int} {Kf : Value → World → Prop} {F : List PanicEntry → World → Prop}
    (k : ∀ q' c' w', OwnP w' base q' (n + 1) c' (r ++ [(u, v)]) → (∀ w0, Ext w0 w → w0.heap.size ≤ base → Ext w0 w') → w.grownBy w' (Value.slice q n c).ownBlock →
      ((Value.slice q' (n + 1) c').ownBlock = (Value.slice q n c).ownBlock ∨ ∀ k, (Value.slice q' (n + 1) c').ownBlock = some k → w.heap.size ≤ k) → Kf (.slice q' (n + 1) c') w') :
    doAl (.cells #[.int .i64 u, .int .i64 v] 63) w (fun b w2 => doGo Tryz.prog (.builtin .append #[22, 22] 22 #[false, false]) #[.slice q n c, .slice (some (blk b)) 1 1] w2 (retS Kf F)) := by
  refine ⟨?_⟩
  have e1 := ext_alloc w (.cells #[.int .i64 u, .int .i64 v] 63)
  have hrow1 := e1.row hrow
  refine do_append2 elP hrow1 (m := 1) (cs_alloc w _ _) (by simp) (by simp [Value.oneCell']) (by omega) (by simp only [maxLen]; omega) (by omega) (Nat.le_trans hb e1.size) fun p' c' w' h2 g2 hor => retS_ret (k p' c' w' ?_ ?_ ?_ ?_)
  · unfold OwnP; rw [prs_append]; exact h2
  · intro w0 e0 hb0
    exact ext_own hrow1 (e0.trans e1) g2 hb0
  · have ga : w.grownBy (w.alloc (.cells #[.int .i64 u, .int .i64 v] 63)) (Value.slice q n c).ownBlock := World.grownBy_alloc _ _ _
    exact grown_trans ga g2
  · rcases hor with h | h
    · exact .inl h
    · right; intro k hk; rw [h] at hk; cases hk; exact e1.size
section
variable {o p : Int} {a b : List Pr} {qa qb : OA} {na ca nb cb : Nat} {w : World} {R : EW}
def Two (w : World) (base : Nat) (p : OA) (n c : Nat) (l : List Pr) (p' : OA) (n' c' : Nat) (l' : List Pr) : Prop :=
  OwnP w base p n c l ∧ OwnP w base p' n' c' l' ∧ ((Value.slice p' n' c').ownBlock = none ∨ (Value.slice p' n' c').ownBlock ≠ (Value.slice p n c).ownBlock)
theorem Two.swap {w : World} {base : Nat} {p : OA} {n c : Nat} {l : List Pr} {p' : OA} {n' c' : Nat} {l' : List Pr} (h : Two w base p n c l p' n' c' l') : Two w base p' n' c' l' p n c l := by
  refine ⟨h.2.1, h.1, ?_⟩
  rcases h.2.2 with g | g
  · cases hq : (Value.slice p n c).ownBlock with
    | none => exact .inl rfl
    | some k => rw [g]; exact .inr (by simp)
  · exact .inr (Ne.symm g)
theorem Two.grow {w w' : World} {base : Nat} {p : OA} {n c : Nat} {l : List Pr} {p' : OA} {n' c' : Nat} {l' : List Pr} (h : Two w base p n c l p' n' c' l') {p2 : OA} {n2 c2 : Nat} {l2 : List Pr}
    (h2 : OwnP w' base p2 n2 c2 l2) (g : w.grownBy w' (Value.slice p n c).ownBlock) (hor : (Value.slice p2 n2 c2).ownBlock = (Value.slice p n c).ownBlock ∨ ∀ k, (Value.slice p2 n2 c2).ownBlock = some k → w.heap.size ≤ k) : Two w' base p2 n2 c2 l2 p' n' c' l' := by
  refine ⟨h2, World.ownsRow.kept h.2.1 g h.2.2, ?_⟩
  rcases hor with e | e
  · rw [e]; exact h.2.2
  · cases hq : (Value.slice p' n' c').ownBlock with
    | none => exact .inl rfl
    | some k =>
      right
      intro e'
      have := (World.ownsRow.lt h.2.1 k hq).2
      have := e k e'.symm
      omega
theorem Two.ext {w w' : World} {base : Nat} {p : OA} {n c : Nat} {l : List Pr} {p' : OA} {n' c' : Nat} {l' : List Pr} (h : Two w base p n c l p' n' c' l') (e : Ext w w') : Two w' base p n c l p' n' c' l' :=
  ⟨e.row h.1, e.row h.2.1, h.2.2⟩
end
end Go.Proofs.YtmdboekndjlmgaaGreat

namespace Go.Proofs.YtmdboekndjlmgaaGreat
open Go Go.Sh Go.RowKit

section
variable {o p : Int} {a b : List Pr}
end
end Go.Proofs.YtmdboekndjlmgaaGreat

namespace Go.Proofs.YtmdboekndjlmgaaGreat
open Go Go.Sh Go.RowKit

section
variable {o p : Int} {x y z : List Pr}
end
end Go.Proofs.YtmdboekndjlmgaaGreat

namespace Go.Proofs.YtmdboekndjlmgaaGreat
open Go Go.Sh Go.RowKit

def keepP (k a b : Int) (f : Bool) (l : List Pr) : List Pr := cond (predMay k a b) (l.filter fun x => takesK k a b x != f) []
abbrev Rows := List (List Pr)
def thereL (L : Rows) (n : Int) : Bool := decide (0 ≤ n ∧ n < L.length)
def atL (L : Rows) (n : Int) : List Pr := L.getD n.toNat []
structure Rep where
  err : Int
  is : Bool
  key : Int
  val : Int
  n : Int
  new : List Int
  pairs : List Pr
def Rep.zero : Rep := ⟨0, false, 0, 0, 0, [], []⟩
def mkN (d : Int) : Nat := if d = 22 then 2 else if d = 1 ∨ d = 2 ∨ (8 ≤ d ∧ d ≤ 15) ∨ d = 18 then 1 else 0
def kA (d : Int) : Bool := decide (1 ≤ d ∧ d ≤ 22 ∧ d ≠ 8)
def kB (d : Int) : Bool := decide (9 ≤ d ∧ d ≤ 12)
def kS (d : Int) : Bool := decide (18 ≤ d ∧ d ≤ 20)
def wrongP (o : Int) (L : Rows) (x : POp) : Int :=
  if mayO x = false then 2
  else if (kA x.op && !thereL L x.a) = true ∨ (kB x.op && !thereL L x.b) = true then 3
  else if 4096 < L.length + mkN x.op then 4
  else if x.op = 17 ∧ (x.n < 0 ∨ ((atL L x.a).length : Int) ≤ x.n) then 320
  else if kS x.op = true ∧ cmpI o x.hi x.lo < 0 then 330
  else 0
def madeP (r : Rep) (L ls : Rows) : Rep × Rows := ({ r with new := (List.range ls.length).map fun i => ((L.length + i : Nat) : Int) }, L ++ ls)
def countP (L : Rows) (l : List Pr) : Rep × Rows := madeP { Rep.zero with n := l.length } L [l]
def foundP (x : Pr) (is : Bool) : Rep := if is then { Rep.zero with is := true, key := x.1, val := x.2 } else Rep.zero
def wasP (o : Int) (a : List Pr) (key : Int) : Rep := { Rep.zero with is := hasR o a key, val := getR o a key }
def srtP (o p : Int) (l : List Pr) : List Pr := cond (isO o && may p) (sortL o p l) []
def rngP (o : Int) (a : List Pr) (lo hi : Int) : List Pr := setL o 1 (wR o lo hi) a []
def actP (o : Int) (L : Rows) (x : POp) (a c : List Pr) : Rep × Rows :=
  match x.op.toNat with
  | 1 => madeP (wasP o a x.key) L [putR o x.pol a (x.key, x.val)]
  | 2 => madeP (wasP o a x.key) L [dropR o a x.key]
  | 3 => (foundP (x.key, getR o a x.key) (hasR o a x.key), L)
  | 4 => (foundP (a.getD 0 (0, 0)) (decide (0 < a.length)), L)
  | 5 => (foundP (a.getD (a.length - 1) (0, 0)) (decide (0 < a.length)), L)
  | 6 => (foundP (floorR o a x.key) (isFloorR o a x.key), L)
  | 7 => (foundP (ceilR o a x.key) (isCeilR o a x.key), L)
  | 8 => countP L (srtP o x.pol x.pairs)
  | 9 => countP L (setL o x.pol wU a c)
  | 10 => countP L (setL o x.pol wM a c)
  | 11 => countP L (setL o 1 wL a c)
  | 12 => countP L (setL o 1 wA a c)
  | 13 => countP L (keepP x.pk x.pa x.pb x.pnot a)
  | 14 => countP L (setL o x.pol wU a (srtP o x.pol x.pairs))
  | 15 => countP L (setL o 1 wL a (srtP o 1 (x.keys.map fun k => (k, 0))))
  | 16 => ({ Rep.zero with is := hasR o a x.key, n := posR o a x.key }, L)
  | 17 => (foundP (a.getD x.n.toNat (0, 0)) true, L)
  | 18 => countP L (rngP o a x.lo x.hi)
  | 19 => ({ Rep.zero with n := (rngP o a x.lo x.hi).length }, L)
  | 20 => ({ Rep.zero with val := sumL ((rngP o a x.lo x.hi).map (·.2)) }, L)
  | 21 => ({ Rep.zero with n := a.length, pairs := a }, L)
  | _ => madeP (wasP o a x.key) L [cutA o a x.key, cutB o a x.key]
def doP (o : Int) (L : Rows) (x : POp) : Rep × Rows :=
  if wrongP o L x = 0 then actP o L x (atL L x.a) (atL L x.b) else ({ Rep.zero with err := wrongP o L x }, L)
def runP (o : Int) : Rows → List POp → List Rep
  | _, [] => []
  | L, x :: xs => (doP o L x).1 :: runP o (doP o L x).2 xs

structure OkL (o : Int) (K : List Int) (L : Rows) : Prop where
  may : ∀ r ∈ L, mayR o r = true
  inp : ∀ r ∈ L, InP r
  keys : ∀ r ∈ L, ∀ y ∈ r, y.1 ∈ K
theorem nodup_len : ∀ {l K : List Int}, l.Nodup → (∀ x ∈ l, x ∈ K) → l.length ≤ K.length
  | [], _, _, _ => Nat.zero_le _
  | x :: l, K, hn, h => by
    have hn' := List.nodup_cons.1 hn
    have hx : x ∈ K := h x (by simp)
    have := nodup_len (l := l) (K := K.erase x) hn'.2 fun y hy => (List.mem_erase_of_ne (show y ≠ x from fun e => hn'.1 (by rw [← e]; exact hy))).2 (h y (by simp [hy]))
    rw [List.length_erase_of_mem hx] at this
    have := List.length_pos_of_mem hx
    simp only [List.length_cons]
    omega
theorem row_nodup {o : Int} {r : List Pr} (h : mayR o r = true) : (r.map (·.1)).Nodup := (mayR_iff.1 h).2.imp fun h => ltO_ne h
theorem row_short {o : Int} {r : List Pr} {K : List Int} (h : mayR o r = true) (hk : ∀ y ∈ r, y.1 ∈ K) : r.length ≤ K.length := by
  have := nodup_len (row_nodup h) (K := K) fun x hx => by
    obtain ⟨y, hy, rfl⟩ := List.mem_map.1 hx
    exact hk y hy
  simpa using this
theorem OkL.len {o : Int} {K : List Int} {L : Rows} (h : OkL o K L) {r : List Pr} (hr : r ∈ L) : r.length ≤ K.length := row_short (h.may r hr) (h.keys r hr)
theorem OkL.at' {o : Int} {K : List Int} {L : Rows} (ho : isO o = true) (h : OkL o K L) (n : Int) : mayR o (atL L n) = true ∧ InP (atL L n) ∧ ∀ y ∈ atL L n, y.1 ∈ K := by
  unfold atL
  rw [List.getD_eq_getElem?_getD]
  cases hg : L[n.toNat]? with
  | none => exact ⟨mayR_nil ho, (by intro x hx; cases hx), by intro y hy; cases hy⟩
  | some r =>
    have hr := List.mem_of_getElem? hg
    exact ⟨h.may r hr, h.inp r hr, h.keys r hr⟩
theorem OkL.app {o : Int} {K K' : List Int} {L ls : Rows} (h : OkL o K L) (hK : ∀ k ∈ K, k ∈ K') (hl : OkL o K' ls) : OkL o K' (L ++ ls) := by
  refine ⟨fun r hr => ?_, fun r hr => ?_, fun r hr y hy => ?_⟩ <;> rcases List.mem_append.1 hr with hr | hr
  · exact h.may r hr
  · exact hl.may r hr
  · exact h.inp r hr
  · exact hl.inp r hr
  · exact hK _ (h.keys r hr y hy)
  · exact hl.keys r hr y hy
theorem OkL.one {o : Int} {K : List Int} {r : List Pr} (h1 : mayR o r = true) (h2 : InP r) (h3 : ∀ y ∈ r, y.1 ∈ K) : OkL o K [r] := by
  refine ⟨fun s hs => ?_, fun s hs => ?_, fun s hs y hy => ?_⟩ <;> obtain rfl : s = r := by simpa using hs
  · exact h1
  · exact h2
  · exact h3 y hy
theorem OkL.mono {o : Int} {K K' : List Int} {L : Rows} (h : OkL o K L) (hK : ∀ k ∈ K, k ∈ K') : OkL o K' L := ⟨h.may, h.inp, fun r hr y hy => hK _ (h.keys r hr y hy)⟩
theorem sub_row {o : Int} {r s : List Pr} (h : mayR o r = true) (hs : s.Sublist r) : mayR o s = true := by
  rw [mayR_iff] at h ⊢
  exact ⟨h.1, h.2.sublist (hs.map _)⟩
theorem sub_in {r s : List Pr} (h : InP r) (hs : s.Sublist r) : InP s := fun x hx => h x (hs.subset hx)
theorem someL_keys {o p : Int} {want : Ke → Bool} {a b : List Pr} (ha : mayR o a = true) (hb : mayR o b = true) (hIa : InP a) (hIb : InP b) : ∀ y ∈ someL o p want a b, (∃ z ∈ a, z.1 = y.1) ∨ ∃ z ∈ b, z.1 = y.1 := fun y hy => by
  unfold someL outL at hy
  obtain ⟨e, he, rfl⟩ := List.mem_map.1 hy
  have M := (mg_row ha hb hIa hIb).of e (List.mem_filter.1 he).1
  cases hA : e.inA with
  | true => exact .inl ⟨_, M.yesA hA, rfl⟩
  | false =>
    have h1 := M.one
    rw [hA, Bool.false_or] at h1
    exact .inr ⟨_, M.yesB h1, rfl⟩
theorem setL_ok {o p : Int} {want : Ke → Bool} {a b : List Pr} {K : List Int} (ha : mayR o a = true) (hb : mayR o b = true) (hIa : InP a) (hIb : InP b) (hka : ∀ y ∈ a, y.1 ∈ K) (hkb : ∀ y ∈ b, y.1 ∈ K) : OkL o K [setL o p want a b] := by
  refine OkL.one ?_ (setL_in hIa hIb) ?_
  · unfold setL
    rw [ha, hb]
    cases may p
    · exact mayR_nil (mayR_o ha)
    · exact someL_may ha hb hIa hIb
  · unfold setL
    rw [ha, hb]
    cases may p
    · intro y hy; cases hy
    · intro y hy
      rcases someL_keys ha hb hIa hIb y hy with ⟨z, hz, e⟩ | ⟨z, hz, e⟩
      · rw [← e]; exact hka z hz
      · rw [← e]; exact hkb z hz
theorem srtP_ok {o p : Int} {l : List Pr} (ho : isO o = true) (hI : InP l) : mayR o (srtP o p l) = true ∧ InP (srtP o p l) ∧ (∀ y ∈ srtP o p l, y.1 ∈ l.map (·.1)) ∧ (srtP o p l).length ≤ l.length := by
  unfold srtP
  rw [ho]
  cases hp : may p
  · exact ⟨mayR_nil ho, (by intro x hx; cases hx), (by intro y hy; cases hy), Nat.zero_le _⟩
  · obtain ⟨h1, h2, h3⟩ := sortL_may ho hp hI
    refine ⟨h1, h2, fun y hy => ?_, h3⟩
    obtain ⟨z, hz, e⟩ := sortL_keys ho hp hI y hy
    rw [← e]; exact List.mem_map_of_mem hz
def newK (x : POp) : List Int := x.key :: (x.pairs.map (·.1) ++ x.keys)
theorem act_ok {o : Int} {K : List Int} {L : Rows} {x : POp} {a c : List Pr} (ho : isO o = true) (h : OkL o K L) (hx : InO x) (ha : mayR o a = true) (hIa : InP a) (hka : ∀ y ∈ a, y.1 ∈ K) (hc : mayR o c = true) (hIc : InP c) (hkc : ∀ y ∈ c, y.1 ∈ K) :
    OkL o (newK x ++ K) (actP o L x a c).2 := by
  have mono : ∀ k ∈ K, k ∈ newK x ++ K := fun k hk => List.mem_append_right _ hk
  have same : OkL o (newK x ++ K) L := h.mono mono
  have ka : ∀ y ∈ a, y.1 ∈ newK x ++ K := fun y hy => mono _ (hka y hy)
  have kc : ∀ y ∈ c, y.1 ∈ newK x ++ K := fun y hy => mono _ (hkc y hy)
  have one : ∀ r l, mayR o l = true → InP l → (∀ y ∈ l, y.1 ∈ newK x ++ K) → OkL o (newK x ++ K) (madeP r L [l]).2 := fun r l h1 h2 h3 => h.app mono (.one h1 h2 h3)
  have st : ∀ p want b, mayR o b = true → InP b → (∀ y ∈ b, y.1 ∈ newK x ++ K) → OkL o (newK x ++ K) (countP L (setL o p want a b)).2 := fun p want b h1 h2 h3 => h.app mono (setL_ok ha h1 hIa h2 ka h3)
  have sub : ∀ r l, l.Sublist a → OkL o (newK x ++ K) (madeP r L [l]).2 := fun r l hs => one r l (sub_row ha hs) (sub_in hIa hs) fun y hy => ka y (hs.subset hy)
  have nilr : ∀ r, OkL o (newK x ++ K) (madeP r L [[]]).2 := fun r => one r [] (mayR_nil ho) (by intro x hx; cases hx) (by intro y hy; cases hy)
  unfold actP
  split
  · -- insert
    cases hp : may x.pol
    · have : putR o x.pol a (x.key, x.val) = [] := by unfold putR; rw [hp, Bool.and_false]; rfl
      rw [this]; exact nilr _
    · refine one _ _ (put_may ha hp hIa hx.key) (put_in ha hp hIa ⟨hx.key, hx.val⟩) fun y hy => ?_
      rcases put_mem ha hp y hy with e | hy
      · rw [e]; exact List.mem_append_left _ (by simp [newK])
      · exact ka y hy
  · refine one _ _ (drop_may ha) (drop_in ha hIa) fun y hy => ka y ?_
    rw [drop_filter ha] at hy
    exact (List.mem_filter.1 hy).1
  · exact same
  · exact same
  · exact same
  · exact same
  · exact same
  · obtain ⟨h1, h2, h3, _⟩ := srtP_ok (p := x.pol) ho hx.pairs
    exact one _ _ h1 h2 fun y hy => List.mem_append_left _ (by have := h3 y hy; simp only [newK, List.mem_cons, List.mem_append]; exact .inr (.inl this))
  · exact st _ _ c hc hIc kc
  · exact st _ _ c hc hIc kc
  · exact st _ _ c hc hIc kc
  · exact st _ _ c hc hIc kc
  · unfold keepP countP
    cases predMay x.pk x.pa x.pb
    · exact nilr _
    · exact sub _ _ (List.filter_sublist)
  · obtain ⟨h1, h2, h3, _⟩ := srtP_ok (p := x.pol) ho hx.pairs
    exact st _ _ _ h1 h2 fun y hy => List.mem_append_left _ (by have := h3 y hy; simp only [newK, List.mem_cons, List.mem_append]; exact .inr (.inl this))
  · have hI : InP (x.keys.map fun k => (k, 0)) := fun y hy => by
      obtain ⟨k, hk, rfl⟩ := List.mem_map.1 hy
      exact ⟨hx.keys k hk, by unfold In; omega⟩
    obtain ⟨h1, h2, h3, _⟩ := srtP_ok (p := 1) ho hI
    refine st _ _ _ h1 h2 fun y hy => List.mem_append_left _ ?_
    have := h3 y hy
    simp only [List.map_map, List.mem_map, Function.comp] at this
    obtain ⟨k, hk, e⟩ := this
    simp only [newK, List.mem_cons, List.mem_append]
    exact .inr (.inr (e ▸ hk))
  · exact same
  · exact same
  · exact st _ _ [] (mayR_nil ho) (by intro x hx; cases hx) (by intro y hy; cases hy)
  · exact same
  · exact same
  · exact same
  · refine h.app mono ?_
    have g1 : OkL o (newK x ++ K) [cutA o a x.key] := by
      unfold cutA; rw [ha]
      exact .one (sub_row ha (List.take_sublist _ _)) (sub_in hIa (List.take_sublist _ _)) fun y hy => ka y ((List.take_sublist _ _).subset hy)
    have g2 : OkL o (newK x ++ K) [cutB o a x.key] := by
      unfold cutB; rw [ha]
      exact .one (sub_row ha (List.drop_sublist _ _)) (sub_in hIa (List.drop_sublist _ _)) fun y hy => ka y ((List.drop_sublist _ _).subset hy)
    exact g1.app (fun _ h => h) g2
theorem do_ok {o : Int} {K : List Int} {L : Rows} {x : POp} (ho : isO o = true) (h : OkL o K L) (hx : InO x) : OkL o (newK x ++ K) (doP o L x).2 := by
  unfold doP
  split
  · have ha := h.at' ho x.a
    have hb := h.at' ho x.b
    exact act_ok ho h hx ha.1 ha.2.1 ha.2.2 hb.1 hb.2.1 hb.2.2
  · exact h.mono fun k hk => List.mem_append_right _ hk
theorem act_new (o : Int) (L : Rows) (x : POp) (a c : List Pr) : ∃ ls, (actP o L x a c).2 = L ++ ls ∧ (actP o L x a c).1.new = (List.range ls.length).map fun i => ((L.length + i : Nat) : Int) := by
  have m : ∀ r ls, ∃ ls', (madeP r L ls).2 = L ++ ls' ∧ (madeP r L ls).1.new = (List.range ls'.length).map fun i => ((L.length + i : Nat) : Int) := fun r ls => ⟨ls, rfl, rfl⟩
  have f : ∀ (r : Rep), r.new = [] → ∃ ls', L = L ++ ls' ∧ r.new = (List.range ls'.length).map fun i => ((L.length + i : Nat) : Int) := fun r hr => ⟨[], by simp, by rw [hr]; rfl⟩
  have g : ∀ (y : Pr) is, (foundP y is).new = [] := fun y is => by unfold foundP; split <;> rfl
  unfold actP
  split <;> first
    | exact m _ _
    | exact f _ (g _ _)
    | exact f _ rfl
theorem do_new (o : Int) (L : Rows) (x : POp) : ∃ ls, (doP o L x).2 = L ++ ls ∧ (doP o L x).1.new = (List.range ls.length).map fun i => ((L.length + i : Nat) : Int) := by
  unfold doP
  split
  · exact act_new o L x _ _
  · exact ⟨[], by simp, rfl⟩
theorem act_err (o : Int) (L : Rows) (x : POp) (a c : List Pr) : (actP o L x a c).1.err = 0 := by
  have g : ∀ (y : Pr) is, (foundP y is).err = 0 := fun y is => by unfold foundP; split <;> rfl
  unfold actP
  split <;> first
    | rfl
    | exact g _ _
theorem do_err {o : Int} {L : Rows} {x : POp} (h : (doP o L x).1.err ≠ 0) : (doP o L x).1 = { Rep.zero with err := wrongP o L x } ∧ (doP o L x).2 = L := by
  unfold doP at h ⊢
  split
  · rename_i h0
    rw [if_pos h0] at h
    exact absurd (act_err o L x _ _) h
  · exact ⟨rfl, rfl⟩
end Go.Proofs.YtmdboekndjlmgaaGreat

namespace Go.Proofs.YtmdboekndjlmgaaGreat
open Go Go.Sh Go.RowKit

theorem c_stakes {k a c : Int} {f : Bool} {x : Pr} {w : World} {R : EW} (ha : In a) (hc : In c) (hx : In x.1) (h : ∀ w', Ext w w' → R (.returned (.bool (predMay k a c && (takesK k a c x != f)))) w') :
    Calls Tryz.prog 169 #[.agg #[.int .u8 k, .int .i64 a, .int .i64 c, .bool f], agP x] w R := by
  refine sh169_ok _ _ _ _ _ _ ?_
  unfold sh169
  refine ⟨⟨?_⟩⟩
  have e1 := ext_alloc w (.cells #[.int .u8 k, .int .i64 a, .int .i64 c, .bool f] 27)
  have hb1 := blk_alloc w #[.int .u8 k, .int .i64 a, .int .i64 c, .bool f] 27
  generalize w.alloc (.cells #[.int .u8 k, .int .i64 a, .int .i64 c, .bool f] 27) = w1 at *
  generalize w.heap.size = b1 at hb1 ⊢
  have e2 := ext_alloc w1 (.cells #[.int .i64 x.1, .int .i64 x.2] 63)
  have hb2 := blk_alloc w1 #[.int .i64 x.1, .int .i64 x.2] 63
  generalize w1.alloc (.cells #[.int .i64 x.1, .int .i64 x.2] 63) = w2 at *
  generalize w1.heap.size = b2 at hb2 ⊢
  intro K13
  refine ⟨?_⟩
  have E3 := (e1.trans e2).trans (ext_drew w2)
  have h1 := (hb1.ext e2).ext (ext_drew w2)
  have h2 := hb2.ext (ext_drew w2)
  generalize w2.drew = w3 at *
  refine ⟨fun w' => Ext w3 w', ext_refl _, _, fun w' e => (h1.ext e).cell (i := 0) rfl rfl, _, fun w' e => (h1.ext e).cell (i := 1) rfl rfl, _, fun w' e => (h1.ext e).cell (i := 2) rfl rfl, _, fun w' e => (h1.ext e).cell (i := 3) rfl rfl, ?_⟩
  refine do_call Tryz.call119 (c_smay ha hc fun w4 e4 => retS_ret ⟨_, rfl, e4, ?_⟩)
  cases hp : predMay k a c
  · refine ifB_f rfl ?_
    have := h w4 (E3.trans e4)
    rw [hp] at this; exact this
  · refine ifB_t rfl ⟨_, fun w' e => (h1.ext e).cell (i := 0) rfl rfl, _, fun w' e => (h1.ext e).cell (i := 1) rfl rfl, _, fun w' e => (h1.ext e).cell (i := 2) rfl rfl, _, fun w' e => (h2.ext e).cell (i := 0) rfl rfl, _, fun w' e => (h2.ext e).cell (i := 1) rfl rfl, _, fun w' e => (h1.ext e).cell (i := 3) rfl rfl, ?_⟩
    refine do_call Tryz.call159 (c_skinds fun b m t w5 e5 hm hbf => retS_ret ⟨_, rfl, e4.trans e5, ?_⟩)
    obtain ⟨i, ff, g, gc, hf, _, h3⟩ := find_sift (b := b) (predMay_kind hp).1
    refine do_lk1_hit Tryz.underlying178 Tryz.underlying5 hm (by rfl) hf (.inl ⟨_, _, _, _, _, _, rfl, e4.trans e5, ?_⟩)
    refine h3 a c x ha hc hx hp w5 t _ hbf fun w6 e6 => retS_ret ⟨_, rfl, (e4.trans e5).trans e6, ?_⟩
    have := h w6 (((E3.trans e4).trans e5).trans e6)
    rw [hp, Bool.true_and] at this
    have hne : (!(takesK k a c x == f)) = (takesK k a c x != f) := rfl
    show R (.returned (.bool (!(takesK k a c x == f)))) w6
    rw [hne]; exact this
def outP (k a b : Int) (f : Bool) (l : List Pr) : List Pr := l.filter fun x => !(takesK k a b x != f)
theorem c_skeep {k a c : Int} {f : Bool} {l : List Pr} {q : OA} {n c' : Nat} {w : World} {R : EW} (ha : In a) (hc : In c) (hl : Cs w q (prs l)) (hn : l.length = n) (hm : n ≤ 1000000) (hI : InP l)
    (h : ∀ p n' c' w', OwnP w' w.heap.size p n' c' (keepP k a c f l) → Ext w w' → R (.returned (.tuple #[.slice p n' c', .int .i64 (cond (predMay k a c) 0 2)])) w') :
    Calls Tryz.prog 111 #[.agg #[.int .u8 k, .int .i64 a, .int .i64 c, .bool f], .slice q n c'] w R := by
  refine sh111_ok _ _ _ _ _ _ _ ?_
  unfold sh111
  refine ⟨?_⟩
  have e1 := ext_alloc w (.cells #[.int .u8 k, .int .i64 a, .int .i64 c, .bool f] 27)
  have hb1 := blk_alloc w #[.int .u8 k, .int .i64 a, .int .i64 c, .bool f] 27
  generalize w.alloc (.cells #[.int .u8 k, .int .i64 a, .int .i64 c, .bool f] 27) = w1 at *
  refine ⟨_, hb1.cell (i := 0) rfl rfl, _, hb1.cell (i := 1) rfl rfl, _, hb1.cell (i := 2) rfl rfl, _, hb1.cell (i := 3) rfl rfl, do_call Tryz.call151 (sh151_ok _ _ _ _ _ _ _ ?_)⟩
  clear hb1
  unfold sh151
  refine ⟨?_⟩
  have e2 := ext_alloc w1 (.cells #[.int .u8 k, .int .i64 a, .int .i64 c, .bool f] 27)
  have hb2 := blk_alloc w1 #[.int .u8 k, .int .i64 a, .int .i64 c, .bool f] 27
  have hlt2 := hb2.lt
  generalize w1.alloc (.cells #[.int .u8 k, .int .i64 a, .int .i64 c, .bool f] 27) = w2 at *
  generalize hbb : w1.heap.size = b2 at *
  refine ⟨_, hb2.cell (i := 0) rfl rfl, _, hb2.cell (i := 1) rfl rfl, _, hb2.cell (i := 2) rfl rfl, _, hb2.cell (i := 3) rfl rfl, do_call Tryz.call119 (c_smay ha hc fun w3 e3 => retS_ret ⟨_, rfl, ?_⟩)⟩
  have E3 := (e1.trans e2).trans e3
  cases hp : predMay k a c
  · refine ifB_t rfl (retS_ret ⟨_, _, _, _, _, _, _, rfl, ?_⟩)
    have := h none 0 0 w3 (by unfold keepP; rw [hp]; exact ownP_nil _ _) E3
    rw [hp] at this; exact this
  refine ifB_f rfl ?_
  have hb3 := hb2.ext e3
  have s1 := e1.size
  have hl3 := hl.ext E3
  refine ⟨fun vs w' => ∃ (j n1 c1 n2 c2 : Nat) (p1 p2 : OA), vs = [.slice p1 n1 c1, .slice p2 n2 c2, .int .i64 (j : Nat)] ∧ j ≤ n ∧ Ext w3 w' ∧ Two w' w3.heap.size p1 n1 c1 ((l.take j).filter fun x => takesK k a c x != f) p2 n2 c2 (outP k a c f (l.take j)),
    fun vs _ => match vs with | [_, _, .int _ i] => n - i.toNat | _ => 0, ⟨0, 0, 0, 0, 0, none, none, rfl, by omega, ext_refl _, ?_⟩, ?_⟩
  · rw [List.take_zero]
    exact ⟨ownP_nil _ _, ownP_nil _ _, .inl rfl⟩
  rintro _ _ _ _ _ _ _ _ w4 ⟨j, n1, c1, n2, c2, p1, p2, hvs, hj, e4, hT⟩
  simp only [List.cons.injEq, Value.int.injEq, Value.slice.injEq, true_and, and_true] at hvs
  obtain ⟨⟨rfl, rfl, rfl⟩, ⟨rfl, rfl, rfl⟩, rfl⟩ := hvs
  refine ifB_intro (fun z => ?_) fun z => ?_
  · have z : j < n := by have := of_decide_eq_true z; omega
    intro K35
    have hjl : j < l.length := by omega
    have hnext : IntKind.wrap .i64 ((j : Int) + 1) = ((j + 1 : Nat) : Int) := wrap_succ (n := n) (by omega) (by omega)
    have hl1 := ownP_len hT.1
    have hl2 := ownP_len hT.2.1
    have k1 : ((l.take j).filter fun x => takesK k a c x != f).length ≤ j := Nat.le_trans (List.length_filter_le _ _) (by rw [List.length_take]; omega)
    have k2 : (outP k a c f (l.take j)).length ≤ j := Nat.le_trans (List.length_filter_le _ _) (by rw [List.length_take]; omega)
    have t1 : ∀ P : Pr → Bool, (l.take (j + 1)).filter P = (l.take j).filter P ++ (if P l[j] then [l[j]] else []) := fun P => by
      rw [← List.take_append_getElem hjl, List.filter_append]
      congr 1
      simp only [List.filter_cons, List.filter_nil]
    refine ix_pr (hl3.ext e4) hn rfl z fun ad r1 r2 _ => ⟨_, r1, _, r2, ⟨?_⟩⟩
    have e5 := ext_alloc w4 (.cells #[.int .i64 0, .int .i64 0] 63)
    refine do_st (blk_alloc w4 _ _) (i := 0) rfl (by simp) fun w5 h5 g5 => do_st h5 (i := 1) rfl (by simp) fun w6 h6 g6 => ?_
    have e6 : Ext w4 w6 := (e5.st g5 (Nat.le_refl _)).st g6 (Nat.le_refl _)
    have h6 : Blk w6 w4.heap.size #[.int .i64 l[j].1, .int .i64 l[j].2] 63 := h6
    have hb6 := (hb3.ext e4).ext e6
    refine ⟨_, hb6.cell (i := 0) rfl rfl, _, hb6.cell (i := 1) rfl rfl, _, hb6.cell (i := 2) rfl rfl, _, hb6.cell (i := 3) rfl rfl, _, h6.cell (i := 0) rfl rfl, _, h6.cell (i := 1) rfl rfl, ?_⟩
    refine do_call Tryz.call169 (c_stakes (x := l[j]) ha hc (hI _ (List.getElem_mem hjl)).1 fun w7 e7 => retS_ret ⟨_, rfl, ?_⟩)
    rw [hp, Bool.true_and]
    have h7 := h6.ext e7
    have hT7 := (hT.ext e6).ext e7
    have E7 := (e4.trans e6).trans e7
    have done : ∀ (p3 : OA) (n3 c3 : Nat) (p4 : OA) (n4 c4 : Nat) (w8 : World), Ext w3 w8 → Two w8 w3.heap.size p3 n3 c3 ((l.take (j + 1)).filter fun x => takesK k a c x != f) p4 n4 c4 (outP k a c f (l.take (j + 1))) → K35 p3 n3 c3 p4 n4 c4 w8 := by
      intro p3 n3 c3 p4 n4 c4 w8 e8 h8
      refine ⟨⟨j + 1, n3, c3, n4, c4, p3, p4, by rw [hnext], by omega, e8, h8⟩, ?_⟩
      rw [hnext]
      show n - ((j + 1 : Nat) : Int).toNat < n - (j : Int).toNat
      omega
    unfold outP at *
    have ho : ∀ x : Pr, (!(takesK k a c x != f)) = !(takesK k a c x != f) := fun _ => rfl
    cases ht : (takesK k a c l[j] != f)
    · refine ifB_f rfl ⟨_, h7.cell (i := 0) rfl rfl, _, h7.cell (i := 1) rfl rfl, ?_⟩
      refine do_app1 hT7.2.1 (by omega) E7.size ?_
      intro q2 c2' w8 h8 hx g8 hor
      refine ⟨_, _, _, rfl, done _ _ _ _ _ _ _ (hx w3 E7 (Nat.le_refl _)) ?_⟩
      rw [t1, t1, ht, if_neg (by simp), List.append_nil, if_pos (by simp)]
      exact (hT7.swap.grow h8 g8 hor).swap
    · refine ifB_t rfl ⟨_, h7.cell (i := 0) rfl rfl, _, h7.cell (i := 1) rfl rfl, ?_⟩
      refine do_app1 hT7.1 (by omega) E7.size ?_
      intro q2 c2' w8 h8 hx g8 hor
      refine ⟨_, _, _, rfl, done _ _ _ _ _ _ _ (hx w3 E7 (Nat.le_refl _)) ?_⟩
      rw [t1, t1, ht, if_pos rfl, if_neg (by simp), List.append_nil]
      exact hT7.grow h8 g8 hor
  · have z : j = n := by have := of_decide_eq_false z; omega
    rw [List.take_of_length_le (by omega)] at hT
    refine retS_ret ⟨_, _, _, _, _, _, _, rfl, ?_⟩
    have := h _ _ _ w4 (by unfold keepP; rw [hp]; exact row_mono hT.1 E3.size) (E3.trans e4)
    rw [hp] at this; exact this
end Go.Proofs.YtmdboekndjlmgaaGreat

