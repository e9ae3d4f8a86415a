/-
  What is done with canonical trees, in plain: they stay canonical.
-/
/-
  Printed by a program (gen.py): what the functions of the program do, as formulas; each with the proof that its call is what the formula says.
-/
/-
  CanonOne: the walk.
-/
/-
  Arguments opened to cells: slices of structs. No claim of its own.
-/
/-
  The arguments of the statements, opened.
-/
import Derived.Test.YtlddfgfmkapoiaaGreatZ24
import Derived.Test.YtlddfgfmkapoiaaGreatZ02
import Derived.Test.YtlddfgfmkapoiaaGreatProg
import Derived.Test.YtlddfgfmkapoiaaGreatZ04
import Derived.Test.YtlddfgfmkapoiaaGreatZ03
import Derived.Deep.Slices
import Derived.Deep.Fields
import Derived.ChangeSame
import Derived.Lib.SmallJoins
import Derived.Test.YtlddfgfmkapoiaaGreatZ13
import Derived.SizedLaws

namespace Go.Proofs.YtlddfgfmkapoiaaGreat
open Go Go.Sh Go.RowKit

/-- a canonical tree, whose values are such that may be -/
structure Cq (o : Int) (t : Tr) : Prop where
  can : Can o t
  vi : ∀ x ∈ itsC 4 t, In x.2.1
theorem Cq.ki {o : Int} {t : Tr} (h : Cq o t) : InI (itsC 4 t) := (inK_its (c := 4)).1 h.can.u.k
theorem Cq.inP {o : Int} {t : Tr} (h : Cq o t) : InP t.pairs := fun x hx => by
  rw [prs_itsC (c := 4)] at hx
  obtain ⟨y, hy, rfl⟩ := List.mem_map.1 hx
  exact ⟨h.ki y hy, h.vi y hy⟩
theorem Cq.asc {o : Int} {t : Tr} (h : Cq o t) : (t.pairs.map (·.1)).Pairwise (ltO o) := by rw [pairs_its (c := 4)]; exact h.can.u.asc
theorem map4 (l : List It) : l.map (itC 4) = l := by
  have : l.map (itC 4) = l.map id := List.map_congr_left fun x _ => by unfold itC; rw [if_pos rfl]; rfl
  rw [this, List.map_id]
theorem cq_of {o : Int} {t : Tr} (h : Can o t) (hI : InP t.pairs) : Cq o t := ⟨h, fun x hx => (hI (x.1, x.2.1) (by rw [prs_itsC (c := 4)]; exact List.mem_map.2 ⟨x, hx, rfl⟩)).2⟩
/-- the items of a tree are canonical ones -/
structure Ci (o : Int) (l : List It) : Prop where
  asc : asc o l
  k : InI l
  v : ∀ x ∈ l, In x.2.1
  m : ∀ x ∈ l, x.2.2 = mixK x.1
theorem Cq.ci {o : Int} {t : Tr} (h : Cq o t) : Ci o (itsC 4 t) := ⟨h.can.u.asc, h.ki, h.vi, h.can.mx⟩
theorem cq_mk {o : Int} {t : Tr} (ok : OkM 4 t) (h : Ci o (itsC 4 t)) : Cq o t := ⟨⟨⟨ok, h.asc, (inK_its (c := 4)).2 h.k⟩, h.m⟩, h.v⟩
theorem Ci.filter {o : Int} {l : List It} (h : Ci o l) (p : It → Bool) : Ci o (l.filter p) := ⟨asc_filter h.asc, fun x hx => h.k x (List.mem_filter.1 hx).1, fun x hx => h.v x (List.mem_filter.1 hx).1, fun x hx => h.m x (List.mem_filter.1 hx).1⟩
theorem ci_ins {o p : Int} {l : List It} {z : It} (hl : Ci o l) (hz : In z.1 ∧ In z.2.1 ∧ z.2.2 = mixK z.1) : Ci o (insL o p l z) := by
  have e : insL o p l z = foldI o p l [z] := rfl
  refine ⟨by rw [e]; exact asc_foldI hl.asc, fun y hy => ?_, fun y hy => ?_, fun y hy => ?_⟩
  · rcases mem_insL hy with h | rfl | ⟨u, hu, rfl⟩
    · exact hl.k y h
    · exact hz.1
    · exact hl.k u hu
  · rcases mem_insL hy with h | rfl | ⟨u, hu, rfl⟩
    · exact hl.v y h
    · exact hz.2.1
    · exact comb_in (hl.v u hu) hz.2.1
  · rcases mem_insL hy with h | rfl | ⟨u, hu, rfl⟩
    · exact hl.m y h
    · exact hz.2.2
    · exact hl.m u hu
theorem ci_fold {o p : Int} : ∀ {b l : List It}, Ci o l → Ci o b → Ci o (foldI o p l b)
  | [], l, hl, _ => hl
  | z :: b, l, hl, hb => by
    rw [foldI_cons]
    exact ci_fold (ci_ins hl ⟨hb.k z (by simp), hb.v z (by simp), hb.m z (by simp)⟩) ⟨(List.pairwise_cons.1 hb.asc).2, fun x hx => hb.k x (by simp [hx]), fun x hx => hb.v x (by simp [hx]), fun x hx => hb.m x (by simp [hx])⟩
theorem Cq.prs_ext {o : Int} {t t' : Tr} (h : Cq o t) (h' : Cq o t') (hm : ∀ x, x ∈ itsC 4 t ↔ x ∈ itsC 4 t') : t = t' := by
  refine can_eq h.can h'.can (pw_ext h.asc h'.asc fun x => ?_)
  rw [prs_itsC (c := 4) t, prs_itsC (c := 4) t', List.mem_map, List.mem_map]
  constructor
  · rintro ⟨y, hy, e⟩; exact ⟨y, (hm y).1 hy, e⟩
  · rintro ⟨y, hy, e⟩; exact ⟨y, (hm y).2 hy, e⟩
/-! ### what is made of them -/
theorem split_item {o k : Int} {t : Tr} (hu : OkU 4 o t) : itO (splitC 4 o k t).2.1 = lastE o k (itsC 4 t) ∧ (splitC 4 o k t).2.1.isSome = anyE o k (itsC 4 t) := by
  have S := splitC_ok (key := k) hu.ok.1 hu.asc
  unfold lastE anyE
  rw [← S.eq]
  cases (splitC 4 o k t).2.1 <;> exact ⟨rfl, rfl⟩
theorem cq_insert {o p : Int} {t : Tr} {x : It} (h : Cq o t) (hz : In x.1 ∧ In x.2.1 ∧ x.2.2 = mixK x.1) : Cq o (editC 4 o x.1 (insI p x (itO (splitC 4 o x.1 t).2.1) (splitC 4 o x.1 t).2.1.isSome) t) ∧ itsC 4 (editC 4 o x.1 (insI p x (itO (splitC 4 o x.1 t).2.1) (splitC 4 o x.1 t).2.1.isSome) t) = insL o p (itsC 4 t) x := by
  obtain ⟨e1, e2⟩ := split_item (k := x.1) h.can.u
  have E := editC_ok (key := x.1) (y := insI p x (itO (splitC 4 o x.1 t).2.1) (splitC 4 o x.1 t).2.1.isSome) h.can.u.ok.1 h.can.u.asc
  rw [map4] at E
  have e : editL o x.1 (insI p x (itO (splitC 4 o x.1 t).2.1) (splitC 4 o x.1 t).2.1.isSome) (itsC 4 t) = insL o p (itsC 4 t) x := by rw [e1, e2]; rfl
  rw [e] at E
  exact ⟨cq_mk E.1 (by rw [E.2]; exact ci_ins h.ci hz), E.2⟩
theorem cq_delete {o k : Int} {t : Tr} {y : It} (h : Cq o t) : Cq o (editC 4 o k (y, false) t) ∧ itsC 4 (editC 4 o k (y, false) t) = (itsC 4 t).filter (fun x => decide (cmpI o x.1 k < 0)) ++ (itsC 4 t).filter (fun x => decide (0 < cmpI o x.1 k)) := by
  have E := editC_ok (key := k) (y := (y, false)) h.can.u.ok.1 h.can.u.asc
  rw [map4] at E
  have e : editL o k (y, false) (itsC 4 t) = (itsC 4 t).filter (fun x => decide (cmpI o x.1 k < 0)) ++ (itsC 4 t).filter (fun x => decide (0 < cmpI o x.1 k)) := by
    show ltF o k (itsC 4 t) ++ [] ++ gtF o k (itsC 4 t) = _
    rw [List.append_nil]; rfl
  rw [e] at E
  have C := h.ci
  refine ⟨cq_mk E.1 ?_, E.2⟩
  rw [E.2]
  have c1 := C.filter fun x => decide (cmpI o x.1 k < 0)
  have c2 := C.filter fun x => decide (0 < cmpI o x.1 k)
  refine ⟨?_, fun x hx => (List.mem_append.1 hx).elim (c1.k x) (c2.k x), fun x hx => (List.mem_append.1 hx).elim (c1.v x) (c2.v x), fun x hx => (List.mem_append.1 hx).elim (c1.m x) (c2.m x)⟩
  unfold Go.Proofs.YtlddfgfmkapoiaaGreat.asc
  rw [List.map_append]
  refine List.pairwise_append.2 ⟨c1.asc, c2.asc, fun a ha b hb => ?_⟩
  obtain ⟨x, hx, rfl⟩ := List.mem_map.1 ha
  obtain ⟨z, hz, rfl⟩ := List.mem_map.1 hb
  exact cmpI_trans (of_decide_eq_true (List.mem_filter.1 hx).2 : cmpI o x.1 k < 0) (cmpI_pos (of_decide_eq_true (List.mem_filter.1 hz).2 : 0 < cmpI o z.1 k))
theorem cq_union {o p : Int} {t u : Tr} (h : Cq o t) (g : Cq o u) : Cq o (unionC 4 o p t u) ∧ itsC 4 (unionC 4 o p t u) = foldI o p (itsC 4 t) (itsC 4 u) := by
  have V := unionC_ok (p := p) h.can.u.ok.1 g.can.u.ok h.can.u.asc g.can.u.asc
  have P := h.can.u.union (p := p) g.can.u
  exact ⟨cq_mk P.1.ok (by rw [V]; exact ci_fold h.ci g.ci), V⟩
theorem ci_meet {o p : Int} {l b : List It} (h : Ci o l) (g : Ci o b) : Ci o (meetL p l b) := by
  have e : (meetL p l b).map (·.1) = (l.filter fun x => (findK b x.1).isSome).map (·.1) := by
    unfold meetL
    generalize l = A
    induction A with
    | nil => rfl
    | cons x A ih =>
      rw [List.filterMap_cons, List.filter_cons]
      unfold meetG at ih ⊢
      cases findK b x.1 with
      | none => simpa using ih
      | some y => simpa using ih
  have hm : ∀ x ∈ meetL p l b, ∃ y ∈ l, ∃ z ∈ b, x = (y.1, comb p y.2.1 z.2.1, y.2.2) := fun x hx => by
    obtain ⟨y, hy, q⟩ := List.mem_filterMap.1 hx
    unfold meetG at q
    cases hf : findK b y.1 with
    | none => rw [hf] at q; cases q
    | some u =>
      rw [hf] at q
      simp only [Option.map_some, Option.some.injEq] at q
      exact ⟨y, hy, u, List.mem_of_find?_eq_some hf, q.symm⟩
  refine ⟨?_, fun x hx => ?_, fun x hx => ?_, fun x hx => ?_⟩
  · unfold Go.Proofs.YtlddfgfmkapoiaaGreat.asc; rw [e]; exact (h.filter _).asc
  · obtain ⟨y, hy, z, hz, rfl⟩ := hm x hx; exact h.k y hy
  · obtain ⟨y, hy, z, hz, rfl⟩ := hm x hx; exact comb_in (h.v y hy) (g.v z hz)
  · obtain ⟨y, hy, z, hz, rfl⟩ := hm x hx; exact h.m y hy
theorem cq_meet {o p : Int} {t u : Tr} (ho : isO o = true) (h : Cq o t) (g : Cq o u) : Cq o (meetC 4 o p t u) ∧ itsC 4 (meetC 4 o p t u) = meetL p (itsC 4 t) (itsC 4 u) := by
  have V := meetC_ok (p := p) ho h.can.u g.can.u
  exact ⟨cq_mk V.1 (by rw [V.2.1]; exact ci_meet h.ci g.ci), V.2.1⟩
theorem cq_less {o : Int} {t u : Tr} (ho : isO o = true) (h : Cq o t) (g : Cq o u) : Cq o (lessC 4 o t u) ∧ itsC 4 (lessC 4 o t u) = lessL (itsC 4 t) (itsC 4 u) := by
  have V := lessC_ok ho h.can.u g.can.u
  exact ⟨cq_mk V.1 (by rw [V.2.1]; exact h.ci.filter _), V.2.1⟩
theorem cq_split {o k : Int} {t : Tr} (h : Cq o t) : Cq o (splitC 4 o k t).1 ∧ Cq o (splitC 4 o k t).2.2 := by
  have S := splitC_ok (key := k) h.can.u.ok.1 h.can.u.asc
  exact ⟨cq_mk S.okl (by rw [S.lt]; exact h.ci.filter _), cq_mk S.okr (by rw [S.gt]; exact h.ci.filter _)⟩
/-! ### the laws -/
theorem mem_insL_new {o p : Int} {l : List It} {z y : It} (ho : isO o = true) (hk : InI l) (hz : In z.1) (hn : ∀ x ∈ l, x.1 ≠ z.1) : y ∈ insL o p l z ↔ y ∈ l ∨ y = z := by
  have ha : anyE o z.1 l = false := by
    unfold anyE
    have : eqF o z.1 l = [] := List.filter_eq_nil_iff.2 fun x hx => by
      simp only [decide_eq_true_eq]
      exact fun q => hn x hx (cmpI_eq ho (hk x hx) hz q)
    rw [this]; rfl
  have e : insL o p l z = ltF o z.1 l ++ [z] ++ gtF o z.1 l := by
    unfold insL editL insI
    rw [ha]; rfl
  rw [e, List.mem_append, List.mem_append, List.mem_singleton]
  constructor
  · rintro ((h | h) | h)
    · exact .inl (List.mem_filter.1 h).1
    · exact .inr h
    · exact .inl (List.mem_filter.1 h).1
  · rintro (h | h)
    · rcases Int.lt_trichotomy (cmpI o y.1 z.1) 0 with c | c | c
      · exact .inl (.inl (List.mem_filter.2 ⟨h, decide_eq_true c⟩))
      · exact absurd (cmpI_eq ho (hk y h) hz c) (hn y h)
      · exact .inr (List.mem_filter.2 ⟨h, decide_eq_true c⟩)
    · exact .inl (.inr h)
theorem mem_fold_new {o p : Int} (ho : isO o = true) : ∀ {b l : List It} {y : It}, Ci o l → Ci o b → (∀ x ∈ l, ∀ z ∈ b, x.1 ≠ z.1) → (y ∈ foldI o p l b ↔ y ∈ l ∨ y ∈ b)
  | [], l, y, _, _, _ => by simp [foldI_nil]
  | z :: b, l, y, hl, hb, hn => by
    have hz := hb.k z (by simp)
    have hi : ∀ y, y ∈ insL o p l z ↔ y ∈ l ∨ y = z := fun y => mem_insL_new ho hl.k hz fun x hx => hn x hx z (by simp)
    have hbt : Ci o b := ⟨(List.pairwise_cons.1 hb.asc).2, fun x hx => hb.k x (by simp [hx]), fun x hx => hb.v x (by simp [hx]), fun x hx => hb.m x (by simp [hx])⟩
    have hzb : ∀ x ∈ b, z.1 ≠ x.1 := fun x hx q => by
      have h3 : cmpI o z.1 x.1 < 0 := (List.pairwise_cons.1 hb.asc).1 x.1 (List.mem_map_of_mem (f := fun x : It => x.1) hx)
      rw [← q, cmpI_self] at h3
      omega
    rw [foldI_cons, mem_fold_new ho (ci_ins hl ⟨hz, hb.v z (by simp), hb.m z (by simp)⟩) hbt fun x hx w hw => by
      rcases (hi x).1 hx with q | rfl
      · exact hn x q w (by simp [hw])
      · exact hzb w hw]
    rw [hi, List.mem_cons, or_assoc]
theorem meet_less_apart {o p : Int} {l b : List It} : ∀ x ∈ meetL p l b, ∀ z ∈ lessL l b, x.1 ≠ z.1 := fun x hx z hz q => by
  have h1 := (meet_mem (p := p) (k := x.1)).1 ⟨x, hx, rfl⟩
  have h2 := (less_mem (k := x.1)).1 ⟨z, hz, q.symm⟩
  exact h2.2 h1.2
/-- who joins what both have, and what is left, has what there was -/
theorem meet_less_all {o : Int} {t u : Tr} (ho : isO o = true) (h : Cq o t) (g : Cq o u) : unionC 4 o 1 (meetC 4 o 1 t u) (lessC 4 o t u) = t := by
  have m := cq_meet (p := 1) ho h g
  have l := cq_less ho h g
  have U := cq_union (p := 1) m.1 l.1
  refine U.1.prs_ext h fun x => ?_
  rw [U.2, mem_fold_new ho m.1.ci l.1.ci (by rw [m.2, l.2]; exact meet_less_apart (o := o)), m.2, l.2]
  unfold meetL lessL
  rw [List.mem_filterMap, List.mem_filter]
  have eg : ∀ y, meetG 1 (itsC 4 u) y = (findK (itsC 4 u) y.1).map fun _ => y := fun y => by
    unfold meetG
    cases findK (itsC 4 u) y.1 <;> simp [comb]
  constructor
  · rintro (⟨y, hy, q⟩ | q)
    · rw [eg] at q
      cases hf : findK (itsC 4 u) y.1 with
      | none => rw [hf] at q; cases q
      | some z =>
        rw [hf] at q
        simp only [Option.map_some, Option.some.injEq] at q
        rw [← q]; exact hy
    · exact q.1
  · intro hx
    cases hf : findK (itsC 4 u) x.1 with
    | none => exact .inr ⟨hx, by simp [hf]⟩
    | some z => exact .inl ⟨x, hx, by rw [eg, hf]; rfl⟩
/-- it differs from what there was in no more keys than both have -/
theorem back_len {o p : Int} {t u : Tr} (ho : isO o = true) (h : Cq o t) (g : Cq o u) : (difT o t (unionC 4 o 1 (meetC 4 o p t u) (lessC 4 o t u)).pairs).length ≤ (meetC 4 o p t u).size := by
  have m := cq_meet (p := p) ho h g
  have l := cq_less ho h g
  have U := cq_union (p := 1) m.1 l.1
  have hmem : ∀ x, x ∈ itsC 4 (unionC 4 o 1 (meetC 4 o p t u) (lessC 4 o t u)) ↔ x ∈ itsC 4 (meetC 4 o p t u) ∨ x ∈ itsC 4 (lessC 4 o t u) := fun x => by
    rw [U.2, mem_fold_new ho m.1.ci l.1.ci (by rw [m.2, l.2]; exact meet_less_apart (o := o))]
  have SP := difT_spec ho h.asc U.1.asc (fun x hx => (h.inP x hx).1) fun x hx => (U.1.inP x hx).1
  generalize unionC 4 o 1 (meetC 4 o p t u) (lessC 4 o t u) = B at *
  have hsub : ∀ k ∈ difT o t B.pairs, k ∈ (meetC 4 o p t u).pairs.map (·.1) := fun k hk => by
    obtain ⟨hor, hno⟩ := (SP.2 k).1 hk
    by_cases hm : k ∈ (meetC 4 o p t u).pairs.map (·.1)
    · exact hm
    exfalso
    have hm' : ∀ x ∈ itsC 4 (meetC 4 o p t u), x.1 ≠ k := fun x hx q => hm (by rw [pairs_its (c := 4)]; exact List.mem_map.2 ⟨x, hx, q⟩)
    have hB : ∀ v, (k, v) ∈ B.pairs ↔ ∃ x ∈ itsC 4 (lessC 4 o t u), (x.1, x.2.1) = (k, v) := fun v => by
      rw [prs_itsC (c := 4), List.mem_map]
      constructor
      · rintro ⟨x, hx, e⟩
        rcases (hmem x).1 hx with q | q
        · exact absurd (Prod.mk.inj e).1 (hm' x q)
        · exact ⟨x, q, e⟩
      · rintro ⟨x, hx, e⟩; exact ⟨x, (hmem x).2 (.inr hx), e⟩
    rcases hor with ⟨v, hv⟩ | ⟨v, hv⟩
    · have hv' := hv
      rw [prs_itsC (c := 4), List.mem_map] at hv'
      obtain ⟨x, hx, e⟩ := hv'
      refine hno ⟨v, hv, (hB v).2 ⟨x, ?_, e⟩⟩
      rw [l.2]
      refine List.mem_filter.2 ⟨hx, ?_⟩
      cases hf : findK (itsC 4 u) x.1 with
      | none => rfl
      | some z =>
        exfalso
        have e1 : x.1 = k := (Prod.mk.inj e).1
        have : ∃ y ∈ meetL p (itsC 4 t) (itsC 4 u), y.1 = k := meet_mem.2 ⟨⟨x, hx, e1⟩, findK_isSome.1 (by rw [← e1, hf]; rfl)⟩
        obtain ⟨y, hy, ey⟩ := this
        exact hm' y (by rw [m.2]; exact hy) ey
    · obtain ⟨x, hx, e⟩ := (hB v).1 hv
      rw [l.2] at hx
      refine hno ⟨v, ?_, hv⟩
      rw [prs_itsC (c := 4), List.mem_map]
      exact ⟨x, (List.mem_filter.1 hx).1, e⟩
  have e := keys_filter (K := (meetC 4 o p t u).pairs.map (·.1)) m.1.asc SP.1 (fun k => decide (k ∈ difT o t B.pairs)) fun k => by
    rw [decide_eq_true_iff]
    exact ⟨fun q => ⟨hsub k q, q⟩, fun q => q.2⟩
  have hl : (difT o t B.pairs).length ≤ ((meetC 4 o p t u).pairs.map (·.1)).length := by
    rw [e]; exact List.length_filter_le ..
  rw [List.length_map, Tr.pairs_length] at hl
  exact hl
/-- what is put in, and taken out again, leaves no trace -/
theorem ins_del {o p : Int} {t : Tr} {x y : It} (ho : isO o = true) (h : Cq o t) (hz : In x.1 ∧ In x.2.1 ∧ x.2.2 = mixK x.1) (hn : (splitC 4 o x.1 t).2.1.isSome = false) :
    editC 4 o x.1 (y, false) (editC 4 o x.1 (insI p x (itO (splitC 4 o x.1 t).2.1) (splitC 4 o x.1 t).2.1.isSome) t) = t := by
  have I := cq_insert (p := p) h hz
  have D := cq_delete (k := x.1) (y := y) I.1
  have hno : ∀ z ∈ itsC 4 t, z.1 ≠ x.1 := fun z hz' q => by
    rw [(split_item (k := x.1) h.can.u).2] at hn
    unfold anyE at hn
    have he : eqF o x.1 (itsC 4 t) = [] := by simpa using hn
    have : z ∈ eqF o x.1 (itsC 4 t) := List.mem_filter.2 ⟨hz', by rw [q]; exact decide_eq_true (cmpI_self o x.1)⟩
    rw [he] at this; cases this
  refine D.1.prs_ext h fun z => ?_
  rw [D.2, I.2, List.mem_append, List.mem_filter, List.mem_filter, mem_insL_new ho h.ki hz.1 hno]
  have hs := cmpI_self o x.1
  constructor
  · rintro (⟨q | rfl, c⟩ | ⟨q | rfl, c⟩)
    · exact q
    · rw [hs] at c; simp at c
    · exact q
    · rw [hs] at c; simp at c
  · intro q
    rcases Int.lt_trichotomy (cmpI o z.1 x.1) 0 with c | c | c
    · exact .inl ⟨.inl q, decide_eq_true c⟩
    · exact absurd (cmpI_eq ho (h.ki z q) hz.1 c) (hno z q)
    · exact .inr ⟨.inl q, decide_eq_true c⟩
theorem pw_filt {o : Int} : ∀ {l : List Pr}, (l.map (·.1)).Pairwise (ltO o) → ∀ {k v : Int}, (k, v) ∈ l → l.filter (fun x => x.1 == k) = [(k, v)]
  | [], _, _, _, h => by cases h
  | x :: l, hp, k, v, h => by
    simp only [List.map_cons, List.pairwise_cons, List.mem_map, forall_exists_index, and_imp, forall_apply_eq_imp_iff₂] at hp
    rcases List.mem_cons.1 h with e | h
    · subst e
      rw [List.filter_cons_of_pos (by simp), filter_none' fun y hy => ?_]
      have := ltO_ne (hp.1 y hy)
      simp at this ⊢
      exact fun e => this e.symm
    · rw [List.filter_cons_of_neg ?_, pw_filt hp.2 h]
      have := ltO_ne (hp.1 _ h)
      simpa using this
theorem lk_filt {o : Int} {l : List Pr} (hm : mayR o l = true) (k : Int) : (l.filter (fun x => x.1 == k)).map (·.2) = (lk o l k).toList := by
  cases h : lk o l k with
  | none => rw [filter_none' fun y hy => by simpa using (lk_none hm).1 h y hy]; rfl
  | some v => rw [pw_filt (mayR_iff.1 hm).2 ((lk_iff hm).1 h)]; rfl
theorem sort_self {o p : Int} {t : Tr} (ho : isO o = true) (hp : may p = true) (h : Cq o t) : sortL o p t.pairs = t.pairs := by
  have hm := sortL_may (p := p) ho hp h.inP
  have hmt : mayR o t.pairs = true := by unfold mayR; rw [ho, chain_pw.2 h.asc]; rfl
  refine pw_ext (chain_pw.1 (mayR_chain hm.1)) h.asc fun x => ?_
  rw [← lk_iff hm.1, ← lk_iff hmt, sortL_lk0 ho hp h.inP, lk_filt hmt]
  cases lk o t.pairs x.1 <;> rfl
end Go.Proofs.YtlddfgfmkapoiaaGreat

namespace Go.Proofs.YtlddfgfmkapoiaaGreat
open Go Go.Sh
set_option maxRecDepth 100000 in
/-- joinery/joinerylaw41.CanonOne -/
def sh14 (o_1 : Int) (p_2 : Int) (l_p3 : Option Addr) (l_n4 : Nat) (l_c5 : Nat) (m_p6 : Option Addr) (m_n7 : Nat) (m_c8 : Nat) (key_9 : Int) (val_10 : Int) (R : Ending → World → Prop) (w : World) : Prop :=
 doCall Tryz.prog (.func (.func 15) #[] #[]) #[.int .u8 4] w (retS (fun v13 w14 => ∃ (x11 : Option Addr), ∃ (x12 : Bool), v13 = (.tuple #[.pointer x11, .bool x12] : Value) ∧ (
 let K17 : Bool → World → Prop := fun (x15 : Bool) (w16 : World) => 
 ifB x15 (
 let K20 : Bool → World → Prop := fun (x18 : Bool) (w19 : World) => 
 R (.returned (.bool x18)) w19
 ifB x12 (
 doCall Tryz.prog (.func (.func 48) #[] #[]) #[] w16 (retS (fun v22 w23 => ∃ (x21 : Bool), v22 = (.bool x21 : Value) ∧ (
 K20 x21 w23)) (fun ch w => Kfn R ch [] w))) (
 R (.returned (.bool false)) w16)) (
 doCall Tryz.prog (.func (.func 49) #[] #[]) #[.int .u8 o_1, .int .u8 p_2, .slice l_p3 l_n4 l_c5] w16 (retS (fun v26 w27 => ∃ (x24 : Option Addr), ∃ (x25 : Int), v26 = (.tuple #[.pointer x24, .int .i64 x25] : Value) ∧ (
 doCall Tryz.prog (.func (.func 49) #[] #[]) #[.int .u8 o_1, .int .u8 p_2, .slice m_p6 m_n7 m_c8] w27 (retS (fun v30 w31 => ∃ (x28 : Option Addr), ∃ (x29 : Int), v30 = (.tuple #[.pointer x28, .int .i64 x29] : Value) ∧ (
 let K34 : Bool → World → Prop := fun (x32 : Bool) (w33 : World) => 
 ifB x32 (
 R (.returned (.bool false)) w33) (
 doCall Tryz.prog (.func (.func 83) #[] #[]) #[.int .i64 key_9] w33 (retS (fun v36 w37 => ∃ (x35 : Int), v36 = (.int .u64 x35 : Value) ∧ (
 doAl (.cells #[.int .i64 0, .int .i64 0, .int .u64 0] 114) w37 (fun b38 w39 =>
 doSt ((blk b38).add 0) (.int .i64 key_9) w39 (fun w40 =>
 doSt ((blk b38).add 1) (.int .i64 val_10) w40 (fun w41 =>
 doSt ((blk b38).add 2) (.int .u64 x35) w41 (fun w42 =>
 ∃ (x43 : Int), World.cell? w42 ((blk b38).add 0) = some (.int .i64 x43) ∧ (
 ∃ (x44 : Int), World.cell? w42 ((blk b38).add 1) = some (.int .i64 x44) ∧ (
 ∃ (x45 : Int), World.cell? w42 ((blk b38).add 2) = some (.int .u64 x45) ∧ (
 doCall Tryz.prog (.func (.func 84) #[] #[]) #[.pointer x11, .int .u8 o_1, .int .u8 p_2, .pointer x24, .agg #[.int .i64 x43, .int .i64 x44, .int .u64 x45]] w42 (retS (fun v50 w51 => ∃ (x46 : Option Addr), ∃ (x47 : Int), ∃ (x48 : Bool), ∃ (x49 : Int), v50 = (.tuple #[.pointer x46, .int .i64 x47, .bool x48, .int .i64 x49] : Value) ∧ (
 doCall Tryz.prog (.func (.func 85) #[] #[]) #[.pointer x11, .int .u8 o_1, .pointer x46, .int .i64 key_9] w51 (retS (fun v56 w57 => ∃ (x52 : Option Addr), ∃ (x53 : Int), ∃ (x54 : Bool), ∃ (x55 : Int), v56 = (.tuple #[.pointer x52, .int .i64 x53, .bool x54, .int .i64 x55] : Value) ∧ (
 doCall Tryz.prog (.func (.func 86) #[] #[]) #[.pointer x11, .int .u8 o_1, .int .u8 p_2, .pointer x24, .pointer x28] w57 (retS (fun v60 w61 => ∃ (x58 : Option Addr), ∃ (x59 : Int), v60 = (.tuple #[.pointer x58, .int .i64 x59] : Value) ∧ (
 doCall Tryz.prog (.func (.func 87) #[] #[]) #[.pointer x11, .int .u8 o_1, .int .u8 p_2, .pointer x24, .pointer x28] w61 (retS (fun v64 w65 => ∃ (x62 : Option Addr), ∃ (x63 : Int), v64 = (.tuple #[.pointer x62, .int .i64 x63] : Value) ∧ (
 doCall Tryz.prog (.func (.func 88) #[] #[]) #[.pointer x11, .int .u8 o_1, .pointer x24, .pointer x28] w65 (retS (fun v68 w69 => ∃ (x66 : Option Addr), ∃ (x67 : Int), v68 = (.tuple #[.pointer x66, .int .i64 x67] : Value) ∧ (
 doCall Tryz.prog (.func (.func 89) #[] #[]) #[.pointer x11, .int .u8 o_1, .pointer x24, .int .i64 key_9] w69 (retS (fun v77 w78 => ∃ (x70 : Option Addr), ∃ (x71 : Int), ∃ (x72 : Int), ∃ (x73 : Int), ∃ (x74 : Bool), ∃ (x75 : Option Addr), ∃ (x76 : Int), v77 = (.tuple #[.pointer x70, .agg #[.int .i64 x71, .int .i64 x72, .int .u64 x73], .bool x74, .pointer x75, .int .i64 x76] : Value) ∧ (
 doAl (.cells #[.int .i64 0, .int .i64 0, .int .u64 0] 114) w78 (fun b79 w80 =>
 doSt ((blk b79).add 0) (.int .i64 x71) w80 (fun w81 =>
 doSt ((blk b79).add 1) (.int .i64 x72) w81 (fun w82 =>
 doSt ((blk b79).add 2) (.int .u64 x73) w82 (fun w83 =>
 doCall Tryz.prog (.func (.func 86) #[] #[]) #[.pointer x11, .int .u8 o_1, .int .u8 1, .pointer x62, .pointer x66] w83 (retS (fun v86 w87 => ∃ (x84 : Option Addr), ∃ (x85 : Int), v86 = (.tuple #[.pointer x84, .int .i64 x85] : Value) ∧ (
 let K90 : Bool → World → Prop := fun (x88 : Bool) (w89 : World) => 
 ifB x88 (
 R (.returned (.bool false)) w89) (
 doCall Tryz.prog (.func (.func 58) #[] #[]) #[.int .u8 o_1, .pointer x24, .pointer x84] w89 (retS (fun v95 w96 => ∃ (xp91 : Option Addr), ∃ (xn92 : Nat), ∃ (xc93 : Nat), ∃ (x94 : Int), v95 = (.tuple #[.slice xp91 xn92 xc93, .int .i64 x94] : Value) ∧ (
 doCall Tryz.prog (.func (.func 87) #[] #[]) #[.pointer x11, .int .u8 o_1, .int .u8 1, .pointer x24, .pointer x28] w96 (retS (fun v99 w100 => ∃ (x97 : Option Addr), ∃ (x98 : Int), v99 = (.tuple #[.pointer x97, .int .i64 x98] : Value) ∧ (
 doCall Tryz.prog (.func (.func 86) #[] #[]) #[.pointer x11, .int .u8 o_1, .int .u8 1, .pointer x97, .pointer x66] w100 (retS (fun v103 w104 => ∃ (x101 : Option Addr), ∃ (x102 : Int), v103 = (.tuple #[.pointer x101, .int .i64 x102] : Value) ∧ (
 let K107 : Bool → World → Prop := fun (x105 : Bool) (w106 : World) => 
 R (.returned (.bool x105)) w106
 ifB ((x94 : Int) == 0) (
 ifB ((x98 : Int) == 0) (
 ifB ((x102 : Int) == 0) (
 doCall Tryz.prog (.func (.func 91) #[] #[]) #[.pointer x62] w104 (retS (fun v109 w110 => ∃ (x108 : Int), v109 = (.int .i64 x108 : Value) ∧ (
 ifB (decide ((((xn92 : Nat) : Int) : Int) ≤ x108)) (
 doCall Tryz.prog (.func (.func 54) #[] #[]) #[.pointer x101, .pointer x24] w110 (retS (fun v112 w113 => ∃ (x111 : Bool), v112 = (.bool x111 : Value) ∧ (
 ifB x111 (
 ifB x48 (
 doCall Tryz.prog (.func (.func 48) #[] #[]) #[] w113 (retS (fun v115 w116 => ∃ (x114 : Bool), v115 = (.bool x114 : Value) ∧ (
 K107 x114 w116)) (fun ch w => Kfn R ch [] w))) (
 doCall Tryz.prog (.func (.func 54) #[] #[]) #[.pointer x52, .pointer x24] w113 (retS (fun v118 w119 => ∃ (x117 : Bool), v118 = (.bool x117 : Value) ∧ (
 ifB x117 (
 doCall Tryz.prog (.func (.func 48) #[] #[]) #[] w119 (retS (fun v121 w122 => ∃ (x120 : Bool), v121 = (.bool x120 : Value) ∧ (
 K107 x120 w122)) (fun ch w => Kfn R ch [] w))) (
 R (.returned (.bool false)) w119))) (fun ch w => Kfn R ch [] w)))) (
 R (.returned (.bool false)) w113))) (fun ch w => Kfn R ch [] w))) (
 R (.returned (.bool false)) w110))) (fun ch w => Kfn R ch [] w))) (
 R (.returned (.bool false)) w104)) (
 R (.returned (.bool false)) w104)) (
 R (.returned (.bool false)) w104))) (fun ch w => Kfn R ch [] w)))) (fun ch w => Kfn R ch [] w)))) (fun ch w => Kfn R ch [] w)))
 doCall Tryz.prog (.func (.func 90) #[] #[]) #[.int .u8 o_1, .pointer x24] w87 (retS (fun v124 w125 => ∃ (x123 : Bool), v124 = (.bool x123 : Value) ∧ (
 ifB (!x123) (
 R (.returned (.bool false)) w125) (
 doCall Tryz.prog (.func (.func 90) #[] #[]) #[.int .u8 o_1, .pointer x46] w125 (retS (fun v127 w128 => ∃ (x126 : Bool), v127 = (.bool x126 : Value) ∧ (
 ifB (!x126) (
 R (.returned (.bool false)) w128) (
 doCall Tryz.prog (.func (.func 90) #[] #[]) #[.int .u8 o_1, .pointer x52] w128 (retS (fun v130 w131 => ∃ (x129 : Bool), v130 = (.bool x129 : Value) ∧ (
 ifB (!x129) (
 R (.returned (.bool false)) w131) (
 doCall Tryz.prog (.func (.func 90) #[] #[]) #[.int .u8 o_1, .pointer x58] w131 (retS (fun v133 w134 => ∃ (x132 : Bool), v133 = (.bool x132 : Value) ∧ (
 ifB (!x132) (
 R (.returned (.bool false)) w134) (
 doCall Tryz.prog (.func (.func 90) #[] #[]) #[.int .u8 o_1, .pointer x62] w134 (retS (fun v136 w137 => ∃ (x135 : Bool), v136 = (.bool x135 : Value) ∧ (
 ifB (!x135) (
 R (.returned (.bool false)) w137) (
 doCall Tryz.prog (.func (.func 90) #[] #[]) #[.int .u8 o_1, .pointer x66] w137 (retS (fun v139 w140 => ∃ (x138 : Bool), v139 = (.bool x138 : Value) ∧ (
 ifB (!x138) (
 R (.returned (.bool false)) w140) (
 doCall Tryz.prog (.func (.func 90) #[] #[]) #[.int .u8 o_1, .pointer x70] w140 (retS (fun v142 w143 => ∃ (x141 : Bool), v142 = (.bool x141 : Value) ∧ (
 ifB (!x141) (
 R (.returned (.bool false)) w143) (
 doCall Tryz.prog (.func (.func 90) #[] #[]) #[.int .u8 o_1, .pointer x75] w143 (retS (fun v145 w146 => ∃ (x144 : Bool), v145 = (.bool x144 : Value) ∧ (
 ifB (!x144) (
 R (.returned (.bool false)) w146) (
 doCall Tryz.prog (.func (.func 90) #[] #[]) #[.int .u8 o_1, .pointer x84] w146 (retS (fun v148 w149 => ∃ (x147 : Bool), v148 = (.bool x147 : Value) ∧ (
 K90 (!x147) w149)) (fun ch w => Kfn R ch [] w))))) (fun ch w => Kfn R ch [] w))))) (fun ch w => Kfn R ch [] w))))) (fun ch w => Kfn R ch [] w))))) (fun ch w => Kfn R ch [] w))))) (fun ch w => Kfn R ch [] w))))) (fun ch w => Kfn R ch [] w))))) (fun ch w => Kfn R ch [] w))))) (fun ch w => Kfn R ch [] w)))) (fun ch w => Kfn R ch [] w)))))))) (fun ch w => Kfn R ch [] w)))) (fun ch w => Kfn R ch [] w)))) (fun ch w => Kfn R ch [] w)))) (fun ch w => Kfn R ch [] w)))) (fun ch w => Kfn R ch [] w)))) (fun ch w => Kfn R ch [] w))))))))))) (fun ch w => Kfn R ch [] w)))
 ifB ((x25 : Int) != 0) (
 R (.returned (.bool false)) w31) (
 K34 ((x29 : Int) != 0) w31))) (fun ch w => Kfn R ch [] w)))) (fun ch w => Kfn R ch [] w)))
 ifB (decide ((((l_n4 : Nat) : Int) : Int) > 80)) (
 let K152 : Bool → World → Prop := fun (x150 : Bool) (w151 : World) => 
 R (.returned (.bool x150)) w151
 ifB x12 (
 doCall Tryz.prog (.func (.func 48) #[] #[]) #[] w14 (retS (fun v154 w155 => ∃ (x153 : Bool), v154 = (.bool x153 : Value) ∧ (
 K152 x153 w155)) (fun ch w => Kfn R ch [] w))) (
 K152 false w14)) (
 ifB (decide ((((m_n7 : Nat) : Int) : Int) > 80)) (
 let K158 : Bool → World → Prop := fun (x156 : Bool) (w157 : World) => 
 R (.returned (.bool x156)) w157
 ifB x12 (
 doCall Tryz.prog (.func (.func 48) #[] #[]) #[] w14 (retS (fun v160 w161 => ∃ (x159 : Bool), v160 = (.bool x159 : Value) ∧ (
 K158 x159 w161)) (fun ch w => Kfn R ch [] w))) (
 K158 false w14)) (
 ifB (!x12) (
 let K164 : Bool → World → Prop := fun (x162 : Bool) (w163 : World) => 
 R (.returned (.bool x162)) w163
 ifB x12 (
 doCall Tryz.prog (.func (.func 48) #[] #[]) #[] w14 (retS (fun v166 w167 => ∃ (x165 : Bool), v166 = (.bool x165 : Value) ∧ (
 K164 x165 w167)) (fun ch w => Kfn R ch [] w))) (
 K164 false w14)) (
 doCall Tryz.prog (.func (.func 16) #[] #[]) #[.int .u8 o_1] w14 (retS (fun v169 w170 => ∃ (x168 : Bool), v169 = (.bool x168 : Value) ∧ (
 ifB (!x168) (
 let K173 : Bool → World → Prop := fun (x171 : Bool) (w172 : World) => 
 R (.returned (.bool x171)) w172
 ifB x12 (
 doCall Tryz.prog (.func (.func 48) #[] #[]) #[] w170 (retS (fun v175 w176 => ∃ (x174 : Bool), v175 = (.bool x174 : Value) ∧ (
 K173 x174 w176)) (fun ch w => Kfn R ch [] w))) (
 K173 false w170)) (
 doCall Tryz.prog (.func (.func 17) #[] #[]) #[.int .u8 p_2] w170 (retS (fun v178 w179 => ∃ (x177 : Bool), v178 = (.bool x177 : Value) ∧ (
 K17 (!x177) w179)) (fun ch w => Kfn R ch [] w))))) (fun ch w => Kfn R ch [] w))))))) (fun ch w => Kfn R ch [] w))
set_option maxRecDepth 100000 in
theorem sh14_ok (o_1 : Int) (p_2 : Int) (l_p3 : Option Addr) (l_n4 : Nat) (l_c5 : Nat) (m_p6 : Option Addr) (m_n7 : Nat) (m_c8 : Nat) (key_9 : Int) (val_10 : Int) {R : Ending → World → Prop} {w : World} : sh14 o_1 p_2 l_p3 l_n4 l_c5 m_p6 m_n7 m_c8 key_9 val_10 R w → Calls Tryz.prog 14 #[.int .u8 o_1, .int .u8 p_2, .slice l_p3 l_n4 l_c5, .slice m_p6 m_n7 m_c8, .int .i64 key_9, .int .i64 val_10] w R :=
  calls_of_eq (ann := fun _ => []) (fn := Tryz.f14) (c := bodyOf Tryz.f14) (args := #[.int .u8 o_1, .int .u8 p_2, .slice l_p3 l_n4 l_c5, .slice m_p6 m_n7 m_c8, .int .i64 key_9, .int .i64 val_10]) 400 follows_mixed Tryz.func14 (by kernel_rfl) (by kernel_rfl)
end Go.Proofs.YtlddfgfmkapoiaaGreat

namespace Go.Proofs.YtlddfgfmkapoiaaGreat
open Go Go.Sh Go.RowKit

/-- trees that lie in memory -/
def Ts (l : List (Option Addr × Tr)) (w : World) : Prop := ∀ s ∈ l, IsN w s.1 s.2
theorem Ts.get {l : List (Option Addr × Tr)} {w : World} {p : Option Addr} {t : Tr} (h : Ts l w) (hm : (p, t) ∈ l) : IsN w p t := h _ hm
theorem Ts.gs {c : Int} {b : Nat} {l : List (Option Addr × Tr)} {w w' : World} (h : Ts l w) (hs : IsSch c b w) (g : Gs b w w') : Ts l w' := fun s hm => (h s hm).gs hs g
theorem Ts.ext {l : List (Option Addr × Tr)} {w w' : World} (h : Ts l w) (e : Ext w w') : Ts l w' := fun s hm => (h s hm).ext e
theorem Ts.cons {l : List (Option Addr × Tr)} {w : World} {p : Option Addr} {t : Tr} (h : Ts l w) (hx : IsN w p t) : Ts ((p, t) :: l) w := fun s hm => by
  rcases List.mem_cons.1 hm with rfl | hm
  · exact hx
  · exact h s hm
theorem Ts.nil {w : World} : Ts [] w := fun s hm => by cases hm
theorem c_one {o : Int} {t : Tr} {pt : Option Addr} {w : World} {R : Ending → World → Prop} (ho : isO o = true) (ht : IsN w pt t) (hc : Cq o t) (hz : t.size ≤ 100000) (h : ∀ w', Ext w w' → R (.returned (.bool true)) w') : Calls Tryz.prog 90 #[.int .u8 o, .pointer pt] w R := by
  refine sh90_ok _ _ ?_
  unfold sh90
  refine do_call Tryz.call29 (c_lpairs ht (by omega) fun q n c w1 e1 o1 => retS_ret ⟨_, _, _, rfl, ?_⟩)
  have hn := ownP_len o1
  have zp := t.pairs_length
  refine do_call Tryz.call49 (c_canof ho (by decide) (ownP_cs o1) hn (by omega) hc.inP fun pu u w2 e2 hu cu eu => retS_ret ⟨_, _, rfl, ?_⟩)
  have E2 := e1.trans e2
  rw [sort_self ho (by decide) hc] at eu
  have hut : t = u := can_eq hc.can cu eu.symm
  subst hut
  intro K14
  refine ifB_t rfl ?_
  refine do_call Tryz.call51 (c_cis_yes ho (ht.ext E2) hc.can (by omega) fun w3 e3 => retS_ret ⟨_, rfl, ifB_t rfl ?_⟩)
  have E3 := E2.trans e3
  refine do_call Tryz.call54 (sh54_ok _ _ ?_)
  unfold sh54
  refine do_call Tryz.call121 (c_shsame t t (ht.ext E3) (hu.ext e3) fun r w4 e4 i4 => retS_ret ⟨_, rfl, retS_ret ⟨_, rfl, ?_⟩⟩)
  obtain rfl : r = true := i4.2 rfl
  refine ifB_t rfl ?_
  have E4 := E3.trans e4
  refine do_call Tryz.call55 (c_digest t (ht.ext E4) fun w5 e5 => retS_ret ⟨_, rfl, ?_⟩)
  refine do_call Tryz.call55 (c_digest t (hu.ext ((e3.trans e4).trans e5)) fun w6 e6 => retS_ret ⟨_, rfl, ?_⟩)
  have := h w6 ((E4.trans e5).trans e6)
  simp -zeta -zetaHave only [K14]
  simpa using this
theorem c_csame {a b : Tr} {pa pb : Option Addr} {w : World} {R : Ending → World → Prop} (ha : IsN w pa a) (hb : IsN w pb b) (h : ∀ r w', Ext w w' → (r = true ↔ a = b) → R (.returned (.bool r)) w') : Calls Tryz.prog 54 #[.pointer pa, .pointer pb] w R := by
  refine sh54_ok _ _ ?_
  unfold sh54
  exact do_call Tryz.call121 (c_shsame a b ha hb fun r w4 e4 i4 => retS_ret ⟨_, rfl, h r w4 e4 i4⟩)
set_option maxRecDepth 20000 in
set_option maxHeartbeats 1600000 in
theorem c_canonOne {o p key val : Int} {l m : List Pr} {q1 q2 : Option Addr} {n1 c1 n2 c2 : Nat} {w : World} {R : Ending → World → Prop} (hl : Cs w q1 (prs l)) (hn1 : l.length = n1) (iL : InP l) (hm : Cs w q2 (prs m)) (hn2 : m.length = n2) (iM : InP m) (hkey : In key) (hval : In val)
    (h : ∀ w', Ext w w' → R (.returned (.bool true)) w') : Calls Tryz.prog 14 #[.int .u8 o, .int .u8 p, .slice q1 n1 c1, .slice q2 n2 c2, .int .i64 key, .int .i64 val] w R := by
  refine sh14_ok _ _ _ _ _ _ _ _ _ _ ?_
  unfold sh14
  refine do_call Tryz.call15 (c_l22of (fun hc => by cases hc) fun _ b w1 e1 hbw hs1 => retS_ret ⟨_, _, rfl, ?_⟩)
  intro K17
  have hal : ∀ w2, Ext w w2 → doCall Tryz.prog (.func (.func 48) #[] #[]) #[] w2 (retS (fun v22 w23 => ∃ (x21 : Bool), v22 = (.bool x21 : Value) ∧ (
 R (.returned (.bool x21)) w23)) (fun ch w => Kfn R ch [] w)) := fun w2 e2 => do_call Tryz.call48 (c_alive41 fun w3 e3 => retS_ret ⟨_, rfl, h _ (e2.trans e3)⟩)
  refine ifB_intro (fun _ => ifB_t rfl (hal _ e1)) fun z1 => ifB_intro (fun _ => ifB_t rfl (hal _ e1)) fun z2 => ifB_f rfl ?_
  have z1 : n1 ≤ 80 := by have := of_decide_eq_false z1; omega
  have z2 : n2 ≤ 80 := by have := of_decide_eq_false z2; omega
  refine do_call Tryz.call16 (c_ris (retS_ret ⟨_, rfl, ?_⟩))
  cases ho : isO o with
  | false => exact ifB_t rfl (ifB_t rfl (hal _ e1))
  | true =>
  refine ifB_f rfl ?_
  refine do_call Tryz.call17 (c_rmay (retS_ret ⟨_, rfl, ?_⟩))
  cases hp : may p with
  | false =>
    simp -zeta -zetaHave only [K17]
    exact ifB_t rfl (ifB_t rfl (hal _ e1))
  | true =>
  simp -zeta -zetaHave only [K17]
  refine ifB_f rfl ?_
  have hb : w.heap.size ≤ b := by omega
  have mL := sortL_may ho hp iL
  have mM := sortL_may ho hp iM
  refine do_call Tryz.call49 (c_canof ho hp (hl.ext e1) hn1 (by omega) iL fun pa a w2 e2 ha ca ea => retS_ret ⟨_, _, rfl, ?_⟩)
  have E2 := e1.trans e2
  refine do_call Tryz.call49 (c_canof ho hp (hm.ext E2) hn2 (by omega) iM fun pb B w3 e3 hB cb eb => retS_ret ⟨_, _, rfl, ?_⟩)
  have E3 := E2.trans e3
  have qa : Cq o a := cq_of ca (by rw [ea]; exact mL.2.1)
  have qb : Cq o B := cq_of cb (by rw [eb]; exact mM.2.1)
  have za : a.size ≤ 80 := by rw [← Tr.pairs_length, ea]; omega
  have zb : B.size ≤ 80 := by rw [← Tr.pairs_length, eb]; omega
  have la : (itsC 4 a).length ≤ 80 := by rw [itsC_len]; exact za
  have lb : (itsC 4 B).length ≤ 80 := by rw [itsC_len]; exact zb
  have hs3 := hs1.ext (e2.trans e3)
  have T3 : Ts [(pb, B), (pa, a)] w3 := (Ts.nil.cons (ha.ext e3)).cons hB
  intro K34
  refine ifB_f rfl ?_
  simp -zeta -zetaHave only [K34]
  refine ifB_f rfl ?_
  refine do_call Tryz.call83 (c_mixof fun w4 e4 => retS_ret ⟨_, rfl, ⟨?_⟩⟩)
  have e5 := ext_alloc w4 (.cells #[.int .i64 0, .int .i64 0, .int .u64 0] 114)
  refine do_st3 (blk_alloc w4 #[.int .i64 0, .int .i64 0, .int .u64 0] 114) fun w5 h5 g5 => ?_
  have e45 : Ext w3 w5 := e4.trans (e5.st g5 (Nat.le_refl _))
  refine ⟨_, h5.cell (i := 0) (add_blk _ _) rfl, _, h5.cell (i := 1) (add_blk _ _) rfl, _, h5.cell (i := 2) (add_blk _ _) rfl, ?_⟩
  have E5 := E3.trans e45
  have hs5 := hs3.ext e45
  have T5 := T3.ext e45
  have hx : In ((key, val, mixK key) : It).1 ∧ In ((key, val, mixK key) : It).2.1 ∧ ((key, val, mixK key) : It).2.2 = mixK ((key, val, mixK key) : It).1 := ⟨hkey, hval, rfl⟩
  have I := cq_insert (p := p) qa hx
  refine do_call Tryz.call84 (c_insert (x := (key, val, mixK key)) ho hp hkey hs5 (T5.get (t := a) (by simp)) qa.can.u.ok.1 qa.can.u.k (by simp only [BIG]; omega) fun pc w6 g6 hs6 h6 => retS_ret ⟨_, _, _, _, rfl, ?_⟩)
  have E6 := Ext.gs E5 g6 hb
  have hID := fun (y : It) (hn : (splitC 4 o key a).2.1.isSome = false) => ins_del (p := p) (y := y) ho qa hx hn
  generalize hC : editC 4 o ((key, val, mixK key) : It).1 (insI p (key, val, mixK key) (itO (splitC 4 o ((key, val, mixK key) : It).1 a).2.1) (splitC 4 o ((key, val, mixK key) : It).1 a).2.1.isSome) a = C at *
  have zc : C.size ≤ 81 := by
    have := insL_len (o := o) (p := p) (l := itsC 4 a) (z := (key, val, mixK key))
    rw [← itsC_len 4, I.2]; omega
  have T6 := (T5.gs hs5 g6).cons h6
  refine do_call Tryz.call85 (c_delete ho hkey hs6 (T6.get (t := C) (by simp)) I.1.can.u.ok.1 I.1.can.u.k (by simp only [BIG]; omega) fun pd w7 g7 hs7 h7 => retS_ret ⟨_, _, _, _, rfl, ?_⟩)
  have E7 := Ext.gs E6 g7 hb
  have DD := cq_delete (k := key) (y := itO (splitC 4 o key C).2.1) I.1
  have hdel : (delI (itO (splitC 4 o key C).2.1) (splitC 4 o key C).2.1.isSome) = (itO (splitC 4 o key C).2.1, false) := rfl
  rw [hdel] at h7
  have hDa : (splitC 4 o key a).2.1.isSome = false → editC 4 o key (itO (splitC 4 o key C).2.1, false) C = a := fun hn => hID _ hn
  generalize hDD : editC 4 o key (itO (splitC 4 o key C).2.1, false) C = D at *
  have zd : D.size ≤ 200 := by
    have h1 := List.length_filter_le (fun x : It => decide (cmpI o x.1 key < 0)) (itsC 4 C)
    have h2 := List.length_filter_le (fun x : It => decide (0 < cmpI o x.1 key)) (itsC 4 C)
    have h3 : (itsC 4 D).length = _ := congrArg List.length DD.2
    rw [List.length_append, itsC_len] at h3
    rw [itsC_len] at h1 h2
    rw [h3]
    exact Nat.le_trans (Nat.add_le_add h1 h2) (by omega)
  have T7 := (T6.gs hs6 g7).cons h7
  refine do_call Tryz.call86 (c_union ho hp hs7 (T7.get (t := a) (by simp)) (T7.get (t := B) (by simp)) qa.can.u.ok.1 qb.can.u.ok qa.can.u.k qb.can.u.k qb.can.u.asc (by simp only [BIG]; omega) fun pu w8 g8 hs8 h8 => retS_ret ⟨_, _, rfl, ?_⟩)
  have E8 := Ext.gs E7 g8 hb
  have UU := cq_union (p := p) qa qb
  have zu : (unionC 4 o p a B).size ≤ 160 := by have := (qa.can.u.union (p := p) qb.can.u).2; omega
  generalize unionC 4 o p a B = U at *
  have T8 := (T7.gs hs7 g8).cons h8
  refine do_call Tryz.call87 (c_meet ho hp hs8 (T8.get (t := a) (by simp)) (T8.get (t := B) (by simp)) qa.can.u qb.can.u (by simp only [BIG]; omega) fun pv w9 g9 hs9 h9 => retS_ret ⟨_, _, rfl, ?_⟩)
  have E9 := Ext.gs E8 g9 hb
  have VV := cq_meet (p := p) ho qa qb
  have hback := back_len (p := p) ho qa qb
  have zv : (meetC 4 o p a B).size ≤ 80 := by
    rw [← itsC_len 4, VV.2]
    exact Nat.le_trans (List.length_filterMap_le _ _) la
  have T9 := (T8.gs hs8 g9).cons h9
  refine do_call Tryz.call88 (c_less ho hs9 (T9.get (t := a) (by simp)) (T9.get (t := B) (by simp)) qa.can.u qb.can.u (by simp only [BIG]; omega) fun pw w10 g10 hs10 h10 => retS_ret ⟨_, _, rfl, ?_⟩)
  have E10 := Ext.gs E9 g10 hb
  have WW := cq_less ho qa qb
  have hall := meet_less_all ho qa qb
  have zw : (lessC 4 o a B).size ≤ 80 := by
    rw [← itsC_len 4, WW.2]
    exact Nat.le_trans (List.length_filter_le _ _) la
  have T10 := (T9.gs hs9 g10).cons h10
  refine do_call Tryz.call89 (c_split ho hkey hs10 (T10.get (t := a) (by simp)) qa.can.u.ok.1 qa.can.u.k (by simp only [BIG]; omega) fun py pz w11 g11 hs11 h11 k11 => retS_ret ⟨_, _, _, _, _, _, _, rfl, ⟨?_⟩⟩)
  have E11 := Ext.gs E10 g11 hb
  have YY := cq_split (k := key) qa
  have SP := splitC_ok (key := key) qa.can.u.ok.1 qa.can.u.asc
  have zy : (splitC 4 o key a).1.size ≤ 80 := by
    rw [← itsC_len 4, SP.lt]
    exact Nat.le_trans (List.length_filter_le _ _) la
  have zz : (splitC 4 o key a).2.2.size ≤ 80 := by
    rw [← itsC_len 4, SP.gt]
    exact Nat.le_trans (List.length_filter_le _ _) la
  have T11 := ((T10.gs hs10 g11).cons h11).cons k11
  have e12 := ext_alloc w11 (.cells #[.int .i64 0, .int .i64 0, .int .u64 0] 114)
  refine do_st3 (blk_alloc w11 #[.int .i64 0, .int .i64 0, .int .u64 0] 114) fun w12 _ g12 => ?_
  have e1112 : Ext w11 w12 := e12.st g12 (Nat.le_refl _)
  have E12 := E11.trans e1112
  have hs12 := hs11.ext e1112
  have T12 := T11.ext e1112
  have MM := cq_meet (p := 1) ho qa qb
  have zm : (meetC 4 o 1 a B).size ≤ 80 := by
    rw [← itsC_len 4, MM.2]
    exact Nat.le_trans (List.length_filterMap_le _ _) la
  refine do_call Tryz.call86 (c_union ho (by decide) hs12 (T12.get (t := meetC 4 o p a B) (by simp)) (T12.get (t := lessC 4 o a B) (by simp)) VV.1.can.u.ok.1 WW.1.can.u.ok VV.1.can.u.k WW.1.can.u.k WW.1.can.u.asc (by simp only [BIG]; omega) fun pk w13 g13 hs13 h13 => retS_ret ⟨_, _, rfl, ?_⟩)
  have E13 := Ext.gs E12 g13 hb
  have KK := cq_union (p := 1) VV.1 WW.1
  have zk : (unionC 4 o 1 (meetC 4 o p a B) (lessC 4 o a B)).size ≤ 160 := by have := (VV.1.can.u.union (p := 1) WW.1.can.u).2; omega
  generalize hBk : unionC 4 o 1 (meetC 4 o p a B) (lessC 4 o a B) = Bk at *
  have T13 := (T12.gs hs12 g13).cons h13
  clear hBk hC hDD
  intro K90
  -- each is the one of its pairs
  refine do_call Tryz.call90 (c_one ho (T13.get (t := a) (by simp)) qa (by omega) fun w14 e14 => retS_ret ⟨_, rfl, ifB_f rfl ?_⟩)
  refine do_call Tryz.call90 (c_one ho ((T13.get (t := C) (by simp)).ext e14) I.1 (by omega) fun w15 e15 => retS_ret ⟨_, rfl, ifB_f rfl ?_⟩)
  have x15 := e14.trans e15
  refine do_call Tryz.call90 (c_one ho ((T13.get (t := D) (by simp)).ext x15) DD.1 (by omega) fun w16 e16 => retS_ret ⟨_, rfl, ifB_f rfl ?_⟩)
  have x16 := x15.trans e16
  refine do_call Tryz.call90 (c_one ho ((T13.get (t := U) (by simp)).ext x16) UU.1 (by omega) fun w17 e17 => retS_ret ⟨_, rfl, ifB_f rfl ?_⟩)
  have x17 := x16.trans e17
  refine do_call Tryz.call90 (c_one ho ((T13.get (t := meetC 4 o p a B) (by simp)).ext x17) VV.1 (by omega) fun w18 e18 => retS_ret ⟨_, rfl, ifB_f rfl ?_⟩)
  have x18 := x17.trans e18
  refine do_call Tryz.call90 (c_one ho ((T13.get (t := lessC 4 o a B) (by simp)).ext x18) WW.1 (by omega) fun w19 e19 => retS_ret ⟨_, rfl, ifB_f rfl ?_⟩)
  have x19 := x18.trans e19
  refine do_call Tryz.call90 (c_one ho ((T13.get (t := (splitC 4 o key a).1) (by simp)).ext x19) YY.1 (by omega) fun w20 e20 => retS_ret ⟨_, rfl, ifB_f rfl ?_⟩)
  have x20 := x19.trans e20
  refine do_call Tryz.call90 (c_one ho ((T13.get (t := (splitC 4 o key a).2.2) (by simp)).ext x20) YY.2 (by omega) fun w21 e21 => retS_ret ⟨_, rfl, ifB_f rfl ?_⟩)
  have x21 := x20.trans e21
  refine do_call Tryz.call90 (c_one ho ((T13.get (t := Bk) (by simp)).ext x21) KK.1 (by omega) fun w22 e22 => retS_ret ⟨_, rfl, ?_⟩)
  have x22 := x21.trans e22
  simp -zeta -zetaHave only [K90]
  refine ifB_f rfl ?_
  have T22 := T13.ext x22
  have hs22 := hs13.ext x22
  refine do_call Tryz.call58 (c_cdiff ho (T22.get (t := a) (by simp)) (T22.get (t := Bk) (by simp)) qa.can KK.1.can (by omega) (by omega) fun q23 n23 c23 w23 e23 o23 => retS_ret ⟨_, _, _, _, rfl, ?_⟩)
  have hn23 := ownK_len o23
  have T23 := T22.ext e23
  have hs23 := hs22.ext e23
  have E23 := (E13.trans x22).trans e23
  refine do_call Tryz.call87 (c_meet ho (by decide) hs23 (T23.get (t := a) (by simp)) (T23.get (t := B) (by simp)) qa.can.u qb.can.u (by simp only [BIG]; omega) fun pl w24 g24 hs24 h24 => retS_ret ⟨_, _, rfl, ?_⟩)
  have E24 := Ext.gs E23 g24 hb
  have T24 := (T23.gs hs23 g24).cons h24
  refine do_call Tryz.call86 (c_union ho (by decide) hs24 (T24.get (t := meetC 4 o 1 a B) (by simp)) (T24.get (t := lessC 4 o a B) (by simp)) MM.1.can.u.ok.1 WW.1.can.u.ok MM.1.can.u.k WW.1.can.u.k WW.1.can.u.asc (by simp only [BIG]; omega) fun pal w25 g25 hs25 h25 => retS_ret ⟨_, _, rfl, ?_⟩)
  have E25 := Ext.gs E24 g25 hb
  rw [hall] at h25
  have T25 := T24.gs hs24 g25
  intro K107
  refine ifB_t rfl (ifB_t rfl (ifB_t rfl ?_))
  refine do_call Tryz.call91 (c_tsize (T25.get (t := meetC 4 o p a B) (by simp)) fun w26 e26 => retS_ret ⟨_, rfl, ifB_t (decide_eq_true (by omega)) ?_⟩)
  refine do_call Tryz.call54 (c_csame (h25.ext e26) ((T25.get (t := a) (by simp)).ext e26) fun r w27 e27 i27 => retS_ret ⟨_, rfl, ?_⟩)
  obtain rfl : r = true := i27.2 rfl
  refine ifB_t rfl ?_
  have E27 := (E25.trans e26).trans e27
  refine ifB_intro (fun _ => hal _ E27) fun hno => ?_
  have hDa' := hDa hno
  refine do_call Tryz.call54 (c_csame ((T25.get (t := D) (by simp)).ext (e26.trans e27)) ((T25.get (t := a) (by simp)).ext (e26.trans e27)) fun r w28 e28 i28 => retS_ret ⟨_, rfl, ?_⟩)
  obtain rfl : r = true := i28.2 hDa'
  exact ifB_t rfl (hal _ (E27.trans e28))
end Go.Proofs.YtlddfgfmkapoiaaGreat

namespace Go.Sh
open Go Go.RowKit Go.ChangeShapes Go.WideShapes Go.Deep

theorem cs_flat {α : Type} {enc : α → List Value} {s : Nat} (hs : ∀ x, (enc x).length = s) {w : World} {a : Addr} {l : List α}
    (h : ∀ i (hi : i < l.length), ∀ j, j < s → w.cell? (a.add (i * s + j)) = (enc l[i])[j]?) : Cs w (some a) (l.flatMap enc) := by
  induction l generalizing a with
  | nil => intro i v hv; simp at hv
  | cons x xs ih =>
    intro i v hv
    refine ⟨a, rfl, ?_⟩
    rw [List.flatMap_cons] at hv
    rcases Nat.lt_or_ge i s with hi | hi
    · rw [List.getElem?_append_left (by rw [hs]; exact hi)] at hv
      have := h 0 (by simp) i hi
      simp only [Nat.zero_mul, Nat.zero_add, List.getElem_cons_zero] at this
      rw [this]; exact hv
    · rw [List.getElem?_append_right (by rw [hs]; exact hi), hs] at hv
      have := ih (a := a.add s) (fun i hi j hj => by
        have := h (i + 1) (by simpa using hi) j hj
        simp only [List.getElem_cons_succ] at this
        rw [Sh.add_add, show s + (i * s + j) = (i + 1) * s + j by rw [Nat.add_mul]; omega]
        exact this) (i - s) v hv
      obtain ⟨b, hb, hc⟩ := this
      cases hb
      rw [Sh.add_add, show s + (i - s) = i by omega] at hc
      exact hc
theorem list_of {α : Type} {p : Nat → α → Prop} (n : Nat) (h : ∀ i, i < n → ∃ x, p i x) : ∃ l : List α, l.length = n ∧ ∀ i (hi : i < l.length), p i l[i] := by
  induction n with
  | zero => exact ⟨[], rfl, fun i hi => by simp at hi⟩
  | succ n ih =>
    obtain ⟨l, hl, hp⟩ := ih fun i hi => h i (by omega)
    obtain ⟨x, hx⟩ := h n (by omega)
    refine ⟨l ++ [x], by simp [hl], fun i hi => ?_⟩
    rcases Nat.lt_or_ge i l.length with h1 | h1
    · rw [List.getElem_append_left h1]; exact hp i h1
    · have : i = l.length := by simp at hi; omega
      subst this
      simp [hl]; exact hx
variable {H : Type} {enc : TypeId × Value → H} {P : Program} {w : World} {base : Nat} {spare : Nat → Bool} {held : Bool}
/-- A slice of structs, each element read. -/
theorem arg_slice {α : Type} {ec : α → List Value} {Pr : α → Prop} {s : Nat} (hs : ∀ x, (ec x).length = s) {t e : TypeId} (ht : P.underlying t = some (.slice e)) (hc : P.cellsOf e = s)
    (hdec : ∀ n cs y, DataW.trod enc P w base spare held n e cs = some y → ∃ x : α, cs = ec x ∧ Pr x) {q : Option Addr} {len cap : Nat} {d : DataW H} {p : List MemPlace} (h : DataW.Trod enc P w base spare held t (.slice q len cap) d p) :
    ∃ l : List α, l.length = len ∧ Cs w q (l.flatMap ec) ∧ (∀ x ∈ l, Pr x) ∧ len ≤ cap ∧ cap ≤ maxLen ∧ (q = none → len = 0 ∧ cap = 0) := by
  obtain ⟨fuel, hf⟩ := h
  rcases open_slice ht hf with ⟨hcs, _⟩ | ⟨a, l', c', m, n, D, Pl, hcs, hb, hl, hm, hmm, hx, hi⟩
  · simp [Value.cells] at hcs
    obtain ⟨rfl, rfl, rfl⟩ := hcs
    exact ⟨[], rfl, Sh.cs_nil _ _, by simp, Nat.le_refl _, Nat.zero_le _, fun _ => ⟨rfl, rfl⟩⟩
  · simp [Value.cells] at hcs
    obtain ⟨rfl, rfl, rfl⟩ := hcs
    have hlm : len ≤ m := by rw [hmm]; split <;> omega
    obtain ⟨l, hll, hp⟩ := list_of (p := fun i (x : α) => (∀ j, j < s → w.cell? (a.add (i * s + j)) = (ec x)[j]?) ∧ Pr x) len (fun i hil => by
      obtain ⟨cs', hcc, htr⟩ := hi i (by omega)
      rw [hc] at hcc
      obtain ⟨_, hcl, hat⟩ := World.cells?_some hcc
      obtain ⟨x, rfl, hpx⟩ := hdec _ _ _ htr
      refine ⟨x, fun j hj => ?_, hpx⟩
      rw [← Sh.add_add]; exact hat j hj)
    refine ⟨l, hll, cs_flat hs fun i hi j hj => (hp i hi).1 j hj, fun x hx => ?_, hl, hm, by simp⟩
    obtain ⟨i, hi, rfl⟩ := List.getElem_of_mem hx
    exact (hp i hi).2
theorem in64_of {x : Int} (h : (Lit.int .i64 x).wf = true) : -9223372036854775808 ≤ x ∧ x < 9223372036854775808 := by
  simp [Lit.wf, IntKind.min, IntKind.max, IntKind.signed, IntKind.bits] at h
  omega
/-- two numbers -/
theorem dec_int2 {e i : TypeId} {f0 f1 : Field} (he : P.underlying e = some (.struct #[f0, f1])) (h0 : f0.offset = 0) (h1 : f1.offset = 1) (hi : P.underlying i = some (.int .i64)) (ht0 : f0.type = i) (ht1 : f1.type = i) (hce : P.cellsOf e = 2) (hci : P.cellsOf i = 1)
    (n : Nat) (cs : List Value) (y : DataW H × List MemPlace) (h : DataW.trod enc P w base spare held n e cs = some y) :
    ∃ x : Int × Int, cs = [.int .i64 x.1, .int .i64 x.2] ∧ ((-9223372036854775808 ≤ x.1 ∧ x.1 < 9223372036854775808) ∧ (-9223372036854775808 ≤ x.2 ∧ x.2 < 9223372036854775808)) := by
  obtain ⟨y0, y1, n', hx, hl, hf0, hf1⟩ := trod_struct2 he h
  rw [hce] at hl
  match cs, hl with
  | [c0, c1], _ =>
    rw [h0, ht0, hci] at hf0
    rw [h1, ht1, hci] at hf1
    obtain ⟨m0, hc0, _, hw0⟩ := DataW.trod_int hi hf0
    obtain ⟨m1, hc1, _, hw1⟩ := DataW.trod_int hi hf1
    simp at hc0 hc1
    subst hc0 hc1
    exact ⟨(m0, m1), rfl, in64_of hw0, in64_of hw1⟩
end Go.Sh

namespace Go.Proofs.YtlddfgfmkapoiaaGreat
open Go Go.Sh Go.RowKit Go.ChangeShapes Go.WideShapes

variable {H : Type} {enc : TypeId × Value → H} {w : World} {base : Nat} {spare : Nat → Bool} {held : Bool}
/-- a slice of pairs that came in -/
def Is_pairs (w : World) (q : Option Addr) (len cap : Nat) (l : List Pr) : Prop := l.length = len ∧ Cs w q (prs l) ∧ InP l ∧ len ≤ cap ∧ cap ≤ maxLen ∧ (q = none → len = 0 ∧ cap = 0)
set_option maxRecDepth 100000 in
theorem pairs_arg {q : Option Addr} {len cap : Nat} {d : DataW H} {p : List MemPlace} (h : DataW.Trod enc Tryz.prog w base spare held 22 (.slice q len cap) d p) : ∃ l : List Pr, Is_pairs w q len cap l :=
  arg_slice (ec := fun x : Pr => [.int .i64 x.1, .int .i64 x.2]) (Pr := fun x => In x.1 ∧ In x.2) (s := 2) (fun _ => rfl) Tryz.underlying22 (by kernel_rfl)
    (dec_int2 Tryz.underlying46 rfl rfl Tryz.underlying2 rfl rfl (by kernel_rfl) (by kernel_rfl)) h
end Go.Proofs.YtlddfgfmkapoiaaGreat

