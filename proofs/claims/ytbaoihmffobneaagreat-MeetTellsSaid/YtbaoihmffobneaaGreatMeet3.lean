/-
  The document's answers of layer 29.
-/
import Derived.Test.YtbaoihmffobneaaGreatMeet2
namespace Go.Proofs.YtbaoihmffobneaaGreat
open Go Go.Sh Go.RowKit

theorem findK_cons (z : It) (l : List It) (k : Int) : findK (z :: l) k = if z.1 = k then some z else findK l k := by
  unfold findK
  rw [List.find?_cons]
  by_cases h : z.1 = k
  · simp [h]
  · simp [h]
theorem findK_at {l : List It} {k : Int} {i : Nat} (hi : i < l.length) (h : findK (l.take i) k = none) (hk : l[i].1 = k) : findK l k = some l[i] := by
  have e : l = l.take i ++ (l[i] :: l.drop (i + 1)) := by rw [← List.drop_eq_getElem_cons hi, List.take_append_drop]
  have : findK l k = findK (l.take i ++ (l[i] :: l.drop (i + 1))) k := congrArg (fun q => findK q k) e
  rw [this, find_app, h, findK_cons, if_pos hk]; rfl
theorem findK_step {l : List It} {k : Int} {i : Nat} (hi : i < l.length) (h : findK (l.take i) k = none) (hk : l[i].1 ≠ k) : findK (l.take (i + 1)) k = none := by
  rw [← List.take_append_getElem hi, find_app, h, findK_cons, if_neg hk]; rfl
set_option maxRecDepth 20000 in
theorem c_find29 {l : List It} {key : Int} {q : Option Addr} {n c : Nat} {w : World} {R : Ending → World → Prop} (hl : Cs w q (its l)) (hn : l.length = n) (hm : n ≤ 1000000)
    (h : ∀ w', Ext w w' → R (.returned (.tuple #[agI (itO (findK l key)), .bool (findK l key).isSome])) w') : Calls Tryz.prog 74 #[.slice q n c, .int .i64 key] w R := by
  refine sh74_ok _ _ _ _ ?_
  unfold sh74
  refine ⟨?_⟩
  have e0 := ext_alloc w (.cells #[.int .i64 0, .int .i64 0, .int .u64 0] 93)
  have h5 := blk_alloc w #[.int .i64 0, .int .i64 0, .int .u64 0] 93
  have k5 : w.heap.size ≤ w.heap.size := Nat.le_refl _
  generalize hb : w.heap.size = b5 at h5 k5 ⊢
  generalize w.alloc (.cells #[.int .i64 0, .int .i64 0, .int .u64 0] 93) = w1 at *
  refine ⟨fun vs w' => ∃ i : Nat, vs = [.int .i64 i] ∧ i ≤ n ∧ w' = w1 ∧ findK (l.take i) key = none, fun vs _ => n - (intOf (vs.getD 0 undef)).toNat, ⟨0, rfl, by omega, rfl, rfl⟩, ?_⟩
  rintro i_ _ w2 ⟨i, hv, hi, rfl, hf⟩
  simp only [List.cons.injEq, Value.int.injEq, true_and, and_true] at hv
  subst hv
  refine ifB_intro (fun hlt => ?_) fun hge => ?_
  · have hlt : i < n := by have := of_decide_eq_true hlt; omega
    refine ix_flat ecI_len (by omega) (hl.ext e0) hn rfl hlt fun a r _ => ⟨_, r 0 _ rfl, ?_⟩
    refine ifB_intro (fun he => ?_) fun he => ?_
    · have he : (l[i]'(by omega)).1 = key := by simpa using he
      refine ix_flat ecI_len (by omega) (hl.ext e0) hn rfl hlt fun a r _ => ⟨_, r 0 _ rfl, _, r 1 _ rfl, _, r 2 _ rfl, ?_⟩
      refine do_st3 h5 fun w3 h3 g3 => ?_
      refine ⟨_, h3.cell (i := 0) (add_blk _ _) rfl, _, h3.cell (i := 1) (add_blk _ _) rfl, _, h3.cell (i := 2) (add_blk _ _) rfl, ?_⟩
      have := h w3 (e0.st g3 (by omega))
      rw [findK_at (by omega) hf he] at this
      exact this
    · have he : (l[i]'(by omega)).1 ≠ key := by simpa using he
      refine ⟨⟨i + 1, ?_, by omega, rfl, findK_step (by omega) hf he⟩, ?_⟩
      · rw [wrap_succ hlt (by omega)]
      · rw [wrap_succ hlt (by omega)]; simp [intOf]; omega
  · have hge : i = n := by have := of_decide_eq_false hge; omega
    rw [List.take_of_length_le (by omega)] at hf
    refine do_st3 h5 fun w3 h3 g3 => ?_
    refine ⟨_, h3.cell (i := 0) (add_blk _ _) rfl, _, h3.cell (i := 1) (add_blk _ _) rfl, _, h3.cell (i := 2) (add_blk _ _) rfl, ?_⟩
    have := h w3 (e0.st g3 (by omega))
    rw [hf] at this
    exact this
theorem less_take {a b : List It} {i : Nat} (hi : i < a.length) : lessL (a.take (i + 1)) b = lessL (a.take i) b ++ (if (findK b a[i].1).isNone = true then [a[i]] else []) := by
  unfold lessL
  rw [take_filt hi]
theorem meet_take {p : Int} {a b : List It} {i : Nat} (hi : i < a.length) : meetL p (a.take (i + 1)) b = meetL p (a.take i) b ++ (meetG p b a[i]).toList := by
  unfold meetL
  rw [← List.take_append_getElem hi, List.filterMap_append]
  cases h : meetG p b a[i] <;> simp [h]
set_option maxRecDepth 20000 in
theorem c_r29less {A B : List It} {q q' : Option Addr} {n c n' c' : Nat} {w : World} {R : Ending → World → Prop} (hA : Cs w q (its A)) (hn : A.length = n) (hm : n ≤ 1000000) (hB : Cs w q' (its B)) (hn' : B.length = n') (hm' : n' ≤ 1000000)
    (h : ∀ p1 n1 c1 w', OwnI w' w.heap.size p1 n1 c1 (lessL A B) → Ext w w' → R (.returned (.slice p1 n1 c1)) w') : Calls Tryz.prog 24 #[.slice q n c, .slice q' n' c'] w R := by
  refine sh24_ok _ _ _ _ _ _ ?_
  unfold sh24
  refine ⟨fun vs w' => ∃ (i n1 c1 : Nat) (p1 : Option Addr), vs = [.slice p1 n1 c1, .int .i64 i] ∧ i ≤ n ∧ Ext w w' ∧ OwnI w' w.heap.size p1 n1 c1 (lessL (A.take i) B), fun vs _ => n - (intOf (vs.getD 1 undef)).toNat,
    ⟨0, 0, 0, none, rfl, by omega, ext_refl _, ownI_nil _ _⟩, ?_⟩
  rintro op on oc i_ _ w2 ⟨i, n1, c2, p2, hv, hi, E2, h2⟩
  simp only [List.cons.injEq, Value.slice.injEq, Value.int.injEq, true_and, and_true] at hv
  obtain ⟨⟨v1, v2, v3⟩, v4⟩ := hv
  have v1 := v1.symm; subst v1
  have v2 := v2.symm; subst v2
  have v3 := v3.symm; subst v3
  have v4 := v4.symm; subst v4
  refine ifB_intro (fun hlt => ?_) fun hge => ?_
  · have hlt : i < n := by have := of_decide_eq_true hlt; omega
    have hst := less_take (a := A) (b := B) (i := i) (by omega)
    have hlen := ownI_len h2
    have hle : (lessL (A.take i) B).length ≤ i := Nat.le_trans (List.length_filter_le _ _) (by rw [List.length_take]; omega)
    intro K19
    have hK : ∀ p3 n3 c3 w3, Ext w w3 → OwnI w3 w.heap.size p3 n3 c3 (lessL (A.take (i + 1)) B) → K19 p3 n3 c3 w3 := by
      intro p3 n3 c3 w3 E3 h3
      refine ⟨⟨i + 1, n3, c3, p3, by rw [wrap_succ hlt (by omega)], by omega, E3, h3⟩, ?_⟩
      rw [wrap_succ hlt (by omega)]; simp [intOf]; omega
    refine ix_flat ecI_len (by omega) (hA.ext E2) hn rfl hlt fun a r _ => ⟨_, r 0 _ rfl, ?_⟩
    refine do_call Tryz.call74 (c_find29 (hB.ext E2) hn' hm' fun w3 e3 => retS_ret ⟨_, _, _, _, rfl, ⟨?_⟩⟩)
    refine do_st3 (blk_alloc w3 _ _) fun w4 h4 g4 => ?_
    have e4 : Ext w3 w4 := (ext_alloc w3 _).st g4 (Nat.le_refl _)
    have e24 := e3.trans e4
    cases hf : findK B (A[i]'(by omega)).1 with
    | none =>
      rw [hf] at hst
      refine ifB_t rfl ?_
      refine ix_flat ecI_len (by omega) (hA.ext (E2.trans e24)) hn rfl hlt fun a r _ => ⟨_, r 0 _ rfl, _, r 1 _ rfl, _, r 2 _ rfl, ?_⟩
      refine do_app1I (e24.row h2) (by omega) (E2.trans e24).size fun q5 c5 w5 h5 k5 _ _ => ⟨_, _, _, rfl, hK _ _ _ _ (k5 w (E2.trans e24) (Nat.le_refl _)) ?_⟩
      rw [hst]; exact h5
    | some z =>
      rw [hf] at hst
      refine ifB_f rfl (hK _ _ _ _ (E2.trans e24) ?_)
      rw [hst]
      simpa using e24.row h2
  · have hge : i = n := by have := of_decide_eq_false hge; omega
    rw [List.take_of_length_le (by omega)] at h2
    exact h _ _ _ _ h2 E2
set_option maxRecDepth 20000 in
theorem c_r29meet {p : Int} {A B : List It} {q q' : Option Addr} {n c n' c' : Nat} {w : World} {R : Ending → World → Prop} (hA : Cs w q (its A)) (hn : A.length = n) (hm : n ≤ 1000000) (hB : Cs w q' (its B)) (hn' : B.length = n') (hm' : n' ≤ 1000000)
    (h : ∀ p1 n1 c1 w', OwnI w' w.heap.size p1 n1 c1 (meetL p A B) → Ext w w' → R (.returned (.slice p1 n1 c1)) w') : Calls Tryz.prog 23 #[.int .u8 p, .slice q n c, .slice q' n' c'] w R := by
  refine sh23_ok _ _ _ _ _ _ _ ?_
  unfold sh23
  refine ⟨fun vs w' => ∃ (i n1 c1 : Nat) (p1 : Option Addr), vs = [.slice p1 n1 c1, .int .i64 i] ∧ i ≤ n ∧ Ext w w' ∧ OwnI w' w.heap.size p1 n1 c1 (meetL p (A.take i) B), fun vs _ => n - (intOf (vs.getD 1 undef)).toNat,
    ⟨0, 0, 0, none, rfl, by omega, ext_refl _, ownI_nil _ _⟩, ?_⟩
  rintro op on oc i_ _ w2 ⟨i, n1, c2, p2, hv, hi, E2, h2⟩
  simp only [List.cons.injEq, Value.slice.injEq, Value.int.injEq, true_and, and_true] at hv
  obtain ⟨⟨v1, v2, v3⟩, v4⟩ := hv
  have v1 := v1.symm; subst v1
  have v2 := v2.symm; subst v2
  have v3 := v3.symm; subst v3
  have v4 := v4.symm; subst v4
  refine ifB_intro (fun hlt => ?_) fun hge => ?_
  · have hlt : i < n := by have := of_decide_eq_true hlt; omega
    have hst := meet_take (p := p) (a := A) (b := B) (i := i) (by omega)
    have hlen := ownI_len h2
    have hle : (meetL p (A.take i) B).length ≤ i := Nat.le_trans (List.length_filterMap_le _ _) (by rw [List.length_take]; omega)
    unfold meetG at hst
    intro K20
    have hK : ∀ p3 n3 c3 w3, Ext w w3 → OwnI w3 w.heap.size p3 n3 c3 (meetL p (A.take (i + 1)) B) → K20 p3 n3 c3 w3 := by
      intro p3 n3 c3 w3 E3 h3
      refine ⟨⟨i + 1, n3, c3, p3, by rw [wrap_succ hlt (by omega)], by omega, E3, h3⟩, ?_⟩
      rw [wrap_succ hlt (by omega)]; simp [intOf]; omega
    refine ix_flat ecI_len (by omega) (hA.ext E2) hn rfl hlt fun a r _ => ⟨_, r 0 _ rfl, ?_⟩
    refine do_call Tryz.call74 (c_find29 (hB.ext E2) hn' hm' fun w3 e3 => retS_ret ⟨_, _, _, _, rfl, ⟨?_⟩⟩)
    refine do_st3 (blk_alloc w3 _ _) fun w4 h4 g4 => ?_
    have e4 : Ext w3 w4 := (ext_alloc w3 _).st g4 (Nat.le_refl _)
    have e24 := e3.trans e4
    have hbz : w2.heap.size ≤ w3.heap.size := e3.size
    cases hf : findK B (A[i]'(by omega)).1 with
    | none =>
      rw [hf] at hst
      refine ifB_f rfl (hK _ _ _ _ (E2.trans e24) ?_)
      rw [hst]
      simpa using e24.row h2
    | some z =>
      rw [hf] at hst h4
      have d := ext_drew w4
      have E5 := (E2.trans e24).trans d
      have h45 := h4.ext d
      have hC : Cs w4.drew q (its A) ∧ Blk w4.drew w3.heap.size #[.int .i64 (itO (some z)).1, .int .i64 (itO (some z)).2.1, .int .u64 (itO (some z)).2.2] 93 := ⟨hA.ext E5, h45⟩
      refine ifB_t rfl ⟨⟨fun w' => Cs w' q (its A) ∧ Blk w' w3.heap.size #[.int .i64 (itO (some z)).1, .int .i64 (itO (some z)).2.1, .int .u64 (itO (some z)).2.2] 93, hC, ?_⟩⟩
      refine ix_flatC (C := fun w' => Cs w' q (its A) ∧ Blk w' w3.heap.size #[.int .i64 (itO (some z)).1, .int .i64 (itO (some z)).2.1, .int .u64 (itO (some z)).2.2] 93) ecI_len (by omega) (fun _ hc => hc.1) hC hn rfl hlt fun a1 r1 => ⟨_, fun w' hc => r1 w' hc 0 _ rfl, ?_⟩
      refine ix_flatC (C := fun w' => Cs w' q (its A) ∧ Blk w' w3.heap.size #[.int .i64 (itO (some z)).1, .int .i64 (itO (some z)).2.1, .int .u64 (itO (some z)).2.2] 93) ecI_len (by omega) (fun _ hc => hc.1) hC hn rfl hlt fun a2 r2 => ⟨_, fun w' hc => r2 w' hc 1 _ rfl, _, fun w' hc => hc.2.cell (i := 1) (add_blk _ _) rfl, ?_⟩
      refine ix_flatC (C := fun w' => Cs w' q (its A) ∧ Blk w' w3.heap.size #[.int .i64 (itO (some z)).1, .int .i64 (itO (some z)).2.1, .int .u64 (itO (some z)).2.2] 93) ecI_len (by omega) (fun _ hc => hc.1) hC hn rfl hlt fun a3 r3 => ⟨_, fun w' hc => r3 w' hc 2 _ rfl, ?_⟩
      refine do_call Tryz.call75 (c_rcomb (retS_ret ⟨_, rfl, hC, ⟨?_⟩⟩))
      generalize hx : ((A[i]'(by omega)).1, comb p (A[i]'(by omega)).2.1 z.2.1, (A[i]'(by omega)).2.2) = x at hst
      have e6 := ext_alloc w4.drew (.cells #[.int .i64 x.1, .int .i64 x.2.1, .int .u64 x.2.2] 93)
      have c6 : Cs (w4.drew.alloc (.cells #[.int .i64 x.1, .int .i64 x.2.1, .int .u64 x.2.2] 93)) (some (blk w4.drew.heap.size)) (its [x]) := cs_it (blk_alloc w4.drew _ _)
      have r6 := e6.row (d.row (e24.row h2))
      have E6 := E5.trans e6
      subst hx
      refine ⟨⟨hA.ext E6, h45.ext e6⟩, ?_⟩
      refine do_app elIt r6 (m := 1) c6 (by rw [its_length]; rfl) its_one (by simp only [maxLen]; omega) (by omega) E6.size fun q7 c7 w7 h7 g7 => retS_ret ⟨_, _, _, rfl, ?_⟩
      have E7 : Ext w w7 := extI_own r6 E6 g7 (Nat.le_refl _)
      have hne : some w3.heap.size ≠ (Value.slice p2 n1 c2).ownBlock := fun e => by
        have := (World.ownsRow.lt h2 w3.heap.size e.symm).2
        omega
      refine ⟨⟨hA.ext E7, (h45.ext e6).grown g7 hne⟩, hK _ _ _ _ E7 ?_⟩
      rw [hst]
      show w7.ownsRow _ _ _ _ _ (its _)
      rw [its_append]
      exact h7
  · have hge : i = n := by have := of_decide_eq_false hge; omega
    rw [List.take_of_length_le (by omega)] at h2
    exact h _ _ _ _ h2 E2
set_option maxRecDepth 20000 in
theorem c_r29apart {o : Int} {A B : List It} {q q' : Option Addr} {n c n' c' : Nat} {w : World} {R : Ending → World → Prop} (hA : Cs w q (its A)) (hn : A.length = n) (hB : Cs w q' (its B)) (hn' : B.length = n') (hm : n + n' ≤ 100000) (hIA : InI A) (hIB : InI B)
    (h : ∀ p1 n1 c1 w', OwnI w' w.heap.size p1 n1 c1 (apartL o A B) → Ext w w' → R (.returned (.slice p1 n1 c1)) w') : Calls Tryz.prog 25 #[.int .u8 o, .slice q n c, .slice q' n' c'] w R := by
  refine sh25_ok _ _ _ _ _ _ _ ?_
  unfold sh25
  have la : (lessL A B).length ≤ n := by rw [← hn]; exact List.length_filter_le _ _
  have lb : (lessL B A).length ≤ n' := by rw [← hn']; exact List.length_filter_le _ _
  refine do_call Tryz.call24 (c_r29less hA hn (by omega) hB hn' (by omega) fun p1 n1 c1 w1 h1 e1 => retS_ret ⟨_, _, _, rfl, ?_⟩)
  refine do_call Tryz.call24 (c_r29less (hB.ext e1) hn' (by omega) (hA.ext e1) hn (by omega) fun p2 n2 c2 w2 h2 e2 => retS_ret ⟨_, _, _, rfl, ?_⟩)
  have hn2 := ownI_len h2
  have hcs := ownI_cs h2
  refine ⟨fun vs w' => ∃ (i n3 c3 : Nat) (p3 : Option Addr), vs = [.slice p3 n3 c3, .int .i64 i] ∧ i ≤ n2 ∧ Ext w w' ∧ Cs w' p2 (its (lessL B A)) ∧ OwnI w' w.heap.size p3 n3 c3 (foldI o 1 (lessL A B) ((lessL B A).take i)), fun vs _ => n2 - (intOf (vs.getD 1 undef)).toNat,
    ⟨0, _, _, _, rfl, by omega, e1.trans e2, hcs, e2.row h1⟩, ?_⟩
  rintro op on oc i_ _ w3 ⟨i, n3, c3, p3, hv, hi, E3, hc3, h3⟩
  simp only [List.cons.injEq, Value.slice.injEq, Value.int.injEq, true_and, and_true] at hv
  obtain ⟨⟨v1, v2, v3⟩, v4⟩ := hv
  have v1 := v1.symm; subst v1
  have v2 := v2.symm; subst v2
  have v3 := v3.symm; subst v3
  have v4 := v4.symm; subst v4
  refine ifB_intro (fun hlt => ?_) fun hge => ?_
  · have hlt : i < n2 := by have := of_decide_eq_true hlt; omega
    refine ix_flat ecI_len (by omega) hc3 hn2 rfl hlt fun a r _ => ⟨_, r 0 _ rfl, _, r 1 _ rfl, _, r 2 _ rfl, ?_⟩
    have hlen := ownI_len h3
    have hfl := foldI_len (o := o) (p := 1) (b := (lessL B A).take i) (l := lessL A B)
    rw [List.length_take] at hfl
    have hin : InI (foldI o 1 (lessL A B) ((lessL B A).take i)) := foldI_all (P := fun a _ => In a) (fun y hy => hIA y (mem_less hy)) fun y hy => hIB y (mem_less (List.mem_of_mem_take hy))
    refine do_call Tryz.call76 (c_r26insert (x := (lessL B A)[i]'(by omega)) (p := 1) (hIB _ (mem_less (List.getElem_mem _))) (ownI_cs h3) hlen (by omega) hin fun p4 n4 c4 w4 h4 e4 => retS_ret ⟨_, _, _, _, _, rfl, ⟨i + 1, n4, c4, p4, ?_, by omega, E3.trans e4, hc3.ext e4, ?_⟩, ?_⟩)
    · rw [wrap_succ hlt (by omega)]
    · rw [← List.take_append_getElem (by omega), foldI_app]
      exact rowI_to h4 (ext_refl _) E3.size
    · rw [wrap_succ hlt (by omega)]; simp [intOf]; omega
  · have hge : i = n2 := by have := of_decide_eq_false hge; omega
    rw [List.take_of_length_le (by omega)] at h3
    exact h _ _ _ _ h3 E3
theorem c_r29within {A B : List It} {q q' : Option Addr} {n c n' c' : Nat} {w : World} {R : Ending → World → Prop} (hA : Cs w q (its A)) (hn : A.length = n) (hm : n ≤ 1000000) (hB : Cs w q' (its B)) (hn' : B.length = n') (hm' : n' ≤ 1000000)
    (h : ∀ w', Ext w w' → R (.returned (.bool (lessL A B).isEmpty)) w') : Calls Tryz.prog 21 #[.slice q n c, .slice q' n' c'] w R := by
  refine sh21_ok _ _ _ _ _ _ ?_
  unfold sh21
  refine do_call Tryz.call24 (c_r29less hA hn hm hB hn' hm' fun p1 n1 c1 w1 h1 e1 => retS_ret ⟨_, _, _, rfl, ?_⟩)
  have hl := ownI_len h1
  have := h w1 e1
  have e : (lessL A B).isEmpty = (((n1 : Nat) : Int) == 0) := by
    cases hq : lessL A B with
    | nil => rw [hq] at hl; simp at hl; subst hl; rfl
    | cons x xs => rw [hq] at hl; simp at hl; subst hl; simp; omega
  rw [e] at this
  exact this
end Go.Proofs.YtbaoihmffobneaaGreat
