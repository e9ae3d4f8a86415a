/-
  slices.SortStableFunc over pairs, part 2: insertion, merge, the whole.
-/
import Derived.Test.YtinkkhcffoikmaaSort
namespace Go.Proofs.Ytinkkhcffoikmaa
open Go Go.Sh Go.RowKit

theorem last_split {l : List Pr} (h : 0 < l.length) : ∃ u z, l = u ++ [z] := by
  have hne : l ≠ [] := by intro e; subst e; simp at h
  exact ⟨l.dropLast, l.getLast hne, (List.dropLast_concat_getLast hne).symm⟩
set_option maxRecDepth 20000 in
theorem c_insertion {o : Int} {w0 : World} {B : Nat} {p : Option Addr} {n c : Nat} {f : Fn} {fx fc : Array Value} (hB : w0.heap.size ≤ B) (hm : n ≤ 1000000000000) (hcmp : Cmp o w0 f fx fc) (hO : isO o = true) {L X S : List Pr} {a b : Nat} {w : World} {R : Ending → World → Prop}
    (hw : Rw w0 B p n c w (L ++ (X ++ S))) (ha : a = L.length) (hb : b = L.length + X.length)
    (h : ∀ w' X', Srt o X' → Stab X' X → Rw w0 B p n c w' (L ++ (X' ++ S)) → R (.returned (.tuple #[])) w') :
    Calls Try.prog 160 #[.slice p n c, .int .i64 (a : Nat), .int .i64 (b : Nat), .func f fx fc] w R := by
  refine sh160_ok _ _ _ _ _ _ _ _ ?_
  unfold sh160
  have hlen := hw.len
  simp only [List.length_append] at hlen
  refine ⟨fun vs w' => ∃ (i : Nat) (Xp Y M : List Pr), vs = [.int .i64 i] ∧ X = Xp ++ Y ∧ Srt o M ∧ Stab M Xp ∧ M.length = Xp.length ∧ Rw w0 B p n c w' (L ++ (M ++ (Y ++ S))) ∧ ((i = a + Xp.length ∧ 0 < Xp.length) ∨ (X = [] ∧ i = a + 1)), fun vs _ => n + 2 - (intOf (vs.getD 0 undef)).toNat, ?_, ?_⟩
  · have e : IntKind.wrap .i64 ((a : Int) + 1) = ((a + 1 : Nat) : Int) := by rw [wrap_of (by omega) (by omega)]; omega
    rw [e]
    cases X with
    | nil => exact ⟨a + 1, [], [], [], rfl, rfl, List.Pairwise.nil, Stab.refl _, rfl, hw, .inr ⟨rfl, rfl⟩⟩
    | cons x xs => exact ⟨a + 1, [x], xs, [x], rfl, rfl, List.pairwise_singleton _ _, Stab.refl _, rfl, hw, .inl ⟨rfl, by simp⟩⟩
  rintro i' _ w1 ⟨i, Xp, Y, M, hv, hX, hsM, hstM, hMl, hr, hi⟩
  simp only [List.cons.injEq, Value.int.injEq, true_and, and_true] at hv
  subst hv
  have hXl : X.length = Xp.length + Y.length := by rw [hX, List.length_append]
  refine ifB_intro (fun hlt => ?_) fun hge => ?_
  rotate_left
  · have hge : b ≤ i := by have := of_decide_eq_false hge; omega
    have hY : Y = [] := by
      rcases hi with ⟨h1, h2⟩ | ⟨h1, h2⟩
      · exact List.eq_nil_of_length_eq_zero (by omega)
      · rw [h1] at hXl; exact List.eq_nil_of_length_eq_zero (by simp at hXl; omega)
    subst hY
    rw [List.append_nil] at hX
    subst hX
    exact h w1 M hsM hstM (by simpa using hr)
  have hlt : i < b := by have := of_decide_eq_true hlt; omega
  have hia : i = a + Xp.length ∧ 0 < Xp.length := by
    rcases hi with h1 | ⟨h1, h2⟩
    · exact h1
    · rw [h1] at hb; simp at hb; omega
  obtain ⟨hia, hpos⟩ := hia
  obtain ⟨x, Y', rfl⟩ : ∃ x Y', Y = x :: Y' := by
    cases Y with
    | nil => simp at hXl; omega
    | cons x Y' => exact ⟨x, Y', rfl⟩
  have hxI : In x.1 := hr.keys x (by simp)
  have ei : IntKind.wrap .i64 ((i : Int) + 1) = ((i + 1 : Nat) : Int) := wrap_succ (n := n) (by omega) (by omega)
  rw [ei]
  -- behind a round
  have hK : ∀ {w' : World} {M1 M2 : List Pr}, M = M1 ++ M2 → (∀ y ∈ M2, codeI o x.1 < codeI o y.1) → (∀ y ∈ M1, codeI o y.1 ≤ codeI o x.1) → Rw w0 B p n c w' (L ++ (M1 ++ x :: (M2 ++ (Y' ++ S)))) →
      (∃ (i2 : Nat) (Xp Y M : List Pr), [Value.int .i64 ((i + 1 : Nat) : Int)] = [.int .i64 (i2 : Nat)] ∧ X = Xp ++ Y ∧ Srt o M ∧ Stab M Xp ∧ M.length = Xp.length ∧ Rw w0 B p n c w' (L ++ (M ++ (Y ++ S))) ∧ ((i2 = a + Xp.length ∧ 0 < Xp.length) ∨ (X = [] ∧ i2 = a + 1))) ∧
        n + 2 - (intOf (([Value.int .i64 ((i + 1 : Nat) : Int)] : List Value).getD 0 undef)).toNat < n + 2 - (intOf (([Value.int .i64 (i : Int)] : List Value).getD 0 undef)).toNat := by
    intro w' M1 M2 hM h2 h1 hrw
    have hs := hsM
    rw [hM, srt_app] at hs
    refine ⟨⟨i + 1, Xp ++ [x], Y', M1 ++ x :: M2, rfl, by rw [hX]; simp, ?_, ?_, ?_, ?_, .inl ⟨?_, ?_⟩⟩, ?_⟩
    · rw [srt_app]
      refine ⟨hs.1, List.Pairwise.cons (fun y hy => by have := h2 y hy; omega) hs.2.1, fun y hy z hz => ?_⟩
      rcases List.mem_cons.1 hz with rfl | hz
      · exact h1 y hy
      · exact hs.2.2 y hy z hz
    · have e1 : Stab (M1 ++ ([x] ++ M2)) (M1 ++ (M2 ++ [x])) := (Stab.refl M1).app (stab_swap fun y hy z hz => by simp at hz; subst hz; exact h2 y hy)
      have e2 : Stab (M1 ++ (M2 ++ [x])) (Xp ++ [x]) := by rw [← List.append_assoc, ← hM]; exact hstM.app (Stab.refl _)
      exact e1.trans e2
    · have := congrArg List.length hM
      simp only [List.length_append, List.length_cons, List.length_nil] at this ⊢
      omega
    · rw [List.append_assoc, List.cons_append]; exact hrw
    · simp; omega
    · simp
    · simp [intOf]; omega
  refine ⟨fun vs w' => ∃ M1 M2 : List Pr, vs = [.int .i64 (a + M1.length : Nat)] ∧ M = M1 ++ M2 ∧ (∀ y ∈ M2, codeI o x.1 < codeI o y.1) ∧ Rw w0 B p n c w' (L ++ (M1 ++ x :: (M2 ++ (Y' ++ S)))), fun vs _ => (intOf (vs.getD 0 undef)).toNat,
    ⟨M, [], by rw [hMl, hia], by simp, by simp, by simpa using hr⟩, ?_⟩
  rintro j _ w2 ⟨M1, M2, hv, hM, h2, hr2⟩
  simp only [List.cons.injEq, Value.int.injEq, true_and, and_true] at hv
  subst hv
  have hlen2 := hr2.len
  simp only [List.length_append, List.length_cons] at hlen2
  have hsM' := hsM
  rw [hM, srt_app] at hsM'
  refine ⟨⟨fun w' => Ext w2 w', ext_drew _, ?_⟩⟩
  refine ifB_intro (fun hgt => ?_) fun hle => ?_
  rotate_left
  · have h0 : M1 = [] := List.eq_nil_of_length_eq_zero (by have := of_decide_eq_false hle; omega)
    have hr3 : Rw w0 B p n c w2.drew (L ++ (M1 ++ x :: (M2 ++ (Y' ++ S)))) := ⟨row_to hr2.own (ext_drew _) (Nat.le_refl _), hr2.ext.drew, hr2.keys⟩
    exact hK hM h2 (by rw [h0]; intro y hy; cases hy) hr3
  have hgt : 0 < M1.length := by have := of_decide_eq_true hgt; omega
  obtain ⟨u, z, rfl⟩ := last_split hgt
  simp only [List.length_append, List.length_cons, List.length_nil] at hlen2
  have ed : L ++ ((u ++ [z]) ++ x :: (M2 ++ (Y' ++ S))) = (L ++ u) ++ z :: ([] ++ x :: (M2 ++ (Y' ++ S))) := by simp
  rw [ed] at hr2
  have ej : IntKind.wrap .i64 (((a + (u ++ [z]).length : Nat) : Int) - 1) = ((a + u.length : Nat) : Int) := by
    rw [List.length_append, List.length_singleton, wrap_of (by omega) (by omega)]; omega
  rw [ej]
  have ej' : a + (u ++ [z]).length = a + u.length + 1 := by rw [List.length_append, List.length_singleton]; omega
  rw [ej']
  have hln := hr2.len
  have g1 : ((L ++ u) ++ z :: ([] ++ x :: (M2 ++ (Y' ++ S))))[a + u.length]'(by rw [hln]; omega) = z := by
    rw [List.getElem_append_right (by simp; omega)]; simp [ha]
  have g2 : ((L ++ u) ++ z :: ([] ++ x :: (M2 ++ (Y' ++ S))))[a + u.length + 1]'(by rw [hln]; omega) = x := by
    rw [List.getElem_append_right (by simp; omega)]; simp [ha, show L.length + u.length + 1 - (L.length + u.length) = 1 by omega]
  have hC : ∀ w', Ext w2 w' → Cs w' p (prs ((L ++ u) ++ z :: ([] ++ x :: (M2 ++ (Y' ++ S))))) := fun w' e => (ownP_cs hr2.own).ext e
  have hzI : In z.1 := hr2.keys z (by simp)
  refine ix_prC hC (ext_refl _) hln (k := a + u.length + 1) rfl (by omega) fun q r1 r2 => ⟨_, r1, _, r2, ?_⟩
  refine ix_prC hC (ext_refl _) hln (k := a + u.length) rfl (by omega) fun q r3 r4 => ⟨_, r3, _, r4, ?_⟩
  rw [g1, g2]
  refine hcmp x z hxI hzI w2.drew hr2.ext.drew _ fun w3 e3 => retS_ret ⟨_, rfl, ?_⟩
  have hr3 : Rw w0 B p n c w3 ((L ++ u) ++ z :: ([] ++ x :: (M2 ++ (Y' ++ S)))) := ⟨row_to hr2.own ((ext_drew _).trans e3) (Nat.le_refl _), hr2.ext.trans ((ext_drew _).trans e3), hr2.keys⟩
  refine ifB_intro (fun hc => ?_) fun hc => ?_
  · have hc : codeI o x.1 < codeI o z.1 := (cmp_lt hO).1 (of_decide_eq_true hc)
    refine do_swap hr3.own (x := a + u.length + 1) (y := a + u.length) rfl rfl (by omega) (by omega) fun w4 ho4 g4 => ?_
    rw [(swap_lists (x := a + u.length) (y := a + u.length + 1) (by simp; omega) (by simp; omega) (by rw [hln]; omega) (by rw [hln]; omega)).2] at ho4
    refine ⟨⟨u, z :: M2, rfl, by rw [hM]; simp, fun y hy => ?_, ⟨?_, ext_own hr3.own hr3.ext g4 hB, fun y hy => hr3.keys y ?_⟩⟩, ?_⟩
    · rcases List.mem_cons.1 hy with rfl | hy
      · exact hc
      · exact h2 y hy
    · simpa using ho4
    · simp only [List.mem_append, List.mem_cons, List.not_mem_nil, false_or] at hy ⊢
      rcases hy with h | h | h | (h | h) | h | h <;> simp [h]
    · simp [intOf]; omega
  · have hc : codeI o z.1 ≤ codeI o x.1 := by
      have := of_decide_eq_false hc
      rw [cmp_lt hO] at this; omega
    refine hK hM h2 (fun y hy => ?_) (by rw [ed]; exact hr3)
    rcases List.mem_append.1 hy with h | h
    · have := (srt_app.1 hsM'.1).2.2 y h z (by simp); omega
    · simp at h; subst h; exact hc
end Go.Proofs.Ytinkkhcffoikmaa
