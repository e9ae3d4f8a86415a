/-
  slices.SortStableFunc over pairs, part 4: the whole.
-/
import Derived.Test.YtinkkhcffoikmaaSort3
namespace Go.Proofs.Ytinkkhcffoikmaa
open Go Go.Sh Go.RowKit

/-- parts of s elements, each sorted -/
def Bks (o : Int) (s : Nat) (l : List Pr) : Prop := ∀ i, Srt o ((l.drop (i * s)).take s)
theorem bks_snoc {o : Int} {s t : Nat} {D X : List Pr} (hD : Bks o s D) (hl : D.length = t * s) (hX : Srt o X) (hXl : X.length ≤ s) : Bks o s (D ++ X) := by
  intro i
  rcases Nat.lt_trichotomy i t with h | h | h
  · have h1 : i * s + s ≤ D.length := by rw [hl, ← Nat.succ_mul]; exact Nat.mul_le_mul_right s h
    rw [List.drop_append_of_le_length (by omega), List.take_append_of_le_length (by rw [List.length_drop]; omega)]
    exact hD i
  · subst h
    rw [← hl, List.drop_left, List.take_of_length_le hXl]
    exact hX
  · have h1 : D.length + X.length ≤ i * s := by
      have : (t + 1) * s ≤ i * s := Nat.mul_le_mul_right s h
      rw [Nat.succ_mul] at this; omega
    rw [List.drop_of_length_le (by simp; omega)]; simp
theorem bks_drop {o : Int} {s : Nat} {T : List Pr} (h : Bks o s T) (k : Nat) : Bks o s (T.drop (k * s)) := fun i => by
  rw [List.drop_drop, ← Nat.add_mul]; exact h (k + i)
theorem bks_all {o : Int} {s : Nat} {T : List Pr} (h : Bks o s T) (hl : T.length ≤ s) : Srt o T := by
  have := h 0
  rw [Nat.zero_mul, List.drop_zero, List.take_of_length_le hl] at this; exact this
theorem bks_nil (o : Int) (s : Nat) : Bks o s [] := fun i => by simp
set_option maxRecDepth 20000 in
theorem c_stable {o : Int} {w0 : World} {B : Nat} {p : Option Addr} {n c : Nat} {f : Fn} {fx fc : Array Value} (hB : w0.heap.size ≤ B) (hm : n ≤ 1000000000) (hcmp : Cmp o w0 f fx fc) (hO : isO o = true) {l : List Pr} {w : World} {R : Ending → World → Prop}
    (hw : Rw w0 B p n c w l) (h : ∀ w' l', Srt o l' → Stab l' l → Rw w0 B p n c w' l' → R (.returned (.tuple #[])) w') :
    Calls Try.prog 133 #[.slice p n c, .int .i64 (n : Nat), .func f fx fc] w R := by
  refine sh133_ok _ _ _ _ _ _ _ ?_
  unfold sh133
  have hln := hw.len
  have hm' : n ≤ 1000000000000 := by omega
  refine ⟨fun vs w' => ∃ (t : Nat) (D D0 T : List Pr), vs = [.int .i64 (t * 20 : Nat), .int .i64 (t * 20 + 20 : Nat)] ∧ l = D0 ++ T ∧ D.length = t * 20 ∧ t * 20 ≤ n ∧ D0.length = t * 20 ∧ Bks o 20 D ∧ Stab D D0 ∧ Rw w0 B p n c w' (D ++ T), fun vs _ => n + 20 - (intOf (vs.getD 0 undef)).toNat,
    ⟨0, [], [], l, rfl, rfl, rfl, by omega, rfl, bks_nil _ _, Stab.refl _, hw⟩, ?_⟩
  rintro a' b' _ w1 ⟨t, D, D0, T, hv, hl, hDl, htn, hD0, hbk, hst, hr⟩
  simp only [List.cons.injEq, Value.int.injEq, true_and, and_true] at hv
  obtain ⟨rfl, rfl⟩ := hv
  have hTl : T.length = n - t * 20 := by have := congrArg List.length hl; rw [hln, List.length_append] at this; omega
  refine ifB_intro (fun hle => ?_) fun hgt => ?_
  · have hle : t * 20 + 20 ≤ n := by have := of_decide_eq_true hle; omega
    have hsp : T.take 20 ++ T.drop 20 = T := List.take_append_drop _ _
    have ht20 : (T.take 20).length = 20 := by rw [List.length_take]; omega
    rw [← hsp] at hr
    refine do_call Try.call160 (c_insertion hB hm' hcmp hO (a := t * 20) (b := t * 20 + 20) hr (by omega) (by omega) fun w2 X' hs hst' hr2 => retS_ret ⟨rfl, ⟨t + 1, D ++ X', D0 ++ T.take 20, T.drop 20, ?_, ?_, ?_, by omega, ?_, ?_, hst.app hst', by simpa using hr2⟩, ?_⟩)
    · have e : IntKind.wrap .i64 (((t * 20 + 20 : Nat) : Int) + 20) = (((t + 1) * 20 + 20 : Nat) : Int) := by rw [wrap_of (by omega) (by omega)]; omega
      rw [e, show t * 20 + 20 = (t + 1) * 20 by omega]
    · rw [List.append_assoc, hsp]; exact hl
    · have := hr2.len; simp at this ⊢; omega
    · simp; omega
    · exact bks_snoc hbk hDl hs (by have := hr2.len; simp at this; omega)
    · simp [intOf]; omega
  have hgt : n < t * 20 + 20 := by have := of_decide_eq_false hgt; omega
  have hr' : Rw w0 B p n c w1 (D ++ (T ++ [])) := by simpa using hr
  refine do_call Try.call160 (c_insertion hB hm' hcmp hO (a := t * 20) (b := n) hr' (by omega) (by omega) fun w2 X' hs hst' hr2 => retS_ret ⟨rfl, ?_⟩)
  rw [List.append_nil] at hr2
  have hX'l : X'.length ≤ 20 := by have := hr2.len; simp at this; omega
  have hbk2 : Bks o 20 (D ++ X') := bks_snoc hbk hDl hs hX'l
  have hst2 : Stab (D ++ X') l := by rw [hl]; exact hst.app hst'
  -- ever greater parts
  refine ⟨fun vs w' => ∃ (bs : Nat) (q : List Pr), vs = [.int .i64 (bs : Nat)] ∧ 1 ≤ bs ∧ bs ≤ 2 * n + 20 ∧ Bks o bs q ∧ Stab q l ∧ Rw w0 B p n c w' q, fun vs _ => 2 * n + 40 - (intOf (vs.getD 0 undef)).toNat, ⟨20, _, rfl, by omega, by omega, hbk2, hst2, hr2⟩, ?_⟩
  rintro bs' _ w3 ⟨bs, q, hv, hbs1, hbs2, hbq, hsq, hr3⟩
  simp only [List.cons.injEq, Value.int.injEq, true_and, and_true] at hv
  subst hv
  have hql := hr3.len
  refine ifB_intro (fun hlt => ?_) fun hge => ?_
  rotate_left
  · have hge : n ≤ bs := by have := of_decide_eq_false hge; omega
    exact h w3 q (bks_all hbq (by omega)) hsq hr3
  have hlt : bs < n := by have := of_decide_eq_true hlt; omega
  have e2 : IntKind.wrap .i64 (2 * (bs : Int)) = ((2 * bs : Nat) : Int) := by rw [wrap_of (by omega) (by omega)]; omega
  have e3 : IntKind.wrap .i64 ((bs : Int) * 2) = ((2 * bs : Nat) : Int) := by rw [wrap_of (by omega) (by omega)]; omega
  rw [e2]
  refine ⟨fun vs w' => ∃ (t : Nat) (D D0 T : List Pr), vs = [.int .i64 (t * (2 * bs) : Nat), .int .i64 (t * (2 * bs) + 2 * bs : Nat)] ∧ q = D0 ++ T ∧ D.length = t * (2 * bs) ∧ t * (2 * bs) ≤ n ∧ D0.length = t * (2 * bs) ∧ Bks o (2 * bs) D ∧ Bks o bs T ∧ Stab D D0 ∧ Rw w0 B p n c w' (D ++ T), fun vs _ => n + 2 * bs - (intOf (vs.getD 0 undef)).toNat,
    ⟨0, [], [], q, by rw [Nat.zero_mul, Nat.zero_add]; rfl, rfl, by simp, by omega, by simp, bks_nil _ _, hbq, Stab.refl _, hr3⟩, ?_⟩
  rintro a' b' _ w4 ⟨t, D, D0, T, hv, hl, hDl, htn, hD0, hbk, hbT, hst, hr⟩
  simp only [List.cons.injEq, Value.int.injEq, true_and, and_true] at hv
  obtain ⟨rfl, rfl⟩ := hv
  obtain ⟨tb, htb⟩ : ∃ tb, tb = t * (2 * bs) := ⟨_, rfl⟩
  have htb1 : (t + 1) * (2 * bs) = tb + 2 * bs := by rw [Nat.add_mul t 1 (2 * bs), Nat.one_mul, ← htb]
  rw [← htb] at hDl htn hD0 ⊢
  have hTl : T.length = n - tb := by have := congrArg List.length hl; rw [hql, List.length_append] at this; omega
  refine ifB_intro (fun hle => ?_) fun hgt => ?_
  · have hle : tb + 2 * bs ≤ n := by have := of_decide_eq_true hle; omega
    have hs1 : T.take bs ++ ((T.drop bs).take bs ++ T.drop (2 * bs)) = T := by
      rw [show T.drop (2 * bs) = (T.drop bs).drop bs by rw [List.drop_drop, show bs + bs = 2 * bs by omega], List.take_append_drop, List.take_append_drop]
    have l1 : (T.take bs).length = bs := by rw [List.length_take]; omega
    have l2 : ((T.drop bs).take bs).length = bs := by rw [List.length_take, List.length_drop]; omega
    have ea : IntKind.wrap .i64 ((tb : Int) + (bs : Int)) = ((tb + bs : Nat) : Int) := by rw [wrap_of (by omega) (by omega)]; omega
    rw [ea]
    rw [← hs1] at hr
    have hsA : Srt o (T.take bs) := by have := hbT 0; simpa using this
    have hsB : Srt o ((T.drop bs).take bs) := by have := hbT 1; simpa using this
    refine do_call Try.call161 (c_symMerge hB hm' hcmp hO (2 * bs) (L := D) (X := T.take bs) (Y := (T.drop bs).take bs) (S := T.drop (2 * bs)) (a := tb) (m := tb + bs) (b := tb + 2 * bs) (by omega) hr hsA hsB (by omega) (by omega) (by omega) (by omega) (by omega) fun w5 M g1 g2 g3 g4 => retS_ret ⟨rfl, ⟨t + 1, D ++ M, D0 ++ (T.take bs ++ (T.drop bs).take bs), T.drop (2 * bs), ?_, ?_, ?_, ?_, ?_, ?_, ?_, hst.app g2, by simpa using g4⟩, ?_⟩)
    · have e : IntKind.wrap .i64 (((tb + 2 * bs : Nat) : Int) + ((2 * bs : Nat) : Int)) = (((t + 1) * (2 * bs) + 2 * bs : Nat) : Int) := by
        rw [htb1, wrap_of (by omega) (by omega)]; omega
      rw [e, htb1]
    · rw [List.append_assoc, List.append_assoc, hs1]; exact hl
    · rw [htb1]; simp; omega
    · rw [htb1]; omega
    · rw [htb1]; simp; omega
    · exact bks_snoc hbk (by rw [hDl, htb]) g1 (by omega)
    · exact bks_drop hbT 2
    · simp [intOf]; omega
  have hgt : n < tb + 2 * bs := by have := of_decide_eq_false hgt; omega
  have ea : IntKind.wrap .i64 ((tb : Int) + (bs : Int)) = ((tb + bs : Nat) : Int) := by rw [wrap_of (by omega) (by omega)]; omega
  rw [ea, e3]
  -- the rest
  have hK : ∀ {w' : World} {T' : List Pr}, Srt o T' → Stab T' T → T'.length = T.length → Rw w0 B p n c w' (D ++ T') →
      (∃ (bs2 : Nat) (q : List Pr), [Value.int .i64 ((2 * bs : Nat) : Int)] = [.int .i64 (bs2 : Nat)] ∧ 1 ≤ bs2 ∧ bs2 ≤ 2 * n + 20 ∧ Bks o bs2 q ∧ Stab q l ∧ Rw w0 B p n c w' q) ∧
        2 * n + 40 - (intOf (([Value.int .i64 ((2 * bs : Nat) : Int)] : List Value).getD 0 undef)).toNat < 2 * n + 40 - (intOf (([Value.int .i64 (bs : Int)] : List Value).getD 0 undef)).toNat := by
    intro w' T' g1 g2 g3 g4
    refine ⟨⟨2 * bs, D ++ T', rfl, by omega, by omega, bks_snoc hbk (by rw [hDl, htb]) g1 (by omega), ?_, g4⟩, ?_⟩
    · have := hst.app g2
      rw [← hl] at this
      exact this.trans hsq
    · simp [intOf]; omega
  refine ifB_intro (fun hlt2 => ?_) fun hge2 => ?_
  · have hlt2 : tb + bs < n := by have := of_decide_eq_true hlt2; omega
    have l1 : (T.take bs).length = bs := by rw [List.length_take]; omega
    have l2 : (T.drop bs).length = n - tb - bs := by rw [List.length_drop]; omega
    have hs1 : T.take bs ++ (T.drop bs ++ []) = T := by rw [List.append_nil, List.take_append_drop]
    rw [← hs1] at hr
    have hsA : Srt o (T.take bs) := by have := hbT 0; simpa using this
    have hsB : Srt o (T.drop bs) := bks_all (by have := bks_drop hbT 1; simpa using this) (by omega)
    refine do_call Try.call161 (c_symMerge hB hm' hcmp hO n (L := D) (X := T.take bs) (Y := T.drop bs) (S := []) (a := tb) (m := tb + bs) (b := n) (by omega) hr hsA hsB (by omega) (by omega) (by omega) (by omega) (by omega) fun w5 M g1 g2 g3 g4 => retS_ret ⟨rfl, hK (T' := M) g1 (by rw [List.take_append_drop] at g2; exact g2) (by omega) (by simpa using g4)⟩)
  · have hge2 : n ≤ tb + bs := by have := of_decide_eq_false hge2; omega
    exact hK (T' := T) (bks_all hbT (by omega)) (Stab.refl _) rfl hr
theorem c_sortStable {o : Int} {w0 : World} {B : Nat} {p : Option Addr} {n c : Nat} {f : Fn} {fx fc : Array Value} (hB : w0.heap.size ≤ B) (hm : n ≤ 1000000000) (hcmp : Cmp o w0 f fx fc) (hO : isO o = true) {l : List Pr} {w : World} {R : Ending → World → Prop}
    (hw : Rw w0 B p n c w l) (h : ∀ w' l', Srt o l' → Stab l' l → Rw w0 B p n c w' l' → R (.returned (.tuple #[])) w') :
    Calls Try.prog 104 #[.slice p n c, .func f fx fc] w R := by
  refine sh104_ok _ _ _ _ _ _ ?_
  unfold sh104
  exact do_call Try.call133 (c_stable hB hm hcmp hO hw fun w2 l' g1 g2 g3 => retS_ret ⟨rfl, h w2 l' g1 g2 g3⟩)
end Go.Proofs.Ytinkkhcffoikmaa
