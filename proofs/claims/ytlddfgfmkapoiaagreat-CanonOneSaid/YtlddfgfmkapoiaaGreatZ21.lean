/-
  slices.SortStableFunc over pairs, part 4: the whole.
-/
/-
  Rows as sets: plain laws, and what the functions of rowset do: both, some.
-/
/-
  What 'some' of rowset does.
-/
/-
  What Union, Meet, Less, Apart, Range and Cut of rowset do.
-/
/-
  Rows as sets: plain laws of what is looked up, of the walk over two rows, and of sorting.
-/
/-
  What Sort of rowset does.
-/
/-
  edit: an item put in, or taken out; the document's answers of layer 26.
-/
/-
  The document's answers of layer 26; the chapter's examples.
-/
/-
  Two rows of items made one. Plain.
-/
import Derived.Test.YtlddfgfmkapoiaaGreatZ20
import Derived.Test.YtlddfgfmkapoiaaGreatZ18

namespace Go.Proofs.YtlddfgfmkapoiaaGreat
open Go Go.Sh Go.RowKit

/-- parts of s elements, each sorted -/
def Bks (o : Int) (s : Nat) (l : List Pr) : Prop := ∀ i, Srt o ((l.drop (i * s)).take s)
theorem bks_snoc {o : Int} {s t : Nat} {D X : List Pr} (hD : Bks o s D) (hl : D.length = t * s) (hX : Srt o X) (hXl : X.length ≤ s) : Bks o s (D ++ X) := by
  intro i
  rcases Nat.lt_trichotomy i t with h | h | h
  · have h1 : i * s + s ≤ D.length := by rw [hl, ← Nat.succ_mul]; exact Nat.mul_le_mul_right s h
    rw [List.drop_append_of_le_length (by omega), List.take_append_of_le_length (by rw [List.length_drop]; omega)]
    exact hD i
  · subst h
    rw [← hl, List.drop_left, List.take_of_length_le hXl]
    exact hX
  · have h1 : D.length + X.length ≤ i * s := by
      have : (t + 1) * s ≤ i * s := Nat.mul_le_mul_right s h
      rw [Nat.succ_mul] at this; omega
    rw [List.drop_of_length_le (by simp; omega)]; simp
theorem bks_drop {o : Int} {s : Nat} {T : List Pr} (h : Bks o s T) (k : Nat) : Bks o s (T.drop (k * s)) := fun i => by
  rw [List.drop_drop, ← Nat.add_mul]; exact h (k + i)
theorem bks_all {o : Int} {s : Nat} {T : List Pr} (h : Bks o s T) (hl : T.length ≤ s) : Srt o T := by
  have := h 0
  rw [Nat.zero_mul, List.drop_zero, List.take_of_length_le hl] at this; exact this
theorem bks_nil (o : Int) (s : Nat) : Bks o s [] := fun i => by simp
set_option maxRecDepth 20000 in
theorem c_stable {o : Int} {w0 : World} {B : Nat} {p : Option Addr} {n c : Nat} {f : Fn} {fx fc : Array Value} (hB : w0.heap.size ≤ B) (hm : n ≤ 1000000000) (hcmp : Cmp o w0 f fx fc) (hO : isO o = true) {l : List Pr} {w : World} {R : Ending → World → Prop}
    (hw : Rw w0 B p n c w l) (h : ∀ w' l', Srt o l' → Stab l' l → Rw w0 B p n c w' l' → R (.returned (.tuple #[])) w') :
    Calls Tryz.prog 236 #[.slice p n c, .int .i64 (n : Nat), .func f fx fc] w R := by
  refine sh236_ok _ _ _ _ _ _ _ ?_
  unfold sh236
  have hln := hw.len
  have hm' : n ≤ 1000000000000 := by omega
  refine ⟨fun vs w' => ∃ (t : Nat) (D D0 T : List Pr), vs = [.int .i64 (t * 20 : Nat), .int .i64 (t * 20 + 20 : Nat)] ∧ l = D0 ++ T ∧ D.length = t * 20 ∧ t * 20 ≤ n ∧ D0.length = t * 20 ∧ Bks o 20 D ∧ Stab D D0 ∧ Rw w0 B p n c w' (D ++ T), fun vs _ => n + 20 - (intOf (vs.getD 0 undef)).toNat,
    ⟨0, [], [], l, rfl, rfl, rfl, by omega, rfl, bks_nil _ _, Stab.refl _, hw⟩, ?_⟩
  rintro a' b' _ w1 ⟨t, D, D0, T, hv, hl, hDl, htn, hD0, hbk, hst, hr⟩
  simp only [List.cons.injEq, Value.int.injEq, true_and, and_true] at hv
  obtain ⟨rfl, rfl⟩ := hv
  have hTl : T.length = n - t * 20 := by have := congrArg List.length hl; rw [hln, List.length_append] at this; omega
  refine ifB_intro (fun hle => ?_) fun hgt => ?_
  · have hle : t * 20 + 20 ≤ n := by have := of_decide_eq_true hle; omega
    have hsp : T.take 20 ++ T.drop 20 = T := List.take_append_drop _ _
    have ht20 : (T.take 20).length = 20 := by rw [List.length_take]; omega
    rw [← hsp] at hr
    refine do_call Tryz.call296 (c_insertion hB hm' hcmp hO (a := t * 20) (b := t * 20 + 20) hr (by omega) (by omega) fun w2 X' hs hst' hr2 => retS_ret ⟨rfl, ⟨t + 1, D ++ X', D0 ++ T.take 20, T.drop 20, ?_, ?_, ?_, by omega, ?_, ?_, hst.app hst', by simpa using hr2⟩, ?_⟩)
    · have e : IntKind.wrap .i64 (((t * 20 + 20 : Nat) : Int) + 20) = (((t + 1) * 20 + 20 : Nat) : Int) := by rw [wrap_of (by omega) (by omega)]; omega
      rw [e, show t * 20 + 20 = (t + 1) * 20 by omega]
    · rw [List.append_assoc, hsp]; exact hl
    · have := hr2.len; simp at this ⊢; omega
    · simp; omega
    · exact bks_snoc hbk hDl hs (by have := hr2.len; simp at this; omega)
    · simp [intOf]; omega
  have hgt : n < t * 20 + 20 := by have := of_decide_eq_false hgt; omega
  have hr' : Rw w0 B p n c w1 (D ++ (T ++ [])) := by simpa using hr
  refine do_call Tryz.call296 (c_insertion hB hm' hcmp hO (a := t * 20) (b := n) hr' (by omega) (by omega) fun w2 X' hs hst' hr2 => retS_ret ⟨rfl, ?_⟩)
  rw [List.append_nil] at hr2
  have hX'l : X'.length ≤ 20 := by have := hr2.len; simp at this; omega
  have hbk2 : Bks o 20 (D ++ X') := bks_snoc hbk hDl hs hX'l
  have hst2 : Stab (D ++ X') l := by rw [hl]; exact hst.app hst'
  -- ever greater parts
  refine ⟨fun vs w' => ∃ (bs : Nat) (q : List Pr), vs = [.int .i64 (bs : Nat)] ∧ 1 ≤ bs ∧ bs ≤ 2 * n + 20 ∧ Bks o bs q ∧ Stab q l ∧ Rw w0 B p n c w' q, fun vs _ => 2 * n + 40 - (intOf (vs.getD 0 undef)).toNat, ⟨20, _, rfl, by omega, by omega, hbk2, hst2, hr2⟩, ?_⟩
  rintro bs' _ w3 ⟨bs, q, hv, hbs1, hbs2, hbq, hsq, hr3⟩
  simp only [List.cons.injEq, Value.int.injEq, true_and, and_true] at hv
  subst hv
  have hql := hr3.len
  refine ifB_intro (fun hlt => ?_) fun hge => ?_
  rotate_left
  · have hge : n ≤ bs := by have := of_decide_eq_false hge; omega
    exact h w3 q (bks_all hbq (by omega)) hsq hr3
  have hlt : bs < n := by have := of_decide_eq_true hlt; omega
  have e2 : IntKind.wrap .i64 (2 * (bs : Int)) = ((2 * bs : Nat) : Int) := by rw [wrap_of (by omega) (by omega)]; omega
  have e3 : IntKind.wrap .i64 ((bs : Int) * 2) = ((2 * bs : Nat) : Int) := by rw [wrap_of (by omega) (by omega)]; omega
  rw [e2]
  refine ⟨fun vs w' => ∃ (t : Nat) (D D0 T : List Pr), vs = [.int .i64 (t * (2 * bs) : Nat), .int .i64 (t * (2 * bs) + 2 * bs : Nat)] ∧ q = D0 ++ T ∧ D.length = t * (2 * bs) ∧ t * (2 * bs) ≤ n ∧ D0.length = t * (2 * bs) ∧ Bks o (2 * bs) D ∧ Bks o bs T ∧ Stab D D0 ∧ Rw w0 B p n c w' (D ++ T), fun vs _ => n + 2 * bs - (intOf (vs.getD 0 undef)).toNat,
    ⟨0, [], [], q, by rw [Nat.zero_mul, Nat.zero_add]; rfl, rfl, by simp, by omega, by simp, bks_nil _ _, hbq, Stab.refl _, hr3⟩, ?_⟩
  rintro a' b' _ w4 ⟨t, D, D0, T, hv, hl, hDl, htn, hD0, hbk, hbT, hst, hr⟩
  simp only [List.cons.injEq, Value.int.injEq, true_and, and_true] at hv
  obtain ⟨rfl, rfl⟩ := hv
  obtain ⟨tb, htb⟩ : ∃ tb, tb = t * (2 * bs) := ⟨_, rfl⟩
  have htb1 : (t + 1) * (2 * bs) = tb + 2 * bs := by rw [Nat.add_mul t 1 (2 * bs), Nat.one_mul, ← htb]
  rw [← htb] at hDl htn hD0 ⊢
  have hTl : T.length = n - tb := by have := congrArg List.length hl; rw [hql, List.length_append] at this; omega
  refine ifB_intro (fun hle => ?_) fun hgt => ?_
  · have hle : tb + 2 * bs ≤ n := by have := of_decide_eq_true hle; omega
    have hs1 : T.take bs ++ ((T.drop bs).take bs ++ T.drop (2 * bs)) = T := by
      rw [show T.drop (2 * bs) = (T.drop bs).drop bs by rw [List.drop_drop, show bs + bs = 2 * bs by omega], List.take_append_drop, List.take_append_drop]
    have l1 : (T.take bs).length = bs := by rw [List.length_take]; omega
    have l2 : ((T.drop bs).take bs).length = bs := by rw [List.length_take, List.length_drop]; omega
    have ea : IntKind.wrap .i64 ((tb : Int) + (bs : Int)) = ((tb + bs : Nat) : Int) := by rw [wrap_of (by omega) (by omega)]; omega
    rw [ea]
    rw [← hs1] at hr
    have hsA : Srt o (T.take bs) := by have := hbT 0; simpa using this
    have hsB : Srt o ((T.drop bs).take bs) := by have := hbT 1; simpa using this
    refine do_call Tryz.call297 (c_symMerge hB hm' hcmp hO (2 * bs) (L := D) (X := T.take bs) (Y := (T.drop bs).take bs) (S := T.drop (2 * bs)) (a := tb) (m := tb + bs) (b := tb + 2 * bs) (by omega) hr hsA hsB (by omega) (by omega) (by omega) (by omega) (by omega) fun w5 M g1 g2 g3 g4 => retS_ret ⟨rfl, ⟨t + 1, D ++ M, D0 ++ (T.take bs ++ (T.drop bs).take bs), T.drop (2 * bs), ?_, ?_, ?_, ?_, ?_, ?_, ?_, hst.app g2, by simpa using g4⟩, ?_⟩)
    · have e : IntKind.wrap .i64 (((tb + 2 * bs : Nat) : Int) + ((2 * bs : Nat) : Int)) = (((t + 1) * (2 * bs) + 2 * bs : Nat) : Int) := by
        rw [htb1, wrap_of (by omega) (by omega)]; omega
      rw [e, htb1]
    · rw [List.append_assoc, List.append_assoc, hs1]; exact hl
    · rw [htb1]; simp; omega
    · rw [htb1]; omega
    · rw [htb1]; simp; omega
    · exact bks_snoc hbk (by rw [hDl, htb]) g1 (by omega)
    · exact bks_drop hbT 2
    · simp [intOf]; omega
  have hgt : n < tb + 2 * bs := by have := of_decide_eq_false hgt; omega
  have ea : IntKind.wrap .i64 ((tb : Int) + (bs : Int)) = ((tb + bs : Nat) : Int) := by rw [wrap_of (by omega) (by omega)]; omega
  rw [ea, e3]
  -- the rest
  have hK : ∀ {w' : World} {T' : List Pr}, Srt o T' → Stab T' T → T'.length = T.length → Rw w0 B p n c w' (D ++ T') →
      (∃ (bs2 : Nat) (q : List Pr), [Value.int .i64 ((2 * bs : Nat) : Int)] = [.int .i64 (bs2 : Nat)] ∧ 1 ≤ bs2 ∧ bs2 ≤ 2 * n + 20 ∧ Bks o bs2 q ∧ Stab q l ∧ Rw w0 B p n c w' q) ∧
        2 * n + 40 - (intOf (([Value.int .i64 ((2 * bs : Nat) : Int)] : List Value).getD 0 undef)).toNat < 2 * n + 40 - (intOf (([Value.int .i64 (bs : Int)] : List Value).getD 0 undef)).toNat := by
    intro w' T' g1 g2 g3 g4
    refine ⟨⟨2 * bs, D ++ T', rfl, by omega, by omega, bks_snoc hbk (by rw [hDl, htb]) g1 (by omega), ?_, g4⟩, ?_⟩
    · have := hst.app g2
      rw [← hl] at this
      exact this.trans hsq
    · simp [intOf]; omega
  refine ifB_intro (fun hlt2 => ?_) fun hge2 => ?_
  · have hlt2 : tb + bs < n := by have := of_decide_eq_true hlt2; omega
    have l1 : (T.take bs).length = bs := by rw [List.length_take]; omega
    have l2 : (T.drop bs).length = n - tb - bs := by rw [List.length_drop]; omega
    have hs1 : T.take bs ++ (T.drop bs ++ []) = T := by rw [List.append_nil, List.take_append_drop]
    rw [← hs1] at hr
    have hsA : Srt o (T.take bs) := by have := hbT 0; simpa using this
    have hsB : Srt o (T.drop bs) := bks_all (by have := bks_drop hbT 1; simpa using this) (by omega)
    refine do_call Tryz.call297 (c_symMerge hB hm' hcmp hO n (L := D) (X := T.take bs) (Y := T.drop bs) (S := []) (a := tb) (m := tb + bs) (b := n) (by omega) hr hsA hsB (by omega) (by omega) (by omega) (by omega) (by omega) fun w5 M g1 g2 g3 g4 => retS_ret ⟨rfl, hK (T' := M) g1 (by rw [List.take_append_drop] at g2; exact g2) (by omega) (by simpa using g4)⟩)
  · have hge2 : n ≤ tb + bs := by have := of_decide_eq_false hge2; omega
    exact hK (T' := T) (bks_all hbT (by omega)) (Stab.refl _) rfl hr
theorem c_sortStable {o : Int} {w0 : World} {B : Nat} {p : Option Addr} {n c : Nat} {f : Fn} {fx fc : Array Value} (hB : w0.heap.size ≤ B) (hm : n ≤ 1000000000) (hcmp : Cmp o w0 f fx fc) (hO : isO o = true) {l : List Pr} {w : World} {R : Ending → World → Prop}
    (hw : Rw w0 B p n c w l) (h : ∀ w' l', Srt o l' → Stab l' l → Rw w0 B p n c w' l' → R (.returned (.tuple #[])) w') :
    Calls Tryz.prog 174 #[.slice p n c, .func f fx fc] w R := by
  refine sh174_ok _ _ _ _ _ _ ?_
  unfold sh174
  exact do_call Tryz.call236 (c_stable hB hm hcmp hO hw fun w2 l' g1 g2 g3 => retS_ret ⟨rfl, h w2 l' g1 g2 g3⟩)
end Go.Proofs.YtlddfgfmkapoiaaGreat

namespace Go.Proofs.YtlddfgfmkapoiaaGreat
open Go Go.Sh Go.RowKit

end Go.Proofs.YtlddfgfmkapoiaaGreat

namespace Go.Proofs.YtlddfgfmkapoiaaGreat
open Go Go.Sh Go.RowKit

theorem comb_in {p a b : Int} (ha : In a) (hb : In b) : In (comb p a b) := by
  unfold comb
  split
  · exact ha
  · split
    · exact hb
    · exact wrap_in _
end Go.Proofs.YtlddfgfmkapoiaaGreat

namespace Go.Proofs.YtlddfgfmkapoiaaGreat
open Go Go.Sh Go.RowKit

section
variable {o p : Int} {a b : List Pr} {qa qb : Option Addr} {na ca nb cb : Nat} {w : World} {R : Ending → World → Prop}
end
end Go.Proofs.YtlddfgfmkapoiaaGreat

namespace Go.Proofs.YtlddfgfmkapoiaaGreat
open Go Go.Sh Go.RowKit

/-- what a row has of a key -/
def lk (o : Int) (r : List Pr) (k : Int) : Option Int := cond (hasR o r k) (some (getR o r k)) none
theorem lk_iff {o : Int} {r : List Pr} (hm : mayR o r = true) {k v : Int} : lk o r k = some v ↔ (k, v) ∈ r := by
  unfold lk
  constructor
  · intro h
    cases hh : hasR o r k
    · rw [hh] at h; cases h
    · rw [hh] at h
      have := has_mem hh
      rw [cond_true, Option.some.injEq] at h
      rw [← h]; exact this
  · intro h
    have := mem_get hm h
    rw [this.1, this.2]; rfl
theorem lk_none {o : Int} {r : List Pr} (hm : mayR o r = true) {k : Int} : lk o r k = none ↔ ∀ x ∈ r, x.1 ≠ k := by
  constructor
  · rintro h ⟨k', v⟩ hx rfl
    have := (lk_iff hm).2 hx
    rw [h] at this; cases this
  · intro h
    cases hk : lk o r k with
    | none => rfl
    | some v => exact absurd rfl (h _ ((lk_iff hm).1 hk))
theorem lk_nil (o k : Int) : lk o [] k = none := by
  unfold lk hasR; simp
theorem lk_put {o p : Int} {l : List Pr} {x : Pr} (hm : mayR o l = true) (hp : may p = true) (hI : InP l) (hx : In x.1) (k : Int) :
    lk o (putR o p l x) k = if k = x.1 then some (match lk o l k with | none => x.2 | some y => comb p y x.2) else lk o l k := by
  by_cases hk : k = x.1
  · rw [if_pos hk]; subst hk
    have := put_key hm hp hI hx
    unfold lk
    rw [this.1, this.2]
    cases hasR o l x.1 <;> rfl
  · rw [if_neg hk]
    have := put_other hm hp hI hx hk
    unfold lk
    rw [this.1, this.2]
theorem ltO_irrefl {o a : Int} : ¬ ltO o a a := by unfold ltO; rw [cmpI_self]; omega
theorem ltO_asymm {o a b : Int} (h : ltO o a b) : ¬ ltO o b a := fun k => ltO_irrefl (cmpI_trans h k)
theorem pw_ext {o : Int} : ∀ {r s : List Pr}, (r.map (·.1)).Pairwise (ltO o) → (s.map (·.1)).Pairwise (ltO o) → (∀ x, x ∈ r ↔ x ∈ s) → r = s
  | [], [], _, _, _ => rfl
  | [], y :: s, _, _, h => by have := (h y).2 (by simp); cases this
  | x :: r, [], _, _, h => by have := (h x).1 (by simp); cases this
  | x :: r, y :: s, hr, hs, h => by
    simp only [List.map_cons, List.pairwise_cons, List.mem_map, forall_exists_index, and_imp, forall_apply_eq_imp_iff₂] at hr hs
    have hxy : x = y := by
      rcases List.mem_cons.1 ((h x).1 (by simp)) with e | h1
      · exact e
      · rcases List.mem_cons.1 ((h y).2 (by simp)) with e | h2
        · exact e.symm
        · exact absurd (hs.1 x h1) (ltO_asymm (hr.1 y h2))
    subst hxy
    rw [pw_ext hr.2 hs.2 fun z => ?_]
    constructor
    · intro hz
      rcases List.mem_cons.1 ((h z).1 (by simp [hz])) with e | h1
      · exact absurd (hr.1 z hz) (by rw [e]; exact ltO_irrefl)
      · exact h1
    · intro hz
      rcases List.mem_cons.1 ((h z).2 (by simp [hz])) with e | h1
      · exact absurd (hs.1 z hz) (by rw [e]; exact ltO_irrefl)
      · exact h1
theorem row_ext {o : Int} {r s : List Pr} (hr : mayR o r = true) (hs : mayR o s = true) (h : ∀ k, lk o r k = lk o s k) : r = s :=
  pw_ext (mayR_iff.1 hr).2 (mayR_iff.1 hs).2 fun x => by rw [show x = (x.1, x.2) from rfl, ← lk_iff hr, ← lk_iff hs, h]
theorem ltO_ne {o a b : Int} (h : ltO o a b) : a ≠ b := fun e => by subst e; exact ltO_irrefl h
/-- what comes of the values of a key, in a row of pairs -/
def addO (p : Int) (v : Option Int) (y : Int) : Option Int := some (match v with | none => y | some x => comb p x y)
theorem sortL_lk {o p : Int} (ho : isO o = true) (hp : may p = true) (k : Int) : ∀ (l : List Pr) (r : List Pr), mayR o r = true → InP r → InP l →
    lk o (l.foldl (fun r x => putR o p r x) r) k = ((l.filter fun x => x.1 == k).map (·.2)).foldl (addO p) (lk o r k)
  | [], r, _, _, _ => rfl
  | x :: l, r, hm, hI, hl => by
    have hx := hl x (by simp)
    rw [List.foldl_cons, sortL_lk ho hp k l _ (put_may hm hp hI hx.1) (put_in hm hp hI hx) fun y hy => hl y (by simp [hy]), lk_put hm hp hI hx.1]
    by_cases hk : k = x.1
    · rw [if_pos hk, List.filter_cons_of_pos (by simp [hk])]; rfl
    · rw [if_neg hk, List.filter_cons_of_neg (by simp; exact fun e => hk e.symm)]
theorem mayR_nil {o : Int} (ho : isO o = true) : mayR o [] = true := by simp [mayR, ho, chain]
theorem sortL_lk0 {o p : Int} (ho : isO o = true) (hp : may p = true) {l : List Pr} (hl : InP l) (k : Int) : lk o (sortL o p l) k = ((l.filter fun x => x.1 == k).map (·.2)).foldl (addO p) none := by
  have := sortL_lk ho hp k l [] (mayR_nil ho) (by intro x hx; cases hx) hl
  rw [lk_nil] at this
  exact this
theorem sortL_stab {o p : Int} (ho : isO o = true) (hp : may p = true) {l l' : List Pr} (hl : InP l) (h : Stab l' l) : sortL o p l' = sortL o p l := by
  have hl' : InP l' := fun x hx => hl x ((h.mem x).1 hx)
  exact row_ext (sortL_may ho hp hl').1 (sortL_may ho hp hl).1 fun k => by rw [sortL_lk0 ho hp hl', sortL_lk0 ho hp hl, h k]
end Go.Proofs.YtlddfgfmkapoiaaGreat

namespace Go.Proofs.YtlddfgfmkapoiaaGreat
open Go Go.Sh Go.RowKit

theorem put_end {o p : Int} {r : List Pr} {x : Pr} (hm : mayR o r = true) (hp : may p = true) (h : ∀ y ∈ r, ltO o y.1 x.1) : putR o p r x = r ++ [x] := by
  have hh : hasR o r x.1 = false := by
    cases hq : hasR o r x.1
    · rfl
    · obtain ⟨i, hi, e⟩ := (hasR_iff hm).1 hq
      exact absurd e (ltO_ne (h _ (List.getElem_mem hi)))
  have hpos : posR o r x.1 = r.length := by
    unfold posR; rw [hm, cond_true]
    exact idxR_eq (Nat.le_refl _) (fun i hi _ => h _ (List.getElem_mem hi)) fun hi => absurd hi (Nat.lt_irrefl _)
  rw [put_miss hm hp hh, hpos, List.take_length, List.drop_length]
theorem put_last {o p : Int} {r : List Pr} {x : Pr} (hm : mayR o r = true) (hp : may p = true) (h0 : 0 < r.length) (h : (r[r.length - 1]).1 = x.1) :
    putR o p r x = r.set (r.length - 1) ((r[r.length - 1]).1, comb p (r[r.length - 1]).2 x.2) := by
  have := pos_at hm (show r.length - 1 < r.length by omega)
  rw [h] at this
  rw [put_hit hm hp this.2.1, this.1, this.2.2, h]
theorem sortL_keys {o p : Int} (ho : isO o = true) (hp : may p = true) {l : List Pr} (hl : InP l) : ∀ y ∈ sortL o p l, ∃ z ∈ l, z.1 = y.1 := fun y hy => by
  have := (lk_iff (sortL_may ho hp hl).1 (k := y.1) (v := y.2)).2 hy
  rw [sortL_lk0 ho hp hl] at this
  cases hf : l.filter (fun x => x.1 == y.1) with
  | nil => rw [hf] at this; cases this
  | cons z t =>
    have hz : z ∈ l.filter (fun x => x.1 == y.1) := by rw [hf]; simp
    have := List.mem_filter.1 hz
    exact ⟨z, this.1, by simpa using this.2⟩
theorem c_srt1 {o : Int} {b : Nat} {w0 : World} (h : Blk w0 b #[.int .u8 o] 5) : Cmp o w0 (.func 175) #[] #[.pointer (some (blk b))] := by
  intro x y hx hy w e R h'
  refine do_callc Tryz.call175 (by rfl) (sh175_ok _ _ _ _ _ ?_)
  unfold sh175
  refine ⟨⟨?_⟩⟩
  have e1 := ext_alloc w (.cells #[.int .i64 x.1, .int .i64 x.2] 46)
  have h1 := blk_alloc w #[.int .i64 x.1, .int .i64 x.2] 46
  generalize hb1 : w.heap.size = b1 at *
  generalize w.alloc (.cells #[.int .i64 x.1, .int .i64 x.2] 46) = w1 at *
  have e2 := ext_alloc w1 (.cells #[.int .i64 y.1, .int .i64 y.2] 46)
  have h2 := blk_alloc w1 #[.int .i64 y.1, .int .i64 y.2] 46
  generalize hb2 : w1.heap.size = b2 at *
  generalize w1.alloc (.cells #[.int .i64 y.1, .int .i64 y.2] 46) = w2 at *
  refine ⟨_, (h.ext ((e.trans e1).trans e2)).cell (i := 0) rfl rfl, _, (h1.ext e2).cell (i := 0) (add_blk _ _) rfl, _, h2.cell (i := 0) (add_blk _ _) rfl, ?_⟩
  exact do_call Tryz.call176 (c_compare hx hy fun w3 e3 => retS_ret ⟨_, rfl, h' _ ((e1.trans e2).trans e3)⟩)
set_option maxRecDepth 20000 in
set_option maxHeartbeats 1600000 in
theorem c_rsort {o p : Int} {l : List Pr} {q : Option Addr} {n c : Nat} {w : World} {R : Ending → World → Prop} (hl : Cs w q (prs l)) (hn : l.length = n) (hm : n ≤ 1000000) (hI : InP l)
    (h : ∀ p' n' c' w', OwnP w' w.heap.size p' n' c' (cond (isO o && may p) (sortL o p l) []) → Ext w w' → R (.returned (.tuple #[.slice p' n' c', .int .i64 (cond (isO o && may p) 0 2)])) w') :
    Calls Tryz.prog 95 #[.int .u8 o, .int .u8 p, .slice q n c] w R := by
  refine sh95_ok _ _ _ _ _ ?_
  unfold sh95
  refine ⟨?_⟩
  have e1 := ext_alloc w (.cells #[.int .u8 o] 5)
  have h1 := blk_alloc w #[.int .u8 o] 5
  generalize w.heap.size = b1 at h1
  generalize w.alloc (.cells #[.int .u8 o] 5) = w1 at *
  refine ⟨_, h1.cell (i := 0) rfl rfl, ?_⟩
  refine do_call Tryz.call172 (c_name fun w2 e2 => retS_ret ⟨_, rfl, ?_⟩)
  rw [name_empty]
  cases ho : isO o
  · refine ifB_t rfl ?_
    have hr := h none 0 0 w2
    rw [ho, Bool.false_and] at hr
    exact hr (ownP_nil _ _) (e1.trans e2)
  refine ifB_f rfl ?_
  refine do_call Tryz.call151 (c_fmay fun w3 e3 => retS_ret ⟨_, rfl, ?_⟩)
  cases hp : may p
  · refine ifB_t rfl ?_
    have hr := h none 0 0 w3
    rw [ho, hp, Bool.and_false] at hr
    exact hr (ownP_nil _ _) ((e1.trans e2).trans e3)
  refine ifB_f rfl ?_
  rw [ho, hp] at h
  simp only [Bool.and_self, cond_true] at h
  have E3 := (e1.trans e2).trans e3
  have h3 := (h1.ext e2).ext e3
  clear e1 e2 e3
  refine do_call Tryz.call173 (c_clone (hl.ext E3) hn (by omega) fun q4 c4 w4 g4 e4 => retS_ret ⟨_, _, _, rfl, ?_⟩)
  refine do_call Tryz.call174 (c_sortStable (o := o) (w0 := w3) (B := w3.heap.size) (Nat.le_refl _) (by omega) (c_srt1 h3) ho (l := l) ⟨g4, e4, fun x hx => (hI x hx).1⟩ fun w5 S hS hst hw5 => retS_ret ⟨rfl, ?_⟩)
  have E5 := E3.trans hw5.ext
  have hIS : InP S := fun x hx => hI x ((hst.mem x).1 hx)
  have hSn : S.length = n := hw5.len
  have hsrc := ownP_cs hw5.own
  have hsz5 : w.heap.size ≤ w5.heap.size := E5.size
  clear h1 h3 g4 e4 hl
  refine ⟨fun vs w' => ∃ (i nn cc : Nat) (qq : Option Addr), vs = [.slice qq nn cc, .int .i64 i] ∧ i ≤ n ∧ Ext w5 w' ∧ OwnP w' w5.heap.size qq nn cc (sortL o p (S.take i)),
    fun vs _ => n - (intOf (vs.getD 1 undef)).toNat, ⟨0, 0, 0, none, rfl, by omega, ext_refl _, ownP_nil _ _⟩, ?_⟩
  rintro q' n' c' x' _ w6 ⟨i, nn, cc, qq, hv, hi, e6, hrow⟩
  simp only [List.cons.injEq, Value.slice.injEq, Value.int.injEq, true_and, and_true] at hv
  obtain ⟨⟨rfl, rfl, rfl⟩, rfl⟩ := hv
  refine ifB_intro (fun hlt => ?_) fun hge => ?_
  rotate_left
  · have hge : ¬ (i : Int) < n := of_decide_eq_false hge
    rw [List.take_of_length_le (by omega), sortL_stab ho hp hI hst] at hrow
    exact h _ _ _ _ (row_mono hrow hsz5) (E5.trans e6)
  have hlt : i < n := by have := of_decide_eq_true hlt; omega
  have hi' : i < S.length := by omega
  have hinv : ∀ x ∈ S.take i, In x.1 ∧ In x.2 := fun x hx => hIS x (List.mem_of_mem_take hx)
  obtain ⟨m1, m2, m3⟩ := sortL_may (p := p) ho hp hinv
  have hkeys := sortL_keys ho hp hinv
  have hxI := hIS _ (List.getElem_mem hi')
  have hle : ∀ y ∈ sortL o p (S.take i), codeI o y.1 ≤ codeI o S[i].1 := fun y hy => by
    obtain ⟨z, hz, e⟩ := hkeys y hy
    obtain ⟨j, hj, e'⟩ := List.getElem_of_mem hz
    rw [List.length_take] at hj
    rw [← e, ← e', List.getElem_take]
    exact srt_get hS (by omega) hi'
  have hstep : sortL o p (S.take (i + 1)) = putR o p (sortL o p (S.take i)) S[i] := sortL_take hi'
  rw [List.length_take] at m3
  have hrl := ownP_len hrow
  have hcap : n' ≤ n := by omega
  generalize hr0 : sortL o p (S.take i) = r at *
  refine ix_pr (hsrc.ext e6) hSn rfl hlt fun a r1 r2 _ => ⟨_, r1, _, r2, ⟨?_⟩⟩
  have e7 := ext_alloc w6 (.cells #[.int .i64 0, .int .i64 0] 46)
  refine do_st2 (blk_alloc w6 _ _) fun w8 h8 g8 => ?_
  have E8 : Ext w6 w8 := e7.st g8 (Nat.le_refl _)
  generalize hbx : w6.heap.size = bx at *
  have hrow8 := E8.row hrow
  have hnext : IntKind.wrap .i64 ((i : Int) + 1) = ((i + 1 : Nat) : Int) := wrap_succ (n := n) (by omega) (by omega)
  have hmu : n - (intOf ((([.slice q' n' c', .int .i64 ((i + 1 : Nat) : Int)] : List Value)).getD 1 undef)).toNat < n - (intOf ((([.slice q' n' c', .int .i64 (i : Int)] : List Value)).getD 1 undef)).toNat := by
    show n - (((i + 1 : Nat) : Int)).toNat < n - ((i : Nat) : Int).toNat
    omega
  have hbsz : w5.heap.size ≤ bx := by rw [← hbx]; exact e6.size
  -- a new key
  have hnew : ∀ w', Ext w8 w' → (∀ y ∈ r, ltO o y.1 S[i].1) → ∃ (x41 : Int), World.cell? w' ((blk bx).add 0) = some (.int .i64 x41) ∧ (
     ∃ (x42 : Int), World.cell? w' ((blk bx).add 1) = some (.int .i64 x42) ∧ (
     doAl (.cells #[.int .i64 x41, .int .i64 x42] 46) w' (fun b43 w44 =>
     doGo Tryz.prog (.builtin .append #[22, 22] 22 #[false, false]) #[.slice q' n' c', .slice (some (blk b43)) 1 1] w44 (retS (fun v48 w49 => ∃ (xp45 : Option Addr), ∃ (xn46 : Nat), ∃ (xc47 : Nat), v48 = (.slice xp45 xn46 xc47 : Value) ∧ (
       (∃ (i' nn cc : Nat) (qq : Option Addr), ([.slice xp45 xn46 xc47, .int .i64 (IntKind.wrap .i64 ((i : Int) + 1))] : List Value) = [.slice qq nn cc, .int .i64 i'] ∧ i' ≤ n ∧ Ext w5 w49 ∧ OwnP w49 w5.heap.size qq nn cc (sortL o p (S.take i'))) ∧
       n - (intOf (([.slice xp45 xn46 xc47, .int .i64 (IntKind.wrap .i64 ((i : Int) + 1))] : List Value).getD 1 undef)).toNat < n - (intOf (([.slice q' n' c', .int .i64 (i : Int)] : List Value).getD 1 undef)).toNat)) (fun ch w => Kfn R ch [] w))))) := by
    intro w' e9 hall
    have h9 := h8.ext e9
    refine ⟨_, h9.cell (i := 0) (add_blk _ _) rfl, _, h9.cell (i := 1) (add_blk _ _) rfl, ⟨?_⟩⟩
    have e10 := ext_alloc w' (.cells #[.int .i64 S[i].1, .int .i64 S[i].2] 46)
    have hrow10 := (e9.trans e10).row hrow8
    refine do_app elP hrow10 (m := 1) (cs_alloc w' _ _) (by simp) (by simp [Value.oneCell']) (by simp only [maxLen]; omega) (by omega) (Nat.le_trans e6.size (Nat.le_trans E8.size (e9.trans e10).size)) fun q11 c11 w11 h11 g11 => retS_ret ⟨_, _, _, rfl, ?_⟩
    rw [hnext]
    refine ⟨⟨i + 1, n' + 1, c11, q11, rfl, by omega, ?_, ?_⟩, ?_⟩
    · exact ext_own hrow10 (((e6.trans E8).trans e9).trans e10) g11 (Nat.le_refl _)
    · rw [hstep, put_end m1 hp hall]
      unfold OwnP; rw [prs_append]; exact h11
    · show n - (((i + 1 : Nat) : Int)).toNat < n - ((i : Nat) : Int).toNat
      omega
  refine ⟨⟨fun w' => Ext w8 w', ext_drew _, ?_⟩⟩
  refine ifB_intro (fun h0 => ?_) fun h0 => ?_
  · have h0 : n' = 0 := by simpa using h0
    refine ifB_t rfl (hnew _ (ext_drew _) ?_)
    have : r = [] := List.eq_nil_of_length_eq_zero (by omega)
    subst this; intro y hy; cases hy
  have h0 : 0 < n' := by have : ¬ n' = 0 := by simpa using h0
                         omega
  have hw1 : IntKind.wrap .i64 ((n' : Int) - 1) = ((n' - 1 : Nat) : Int) := by rw [wrap_of (by omega) (by omega)]; omega
  rw [hw1]
  refine ix_prC (fun w' e' => (ownP_cs hrow8).ext e') (ext_refl _) hrl (k := n' - 1) rfl (by omega) fun a s1 _ => ⟨_, s1, _, fun w' e' => (h8.ext e').cell (i := 0) (add_blk _ _) rfl, ?_⟩
  refine ifB_intro (fun hne => ?_) fun heq => ?_
  · have hne : (r[n' - 1]'(by omega)).1 ≠ S[i].1 := by simpa using hne
    refine hnew _ (ext_drew _) fun y hy => ?_
    have hlast : ltO o (r[n' - 1]'(by omega)).1 S[i].1 := by
      have h1 := hle _ (List.getElem_mem (show n' - 1 < r.length by omega))
      show cmpI o _ _ < 0
      rw [cmp_lt ho]
      rcases Int.lt_or_le (codeI o (r[n' - 1]'(by omega)).1) (codeI o S[i].1) with h | h
      · exact h
      · exfalso
        refine hne (cmpI_eq ho (m2 _ (List.getElem_mem _)).1 hxI.1 ?_)
        have k1 : ¬ cmpI o (r[n' - 1]'(by omega)).1 S[i].1 < 0 := by rw [cmp_lt ho]; omega
        have k2 : ¬ 0 < cmpI o (r[n' - 1]'(by omega)).1 S[i].1 := fun k => by
          have := cmpI_pos k
          rw [cmp_lt ho] at this; omega
        omega
    obtain ⟨j, hj, e⟩ := List.getElem_of_mem hy
    rcases Nat.lt_or_ge j (n' - 1) with hjl | hjl
    · rw [← e]; exact cmpI_trans (chain_lt (mayR_chain m1) hjl (by omega)) hlast
    · have : j = n' - 1 := by omega
      subst this; rw [← e]; exact hlast
  have heq : (r[n' - 1]'(by omega)).1 = S[i].1 := by simpa using heq
  refine ⟨⟨fun w' => Ext w8.drew w', ext_drew _, ?_⟩⟩
  have e9 := ext_drew w8
  refine ix_prC (fun w' e' => ((ownP_cs hrow8).ext e9).ext e') (ext_refl _) hrl (k := n' - 1) rfl (by omega) fun a _ s2 => ⟨_, s2, _, fun w' e' => ((h8.ext e9).ext e').cell (i := 1) (add_blk _ _) rfl, ?_⟩
  refine do_call Tryz.call154 (c_comb fun w11 e11 => retS_ret ⟨_, _, rfl, ?_⟩)
  rw [hp, cond_true]
  have E11 := (e9.trans (ext_drew _)).trans e11
  have hrow11 := E11.row hrow8
  refine ix_pr (ownP_cs hrow11) hrl (k := n' - 1) rfl (by omega) fun a' _ _ ha' => ?_
  refine own_st2 hrow11 (by omega) ha' fun w12 h12 g12 => ?_
  rw [hnext]
  refine ⟨⟨i + 1, n', c', q', rfl, by omega, ext_own hrow11 ((e6.trans E8).trans E11) g12 (Nat.le_refl _), ?_⟩, hmu⟩
  rw [hstep, put_last m1 hp (by omega) (by simpa [hrl] using heq)]
  simp only [hrl]
  exact h12
end Go.Proofs.YtlddfgfmkapoiaaGreat

namespace Go.Proofs.YtlddfgfmkapoiaaGreat
open Go Go.Sh Go.RowKit

/-- what an edit makes of a tree -/
def editC (c o key : Int) (y : It × Bool) (t : Tr) : Tr := if y.2 = true then joinC c (splitC c o key t).1 y.1 (splitC c o key t).2.2 else join2C c (splitC c o key t).1 (splitC c o key t).2.2
def editL (o key : Int) (y : It × Bool) (l : List It) : List It := ltF o key l ++ (cond y.2 [y.1] []) ++ gtF o key l
theorem editC_ok {c o key : Int} {y : It × Bool} {t : Tr} (ok : OkP c t) (ha : asc o (itsC c t)) : OkM c (editC c o key y t) ∧ itsC c (editC c o key y t) = (editL o key y (itsC c t)).map (itC c) := by
  have S := splitC_ok (key := key) ok ha
  have j := joinC_ok S.okl.1 S.okr.1 y.1
  have k := join2C_ok S.okl.1 S.okr.1
  have f1 := filt_fix (c := c) (t := t) fun x => decide (cmpI o x.1 key < 0)
  have f2 := filt_fix (c := c) (t := t) fun x => decide (0 < cmpI o x.1 key)
  have f1 : (ltF o key (itsC c t)).map (itC c) = ltF o key (itsC c t) := f1
  have f2 : (gtF o key (itsC c t)).map (itC c) = gtF o key (itsC c t) := f2
  unfold editC editL
  rw [List.map_append, List.map_append, f1, f2]
  cases hy : y.2 with
  | true =>
    rw [if_pos rfl]
    refine ⟨j.1, ?_⟩
    rw [j.2, S.lt, S.gt]
    simp
  | false =>
    rw [if_neg (by decide)]
    refine ⟨k.1, ?_⟩
    rw [k.2, S.lt, S.gt]
    simp
abbrev addI (y : It × Bool) : Value := .tuple #[agI y.1, .bool y.2]
set_option maxRecDepth 20000 in
theorem c_edat {c o key : Int} {b : Nat} (ho : isO o = true) (hk : In key) {t : Tr} {p : Option Addr} {f : Fn} {xs cs : Array Value} (by_ : It → Bool → It × Bool) {w : World} {R : Ending → World → Prop} (hs : IsSch c b w) (ht : IsN w p t) (ok : OkP c t) (hkt : InK t) (hB : t.size + 8 ≤ BIG)
    (hby : ∀ x is w1 (K : Ending → World → Prop), Gs b w w1 → (∀ w2, Ext w1 w2 → K (.returned (addI (by_ x is))) w2) → doCall Tryz.prog (.func f xs cs) #[agI x, .bool is] w1 K)
    (h : ∀ q w', Gs b w w' → IsSch c b w' → IsN w' q (editC c o key (by_ (itO (splitC c o key t).2.1) (splitC c o key t).2.1.isSome) t) →
      R (.returned (.tuple #[.pointer q, .int .i64 (itO (splitC c o key t).2.1).2.1, .bool (splitC c o key t).2.1.isSome, .int .i64 0])) w') :
    Calls Tryz.prog 152 #[.pointer (some (blk b)), .int .u8 o, .pointer p, .int .i64 key, .func f xs cs] w R := by
  refine sh152_ok _ _ _ _ _ _ _ ?_
  unfold sh152
  have sp := splitC_p (o := o) (key := key) ok
  refine do_call Tryz.call89 (c_split ho hk hs ht ok hkt (by omega) fun ql qr w1 g1 hs1 hl1 hr1 => retS_ret ⟨_, _, _, _, _, _, _, rfl, ⟨?_⟩⟩)
  have hlt := hs1.lt
  refine do_st3 (blk_alloc w1 _ _) fun w3 hx3 g3 => ?_
  have e3 : Ext w1 w3 := (ext_alloc w1 _).st g3 (Nat.le_refl _)
  have G3 : Gs b w w3 := g1.trans (gs_of e3)
  refine ⟨_, hx3.cell (i := 0) (add_blk _ _) rfl, _, hx3.cell (i := 1) (add_blk _ _) rfl, _, hx3.cell (i := 2) (add_blk _ _) rfl, ?_⟩
  refine hby _ _ w3 _ G3 fun w4 e4 => retS_ret ⟨_, _, _, _, rfl, ⟨?_⟩⟩
  refine do_st3 (blk_alloc w4 _ _) fun w5 hy5 g5 => ?_
  have e5 : Ext w4 w5 := (ext_alloc w4 _).st g5 (Nat.le_refl _)
  have e35 := e4.trans e5
  have e15 := e3.trans e35
  have hx5 := hx3.ext e35
  have d := ext_drew w5
  have e15' := e15.trans d
  have G5 : Gs b w w5.drew := g1.trans (gs_of e15')
  have hs5 := hs1.ext e15'
  have n3 : w1.heap.size ≠ b := by omega
  have n4 : w4.heap.size ≠ b := by have := e3.size; have := e4.size; omega
  unfold editC at h
  refine ifB_f rfl ?_
  cases hq : (by_ (itO (splitC c o key t).2.1) (splitC c o key t).2.1.isSome).2 with
  | false =>
    rw [hq] at h
    refine ifB_t rfl ⟨⟨fun w' => Blk w' w1.heap.size _ _, hx5.ext d, _, fun w' e => e.cell (i := 1) (add_blk _ _) rfl, ?_⟩⟩
    exact do_call Tryz.call211 (c_join2 hs5 (hl1.ext e15') (hr1.ext e15') sp.1.1 sp.2.1.1 (by omega) fun q6 w6 g6 hs6 h6 => retS_ret ⟨_, rfl, (hx5.ext d).gs g6 n3, h _ _ (G5.trans g6) hs6 h6⟩)
  | true =>
    rw [hq] at h
    refine ifB_f rfl ⟨⟨fun w' => Blk w' w1.heap.size _ _ ∧ Blk w' w4.heap.size _ _, ⟨hx5.ext d, hy5.ext d⟩, _, fun w' e => e.2.cell (i := 0) (add_blk _ _) rfl, _, fun w' e => e.2.cell (i := 1) (add_blk _ _) rfl, _, fun w' e => e.2.cell (i := 2) (add_blk _ _) rfl, _, fun w' e => e.1.cell (i := 1) (add_blk _ _) rfl, ?_⟩⟩
    exact do_call Tryz.call106 (c_sjoin hs5 (hl1.ext e15') (hr1.ext e15') sp.1.1 sp.2.1.1 (by omega) fun q6 w6 g6 hs6 h6 => retS_ret ⟨_, rfl, ⟨(hx5.ext d).gs g6 n3, (hy5.ext d).gs g6 n4⟩, h _ _ (G5.trans g6) hs6 h6⟩)
/-! ### what the three do with an item -/
def insI (p : Int) (x y : It) (is : Bool) : It × Bool := (cond is (y.1, comb p y.2.1 x.2.1, y.2.2) x, true)
def delI (x : It) (_ : Bool) : It × Bool := (x, false)
theorem do_insI {p : Int} (hp : may p = true) {x y : It} {is : Bool} {bx bp : Nat} {w : World} {R : Ending → World → Prop} (hx : Blk w bx #[.int .i64 x.1, .int .i64 x.2.1, .int .u64 x.2.2] 114) (hbp : Blk w bp #[.int .u8 p] 5)
    (h : ∀ w', Ext w w' → R (.returned (addI (insI p x y is))) w') : doCall Tryz.prog (.func (.func 153) #[] #[.pointer (some (blk bx)), .pointer (some (blk bp))]) #[agI y, .bool is] w R := by
  refine do_callc Tryz.call153 (by rfl) (sh153_ok _ _ _ _ _ _ ?_)
  unfold sh153
  refine ⟨⟨?_⟩⟩
  have e0 := ext_alloc w (.cells #[.int .i64 y.1, .int .i64 y.2.1, .int .u64 y.2.2] 114)
  have hy := blk_alloc w #[.int .i64 y.1, .int .i64 y.2.1, .int .u64 y.2.2] 114
  generalize hb7 : w.heap.size = b7 at *
  generalize w.alloc (.cells #[.int .i64 y.1, .int .i64 y.2.1, .int .u64 y.2.2] 114) = w1 at *
  have e1 := ext_alloc w1 (.cells #[.int .i64 0, .int .i64 0, .int .u64 0] 114)
  have hz := blk_alloc w1 #[.int .i64 0, .int .i64 0, .int .u64 0] 114
  have h78 : b7 < w1.heap.size := hy.lt
  generalize hb9 : w1.heap.size = b9 at *
  generalize w1.alloc (.cells #[.int .i64 0, .int .i64 0, .int .u64 0] 114) = w2 at *
  have E2 := e0.trans e1
  have hx2 := hx.ext E2
  cases is with
  | false =>
    refine ifB_t rfl ⟨_, hx2.cell (i := 0) (add_blk _ _) rfl, _, hx2.cell (i := 1) (add_blk _ _) rfl, _, hx2.cell (i := 2) (add_blk _ _) rfl, ?_⟩
    refine do_st3 hz fun w3 h3 g3 => ?_
    exact ⟨_, h3.cell (i := 0) (add_blk _ _) rfl, _, h3.cell (i := 1) (add_blk _ _) rfl, _, h3.cell (i := 2) (add_blk _ _) rfl, h _ (E2.st g3 (by omega))⟩
  | true =>
    refine ifB_f rfl ⟨_, (hbp.ext E2).cell (i := 0) rfl rfl, _, (hy.ext e1).cell (i := 1) (add_blk _ _) rfl, _, hx2.cell (i := 1) (add_blk _ _) rfl, ?_⟩
    refine do_call Tryz.call154 (c_comb fun w3 e3 => retS_ret ⟨_, _, rfl, ?_⟩)
    rw [hp]
    refine do_st ((hy.ext e1).ext e3) (i := 1) (by rw [add_zero']; exact add_blk _ _) (by simp) fun w4 h4 g4 => ?_
    have h4 : Blk w4 b7 #[.int .i64 y.1, .int .i64 (comb p y.2.1 x.2.1), .int .u64 y.2.2] 114 := h4
    refine ⟨_, h4.cell (i := 0) (add_blk _ _) rfl, _, h4.cell (i := 1) (add_blk _ _) rfl, _, h4.cell (i := 2) (add_blk _ _) rfl, ?_⟩
    refine do_st3 ((hz.ext e3).grown g4 (ne_some (by omega))) fun w5 h5 g5 => ?_
    exact ⟨_, h5.cell (i := 0) (add_blk _ _) rfl, _, h5.cell (i := 1) (add_blk _ _) rfl, _, h5.cell (i := 2) (add_blk _ _) rfl, h _ (((E2.trans e3).st g4 (by omega)).st g5 (by omega))⟩
theorem do_delI {y : It} {is : Bool} {w : World} {R : Ending → World → Prop} (h : ∀ w', Ext w w' → R (.returned (addI (delI y is))) w') : doCall Tryz.prog (.func (.func 155) #[] #[]) #[agI y, .bool is] w R := by
  refine do_call Tryz.call155 (sh155_ok _ _ _ _ ?_)
  unfold sh155
  refine ⟨⟨?_⟩⟩
  have e0 := ext_alloc w (.cells #[.int .i64 y.1, .int .i64 y.2.1, .int .u64 y.2.2] 114)
  have hy := blk_alloc w #[.int .i64 y.1, .int .i64 y.2.1, .int .u64 y.2.2] 114
  generalize hb7 : w.heap.size = b7 at *
  generalize w.alloc (.cells #[.int .i64 y.1, .int .i64 y.2.1, .int .u64 y.2.2] 114) = w1 at *
  have e1 := ext_alloc w1 (.cells #[.int .i64 0, .int .i64 0, .int .u64 0] 114)
  have hz := blk_alloc w1 #[.int .i64 0, .int .i64 0, .int .u64 0] 114
  have h78 : b7 < w1.heap.size := hy.lt
  generalize hb9 : w1.heap.size = b9 at *
  generalize w1.alloc (.cells #[.int .i64 0, .int .i64 0, .int .u64 0] 114) = w2 at *
  have hy2 := hy.ext e1
  refine ⟨_, hy2.cell (i := 0) (add_blk _ _) rfl, _, hy2.cell (i := 1) (add_blk _ _) rfl, _, hy2.cell (i := 2) (add_blk _ _) rfl, ?_⟩
  refine do_st3 hz fun w3 h3 g3 => ?_
  exact ⟨_, h3.cell (i := 0) (add_blk _ _) rfl, _, h3.cell (i := 1) (add_blk _ _) rfl, _, h3.cell (i := 2) (add_blk _ _) rfl, h _ ((e0.trans e1).st g3 (by omega))⟩
/-! ### Insert, Delete, Set -/
set_option maxRecDepth 20000 in
theorem c_insert {c o p : Int} {b : Nat} (ho : isO o = true) (hp : may p = true) {x : It} (hk : In x.1) {t : Tr} {pt : Option Addr} {w : World} {R : Ending → World → Prop} (hs : IsSch c b w) (ht : IsN w pt t) (ok : OkP c t) (hkt : InK t) (hB : t.size + 8 ≤ BIG)
    (h : ∀ q w', Gs b w w' → IsSch c b w' → IsN w' q (editC c o x.1 (insI p x (itO (splitC c o x.1 t).2.1) (splitC c o x.1 t).2.1.isSome) t) →
      R (.returned (.tuple #[.pointer q, .int .i64 (itO (splitC c o x.1 t).2.1).2.1, .bool (splitC c o x.1 t).2.1.isSome, .int .i64 0])) w') :
    Calls Tryz.prog 84 #[.pointer (some (blk b)), .int .u8 o, .int .u8 p, .pointer pt, agI x] w R := by
  refine sh84_ok _ _ _ _ _ _ _ ?_
  unfold sh84
  refine ⟨⟨?_⟩⟩
  have e0 := ext_alloc w (.cells #[.int .u8 p] 5)
  have hbp := blk_alloc w #[.int .u8 p] 5
  have n0 : w.heap.size ≠ b := by have := hs.lt; omega
  generalize w.heap.size = b8 at *
  generalize w.alloc (.cells #[.int .u8 p] 5) = w1 at *
  have e1 := ext_alloc w1 (.cells #[.int .i64 x.1, .int .i64 x.2.1, .int .u64 x.2.2] 114)
  have hx := blk_alloc w1 #[.int .i64 x.1, .int .i64 x.2.1, .int .u64 x.2.2] 114
  have n1 : w1.heap.size ≠ b := by have := (hs.ext e0).lt; omega
  generalize w1.heap.size = b10 at *
  generalize w1.alloc (.cells #[.int .i64 x.1, .int .i64 x.2.1, .int .u64 x.2.2] 114) = w2 at *
  have hbp2 := hbp.ext e1
  refine ⟨_, hbp2.cell (i := 0) rfl rfl, ?_⟩
  refine do_call Tryz.call151 (c_fmay fun w3 e3 => retS_ret ⟨_, rfl, ?_⟩)
  rw [hp]
  have E3 := (e0.trans e1).trans e3
  refine ifB_f rfl ⟨_, (hx.ext e3).cell (i := 0) (add_blk _ _) rfl, ?_⟩
  refine do_call Tryz.call152 (c_edat ho hk (insI p x) (hs.ext E3) (ht.ext E3) ok hkt hB (fun y is w4 K g4 hK => do_insI hp ((hx.ext e3).gs g4 n1) ((hbp2.ext e3).gs g4 n0) hK) fun q w4 g4 hs4 h4 => retS_ret ⟨_, _, _, _, rfl, h _ _ ((gs_of E3).trans g4) hs4 h4⟩)
theorem c_delete {c o key : Int} {b : Nat} (ho : isO o = true) (hk : In key) {t : Tr} {pt : Option Addr} {w : World} {R : Ending → World → Prop} (hs : IsSch c b w) (ht : IsN w pt t) (ok : OkP c t) (hkt : InK t) (hB : t.size + 8 ≤ BIG)
    (h : ∀ q w', Gs b w w' → IsSch c b w' → IsN w' q (editC c o key (delI (itO (splitC c o key t).2.1) (splitC c o key t).2.1.isSome) t) →
      R (.returned (.tuple #[.pointer q, .int .i64 (itO (splitC c o key t).2.1).2.1, .bool (splitC c o key t).2.1.isSome, .int .i64 0])) w') :
    Calls Tryz.prog 85 #[.pointer (some (blk b)), .int .u8 o, .pointer pt, .int .i64 key] w R := by
  refine sh85_ok _ _ _ _ ?_
  unfold sh85
  exact do_call Tryz.call152 (c_edat ho hk delI hs ht ok hkt hB (fun y is w4 K g4 hK => do_delI hK) fun q w4 g4 hs4 h4 => retS_ret ⟨_, _, _, _, rfl, h _ _ g4 hs4 h4⟩)
end Go.Proofs.YtlddfgfmkapoiaaGreat

namespace Go.Proofs.YtlddfgfmkapoiaaGreat
open Go Go.Sh Go.RowKit

/-! ### the chapter's examples -/
end Go.Proofs.YtlddfgfmkapoiaaGreat

namespace Go.Proofs.YtlddfgfmkapoiaaGreat
open Go Go.Sh Go.RowKit

def insL (o p : Int) (l : List It) (z : It) : List It := editL o z.1 (insI p z (lastE o z.1 l) (anyE o z.1 l)) l
def foldI (o p : Int) (l b : List It) : List It := b.foldl (insL o p) l
theorem foldI_nil (o p : Int) (l : List It) : foldI o p l [] = l := rfl
theorem foldI_cons (o p : Int) (l b : List It) (z : It) : foldI o p l (z :: b) = foldI o p (insL o p l z) b := rfl
theorem foldI_app (o p : Int) (l b d : List It) : foldI o p l (b ++ d) = foldI o p (foldI o p l b) d := List.foldl_append
theorem cmpI_sym {o a b : Int} (h : cmpI o a b = 0) : cmpI o b a = 0 := by
  rcases Int.lt_trichotomy (cmpI o b a) 0 with g | g | g
  · have := cmpI_neg g; omega
  · exact g
  · have := cmpI_pos g; omega
theorem insL_left {o p : Int} {l m : List It} {z : It} (h : ∀ x ∈ m, 0 < cmpI o x.1 z.1) : insL o p (l ++ m) z = insL o p l z ++ m := by
  have e1 : ltF o z.1 (l ++ m) = ltF o z.1 l := by
    unfold ltF; rw [List.filter_append, filt_no (l := m) fun x hx => decide_eq_false (by have := h x hx; omega), List.append_nil]
  have e2 : eqF o z.1 (l ++ m) = eqF o z.1 l := by
    unfold eqF; rw [List.filter_append, filt_no (l := m) fun x hx => decide_eq_false (by have := h x hx; omega), List.append_nil]
  have e3 : gtF o z.1 (l ++ m) = gtF o z.1 l ++ m := by
    unfold gtF; rw [List.filter_append, filt_all (l := m) fun x hx => decide_eq_true (h x hx)]
  unfold insL editL lastE anyE
  rw [e1, e2, e3, List.append_assoc, List.append_assoc, List.append_assoc]
theorem insL_right {o p : Int} {l m : List It} {z : It} (h : ∀ x ∈ l, cmpI o x.1 z.1 < 0) : insL o p (l ++ m) z = l ++ insL o p m z := by
  have e1 : ltF o z.1 (l ++ m) = l ++ ltF o z.1 m := by
    unfold ltF; rw [List.filter_append, filt_all (l := l) fun x hx => decide_eq_true (h x hx)]
  have e2 : eqF o z.1 (l ++ m) = eqF o z.1 m := by
    unfold eqF; rw [List.filter_append, filt_no (l := l) fun x hx => decide_eq_false (by have := h x hx; omega), List.nil_append]
  have e3 : gtF o z.1 (l ++ m) = gtF o z.1 m := by
    unfold gtF; rw [List.filter_append, filt_no (l := l) fun x hx => decide_eq_false (by have := h x hx; omega), List.nil_append]
  unfold insL editL lastE anyE
  rw [e1, e2, e3, List.append_assoc, List.append_assoc, List.append_assoc]
theorem insL_nil {o p : Int} {z : It} : insL o p [] z = [z] := rfl
theorem insL_mid {o p : Int} {x z : It} (h : cmpI o x.1 z.1 = 0) : insL o p [x] z = [(x.1, comb p x.2.1 z.2.1, x.2.2)] := by
  unfold insL editL lastE anyE ltF eqF gtF
  simp [h, insI]
theorem foldI_left {o p : Int} {m : List It} : ∀ {b l : List It}, (∀ z ∈ b, ∀ x ∈ m, 0 < cmpI o x.1 z.1) → foldI o p (l ++ m) b = foldI o p l b ++ m
  | [], l, _ => rfl
  | z :: b, l, h => by
    rw [foldI_cons, foldI_cons, insL_left (h z (.head _)), foldI_left fun y hy => h y (.tail _ hy)]
theorem foldI_right {o p : Int} {l : List It} : ∀ {b m : List It}, (∀ z ∈ b, ∀ x ∈ l, cmpI o x.1 z.1 < 0) → foldI o p (l ++ m) b = l ++ foldI o p m b
  | [], m, _ => rfl
  | z :: b, m, h => by
    rw [foldI_cons, foldI_cons, insL_right (h z (.head _)), foldI_right fun y hy => h y (.tail _ hy)]
theorem asc_cons {o : Int} {x : It} {l : List It} (h : asc o (x :: l)) : (∀ y ∈ l, cmpI o x.1 y.1 < 0) ∧ asc o l := by
  unfold asc at h ⊢
  rw [List.map_cons, List.pairwise_cons] at h
  exact ⟨fun y hy => h.1 _ (List.mem_map_of_mem hy), h.2⟩
theorem foldI_none {o p : Int} : ∀ {b : List It}, asc o b → foldI o p [] b = b
  | [], _ => rfl
  | z :: b, h => by
    obtain ⟨h1, h2⟩ := asc_cons h
    rw [foldI_cons, insL_nil, show [z] = [z] ++ ([] : List It) from rfl, foldI_right fun y hy x hx => by simp at hx; subst hx; exact h1 y hy]
    rw [foldI_none h2]; rfl
theorem asc_parts {o key : Int} : ∀ {l : List It}, asc o l → l = ltF o key l ++ (eqF o key l ++ gtF o key l)
  | [], _ => rfl
  | x :: l, h => by
    obtain ⟨h1, h2⟩ := asc_cons h
    have ih := asc_parts (key := key) h2
    rcases Int.lt_trichotomy (cmpI o x.1 key) 0 with g | g | g
    · have e1 : ltF o key (x :: l) = x :: ltF o key l := by unfold ltF; rw [List.filter_cons, if_pos (decide_eq_true g)]
      have e2 : eqF o key (x :: l) = eqF o key l := by unfold eqF; rw [List.filter_cons, if_neg (by simp; omega)]
      have e3 : gtF o key (x :: l) = gtF o key l := by unfold gtF; rw [List.filter_cons, if_neg (by simp; omega)]
      rw [e1, e2, e3, List.cons_append, ← ih]
    · have hgt : ∀ y ∈ l, 0 < cmpI o y.1 key := fun y hy => cmpI_eql (h1 y hy) g
      have e1 : ltF o key (x :: l) = [] := by unfold ltF; rw [List.filter_cons, if_neg (by simp; omega), filt_no fun y hy => decide_eq_false (by have := hgt y hy; omega)]
      have e2 : eqF o key (x :: l) = [x] := by unfold eqF; rw [List.filter_cons, if_pos (decide_eq_true g), filt_no fun y hy => decide_eq_false (by have := hgt y hy; omega)]
      have e3 : gtF o key (x :: l) = l := by unfold gtF; rw [List.filter_cons, if_neg (by simp; omega), filt_all fun y hy => decide_eq_true (hgt y hy)]
      rw [e1, e2, e3]; rfl
    · have hgt : ∀ y ∈ l, 0 < cmpI o y.1 key := fun y hy => by
        have := cmpI_trans (cmpI_pos g) (h1 y hy)
        exact cmpI_neg this
      have e1 : ltF o key (x :: l) = [] := by unfold ltF; rw [List.filter_cons, if_neg (by simp; omega), filt_no fun y hy => decide_eq_false (by have := hgt y hy; omega)]
      have e2 : eqF o key (x :: l) = [] := by unfold eqF; rw [List.filter_cons, if_neg (by simp; omega), filt_no fun y hy => decide_eq_false (by have := hgt y hy; omega)]
      have e3 : gtF o key (x :: l) = x :: l := by unfold gtF; rw [List.filter_cons, if_pos (decide_eq_true g), filt_all fun y hy => decide_eq_true (hgt y hy)]
      rw [e1, e2, e3]; rfl
theorem lastE_mem {o key : Int} {l : List It} (h : anyE o key l = true) : lastE o key l ∈ l ∧ cmpI o (lastE o key l).1 key = 0 := by
  unfold anyE at h
  unfold lastE
  cases hq : (eqF o key l).getLast? with
  | none => rw [List.getLast?_eq_none_iff] at hq; rw [hq] at h; cases h
  | some x =>
    have := List.mem_of_getLast? hq
    unfold eqF at this
    rw [List.mem_filter] at this
    exact ⟨this.1, of_decide_eq_true this.2⟩
theorem mem_insL {o p : Int} {l : List It} {z y : It} (h : y ∈ insL o p l z) : y ∈ l ∨ y = z ∨ ∃ u ∈ l, y = (u.1, comb p u.2.1 z.2.1, u.2.2) := by
  unfold insL editL insI at h
  rcases List.mem_append.1 h with h | h
  · rcases List.mem_append.1 h with h | h
    · exact .inl (List.mem_filter.1 h).1
    · simp only [cond_true, List.mem_singleton] at h
      cases ha : anyE o z.1 l with
      | false => rw [ha] at h; exact .inr (.inl h)
      | true => rw [ha] at h; exact .inr (.inr ⟨_, (lastE_mem ha).1, h⟩)
  · exact .inl (List.mem_filter.1 h).1
/-- what all keys and tags have -/
theorem foldI_all {o p : Int} {P : Int → Int → Prop} : ∀ {b l : List It}, (∀ y ∈ l, P y.1 y.2.2) → (∀ y ∈ b, P y.1 y.2.2) → ∀ y ∈ foldI o p l b, P y.1 y.2.2
  | [], l, hl, _ => hl
  | z :: b, l, hl, hb => by
    refine foldI_all (l := insL o p l z) (b := b) (fun y hy => ?_) fun y hy => hb y (.tail _ hy)
    rcases mem_insL hy with h | rfl | ⟨u, hu, rfl⟩
    · exact hl y h
    · exact hb _ (.head _)
    · exact hl u hu
theorem parts_len {o key : Int} : ∀ l : List It, (ltF o key l).length + (eqF o key l).length + (gtF o key l).length = l.length
  | [] => rfl
  | x :: l => by
    have ih := parts_len (o := o) (key := key) l
    unfold ltF eqF gtF at *
    simp only [List.filter_cons]
    rcases Int.lt_trichotomy (cmpI o x.1 key) 0 with g | g | g
    · rw [if_pos (decide_eq_true g), if_neg (by simp; omega), if_neg (by simp; omega), List.length_cons, List.length_cons]; omega
    · rw [if_neg (by simp; omega), if_pos (decide_eq_true g), if_neg (by simp; omega), List.length_cons, List.length_cons]; omega
    · rw [if_neg (by simp; omega), if_neg (by simp; omega), if_pos (decide_eq_true g), List.length_cons, List.length_cons]; omega
theorem insL_len {o p : Int} {l : List It} {z : It} : (insL o p l z).length ≤ l.length + 1 := by
  have := parts_len (o := o) (key := z.1) l
  unfold insL editL insI
  simp only [List.length_append, cond_true, List.length_singleton]
  omega
theorem asc_filter {o : Int} {l : List It} {q : It → Bool} (h : asc o l) : asc o (l.filter q) := List.Pairwise.sublist (List.Sublist.map _ List.filter_sublist) h
theorem asc_insL {o p : Int} {l : List It} {z : It} (h : asc o l) : asc o (insL o p l z) := by
  have hy : cmpI o (insI p z (lastE o z.1 l) (anyE o z.1 l)).1.1 z.1 = 0 := by
    unfold insI
    cases ha : anyE o z.1 l with
    | false => exact cmpI_self _ _
    | true => exact (lastE_mem ha).2
  unfold insL editL
  generalize (insI p z (lastE o z.1 l) (anyE o z.1 l)).1 = y at *
  show asc o (ltF o z.1 l ++ [y] ++ gtF o z.1 l)
  have h1 : asc o (ltF o z.1 l) := asc_filter h
  have h3 : asc o (gtF o z.1 l) := asc_filter h
  have a1 : ∀ x ∈ ltF o z.1 l, cmpI o x.1 y.1 < 0 := fun x hx => cmpI_eqr (of_decide_eq_true (List.mem_filter.1 hx).2) (cmpI_sym hy)
  have a2 : ∀ x ∈ gtF o z.1 l, cmpI o y.1 x.1 < 0 := fun x hx => by
    have g := cmpI_pos (of_decide_eq_true (List.mem_filter.1 hx).2)
    have g := cmpI_neg g
    rcases Int.lt_trichotomy (cmpI o y.1 x.1) 0 with k | k | k
    · exact k
    · have := cmpI_eqr (cmpI_pos g) (cmpI_sym k); have := cmpI_neg this; have := cmpI_sym hy; omega
    · have := cmpI_trans (cmpI_pos g) (cmpI_pos k); have := cmpI_neg this; omega
  unfold asc at *
  rw [List.map_append, List.map_append, List.pairwise_append, List.pairwise_append]
  refine ⟨⟨h1, by simp, fun a ha b hb => ?_⟩, h3, fun a ha b hb => ?_⟩
  · obtain ⟨x, hx, rfl⟩ := List.mem_map.1 ha
    simp at hb; subst hb
    exact a1 x hx
  · obtain ⟨x, hx, rfl⟩ := List.mem_map.1 hb
    rcases List.mem_append.1 ha with ha | ha
    · obtain ⟨u, hu, rfl⟩ := List.mem_map.1 ha
      exact cmpI_trans (a1 u hu) (a2 x hx)
    · simp at ha; subst ha
      exact a2 x hx
theorem asc_foldI {o p : Int} : ∀ {b l : List It}, asc o l → asc o (foldI o p l b)
  | [], _, h => h
  | _ :: b, _, h => asc_foldI (b := b) (asc_insL h)
/-! ### trees -/
def ofI (p : Int) (x y : It) (is : Bool) : It := cond is (x.1, comb p x.2.1 y.2.1, x.2.2) x
def unionC (c o p : Int) : Tr → Tr → Tr
  | .nil, u => u
  | .node l k v g r, u =>
    if u.nn then joinC c (unionC c o p l (splitC c o k u).1) (ofI p (itC c (k, v, g)) (itO (splitC c o k u).2.1) (splitC c o k u).2.1.isSome) (unionC c o p r (splitC c o k u).2.2)
    else wholeC c (.node l k v g r)
theorem unionC_p {c o p : Int} : ∀ {a u : Tr}, OkP c a → OkM c u → OkM c (unionC c o p a u) ∧ (unionC c o p a u).size ≤ a.size + u.size
  | .nil, u, _, hu => ⟨hu, by show u.size ≤ 0 + u.size; omega⟩
  | .node l k v g r, u, ha, hu => by
    obtain ⟨hl, hr⟩ := ha.sides
    have e : (Tr.node l k v g r).size = l.size + 1 + r.size := rfl
    unfold unionC
    split
    · have sp := splitC_p (o := o) (key := k) hu.1
      have IL := unionC_p (o := o) (p := p) hl sp.1
      have IR := unionC_p (o := o) (p := p) hr sp.2.1
      have j := joinC_ok IL.1.1 IR.1.1 (ofI p (itC c (k, v, g)) (itO (splitC c o k u).2.1) (splitC c o k u).2.1.isSome)
      have js := joinC_size IL.1.1 IR.1.1 (ofI p (itC c (k, v, g)) (itO (splitC c o k u).2.1) (splitC c o k u).2.1.isSome)
      exact ⟨j.1, by rw [js]; omega⟩
    · exact ⟨(wholeC_ok ha).1, by rw [wholeC_size ha]; omega⟩
theorem itC_ofI {c p : Int} {x y : It} {is : Bool} (h : itC c x = x) : itC c (ofI p x y is) = ofI p x y is := by
  unfold ofI
  cases is with
  | false => exact h
  | true =>
    unfold itC at h ⊢
    split
    · rfl
    · rename_i hc
      rw [if_neg hc] at h
      have := congrArg (fun y : It => y.2.2) h
      simp at this
      simp [this]
theorem unionC_ok {c o p : Int} : ∀ {a u : Tr}, OkP c a → OkM c u → asc o (itsC c a) → asc o (itsC c u) → itsC c (unionC c o p a u) = foldI o p (itsC c a) (itsC c u)
  | .nil, u, _, hu, _, hau => (foldI_none hau).symm
  | .node l k v g r, u, ha, hu, haa, hau => by
    obtain ⟨hl, hr⟩ := ha.sides
    obtain ⟨al, ar, bl, br⟩ := asc_node haa
    unfold unionC
    split
    · have S := splitC_ok (o := o) (key := k) hu.1 hau
      have sp := splitC_p (o := o) (key := k) hu.1
      have q1 : asc o (itsC c (splitC c o k u).1) := by rw [S.lt]; exact asc_filter hau
      have q2 : asc o (itsC c (splitC c o k u).2.2) := by rw [S.gt]; exact asc_filter hau
      have IL := unionC_ok (p := p) hl S.okl al q1
      have IR := unionC_ok (p := p) hr S.okr ar q2
      have pL := unionC_p (o := o) (p := p) hl S.okl
      have pR := unionC_p (o := o) (p := p) hr S.okr
      have j := joinC_ok pL.1.1 pR.1.1 (ofI p (itC c (k, v, g)) (itO (splitC c o k u).2.1) (splitC c o k u).2.1.isSome)
      rw [j.2, IL, IR, S.lt, S.gt, itC_ofI (itC_itC c _), itsC_node]
      generalize hx : itC c (k, v, g) = x
      have hxk : x.1 = k := by rw [← hx]; exact itC_key _ _
      have hp := asc_parts (key := k) hau
      have E := S.eq
      generalize itsC c l = L at *
      generalize itsC c r = Rr at *
      generalize itsC c u = B at *
      rw [show foldI o p (L ++ x :: Rr) B = foldI o p (L ++ x :: Rr) (ltF o k B ++ (eqF o k B ++ gtF o k B)) from congrArg _ hp]
      have mlt : ∀ z ∈ ltF o k B, cmpI o z.1 k < 0 := fun z hz => of_decide_eq_true (List.mem_filter.1 hz).2
      have meq : ∀ z ∈ eqF o k B, cmpI o z.1 k = 0 := fun z hz => of_decide_eq_true (List.mem_filter.1 hz).2
      have mgt : ∀ z ∈ gtF o k B, 0 < cmpI o z.1 k := fun z hz => of_decide_eq_true (List.mem_filter.1 hz).2
      rw [foldI_app, foldI_app, foldI_left (l := L) (m := x :: Rr) fun z hz y hy => by
        rcases List.mem_cons.1 hy with rfl | hy
        · rw [hxk]; exact cmpI_neg (mlt z hz)
        · exact cmpI_neg (cmpI_trans (mlt z hz) (br y hy))]
      have hL : ∀ y ∈ foldI o p L (ltF o k B), cmpI o y.1 k < 0 := foldI_all (P := fun a _ => cmpI o a k < 0) bl mlt
      generalize foldI o p L (ltF o k B) = L' at *
      have hmid : foldI o p (L' ++ x :: Rr) (eqF o k B) = L' ++ ofI p x (itO (splitC c o k u).2.1) (splitC c o k u).2.1.isSome :: Rr := by
        rw [← E]
        cases hq : (splitC c o k u).2.1 with
        | none => rfl
        | some z =>
          have hz : cmpI o z.1 k = 0 := meq z (by rw [← E, hq]; simp)
          show insL o p (L' ++ x :: Rr) z = _
          rw [insL_right fun y hy => cmpI_eqr (hL y hy) (cmpI_sym hz), show x :: Rr = [x] ++ Rr from rfl, insL_left fun y hy => cmpI_eql (br y hy) (cmpI_sym hz), insL_mid (by rw [hxk]; exact cmpI_sym hz)]
          rfl
      rw [hmid, show L' ++ ofI p x (itO (splitC c o k u).2.1) (splitC c o k u).2.1.isSome :: Rr = (L' ++ [ofI p x (itO (splitC c o k u).2.1) (splitC c o k u).2.1.isSome]) ++ Rr by simp, foldI_right fun z hz y hy => ?_]
      · simp
      · rcases List.mem_append.1 hy with hy | hy
        · exact cmpI_trans (hL y hy) (cmpI_pos (mgt z hz))
        · simp at hy
          subst hy
          have : (ofI p x (itO (splitC c o k u).2.1) (splitC c o k u).2.1.isSome).1 = k := by unfold ofI; cases (splitC c o k u).2.1.isSome <;> exact hxk
          rw [this]
          exact cmpI_pos (mgt z hz)
    · rename_i hn
      have : u = .nil := by cases u with
        | nil => rfl
        | node _ _ _ _ _ => exact absurd rfl hn
      subst this
      rw [(wholeC_ok ha).2]; rfl
end Go.Proofs.YtlddfgfmkapoiaaGreat

