/-
  slices.SortStableFunc over pairs, part 4: the whole.
-/
/-
  Rows as sets: plain laws, and what the functions of rowset do: both, some.
-/
/-
  What 'some' of rowset does.
-/
/-
  What Union, Meet, Less, Apart, Range and Cut of rowset do.
-/
/-
  Rows as sets: plain laws of what is looked up, of the walk over two rows, and of sorting.
-/
/-
  What Sort of rowset does.
-/
/-
  edit: an item put in, or taken out; the document's answers of layer 26.
-/
/-
  The document's answers of layer 26; the chapter's examples.
-/
/-
  Two rows of items made one. Plain.
-/
/-
  union: two trees made one; the document's answers of layer 28.
-/
/-
  union: Union, Many; the document's answers of layer 28; the chapter's examples.
-/
/-
  What two rows of items have both, and what one has alone. Plain.
-/
/-
  Less, Meet, Apart: what the trees have. Plain.
-/
/-
  Keys as trees of keys: what is kept of items. Plain.
-/
/-
  build.Of, build.Keys, and where nothing is built; the document's answers of layer 27.
-/
/-
  The document's answers of layer 27; what its statements share.
-/
/-
  meet: two trees gone down together.
-/
/-
  meet: Meet, Less, Apart, Within.
-/
/-
  The document's answers of layer 29.
-/
/-
  UnionTells; the chapter's examples.
-/
/-
  many: Puts, Drops, Holds; the document's answers of layer 31; what its statement asks.
-/
/-
  Printed by a program (gen.py): what the functions of the program do, as formulas; each with the proof that its call is what the formula says.
-/
/-
  Printed by a program (gen.py): what the functions of the program do, as formulas; each with the proof that its call is what the formula says.
-/
/-
  BuildRows, BuildSorts: what they compute.
-/
/-
  Printed by a program (gen.py): what the functions of the program do, as formulas; each with the proof that its call is what the formula says.
-/
import Derived.Test.YtlddfgfmkapoiaaGreatZ22
import Derived.Test.YtlddfgfmkapoiaaGreatZ19
import Derived.Test.YtlddfgfmkapoiaaGreatZ20
import Derived.Test.YtlddfgfmkapoiaaGreatZ21
import Derived.Laws.OwnMore
import Derived.Test.YtlddfgfmkapoiaaGreatZ14
import Derived.Test.YtlddfgfmkapoiaaGreatZ02
import Derived.Test.YtlddfgfmkapoiaaGreatProg
import Derived.Test.YtlddfgfmkapoiaaGreatZ05

namespace Go.Proofs.YtlddfgfmkapoiaaGreat
open Go Go.Sh Go.RowKit

/-- parts of s elements, each sorted -/
def Bks (o : Int) (s : Nat) (l : List Pr) : Prop := ∀ i, Srt o ((l.drop (i * s)).take s)
theorem bks_snoc {o : Int} {s t : Nat} {D X : List Pr} (hD : Bks o s D) (hl : D.length = t * s) (hX : Srt o X) (hXl : X.length ≤ s) : Bks o s (D ++ X) := by
  intro i
  rcases Nat.lt_trichotomy i t with h | h | h
  · have h1 : i * s + s ≤ D.length := by rw [hl, ← Nat.succ_mul]; exact Nat.mul_le_mul_right s h
    rw [List.drop_append_of_le_length (by omega), List.take_append_of_le_length (by rw [List.length_drop]; omega)]
    exact hD i
  · subst h
    rw [← hl, List.drop_left, List.take_of_length_le hXl]
    exact hX
  · have h1 : D.length + X.length ≤ i * s := by
      have : (t + 1) * s ≤ i * s := Nat.mul_le_mul_right s h
      rw [Nat.succ_mul] at this; omega
    rw [List.drop_of_length_le (by simp; omega)]; simp
theorem bks_drop {o : Int} {s : Nat} {T : List Pr} (h : Bks o s T) (k : Nat) : Bks o s (T.drop (k * s)) := fun i => by
  rw [List.drop_drop, ← Nat.add_mul]; exact h (k + i)
theorem bks_all {o : Int} {s : Nat} {T : List Pr} (h : Bks o s T) (hl : T.length ≤ s) : Srt o T := by
  have := h 0
  rw [Nat.zero_mul, List.drop_zero, List.take_of_length_le hl] at this; exact this
theorem bks_nil (o : Int) (s : Nat) : Bks o s [] := fun i => by simp
set_option maxRecDepth 20000 in
theorem c_stable {o : Int} {w0 : World} {B : Nat} {p : Option Addr} {n c : Nat} {f : Fn} {fx fc : Array Value} (hB : w0.heap.size ≤ B) (hm : n ≤ 1000000000) (hcmp : Cmp o w0 f fx fc) (hO : isO o = true) {l : List Pr} {w : World} {R : Ending → World → Prop}
    (hw : Rw w0 B p n c w l) (h : ∀ w' l', Srt o l' → Stab l' l → Rw w0 B p n c w' l' → R (.returned (.tuple #[])) w') :
    Calls Tryz.prog 236 #[.slice p n c, .int .i64 (n : Nat), .func f fx fc] w R := by
  refine sh236_ok _ _ _ _ _ _ _ ?_
  unfold sh236
  have hln := hw.len
  have hm' : n ≤ 1000000000000 := by omega
  refine ⟨fun vs w' => ∃ (t : Nat) (D D0 T : List Pr), vs = [.int .i64 (t * 20 : Nat), .int .i64 (t * 20 + 20 : Nat)] ∧ l = D0 ++ T ∧ D.length = t * 20 ∧ t * 20 ≤ n ∧ D0.length = t * 20 ∧ Bks o 20 D ∧ Stab D D0 ∧ Rw w0 B p n c w' (D ++ T), fun vs _ => n + 20 - (intOf (vs.getD 0 undef)).toNat,
    ⟨0, [], [], l, rfl, rfl, rfl, by omega, rfl, bks_nil _ _, Stab.refl _, hw⟩, ?_⟩
  rintro a' b' _ w1 ⟨t, D, D0, T, hv, hl, hDl, htn, hD0, hbk, hst, hr⟩
  simp only [List.cons.injEq, Value.int.injEq, true_and, and_true] at hv
  obtain ⟨rfl, rfl⟩ := hv
  have hTl : T.length = n - t * 20 := by have := congrArg List.length hl; rw [hln, List.length_append] at this; omega
  refine ifB_intro (fun hle => ?_) fun hgt => ?_
  · have hle : t * 20 + 20 ≤ n := by have := of_decide_eq_true hle; omega
    have hsp : T.take 20 ++ T.drop 20 = T := List.take_append_drop _ _
    have ht20 : (T.take 20).length = 20 := by rw [List.length_take]; omega
    rw [← hsp] at hr
    refine do_call Tryz.call296 (c_insertion hB hm' hcmp hO (a := t * 20) (b := t * 20 + 20) hr (by omega) (by omega) fun w2 X' hs hst' hr2 => retS_ret ⟨rfl, ⟨t + 1, D ++ X', D0 ++ T.take 20, T.drop 20, ?_, ?_, ?_, by omega, ?_, ?_, hst.app hst', by simpa using hr2⟩, ?_⟩)
    · have e : IntKind.wrap .i64 (((t * 20 + 20 : Nat) : Int) + 20) = (((t + 1) * 20 + 20 : Nat) : Int) := by rw [wrap_of (by omega) (by omega)]; omega
      rw [e, show t * 20 + 20 = (t + 1) * 20 by omega]
    · rw [List.append_assoc, hsp]; exact hl
    · have := hr2.len; simp at this ⊢; omega
    · simp; omega
    · exact bks_snoc hbk hDl hs (by have := hr2.len; simp at this; omega)
    · simp [intOf]; omega
  have hgt : n < t * 20 + 20 := by have := of_decide_eq_false hgt; omega
  have hr' : Rw w0 B p n c w1 (D ++ (T ++ [])) := by simpa using hr
  refine do_call Tryz.call296 (c_insertion hB hm' hcmp hO (a := t * 20) (b := n) hr' (by omega) (by omega) fun w2 X' hs hst' hr2 => retS_ret ⟨rfl, ?_⟩)
  rw [List.append_nil] at hr2
  have hX'l : X'.length ≤ 20 := by have := hr2.len; simp at this; omega
  have hbk2 : Bks o 20 (D ++ X') := bks_snoc hbk hDl hs hX'l
  have hst2 : Stab (D ++ X') l := by rw [hl]; exact hst.app hst'
  -- ever greater parts
  refine ⟨fun vs w' => ∃ (bs : Nat) (q : List Pr), vs = [.int .i64 (bs : Nat)] ∧ 1 ≤ bs ∧ bs ≤ 2 * n + 20 ∧ Bks o bs q ∧ Stab q l ∧ Rw w0 B p n c w' q, fun vs _ => 2 * n + 40 - (intOf (vs.getD 0 undef)).toNat, ⟨20, _, rfl, by omega, by omega, hbk2, hst2, hr2⟩, ?_⟩
  rintro bs' _ w3 ⟨bs, q, hv, hbs1, hbs2, hbq, hsq, hr3⟩
  simp only [List.cons.injEq, Value.int.injEq, true_and, and_true] at hv
  subst hv
  have hql := hr3.len
  refine ifB_intro (fun hlt => ?_) fun hge => ?_
  rotate_left
  · have hge : n ≤ bs := by have := of_decide_eq_false hge; omega
    exact h w3 q (bks_all hbq (by omega)) hsq hr3
  have hlt : bs < n := by have := of_decide_eq_true hlt; omega
  have e2 : IntKind.wrap .i64 (2 * (bs : Int)) = ((2 * bs : Nat) : Int) := by rw [wrap_of (by omega) (by omega)]; omega
  have e3 : IntKind.wrap .i64 ((bs : Int) * 2) = ((2 * bs : Nat) : Int) := by rw [wrap_of (by omega) (by omega)]; omega
  rw [e2]
  refine ⟨fun vs w' => ∃ (t : Nat) (D D0 T : List Pr), vs = [.int .i64 (t * (2 * bs) : Nat), .int .i64 (t * (2 * bs) + 2 * bs : Nat)] ∧ q = D0 ++ T ∧ D.length = t * (2 * bs) ∧ t * (2 * bs) ≤ n ∧ D0.length = t * (2 * bs) ∧ Bks o (2 * bs) D ∧ Bks o bs T ∧ Stab D D0 ∧ Rw w0 B p n c w' (D ++ T), fun vs _ => n + 2 * bs - (intOf (vs.getD 0 undef)).toNat,
    ⟨0, [], [], q, by rw [Nat.zero_mul, Nat.zero_add]; rfl, rfl, by simp, by omega, by simp, bks_nil _ _, hbq, Stab.refl _, hr3⟩, ?_⟩
  rintro a' b' _ w4 ⟨t, D, D0, T, hv, hl, hDl, htn, hD0, hbk, hbT, hst, hr⟩
  simp only [List.cons.injEq, Value.int.injEq, true_and, and_true] at hv
  obtain ⟨rfl, rfl⟩ := hv
  obtain ⟨tb, htb⟩ : ∃ tb, tb = t * (2 * bs) := ⟨_, rfl⟩
  have htb1 : (t + 1) * (2 * bs) = tb + 2 * bs := by rw [Nat.add_mul t 1 (2 * bs), Nat.one_mul, ← htb]
  rw [← htb] at hDl htn hD0 ⊢
  have hTl : T.length = n - tb := by have := congrArg List.length hl; rw [hql, List.length_append] at this; omega
  refine ifB_intro (fun hle => ?_) fun hgt => ?_
  · have hle : tb + 2 * bs ≤ n := by have := of_decide_eq_true hle; omega
    have hs1 : T.take bs ++ ((T.drop bs).take bs ++ T.drop (2 * bs)) = T := by
      rw [show T.drop (2 * bs) = (T.drop bs).drop bs by rw [List.drop_drop, show bs + bs = 2 * bs by omega], List.take_append_drop, List.take_append_drop]
    have l1 : (T.take bs).length = bs := by rw [List.length_take]; omega
    have l2 : ((T.drop bs).take bs).length = bs := by rw [List.length_take, List.length_drop]; omega
    have ea : IntKind.wrap .i64 ((tb : Int) + (bs : Int)) = ((tb + bs : Nat) : Int) := by rw [wrap_of (by omega) (by omega)]; omega
    rw [ea]
    rw [← hs1] at hr
    have hsA : Srt o (T.take bs) := by have := hbT 0; simpa using this
    have hsB : Srt o ((T.drop bs).take bs) := by have := hbT 1; simpa using this
    refine do_call Tryz.call297 (c_symMerge hB hm' hcmp hO (2 * bs) (L := D) (X := T.take bs) (Y := (T.drop bs).take bs) (S := T.drop (2 * bs)) (a := tb) (m := tb + bs) (b := tb + 2 * bs) (by omega) hr hsA hsB (by omega) (by omega) (by omega) (by omega) (by omega) fun w5 M g1 g2 g3 g4 => retS_ret ⟨rfl, ⟨t + 1, D ++ M, D0 ++ (T.take bs ++ (T.drop bs).take bs), T.drop (2 * bs), ?_, ?_, ?_, ?_, ?_, ?_, ?_, hst.app g2, by simpa using g4⟩, ?_⟩)
    · have e : IntKind.wrap .i64 (((tb + 2 * bs : Nat) : Int) + ((2 * bs : Nat) : Int)) = (((t + 1) * (2 * bs) + 2 * bs : Nat) : Int) := by
        rw [htb1, wrap_of (by omega) (by omega)]; omega
      rw [e, htb1]
    · rw [List.append_assoc, List.append_assoc, hs1]; exact hl
    · rw [htb1]; simp; omega
    · rw [htb1]; omega
    · rw [htb1]; simp; omega
    · exact bks_snoc hbk (by rw [hDl, htb]) g1 (by omega)
    · exact bks_drop hbT 2
    · simp [intOf]; omega
  have hgt : n < tb + 2 * bs := by have := of_decide_eq_false hgt; omega
  have ea : IntKind.wrap .i64 ((tb : Int) + (bs : Int)) = ((tb + bs : Nat) : Int) := by rw [wrap_of (by omega) (by omega)]; omega
  rw [ea, e3]
  -- the rest
  have hK : ∀ {w' : World} {T' : List Pr}, Srt o T' → Stab T' T → T'.length = T.length → Rw w0 B p n c w' (D ++ T') →
      (∃ (bs2 : Nat) (q : List Pr), [Value.int .i64 ((2 * bs : Nat) : Int)] = [.int .i64 (bs2 : Nat)] ∧ 1 ≤ bs2 ∧ bs2 ≤ 2 * n + 20 ∧ Bks o bs2 q ∧ Stab q l ∧ Rw w0 B p n c w' q) ∧
        2 * n + 40 - (intOf (([Value.int .i64 ((2 * bs : Nat) : Int)] : List Value).getD 0 undef)).toNat < 2 * n + 40 - (intOf (([Value.int .i64 (bs : Int)] : List Value).getD 0 undef)).toNat := by
    intro w' T' g1 g2 g3 g4
    refine ⟨⟨2 * bs, D ++ T', rfl, by omega, by omega, bks_snoc hbk (by rw [hDl, htb]) g1 (by omega), ?_, g4⟩, ?_⟩
    · have := hst.app g2
      rw [← hl] at this
      exact this.trans hsq
    · simp [intOf]; omega
  refine ifB_intro (fun hlt2 => ?_) fun hge2 => ?_
  · have hlt2 : tb + bs < n := by have := of_decide_eq_true hlt2; omega
    have l1 : (T.take bs).length = bs := by rw [List.length_take]; omega
    have l2 : (T.drop bs).length = n - tb - bs := by rw [List.length_drop]; omega
    have hs1 : T.take bs ++ (T.drop bs ++ []) = T := by rw [List.append_nil, List.take_append_drop]
    rw [← hs1] at hr
    have hsA : Srt o (T.take bs) := by have := hbT 0; simpa using this
    have hsB : Srt o (T.drop bs) := bks_all (by have := bks_drop hbT 1; simpa using this) (by omega)
    refine do_call Tryz.call297 (c_symMerge hB hm' hcmp hO n (L := D) (X := T.take bs) (Y := T.drop bs) (S := []) (a := tb) (m := tb + bs) (b := n) (by omega) hr hsA hsB (by omega) (by omega) (by omega) (by omega) (by omega) fun w5 M g1 g2 g3 g4 => retS_ret ⟨rfl, hK (T' := M) g1 (by rw [List.take_append_drop] at g2; exact g2) (by omega) (by simpa using g4)⟩)
  · have hge2 : n ≤ tb + bs := by have := of_decide_eq_false hge2; omega
    exact hK (T' := T) (bks_all hbT (by omega)) (Stab.refl _) rfl hr
theorem c_sortStable {o : Int} {w0 : World} {B : Nat} {p : Option Addr} {n c : Nat} {f : Fn} {fx fc : Array Value} (hB : w0.heap.size ≤ B) (hm : n ≤ 1000000000) (hcmp : Cmp o w0 f fx fc) (hO : isO o = true) {l : List Pr} {w : World} {R : Ending → World → Prop}
    (hw : Rw w0 B p n c w l) (h : ∀ w' l', Srt o l' → Stab l' l → Rw w0 B p n c w' l' → R (.returned (.tuple #[])) w') :
    Calls Tryz.prog 174 #[.slice p n c, .func f fx fc] w R := by
  refine sh174_ok _ _ _ _ _ _ ?_
  unfold sh174
  exact do_call Tryz.call236 (c_stable hB hm hcmp hO hw fun w2 l' g1 g2 g3 => retS_ret ⟨rfl, h w2 l' g1 g2 g3⟩)
end Go.Proofs.YtlddfgfmkapoiaaGreat

namespace Go.Proofs.YtlddfgfmkapoiaaGreat
open Go Go.Sh Go.RowKit

end Go.Proofs.YtlddfgfmkapoiaaGreat

namespace Go.Proofs.YtlddfgfmkapoiaaGreat
open Go Go.Sh Go.RowKit

end Go.Proofs.YtlddfgfmkapoiaaGreat

namespace Go.Proofs.YtlddfgfmkapoiaaGreat
open Go Go.Sh Go.RowKit

section
variable {o p : Int} {a b : List Pr} {qa qb : Option Addr} {na ca nb cb : Nat} {w : World} {R : Ending → World → Prop}
end
end Go.Proofs.YtlddfgfmkapoiaaGreat

namespace Go.Proofs.YtlddfgfmkapoiaaGreat
open Go Go.Sh Go.RowKit

/-- what a row has of a key -/
def lk (o : Int) (r : List Pr) (k : Int) : Option Int := cond (hasR o r k) (some (getR o r k)) none
theorem lk_iff {o : Int} {r : List Pr} (hm : mayR o r = true) {k v : Int} : lk o r k = some v ↔ (k, v) ∈ r := by
  unfold lk
  constructor
  · intro h
    cases hh : hasR o r k
    · rw [hh] at h; cases h
    · rw [hh] at h
      have := has_mem hh
      rw [cond_true, Option.some.injEq] at h
      rw [← h]; exact this
  · intro h
    have := mem_get hm h
    rw [this.1, this.2]; rfl
theorem lk_nil (o k : Int) : lk o [] k = none := by
  unfold lk hasR; simp
theorem lk_put {o p : Int} {l : List Pr} {x : Pr} (hm : mayR o l = true) (hp : may p = true) (hI : InP l) (hx : In x.1) (k : Int) :
    lk o (putR o p l x) k = if k = x.1 then some (match lk o l k with | none => x.2 | some y => comb p y x.2) else lk o l k := by
  by_cases hk : k = x.1
  · rw [if_pos hk]; subst hk
    have := put_key hm hp hI hx
    unfold lk
    rw [this.1, this.2]
    cases hasR o l x.1 <;> rfl
  · rw [if_neg hk]
    have := put_other hm hp hI hx hk
    unfold lk
    rw [this.1, this.2]
theorem ltO_irrefl {o a : Int} : ¬ ltO o a a := by unfold ltO; rw [cmpI_self]; omega
theorem ltO_asymm {o a b : Int} (h : ltO o a b) : ¬ ltO o b a := fun k => ltO_irrefl (cmpI_trans h k)
theorem pw_ext {o : Int} : ∀ {r s : List Pr}, (r.map (·.1)).Pairwise (ltO o) → (s.map (·.1)).Pairwise (ltO o) → (∀ x, x ∈ r ↔ x ∈ s) → r = s
  | [], [], _, _, _ => rfl
  | [], y :: s, _, _, h => by have := (h y).2 (by simp); cases this
  | x :: r, [], _, _, h => by have := (h x).1 (by simp); cases this
  | x :: r, y :: s, hr, hs, h => by
    simp only [List.map_cons, List.pairwise_cons, List.mem_map, forall_exists_index, and_imp, forall_apply_eq_imp_iff₂] at hr hs
    have hxy : x = y := by
      rcases List.mem_cons.1 ((h x).1 (by simp)) with e | h1
      · exact e
      · rcases List.mem_cons.1 ((h y).2 (by simp)) with e | h2
        · exact e.symm
        · exact absurd (hs.1 x h1) (ltO_asymm (hr.1 y h2))
    subst hxy
    rw [pw_ext hr.2 hs.2 fun z => ?_]
    constructor
    · intro hz
      rcases List.mem_cons.1 ((h z).1 (by simp [hz])) with e | h1
      · exact absurd (hr.1 z hz) (by rw [e]; exact ltO_irrefl)
      · exact h1
    · intro hz
      rcases List.mem_cons.1 ((h z).2 (by simp [hz])) with e | h1
      · exact absurd (hs.1 z hz) (by rw [e]; exact ltO_irrefl)
      · exact h1
theorem row_ext {o : Int} {r s : List Pr} (hr : mayR o r = true) (hs : mayR o s = true) (h : ∀ k, lk o r k = lk o s k) : r = s :=
  pw_ext (mayR_iff.1 hr).2 (mayR_iff.1 hs).2 fun x => by rw [show x = (x.1, x.2) from rfl, ← lk_iff hr, ← lk_iff hs, h]
theorem ltO_ne {o a b : Int} (h : ltO o a b) : a ≠ b := fun e => by subst e; exact ltO_irrefl h
/-- what comes of the values of a key, in a row of pairs -/
def addO (p : Int) (v : Option Int) (y : Int) : Option Int := some (match v with | none => y | some x => comb p x y)
theorem sortL_lk {o p : Int} (ho : isO o = true) (hp : may p = true) (k : Int) : ∀ (l : List Pr) (r : List Pr), mayR o r = true → InP r → InP l →
    lk o (l.foldl (fun r x => putR o p r x) r) k = ((l.filter fun x => x.1 == k).map (·.2)).foldl (addO p) (lk o r k)
  | [], r, _, _, _ => rfl
  | x :: l, r, hm, hI, hl => by
    have hx := hl x (by simp)
    rw [List.foldl_cons, sortL_lk ho hp k l _ (put_may hm hp hI hx.1) (put_in hm hp hI hx) fun y hy => hl y (by simp [hy]), lk_put hm hp hI hx.1]
    by_cases hk : k = x.1
    · rw [if_pos hk, List.filter_cons_of_pos (by simp [hk])]; rfl
    · rw [if_neg hk, List.filter_cons_of_neg (by simp; exact fun e => hk e.symm)]
theorem mayR_nil {o : Int} (ho : isO o = true) : mayR o [] = true := by simp [mayR, ho, chain]
theorem sortL_lk0 {o p : Int} (ho : isO o = true) (hp : may p = true) {l : List Pr} (hl : InP l) (k : Int) : lk o (sortL o p l) k = ((l.filter fun x => x.1 == k).map (·.2)).foldl (addO p) none := by
  have := sortL_lk ho hp k l [] (mayR_nil ho) (by intro x hx; cases hx) hl
  rw [lk_nil] at this
  exact this
theorem sortL_stab {o p : Int} (ho : isO o = true) (hp : may p = true) {l l' : List Pr} (hl : InP l) (h : Stab l' l) : sortL o p l' = sortL o p l := by
  have hl' : InP l' := fun x hx => hl x ((h.mem x).1 hx)
  exact row_ext (sortL_may ho hp hl').1 (sortL_may ho hp hl).1 fun k => by rw [sortL_lk0 ho hp hl', sortL_lk0 ho hp hl, h k]
end Go.Proofs.YtlddfgfmkapoiaaGreat

namespace Go.Proofs.YtlddfgfmkapoiaaGreat
open Go Go.Sh Go.RowKit

theorem put_end {o p : Int} {r : List Pr} {x : Pr} (hm : mayR o r = true) (hp : may p = true) (h : ∀ y ∈ r, ltO o y.1 x.1) : putR o p r x = r ++ [x] := by
  have hh : hasR o r x.1 = false := by
    cases hq : hasR o r x.1
    · rfl
    · obtain ⟨i, hi, e⟩ := (hasR_iff hm).1 hq
      exact absurd e (ltO_ne (h _ (List.getElem_mem hi)))
  have hpos : posR o r x.1 = r.length := by
    unfold posR; rw [hm, cond_true]
    exact idxR_eq (Nat.le_refl _) (fun i hi _ => h _ (List.getElem_mem hi)) fun hi => absurd hi (Nat.lt_irrefl _)
  rw [put_miss hm hp hh, hpos, List.take_length, List.drop_length]
theorem put_last {o p : Int} {r : List Pr} {x : Pr} (hm : mayR o r = true) (hp : may p = true) (h0 : 0 < r.length) (h : (r[r.length - 1]).1 = x.1) :
    putR o p r x = r.set (r.length - 1) ((r[r.length - 1]).1, comb p (r[r.length - 1]).2 x.2) := by
  have := pos_at hm (show r.length - 1 < r.length by omega)
  rw [h] at this
  rw [put_hit hm hp this.2.1, this.1, this.2.2, h]
theorem sortL_keys {o p : Int} (ho : isO o = true) (hp : may p = true) {l : List Pr} (hl : InP l) : ∀ y ∈ sortL o p l, ∃ z ∈ l, z.1 = y.1 := fun y hy => by
  have := (lk_iff (sortL_may ho hp hl).1 (k := y.1) (v := y.2)).2 hy
  rw [sortL_lk0 ho hp hl] at this
  cases hf : l.filter (fun x => x.1 == y.1) with
  | nil => rw [hf] at this; cases this
  | cons z t =>
    have hz : z ∈ l.filter (fun x => x.1 == y.1) := by rw [hf]; simp
    have := List.mem_filter.1 hz
    exact ⟨z, this.1, by simpa using this.2⟩
theorem c_srt1 {o : Int} {b : Nat} {w0 : World} (h : Blk w0 b #[.int .u8 o] 5) : Cmp o w0 (.func 175) #[] #[.pointer (some (blk b))] := by
  intro x y hx hy w e R h'
  refine do_callc Tryz.call175 (by rfl) (sh175_ok _ _ _ _ _ ?_)
  unfold sh175
  refine ⟨⟨?_⟩⟩
  have e1 := ext_alloc w (.cells #[.int .i64 x.1, .int .i64 x.2] 46)
  have h1 := blk_alloc w #[.int .i64 x.1, .int .i64 x.2] 46
  generalize hb1 : w.heap.size = b1 at *
  generalize w.alloc (.cells #[.int .i64 x.1, .int .i64 x.2] 46) = w1 at *
  have e2 := ext_alloc w1 (.cells #[.int .i64 y.1, .int .i64 y.2] 46)
  have h2 := blk_alloc w1 #[.int .i64 y.1, .int .i64 y.2] 46
  generalize hb2 : w1.heap.size = b2 at *
  generalize w1.alloc (.cells #[.int .i64 y.1, .int .i64 y.2] 46) = w2 at *
  refine ⟨_, (h.ext ((e.trans e1).trans e2)).cell (i := 0) rfl rfl, _, (h1.ext e2).cell (i := 0) (add_blk _ _) rfl, _, h2.cell (i := 0) (add_blk _ _) rfl, ?_⟩
  exact do_call Tryz.call176 (c_compare hx hy fun w3 e3 => retS_ret ⟨_, rfl, h' _ ((e1.trans e2).trans e3)⟩)
set_option maxRecDepth 20000 in
set_option maxHeartbeats 1600000 in
theorem c_rsort {o p : Int} {l : List Pr} {q : Option Addr} {n c : Nat} {w : World} {R : Ending → World → Prop} (hl : Cs w q (prs l)) (hn : l.length = n) (hm : n ≤ 1000000) (hI : InP l)
    (h : ∀ p' n' c' w', OwnP w' w.heap.size p' n' c' (cond (isO o && may p) (sortL o p l) []) → Ext w w' → R (.returned (.tuple #[.slice p' n' c', .int .i64 (cond (isO o && may p) 0 2)])) w') :
    Calls Tryz.prog 95 #[.int .u8 o, .int .u8 p, .slice q n c] w R := by
  refine sh95_ok _ _ _ _ _ ?_
  unfold sh95
  refine ⟨?_⟩
  have e1 := ext_alloc w (.cells #[.int .u8 o] 5)
  have h1 := blk_alloc w #[.int .u8 o] 5
  generalize w.heap.size = b1 at h1
  generalize w.alloc (.cells #[.int .u8 o] 5) = w1 at *
  refine ⟨_, h1.cell (i := 0) rfl rfl, ?_⟩
  refine do_call Tryz.call172 (c_name fun w2 e2 => retS_ret ⟨_, rfl, ?_⟩)
  rw [name_empty]
  cases ho : isO o
  · refine ifB_t rfl ?_
    have hr := h none 0 0 w2
    rw [ho, Bool.false_and] at hr
    exact hr (ownP_nil _ _) (e1.trans e2)
  refine ifB_f rfl ?_
  refine do_call Tryz.call151 (c_fmay fun w3 e3 => retS_ret ⟨_, rfl, ?_⟩)
  cases hp : may p
  · refine ifB_t rfl ?_
    have hr := h none 0 0 w3
    rw [ho, hp, Bool.and_false] at hr
    exact hr (ownP_nil _ _) ((e1.trans e2).trans e3)
  refine ifB_f rfl ?_
  rw [ho, hp] at h
  simp only [Bool.and_self, cond_true] at h
  have E3 := (e1.trans e2).trans e3
  have h3 := (h1.ext e2).ext e3
  clear e1 e2 e3
  refine do_call Tryz.call173 (c_clone (hl.ext E3) hn (by omega) fun q4 c4 w4 g4 e4 => retS_ret ⟨_, _, _, rfl, ?_⟩)
  refine do_call Tryz.call174 (c_sortStable (o := o) (w0 := w3) (B := w3.heap.size) (Nat.le_refl _) (by omega) (c_srt1 h3) ho (l := l) ⟨g4, e4, fun x hx => (hI x hx).1⟩ fun w5 S hS hst hw5 => retS_ret ⟨rfl, ?_⟩)
  have E5 := E3.trans hw5.ext
  have hIS : InP S := fun x hx => hI x ((hst.mem x).1 hx)
  have hSn : S.length = n := hw5.len
  have hsrc := ownP_cs hw5.own
  have hsz5 : w.heap.size ≤ w5.heap.size := E5.size
  clear h1 h3 g4 e4 hl
  refine ⟨fun vs w' => ∃ (i nn cc : Nat) (qq : Option Addr), vs = [.slice qq nn cc, .int .i64 i] ∧ i ≤ n ∧ Ext w5 w' ∧ OwnP w' w5.heap.size qq nn cc (sortL o p (S.take i)),
    fun vs _ => n - (intOf (vs.getD 1 undef)).toNat, ⟨0, 0, 0, none, rfl, by omega, ext_refl _, ownP_nil _ _⟩, ?_⟩
  rintro q' n' c' x' _ w6 ⟨i, nn, cc, qq, hv, hi, e6, hrow⟩
  simp only [List.cons.injEq, Value.slice.injEq, Value.int.injEq, true_and, and_true] at hv
  obtain ⟨⟨rfl, rfl, rfl⟩, rfl⟩ := hv
  refine ifB_intro (fun hlt => ?_) fun hge => ?_
  rotate_left
  · have hge : ¬ (i : Int) < n := of_decide_eq_false hge
    rw [List.take_of_length_le (by omega), sortL_stab ho hp hI hst] at hrow
    exact h _ _ _ _ (row_mono hrow hsz5) (E5.trans e6)
  have hlt : i < n := by have := of_decide_eq_true hlt; omega
  have hi' : i < S.length := by omega
  have hinv : ∀ x ∈ S.take i, In x.1 ∧ In x.2 := fun x hx => hIS x (List.mem_of_mem_take hx)
  obtain ⟨m1, m2, m3⟩ := sortL_may (p := p) ho hp hinv
  have hkeys := sortL_keys ho hp hinv
  have hxI := hIS _ (List.getElem_mem hi')
  have hle : ∀ y ∈ sortL o p (S.take i), codeI o y.1 ≤ codeI o S[i].1 := fun y hy => by
    obtain ⟨z, hz, e⟩ := hkeys y hy
    obtain ⟨j, hj, e'⟩ := List.getElem_of_mem hz
    rw [List.length_take] at hj
    rw [← e, ← e', List.getElem_take]
    exact srt_get hS (by omega) hi'
  have hstep : sortL o p (S.take (i + 1)) = putR o p (sortL o p (S.take i)) S[i] := sortL_take hi'
  rw [List.length_take] at m3
  have hrl := ownP_len hrow
  have hcap : n' ≤ n := by omega
  generalize hr0 : sortL o p (S.take i) = r at *
  refine ix_pr (hsrc.ext e6) hSn rfl hlt fun a r1 r2 _ => ⟨_, r1, _, r2, ⟨?_⟩⟩
  have e7 := ext_alloc w6 (.cells #[.int .i64 0, .int .i64 0] 46)
  refine do_st2 (blk_alloc w6 _ _) fun w8 h8 g8 => ?_
  have E8 : Ext w6 w8 := e7.st g8 (Nat.le_refl _)
  generalize hbx : w6.heap.size = bx at *
  have hrow8 := E8.row hrow
  have hnext : IntKind.wrap .i64 ((i : Int) + 1) = ((i + 1 : Nat) : Int) := wrap_succ (n := n) (by omega) (by omega)
  have hmu : n - (intOf ((([.slice q' n' c', .int .i64 ((i + 1 : Nat) : Int)] : List Value)).getD 1 undef)).toNat < n - (intOf ((([.slice q' n' c', .int .i64 (i : Int)] : List Value)).getD 1 undef)).toNat := by
    show n - (((i + 1 : Nat) : Int)).toNat < n - ((i : Nat) : Int).toNat
    omega
  have hbsz : w5.heap.size ≤ bx := by rw [← hbx]; exact e6.size
  -- a new key
  have hnew : ∀ w', Ext w8 w' → (∀ y ∈ r, ltO o y.1 S[i].1) → ∃ (x41 : Int), World.cell? w' ((blk bx).add 0) = some (.int .i64 x41) ∧ (
     ∃ (x42 : Int), World.cell? w' ((blk bx).add 1) = some (.int .i64 x42) ∧ (
     doAl (.cells #[.int .i64 x41, .int .i64 x42] 46) w' (fun b43 w44 =>
     doGo Tryz.prog (.builtin .append #[22, 22] 22 #[false, false]) #[.slice q' n' c', .slice (some (blk b43)) 1 1] w44 (retS (fun v48 w49 => ∃ (xp45 : Option Addr), ∃ (xn46 : Nat), ∃ (xc47 : Nat), v48 = (.slice xp45 xn46 xc47 : Value) ∧ (
       (∃ (i' nn cc : Nat) (qq : Option Addr), ([.slice xp45 xn46 xc47, .int .i64 (IntKind.wrap .i64 ((i : Int) + 1))] : List Value) = [.slice qq nn cc, .int .i64 i'] ∧ i' ≤ n ∧ Ext w5 w49 ∧ OwnP w49 w5.heap.size qq nn cc (sortL o p (S.take i'))) ∧
       n - (intOf (([.slice xp45 xn46 xc47, .int .i64 (IntKind.wrap .i64 ((i : Int) + 1))] : List Value).getD 1 undef)).toNat < n - (intOf (([.slice q' n' c', .int .i64 (i : Int)] : List Value).getD 1 undef)).toNat)) (fun ch w => Kfn R ch [] w))))) := by
    intro w' e9 hall
    have h9 := h8.ext e9
    refine ⟨_, h9.cell (i := 0) (add_blk _ _) rfl, _, h9.cell (i := 1) (add_blk _ _) rfl, ⟨?_⟩⟩
    have e10 := ext_alloc w' (.cells #[.int .i64 S[i].1, .int .i64 S[i].2] 46)
    have hrow10 := (e9.trans e10).row hrow8
    refine do_app elP hrow10 (m := 1) (cs_alloc w' _ _) (by simp) (by simp [Value.oneCell']) (by simp only [maxLen]; omega) (by omega) (Nat.le_trans e6.size (Nat.le_trans E8.size (e9.trans e10).size)) fun q11 c11 w11 h11 g11 => retS_ret ⟨_, _, _, rfl, ?_⟩
    rw [hnext]
    refine ⟨⟨i + 1, n' + 1, c11, q11, rfl, by omega, ?_, ?_⟩, ?_⟩
    · exact ext_own hrow10 (((e6.trans E8).trans e9).trans e10) g11 (Nat.le_refl _)
    · rw [hstep, put_end m1 hp hall]
      unfold OwnP; rw [prs_append]; exact h11
    · show n - (((i + 1 : Nat) : Int)).toNat < n - ((i : Nat) : Int).toNat
      omega
  refine ⟨⟨fun w' => Ext w8 w', ext_drew _, ?_⟩⟩
  refine ifB_intro (fun h0 => ?_) fun h0 => ?_
  · have h0 : n' = 0 := by simpa using h0
    refine ifB_t rfl (hnew _ (ext_drew _) ?_)
    have : r = [] := List.eq_nil_of_length_eq_zero (by omega)
    subst this; intro y hy; cases hy
  have h0 : 0 < n' := by have : ¬ n' = 0 := by simpa using h0
                         omega
  have hw1 : IntKind.wrap .i64 ((n' : Int) - 1) = ((n' - 1 : Nat) : Int) := by rw [wrap_of (by omega) (by omega)]; omega
  rw [hw1]
  refine ix_prC (fun w' e' => (ownP_cs hrow8).ext e') (ext_refl _) hrl (k := n' - 1) rfl (by omega) fun a s1 _ => ⟨_, s1, _, fun w' e' => (h8.ext e').cell (i := 0) (add_blk _ _) rfl, ?_⟩
  refine ifB_intro (fun hne => ?_) fun heq => ?_
  · have hne : (r[n' - 1]'(by omega)).1 ≠ S[i].1 := by simpa using hne
    refine hnew _ (ext_drew _) fun y hy => ?_
    have hlast : ltO o (r[n' - 1]'(by omega)).1 S[i].1 := by
      have h1 := hle _ (List.getElem_mem (show n' - 1 < r.length by omega))
      show cmpI o _ _ < 0
      rw [cmp_lt ho]
      rcases Int.lt_or_le (codeI o (r[n' - 1]'(by omega)).1) (codeI o S[i].1) with h | h
      · exact h
      · exfalso
        refine hne (cmpI_eq ho (m2 _ (List.getElem_mem _)).1 hxI.1 ?_)
        have k1 : ¬ cmpI o (r[n' - 1]'(by omega)).1 S[i].1 < 0 := by rw [cmp_lt ho]; omega
        have k2 : ¬ 0 < cmpI o (r[n' - 1]'(by omega)).1 S[i].1 := fun k => by
          have := cmpI_pos k
          rw [cmp_lt ho] at this; omega
        omega
    obtain ⟨j, hj, e⟩ := List.getElem_of_mem hy
    rcases Nat.lt_or_ge j (n' - 1) with hjl | hjl
    · rw [← e]; exact cmpI_trans (chain_lt (mayR_chain m1) hjl (by omega)) hlast
    · have : j = n' - 1 := by omega
      subst this; rw [← e]; exact hlast
  have heq : (r[n' - 1]'(by omega)).1 = S[i].1 := by simpa using heq
  refine ⟨⟨fun w' => Ext w8.drew w', ext_drew _, ?_⟩⟩
  have e9 := ext_drew w8
  refine ix_prC (fun w' e' => ((ownP_cs hrow8).ext e9).ext e') (ext_refl _) hrl (k := n' - 1) rfl (by omega) fun a _ s2 => ⟨_, s2, _, fun w' e' => ((h8.ext e9).ext e').cell (i := 1) (add_blk _ _) rfl, ?_⟩
  refine do_call Tryz.call154 (c_comb fun w11 e11 => retS_ret ⟨_, _, rfl, ?_⟩)
  rw [hp, cond_true]
  have E11 := (e9.trans (ext_drew _)).trans e11
  have hrow11 := E11.row hrow8
  refine ix_pr (ownP_cs hrow11) hrl (k := n' - 1) rfl (by omega) fun a' _ _ ha' => ?_
  refine own_st2 hrow11 (by omega) ha' fun w12 h12 g12 => ?_
  rw [hnext]
  refine ⟨⟨i + 1, n', c', q', rfl, by omega, ext_own hrow11 ((e6.trans E8).trans E11) g12 (Nat.le_refl _), ?_⟩, hmu⟩
  rw [hstep, put_last m1 hp (by omega) (by simpa [hrl] using heq)]
  simp only [hrl]
  exact h12
end Go.Proofs.YtlddfgfmkapoiaaGreat

namespace Go.Proofs.YtlddfgfmkapoiaaGreat
open Go Go.Sh Go.RowKit

/-! ### what the three do with an item -/
/-! ### Insert, Delete, Set -/
end Go.Proofs.YtlddfgfmkapoiaaGreat

namespace Go.Proofs.YtlddfgfmkapoiaaGreat
open Go Go.Sh Go.RowKit

/-! ### the chapter's examples -/
end Go.Proofs.YtlddfgfmkapoiaaGreat

namespace Go.Proofs.YtlddfgfmkapoiaaGreat
open Go Go.Sh Go.RowKit

theorem asc_filter {o : Int} {l : List It} {q : It → Bool} (h : asc o l) : asc o (l.filter q) := List.Pairwise.sublist (List.Sublist.map _ List.filter_sublist) h
/-! ### trees -/
end Go.Proofs.YtlddfgfmkapoiaaGreat

namespace Go.Proofs.YtlddfgfmkapoiaaGreat
open Go Go.Sh Go.RowKit

/-- what the closure holds -/
structure CapsU (w : World) (b8 b10 b14 b12 b : Nat) (o p : Int) (T12 T14 : TypeId) : Prop where
  s : Blk w b8 #[.pointer (some (blk b))] 25
  o : Blk w b10 #[.int .u8 o] 5
  on : Blk w b14 #[.func (.func 212) #[] #[.pointer (some (blk b8)), .pointer (some (blk b10)), .pointer (some (blk b14)), .pointer (some (blk b12))]] T14
  come : Blk w b12 #[.func (.func 158) #[.int .u8 p] #[]] T12
  ne : b8 ≠ b ∧ b10 ≠ b ∧ b14 ≠ b ∧ b12 ≠ b
theorem CapsU.gs {w w' : World} {b8 b10 b14 b12 b : Nat} {o p : Int} {T12 T14 : TypeId} (h : CapsU w b8 b10 b14 b12 b o p T12 T14) (g : Gs b w w') : CapsU w' b8 b10 b14 b12 b o p T12 T14 :=
  ⟨h.s.gs g h.ne.1, h.o.gs g h.ne.2.1, h.on.gs g h.ne.2.2.1, h.come.gs g h.ne.2.2.2, h.ne⟩
end Go.Proofs.YtlddfgfmkapoiaaGreat

namespace Go.Proofs.YtlddfgfmkapoiaaGreat
open Go Go.Sh Go.RowKit

/-! ### Many -/
structure OkU (c o : Int) (t : Tr) : Prop where
  ok : OkM c t
  asc : asc o (itsC c t)
  k : InK t
/-! ### the document's -/
end Go.Proofs.YtlddfgfmkapoiaaGreat

namespace Go.Proofs.YtlddfgfmkapoiaaGreat
open Go Go.Sh Go.RowKit

/-! ### trees -/
end Go.Proofs.YtlddfgfmkapoiaaGreat

namespace Go.Proofs.YtlddfgfmkapoiaaGreat
open Go Go.Sh Go.RowKit

end Go.Proofs.YtlddfgfmkapoiaaGreat

namespace Go.Proofs.YtlddfgfmkapoiaaGreat
open Go Go.Sh Go.RowKit

theorem sortL_mem {o p k : Int} (ho : isO o = true) (hp : may p = true) {l : List Pr} (hl : InP l) : (∃ y ∈ sortL o p l, y.1 = k) ↔ ∃ z ∈ l, z.1 = k := by
  constructor
  · rintro ⟨y, hy, rfl⟩
    exact sortL_keys ho hp hl y hy
  · rintro ⟨z, hz, rfl⟩
    have hm := sortL_may ho hp hl
    have e := sortL_lk0 ho hp hl z.1
    have hz' : z ∈ l.filter fun x => x.1 == z.1 := List.mem_filter.2 ⟨hz, by simp⟩
    have hs : ∀ (m : List Int) (a : Option Int), a.isSome = true ∨ m ≠ [] → (m.foldl (addO p) a).isSome = true := by
      intro m
      induction m with
      | nil => intro a h; rcases h with h | h
               · exact h
               · exact absurd rfl h
      | cons x m ih => intro a _; exact ih _ (.inl (by cases a <;> rfl))
    have := hs ((l.filter fun x => x.1 == z.1).map (·.2)) none (.inr fun q => by
      have := List.map_eq_nil_iff.1 q
      rw [this] at hz'; cases hz')
    rw [← e] at this
    cases hv : lk o (sortL o p l) z.1 with
    | none => rw [hv] at this; cases this
    | some v => exact ⟨_, (lk_iff hm.1).1 hv, rfl⟩
theorem tagL_key {c : Int} {ds : List Int} {l : List Pr} {k : Int} : (∃ x ∈ tagL c ds l, x.1 = k) ↔ ∃ y ∈ l, y.1 = k := by
  have e := tagL_prs c ds l
  constructor
  · rintro ⟨x, hx, rfl⟩
    refine ⟨(x.1, x.2.1), ?_, rfl⟩
    have := List.mem_map_of_mem (f := fun x : It => (x.1, x.2.1)) hx
    rw [e] at this
    exact this
  · rintro ⟨y, hy, rfl⟩
    rw [← e] at hy
    obtain ⟨x, hx, rfl⟩ := List.mem_map.1 hy
    exact ⟨x, hx, rfl⟩
end Go.Proofs.YtlddfgfmkapoiaaGreat

namespace Go.Proofs.YtlddfgfmkapoiaaGreat
open Go Go.Sh Go.RowKit

theorem c_brow_no {o : Int} {sp p : Option Addr} {l : List Pr} {q : Option Addr} {n cp : Nat} {w : World} {R : Ending → World → Prop} (hl : Cs w q (prs l)) (hn : l.length = n) (hB : n ≤ 1000000) (hI : InP l) (hno : sp = none ∨ mayR o l = false)
    (h : ∀ w', Ext w w' → R (.returned (.tuple #[.pointer none, .int .i64 2])) w') : Calls Tryz.prog 32 #[.pointer sp, .int .u8 o, .pointer p, .slice q n cp] w R := by
  refine sh32_ok _ _ _ _ _ _ ?_
  unfold sh32
  intro K13 _
  cases sp with
  | none => exact ifB_t rfl (h _ (ext_refl w))
  | some a =>
    have hm : mayR o l = false := by rcases hno with h | h
                                     · cases h
                                     · exact h
    refine ifB_f rfl (do_call Tryz.call101 (c_may hl hn (by omega) hI fun w1 e1 => retS_ret ⟨_, rfl, ?_⟩))
    rw [hm]
    exact ifB_t rfl (h _ e1)
theorem c_bof {c o po : Int} {b : Nat} {p : Option Addr} {D : Option (Nat × Nat × Nat × Nat)} {ds : List Int} {l : List Pr} {q : Option Addr} {n cp : Nat} {w : World} {R : Ending → World → Prop} (ho : isO o = true) (hp : may po = true) (hs : IsSch c b w) (hd : IsD p D ds w) (hN : topD D ≤ w.heap.size)
    (hl : Cs w q (prs l)) (hn : l.length = n) (hB : n ≤ 1000000) (hI : InP l)
    (h : ∀ qt w', Gd (b :: blksD D) w w' → IsSch c b w' → IsD p D (restL c ds (sortL o po l)) w' → IsN w' qt (bldC c (tagL c ds (sortL o po l))) → R (.returned (.tuple #[.pointer qt, .int .i64 0])) w') :
    Calls Tryz.prog 23 #[.pointer (some (blk b)), .int .u8 o, .int .u8 po, .pointer p, .slice q n cp] w R := by
  refine sh23_ok _ _ _ _ _ _ _ ?_
  unfold sh23
  refine do_call Tryz.call95 (c_rsort hl hn hB hI fun q1 n1 c1 w1 h1 e1 => retS_ret ⟨_, _, _, _, rfl, ?_⟩)
  rw [ho, hp] at h1 ⊢
  have h1 : OwnP w1 w.heap.size q1 n1 c1 (sortL o po l) := h1
  refine ifB_f rfl ?_
  have hm := sortL_may ho hp hI
  have hn1 := ownP_len h1
  have hslt := hs.lt
  have hDlt := hd.lt
  have l1 := e1.size
  refine do_call Tryz.call32 (c_brow (hs.ext e1) (hd.ext e1) (by omega) (fun w' g => ownP_cs (row_gd h1 g fun k hk => ?_)) hn1 (by omega) hm.2.1 hm.1 fun qt w2 g2 hs2 hd2 h2 => retS_ret ⟨_, _, rfl, h qt w2 ((gd_of e1).trans g2) hs2 hd2 h2⟩)
  rcases List.mem_cons.1 hk with rfl | hk
  · exact hslt
  · exact (hDlt k hk).1
theorem c_bof_no {o po : Int} {sp p : Option Addr} {l : List Pr} {q : Option Addr} {n cp : Nat} {w : World} {R : Ending → World → Prop} (hl : Cs w q (prs l)) (hn : l.length = n) (hB : n ≤ 1000000) (hI : InP l) (hno : sp = none ∨ (isO o && may po) = false)
    (h : ∀ w', Ext w w' → R (.returned (.tuple #[.pointer none, .int .i64 2])) w') : Calls Tryz.prog 23 #[.pointer sp, .int .u8 o, .int .u8 po, .pointer p, .slice q n cp] w R := by
  refine sh23_ok _ _ _ _ _ _ _ ?_
  unfold sh23
  refine do_call Tryz.call95 (c_rsort hl hn hB hI fun q1 n1 c1 w1 h1 e1 => retS_ret ⟨_, _, _, _, rfl, ?_⟩)
  cases hop : isO o && may po with
  | false => exact ifB_t rfl (h _ e1)
  | true =>
    rw [hop] at h1
    have h1 : OwnP w1 w.heap.size q1 n1 c1 (sortL o po l) := h1
    have hsp : sp = none := by rcases hno with h | h
                               · exact h
                               · rw [hop] at h; cases h
    have ho : isO o = true := by simp at hop; exact hop.1
    have hp : may po = true := by simp at hop; exact hop.2
    have hm := sortL_may ho hp hI
    have hn1 := ownP_len h1
    exact ifB_f rfl (do_call Tryz.call32 (c_brow_no (ownP_cs h1) hn1 (by omega) hm.2.1 (.inl hsp) fun w2 e2 => retS_ret ⟨_, _, rfl, h w2 (e1.trans e2)⟩))
/-! ### Keys -/
/-! ### the document's -/
end Go.Proofs.YtlddfgfmkapoiaaGreat

namespace Go.Proofs.YtlddfgfmkapoiaaGreat
open Go Go.Sh Go.RowKit

theorem IsRd.two {b M N : Nat} {ds : List Int} {S : List Nat} {w w' : World} (h : IsRd b M N ds w) (g : Gd S w w') (hS : ∀ k ∈ S, N ≤ k) : IsRd b M N ds w' := h.gd g fun k hk => .inl (hS k hk)
set_option maxRecDepth 20000 in
set_option maxHeartbeats 1000000 in
theorem c_r27items {c : Int} {b M N : Nat} {ds : List Int} {l : List Pr} {q : Option Addr} {n cp : Nat} {w : World} {R : Ending → World → Prop} (hd : IsRd b M N ds w) (hN : N ≤ w.heap.size) (hl : ∀ w', Gs b w w' → Cs w' q (prs l)) (hn : l.length = n) (hB : n ≤ 1000000)
    (h : ∀ q' n' c' w', Gs b w w' → IsRd b M N (restL c ds l) w' → OwnI w' w.heap.size q' n' c' (tagL c ds l) → R (.returned (.slice q' n' c')) w') :
    Calls Tryz.prog 35 #[.int .u8 c, .pointer (some (blk b)), .slice q n cp] w R := by
  refine sh35_ok _ _ _ _ _ ?_
  unfold sh35
  have hbN := hd.lt.2
  refine ⟨fun vs w' => ∃ (i nn cc : Nat) (qq : Option Addr), vs = [.slice qq nn cc, .int .i64 i] ∧ i ≤ n ∧ Gs b w w' ∧ IsRd b M N (restL c ds (l.take i)) w' ∧ OwnI w' w.heap.size qq nn cc (tagL c ds (l.take i)),
    fun vs _ => n - (intOf (vs.getD 1 undef)).toNat, ⟨0, 0, 0, none, rfl, by omega, gs_refl _ _, ?_, ?_⟩, ?_⟩
  · have : restL c ds (l.take 0) = ds := by unfold restL; simp
    rw [this]; exact hd
  · rw [List.take_zero, tagL_nil]; exact ownI_nil _ _
  rintro q' n' c' x' _ w1 ⟨m, nn, cc, qq, hv, hm, g1, hd1, ho1⟩
  simp only [List.cons.injEq, Value.slice.injEq, Value.int.injEq, true_and, and_true] at hv
  obtain ⟨⟨rfl, rfl, rfl⟩, rfl⟩ := hv
  refine ifB_intro (fun hlt => ?_) fun hge => ?_
  · have hlt : m < n := by have := of_decide_eq_true hlt; omega
    have hml : m < l.length := by omega
    have l1 := g1.size
    have d1 := ext_drew w1
    have gd : Gs b w w1.drew := g1.trans (gs_of d1)
    refine ⟨⟨fun w' => Gs b w w', gd, ?_⟩⟩
    refine ix_prC (fun w' k => hl w' k) gd hn rfl hlt fun a r1 _ => ⟨_, r1, ?_⟩
    refine ix_prC (fun w' k => hl w' k) gd hn rfl hlt fun a r3 r4 => ⟨_, r4, ⟨?_⟩⟩
    have e2 := ext_alloc w1.drew (.cells #[.int .i64 0, .int .i64 0, .int .u64 0] 114)
    refine ⟨gd.trans (gs_of e2), ?_⟩
    refine do_st3 (blk_alloc w1.drew _ _) fun w2 h2 g2 => ?_
    have E2 : Ext w1 w2 := d1.trans (e2.st g2 (Nat.le_refl _))
    have lx := h2.lt
    have ebx : w1.drew.heap.size = w1.heap.size := rfl
    rw [ebx] at h2 lx ⊢
    obtain ⟨bx, hbx⟩ : ∃ bx, bx = w1.heap.size := ⟨_, rfl⟩
    rw [← hbx] at h2 lx ⊢
    have hd2 := hd1.ext E2
    have ho2 : OwnI w2 w.heap.size q' n' c' (tagL c ds (l.take m)) := E2.row ho1
    have G2 := g1.trans (gs_of E2)
    intro K26
    have hnn := ownI_len ho1
    rw [tagL_len, List.length_take] at hnn
    have hK : ∀ (g : Int) w3, Blk w3 bx #[.int .i64 (l[m]).1, .int .i64 (l[m]).2, .int .u64 g] 114 → Gs b w w3 → IsRd b M N (restL c ds (l.take (m + 1))) w3 → OwnI w3 w.heap.size q' n' c' (tagL c ds (l.take m)) →
        tagL c ds (l.take (m + 1)) = tagL c ds (l.take m) ++ [((l[m]).1, (l[m]).2, g)] → K26 w3 := by
      intro g w3 h3 G3 hd3 ho3 htg
      refine ⟨_, h3.cell (i := 0) (add_blk _ _) rfl, _, h3.cell (i := 1) (add_blk _ _) rfl, _, h3.cell (i := 2) (add_blk _ _) rfl, ?_⟩
      have l3 := G3.size
      refine do_app1I (x := ((l[m]).1, (l[m]).2, g)) ho3 (by omega) l3 fun q4 c4 w4 ho4 hx4 g4 hor => ⟨_, _, _, rfl, ?_⟩
      have own : ∀ k ∈ (Value.slice q' n' c').ownBlock.toList, w.heap.size ≤ k := fun k hk => (World.ownsRow.lt ho3 k (by simpa using hk)).1
      refine ⟨⟨m + 1, n' + 1, c4, q4, by rw [wrap_succ hlt (by omega)], by omega, ?_, hd3.two (gd_row g4) fun k hk => Nat.le_trans hN (own k hk), ?_⟩, ?_⟩
      · refine ⟨g4.os.trans G3.os, g4.tape.trans G3.tape, g4.output.trans G3.output, Nat.le_trans G3.size (World.grownBy.size g4), fun k hk hne => ?_⟩
        refine (g4.block k (Nat.lt_of_lt_of_le hk G3.size) fun e => ?_).trans (G3.block k hk hne)
        have := own k (by rw [← e]; simp)
        omega
      · rw [htg]; exact ho4
      · rw [wrap_succ hlt (by omega)]; simp [intOf]; omega
    refine ifB_intro (fun h4 => ?_) fun h4 => ?_
    · have h4 : c = 4 := by simpa using h4
      refine ix_pr (hl w2 G2) hn rfl hlt fun a k1 k2 _ => ⟨_, k1, ?_⟩
      refine do_call Tryz.call103 (c_r8next hd2 fun w3 g3 hd3 => retS_ret ⟨_, rfl, ?_⟩)
      have nbx : bx ≠ b := by omega
      refine do_st (h2.gs g3 nbx) (i := 2) (by rw [Sh.add_add, add_blk]) (by simp) fun w4 h4' g4 => ?_
      have l3 := g3.size
      refine hK (headD (restL c ds (l.take m)) (l[m]).1) w4 h4' ((G2.trans g3).st g4 (by omega)) ?_ ?_ ?_
      · rw [restL_take hml, if_pos h4]
        exact hd3.two (gd_one g4) fun k hk => by simp at hk; omega
      · have k1 : OwnI w3 w.heap.size q' n' c' (tagL c ds (l.take m)) := row_gd (S := [b]) ho2 (gd_gs g3 (by simp)) (by simp; omega)
        refine World.ownsRow.kept k1 g4 ?_
        cases hq : (Value.slice q' n' c').ownBlock with
        | none => exact .inl rfl
        | some k =>
          refine .inr fun e => ?_
          have := (World.ownsRow.lt ho1 k hq).2
          injection e with e
          omega
      · rw [tagL_take hml, if_pos h4]
    · have h4 : c ≠ 4 := by simpa using h4
      refine hK 0 w2 h2 G2 ?_ ho2 ?_
      · rw [restL_take hml, if_neg h4]; exact hd2
      · rw [tagL_take hml, if_neg h4]
  · have hge : m = n := by have := of_decide_eq_false hge; omega
    subst hge
    rw [List.take_of_length_le (by omega)] at hd1 ho1
    exact h _ _ _ _ g1 hd1 ho1
/-! ### what statements share -/
theorem isD_nil (w : World) : IsD none none [] w := ⟨rfl, rfl⟩
set_option maxRecDepth 20000 in
theorem c_alive27 {w : World} {R : Ending → World → Prop} (h : ∀ w', Ext w w' → R (.returned (.bool true)) w') : Calls Tryz.prog 20 #[] w R := by
  refine sh20_ok ?_
  unfold sh20
  refine do_call Tryz.call15 (c_l22of (fun h0 => by cases h0) fun hsc b w1 e1 hbw hs1 => retS_ret ⟨_, _, rfl, ifB_f rfl ⟨?_⟩⟩)
  have hb : w.heap.size ≤ b := by omega
  have hS : ∀ k ∈ (b :: blksD none), w.heap.size ≤ k := fun k hk => by simp [blksD] at hk; omega
  have iP : InP [((2 : Int), (20 : Int)), (1, 10), (2, 5)] := fun x hx => by
    simp at hx
    rcases hx with rfl | rfl | rfl <;> exact ⟨⟨by decide, by decide⟩, ⟨by decide, by decide⟩⟩
  have iQ : InP [((2 : Int), (0 : Int)), (1, 0)] := fun x hx => by
    simp at hx
    rcases hx with rfl | rfl <;> exact ⟨⟨by decide, by decide⟩, ⟨by decide, by decide⟩⟩
  have e2 := ext_alloc w1 (.cells #[.int .i64 2, .int .i64 20, .int .i64 1, .int .i64 10, .int .i64 2, .int .i64 5] 46)
  have c2 : Cs (w1.alloc (.cells #[.int .i64 2, .int .i64 20, .int .i64 1, .int .i64 10, .int .i64 2, .int .i64 5] 46)) (some (blk w1.heap.size)) (prs [((2 : Int), (20 : Int)), (1, 10), (2, 5)]) := cs_alloc w1 _ _
  refine do_call Tryz.call23 (c_bof (by decide) (by decide) (hs1.ext e2) (isD_nil _) (Nat.zero_le _) c2 rfl (by omega) iP fun qt w3 g3 hs3 _ h3 => retS_ret ⟨_, _, rfl, ⟨?_⟩⟩)
  have E3 := Ext.gd (e1.trans e2) g3 hS
  have hsort : sortL 1 3 [((2 : Int), (20 : Int)), (1, 10), (2, 5)] = [(1, 10), (2, 25)] := by decide +kernel
  rw [hsort] at h3
  have hit := bldC_its (c := 3) (ds := []) (l := [((1 : Int), (10 : Int)), (2, 25)]) (by decide)
  have hsz := bldC_size (c := 3) (by decide) (tagL 3 [] [((1 : Int), (10 : Int)), (2, 25)])
  have hok := (bldC_ok (c := 3) (by decide) (tagL 3 [] [((1 : Int), (10 : Int)), (2, 25)])).1
  rw [tagL_len] at hsz
  have htl : tagL 3 [] [((1 : Int), (10 : Int)), (2, 25)] = [(1, 10, 0), (2, 25, 0)] := rfl
  have e4 := ext_alloc w3 (.cells #[.int .i64 2, .int .i64 0, .int .i64 1, .int .i64 0] 46)
  have c4 : Cs (w3.alloc (.cells #[.int .i64 2, .int .i64 0, .int .i64 1, .int .i64 0] 46)) (some (blk w3.heap.size)) (prs [((2 : Int), (0 : Int)), (1, 0)]) := cs_alloc w3 _ _
  refine do_call Tryz.call32 (c_brow_no c4 rfl (by omega) iQ (.inr (by decide +kernel)) fun w5 e5 => retS_ret ⟨_, _, rfl, ?_⟩)
  intro K19
  refine ifB_t rfl (ifB_t rfl ⟨?_⟩)
  have c6 := cs_alloc w5 #[.int .i64 1, .int .i64 10, .int .u64 0, .int .i64 2, .int .i64 25, .int .u64 0] 114
  have e6 := ext_alloc w5 (.cells #[.int .i64 1, .int .i64 10, .int .u64 0, .int .i64 2, .int .i64 25, .int .u64 0] 114)
  have e36 := (e4.trans e5).trans e6
  refine do_call Tryz.call27 (c_has (L := [(1, 10, 0), (2, 25, 0)]) hok (by rw [hit, htl]; decide) (by rw [hit, htl]; decide) (h3.ext e36) (by rw [hsz]; decide) c6 rfl fun w7 e7 => retS_ret ⟨_, rfl, h _ ((E3.trans e36).trans e7)⟩)
end Go.Proofs.YtlddfgfmkapoiaaGreat

namespace Go.Proofs.YtlddfgfmkapoiaaGreat
open Go Go.Sh Go.RowKit

/-- what the closure holds -/
structure CapsM (w : World) (b14 b16 b18 b36 b : Nat) (o : Int) (F1 : Value) (F2 : Value) (F3 : Value) (T36 : TypeId) : Prop where
  way : Blk w b14 #[F1, F2, F3] 198
  s : Blk w b16 #[.pointer (some (blk b))] 25
  o : Blk w b18 #[.int .u8 o] 5
  on : Blk w b36 #[.func (.func 214) #[] #[.pointer (some (blk b14)), .pointer (some (blk b16)), .pointer (some (blk b18)), .pointer (some (blk b36))]] T36
  ne : b14 ≠ b ∧ b16 ≠ b ∧ b18 ≠ b ∧ b36 ≠ b
theorem CapsM.gs {w w' : World} {b14 b16 b18 b36 b : Nat} {o : Int} {F1 F2 F3 : Value} {T36 : TypeId} (h : CapsM w b14 b16 b18 b36 b o F1 F2 F3 T36) (g : Gs b w w') : CapsM w' b14 b16 b18 b36 b o F1 F2 F3 T36 :=
  ⟨h.way.gs g h.ne.1, h.s.gs g h.ne.2.1, h.o.gs g h.ne.2.2.1, h.on.gs g h.ne.2.2.2, h.ne⟩
end Go.Proofs.YtlddfgfmkapoiaaGreat

namespace Go.Proofs.YtlddfgfmkapoiaaGreat
open Go Go.Sh Go.RowKit

section
variable {c o : Int} {b : Nat} {a u : Tr} {pa pb : Option Addr} {w : World} {R : Ending → World → Prop}
end
end Go.Proofs.YtlddfgfmkapoiaaGreat

namespace Go.Proofs.YtlddfgfmkapoiaaGreat
open Go Go.Sh Go.RowKit

end Go.Proofs.YtlddfgfmkapoiaaGreat

namespace Go.Proofs.YtlddfgfmkapoiaaGreat
open Go Go.Sh Go.RowKit

/-- two trees that a statement takes -/
structure Law24T (code o : Int) (l : List Bd) (n : Nat) (t : BT) : Prop where
  n4 : n ≤ 400
  wf : t.wf = true
  l : l = t.beads
  fit : FitB t
  ok : OkM code t.tr
  asc : asc o (itsC code t.tr)
theorem Law24T.u {code o : Int} {l : List Bd} {n : Nat} {t : BT} (h : Law24T code o l n t) : OkU code o t.tr := ⟨h.ok, h.asc, h.fit.inK⟩
end Go.Proofs.YtlddfgfmkapoiaaGreat

namespace Go.Proofs.YtlddfgfmkapoiaaGreat
open Go Go.Sh Go.RowKit

theorem tagL_asc {c o : Int} {ds : List Int} {S : List Pr} (h : mayR o S = true) : asc o (tagL c ds S) := by
  have hc := mayR_chain h
  unfold asc
  have e : (tagL c ds S).map (·.1) = S.map (·.1) := by
    have := congrArg (List.map (·.1)) (tagL_prs c ds S)
    rw [List.map_map] at this
    exact this
  rw [e]
  exact chain_pw.1 hc
theorem tagL_inI {c : Int} {ds : List Int} {S : List Pr} (h : InP S) : InI (tagL c ds S) := fun x hx => by
  obtain ⟨y, hy, e⟩ := (tagL_key (k := x.1)).1 ⟨x, hx, rfl⟩
  rw [← e]; exact (h y hy).1
theorem bld_u {c o : Int} {ds : List Int} {S : List Pr} (hs : isS c = true) (hm : mayR o S = true) (hI : InP S) : OkU c o (bldC c (tagL c ds S)) :=
  ⟨(bldC_ok hs _).1, by rw [bldC_its hs]; exact tagL_asc hm, (inK_its (c := c)).2 (by rw [bldC_its hs]; exact tagL_inI hI)⟩
theorem gs_gd {b : Nat} {w w' : World} (g : Gd [b] w w') : Gs b w w' := ⟨g.1, g.2.1, g.2.2.1, g.2.2.2.1, fun k hk hne => g.2.2.2.2 k hk fun hm => hne (by simp at hm; rw [hm])⟩
theorem gs_none {b : Nat} {w w' : World} (g : Gd (b :: blksD none) w w') : Gs b w w' := gs_gd g
section
variable {c o po : Int} {b : Nat} {t : Tr} {pt : Option Addr} {w : World} {R : Ending → World → Prop}
end
/-! ### the document's -/
/-! ### what the statement asks beside -/
end Go.Proofs.YtlddfgfmkapoiaaGreat

namespace Go.Proofs.YtlddfgfmkapoiaaGreat
open Go Go.Sh
end Go.Proofs.YtlddfgfmkapoiaaGreat

namespace Go.Proofs.YtlddfgfmkapoiaaGreat
open Go Go.Sh
end Go.Proofs.YtlddfgfmkapoiaaGreat

namespace Go.Proofs.YtlddfgfmkapoiaaGreat
open Go Go.Sh Go.RowKit

theorem do_copyP {l : List Pr} {q : Option Addr} {n c : Nat} {w : World} {bs : Array Bool} {Kf : Value → World → Prop} {F : List PanicEntry → World → Prop} (hl : Cs w q (prs l)) (hn : l.length = n) (hm : n ≤ 1000000000000)
    (h : ∀ p c' w', OwnP w' w.heap.size p n c' l → Ext w w' → Kf (.slice p n c') w') : doGo Tryz.prog (.builtin .append #[22, 22] 22 bs) #[.slice none 0 0, .slice q n c] w (retS Kf F) := by
  refine do_app elP (ownP_nil w w.heap.size) (m := n) hl (by rw [prs_length]; omega) prs_one (by simp only [maxLen]; omega) (by omega) (Nat.le_refl _) fun p c' w1 h1 g1 => retS_ret ?_
  simp only [Nat.zero_add] at h1 ⊢
  exact h p c' w1 (by simpa using h1) ((ext_refl w).grown g1 (by intro k hk; cases hk))
end Go.Proofs.YtlddfgfmkapoiaaGreat

namespace Go.Proofs.YtlddfgfmkapoiaaGreat
open Go Go.Sh
set_option maxRecDepth 100000 in
/-- joinery/joinerylaw27.BuildTurns -/
def sh4 (code_1 : Int) (o_2 : Int) (p_3 : Int) (l_p4 : Option Addr) (l_n5 : Nat) (l_c6 : Nat) (by_7 : Int) (R : Ending → World → Prop) (w : World) : Prop :=
 doCall Tryz.prog (.func (.func 15) #[] #[]) #[.int .u8 code_1] w (retS (fun v10 w11 => ∃ (x8 : Option Addr), ∃ (x9 : Bool), v10 = (.tuple #[.pointer x8, .bool x9] : Value) ∧ (
 let K14 : Bool → World → Prop := fun (x12 : Bool) (w13 : World) => 
 ifB x12 (
 let K17 : Bool → World → Prop := fun (x15 : Bool) (w16 : World) => 
 R (.returned (.bool x15)) w16
 doCall Tryz.prog (.func (.func 18) #[] #[]) #[.int .u8 code_1] w13 (retS (fun v19 w20 => ∃ (x18 : Bool), v19 = (.bool x18 : Value) ∧ (
 ifB (x9 == x18) (
 doCall Tryz.prog (.func (.func 20) #[] #[]) #[] w20 (retS (fun v22 w23 => ∃ (x21 : Bool), v22 = (.bool x21 : Value) ∧ (
 K17 x21 w23)) (fun ch w => Kfn R ch [] w))) (
 R (.returned (.bool false)) w20))) (fun ch w => Kfn R ch [] w))) (
 ∃ (I24 : List Value → World → Prop) (μ25 : List Value → World → Nat), I24 [.int .i64 0] w13 ∧ (∀ (i_28 : Int), ∀ (_j26 : Nat → Value) (w27 : World), I24 [.int .i64 i_28] w27 → (
 ifB (decide ((i_28 : Int) < ((l_n5 : Nat) : Int))) (
 ∃ (I29 : List Value → World → Prop) (μ30 : List Value → World → Nat), I29 [.int .i64 0] w27 ∧ (∀ (k_33 : Int), ∀ (_j31 : Nat → Value) (w32 : World), I29 [.int .i64 k_33] w32 → (
 ifB (decide ((k_33 : Int) < i_28)) (
 doDr w32 (fun w35 =>
 ∃ (C34 : World → Prop), C34 w35 ∧ (
 doIx l_p4 l_n5 2 (i_28) (fun a36 =>
 ∃ (x37 : Int), (∀ w, C34 w → World.cell? w (a36.add 0) = some (.int .i64 x37)) ∧ (
 doIx l_p4 l_n5 2 (k_33) (fun a38 =>
 ∃ (x39 : Int), (∀ w, C34 w → World.cell? w (a38.add 0) = some (.int .i64 x39)) ∧ (
 ifB ((x37 : Int) == x39) (
 doCall Tryz.prog (.func (.func 20) #[] #[]) #[] w35 (retS (fun v41 w42 => ∃ (x40 : Bool), v41 = (.bool x40 : Value) ∧ (
 R (.returned (.bool x40)) w42)) (fun ch w => Kfn R ch [] w))) (
 I29 [.int .i64 (IntKind.wrap .i64 (k_33 + 1))] w35 ∧ μ30 [.int .i64 (IntKind.wrap .i64 (k_33 + 1))] w35 < μ30 [.int .i64 k_33] w32)))))))) (
 I24 [.int .i64 (IntKind.wrap .i64 (i_28 + 1))] w32 ∧ μ25 [.int .i64 (IntKind.wrap .i64 (i_28 + 1))] w32 < μ25 [.int .i64 i_28] w27)))) (
 (IntKind.wrap .i64 (((l_n5 : Nat) : Int) + 1)) ≠ (0 : Int) ∧ (
 doDr w27 (fun w43 =>
 doSl l_p4 l_c6 2 (Int.tmod (IntKind.wrap .i64 by_7) (IntKind.wrap .i64 (((l_n5 : Nat) : Int) + 1))) (((l_n5 : Nat) : Int)) (fun p44 n45 c46 =>
 doSl l_p4 l_c6 2 (0) (Int.tmod (IntKind.wrap .i64 by_7) (IntKind.wrap .i64 (((l_n5 : Nat) : Int) + 1))) (fun p47 n48 c49 =>
 doGo Tryz.prog (.builtin .append #[22, 22] 22 #[true, false]) #[.slice none 0 0, .slice p44 n45 c46] w43 (retS (fun v53 w54 => ∃ (xp50 : Option Addr), ∃ (xn51 : Nat), ∃ (xc52 : Nat), v53 = (.slice xp50 xn51 xc52 : Value) ∧ (
 doGo Tryz.prog (.builtin .append #[22, 22] 22 #[false, false]) #[.slice xp50 xn51 xc52, .slice p47 n48 c49] w54 (retS (fun v58 w59 => ∃ (xp55 : Option Addr), ∃ (xn56 : Nat), ∃ (xc57 : Nat), v58 = (.slice xp55 xn56 xc57 : Value) ∧ (
 doCall Tryz.prog (.func (.func 23) #[] #[]) #[.pointer x8, .int .u8 o_2, .int .u8 p_3, .pointer none, .slice l_p4 l_n5 l_c6] w59 (retS (fun v62 w63 => ∃ (x60 : Option Addr), ∃ (x61 : Int), v62 = (.tuple #[.pointer x60, .int .i64 x61] : Value) ∧ (
 doCall Tryz.prog (.func (.func 23) #[] #[]) #[.pointer x8, .int .u8 o_2, .int .u8 p_3, .pointer none, .slice xp55 xn56 xc57] w63 (retS (fun v66 w67 => ∃ (x64 : Option Addr), ∃ (x65 : Int), v66 = (.tuple #[.pointer x64, .int .i64 x65] : Value) ∧ (
 doCall Tryz.prog (.func (.func 28) #[] #[]) #[.slice l_p4 l_n5 l_c6] w67 (retS (fun v71 w72 => ∃ (xp68 : Option Addr), ∃ (xn69 : Nat), ∃ (xc70 : Nat), v71 = (.slice xp68 xn69 xc70 : Value) ∧ (
 doCall Tryz.prog (.func (.func 23) #[] #[]) #[.pointer x8, .int .u8 o_2, .int .u8 p_3, .pointer none, .slice xp68 xn69 xc70] w72 (retS (fun v75 w76 => ∃ (x73 : Option Addr), ∃ (x74 : Int), v75 = (.tuple #[.pointer x73, .int .i64 x74] : Value) ∧ (
 doCall Tryz.prog (.func (.func 29) #[] #[]) #[.pointer x60] w76 (retS (fun v80 w81 => ∃ (xp77 : Option Addr), ∃ (xn78 : Nat), ∃ (xc79 : Nat), v80 = (.slice xp77 xn78 xc79 : Value) ∧ (
 let K84 : Bool → World → Prop := fun (x82 : Bool) (w83 : World) => 
 R (.returned (.bool x82)) w83
 ifB ((x61 : Int) == 0) (
 ifB ((x65 : Int) == 0) (
 ifB ((x74 : Int) == 0) (
 ifB ((((xn78 : Nat) : Int) : Int) == ((l_n5 : Nat) : Int)) (
 doCall Tryz.prog (.func (.func 30) #[] #[]) #[.int .u8 o_2, .slice xp77 xn78 xc79] w81 (retS (fun v86 w87 => ∃ (x85 : Bool), v86 = (.bool x85 : Value) ∧ (
 ifB x85 (
 doCall Tryz.prog (.func (.func 29) #[] #[]) #[.pointer x64] w87 (retS (fun v91 w92 => ∃ (xp88 : Option Addr), ∃ (xn89 : Nat), ∃ (xc90 : Nat), v91 = (.slice xp88 xn89 xc90 : Value) ∧ (
 doCall Tryz.prog (.func (.func 31) #[] #[]) #[.slice xp77 xn78 xc79, .slice xp88 xn89 xc90] w92 (retS (fun v94 w95 => ∃ (x93 : Bool), v94 = (.bool x93 : Value) ∧ (
 ifB x93 (
 doCall Tryz.prog (.func (.func 29) #[] #[]) #[.pointer x73] w95 (retS (fun v99 w100 => ∃ (xp96 : Option Addr), ∃ (xn97 : Nat), ∃ (xc98 : Nat), v99 = (.slice xp96 xn97 xc98 : Value) ∧ (
 doCall Tryz.prog (.func (.func 31) #[] #[]) #[.slice xp77 xn78 xc79, .slice xp96 xn97 xc98] w100 (retS (fun v102 w103 => ∃ (x101 : Bool), v102 = (.bool x101 : Value) ∧ (
 ifB x101 (
 doCall Tryz.prog (.func (.func 20) #[] #[]) #[] w103 (retS (fun v105 w106 => ∃ (x104 : Bool), v105 = (.bool x104 : Value) ∧ (
 K84 x104 w106)) (fun ch w => Kfn R ch [] w))) (
 R (.returned (.bool false)) w103))) (fun ch w => Kfn R ch [] w)))) (fun ch w => Kfn R ch [] w))) (
 R (.returned (.bool false)) w95))) (fun ch w => Kfn R ch [] w)))) (fun ch w => Kfn R ch [] w))) (
 R (.returned (.bool false)) w87))) (fun ch w => Kfn R ch [] w))) (
 R (.returned (.bool false)) w81)) (
 R (.returned (.bool false)) w81)) (
 R (.returned (.bool false)) w81)) (
 R (.returned (.bool false)) w81))) (fun ch w => Kfn R ch [] w)))) (fun ch w => Kfn R ch [] w)))) (fun ch w => Kfn R ch [] w)))) (fun ch w => Kfn R ch [] w)))) (fun ch w => Kfn R ch [] w)))) (fun ch w => Kfn R ch [] w)))) (fun ch w => Kfn R ch [] w))))))))))
 ifB (decide ((((l_n5 : Nat) : Int) : Int) > 100)) (
 K14 true w11) (
 ifB (!x9) (
 K14 true w11) (
 doCall Tryz.prog (.func (.func 16) #[] #[]) #[.int .u8 o_2] w11 (retS (fun v108 w109 => ∃ (x107 : Bool), v108 = (.bool x107 : Value) ∧ (
 ifB (!x107) (
 K14 true w109) (
 doCall Tryz.prog (.func (.func 17) #[] #[]) #[.int .u8 p_3] w109 (retS (fun v111 w112 => ∃ (x110 : Bool), v111 = (.bool x110 : Value) ∧ (
 K14 (!x110) w112)) (fun ch w => Kfn R ch [] w))))) (fun ch w => Kfn R ch [] w)))))) (fun ch w => Kfn R ch [] w))
set_option maxRecDepth 100000 in
theorem sh4_ok (code_1 : Int) (o_2 : Int) (p_3 : Int) (l_p4 : Option Addr) (l_n5 : Nat) (l_c6 : Nat) (by_7 : Int) {R : Ending → World → Prop} {w : World} : sh4 code_1 o_2 p_3 l_p4 l_n5 l_c6 by_7 R w → Calls Tryz.prog 4 #[.int .u8 code_1, .int .u8 o_2, .int .u8 p_3, .slice l_p4 l_n5 l_c6, .int .u8 by_7] w R :=
  calls_of_eq (ann := fun i => if i = 2 then [(14, .int .i64 0)] else if i = 0 then [(13, .int .i64 0)] else []) (fn := Tryz.f4) (c := bodyOf Tryz.f4) (args := #[.int .u8 code_1, .int .u8 o_2, .int .u8 p_3, .slice l_p4 l_n5 l_c6, .int .u8 by_7]) 400 follows_mixed Tryz.func4 (by kernel_rfl) (by kernel_rfl)
end Go.Proofs.YtlddfgfmkapoiaaGreat

