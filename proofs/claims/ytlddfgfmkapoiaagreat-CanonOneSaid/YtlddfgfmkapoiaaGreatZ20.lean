/-
  slices.SortStableFunc over pairs: swaps, rotations, insertions, merges.
-/
/-
  slices.SortStableFunc over pairs, part 2: insertion, merge, the whole.
-/
/-
  slices.SortStableFunc over pairs, part 3: symMerge.
-/
import Derived.Test.YtlddfgfmkapoiaaGreatZ14

namespace Go.Proofs.YtlddfgfmkapoiaaGreat
open Go Go.Sh Go.RowKit

/-! ### Plain: sorted, stable -/
theorem cmp_lt {o a b : Int} (ho : isO o = true) : cmpI o a b < 0 ↔ codeI o a < codeI o b := by
  have ho' : 1 ≤ o ∧ o ≤ 7 := by simpa [isO] using ho
  unfold cmpI
  rw [if_pos ho']
  split
  · exact ⟨fun _ => by assumption, fun _ => by omega⟩
  · split <;> omega
abbrev Srt (o : Int) (l : List Pr) : Prop := l.Pairwise fun a b => codeI o a.1 ≤ codeI o b.1
def Stab (M L : List Pr) : Prop := ∀ k : Int, M.filter (fun x => x.1 == k) = L.filter (fun x => x.1 == k)
theorem Stab.refl (L : List Pr) : Stab L L := fun _ => rfl
theorem Stab.trans {A B C : List Pr} (h : Stab A B) (k : Stab B C) : Stab A C := fun i => (h i).trans (k i)
theorem Stab.app {A B C D : List Pr} (h : Stab A B) (k : Stab C D) : Stab (A ++ C) (B ++ D) := fun i => by rw [List.filter_append, List.filter_append, h i, k i]
theorem Stab.mem {A B : List Pr} (h : Stab A B) (x : Pr) : x ∈ A ↔ x ∈ B := by
  have : ∀ C : List Pr, x ∈ C ↔ x ∈ C.filter (fun y => y.1 == x.1) := fun C => by simp [List.mem_filter]
  rw [this A, this B, h x.1]
theorem filter_none' {p : Pr → Bool} {l : List Pr} (h : ∀ x ∈ l, p x = false) : l.filter p = [] := by
  rw [List.filter_eq_nil_iff]; intro x hx; simp [h x hx]
/-- two parts that have no key in common may be turned -/
theorem stab_swap {o : Int} {A B : List Pr} (h : ∀ a ∈ A, ∀ b ∈ B, codeI o b.1 < codeI o a.1) : Stab (B ++ A) (A ++ B) := fun k => by
  rw [List.filter_append, List.filter_append]
  by_cases hk : ∃ a ∈ A, a.1 = k
  · obtain ⟨a, ha, rfl⟩ := hk
    rw [filter_none' (l := B) fun b hb => by
      have := h a ha b hb
      cases hq : (b.1 == a.1)
      · rfl
      · have e : b.1 = a.1 := by simpa using hq
        rw [e] at this; omega]
    simp
  · rw [filter_none' (l := A) fun a ha => by
      cases hq : (a.1 == k)
      · rfl
      · exact absurd ⟨a, ha, by simpa using hq⟩ hk]
    simp
theorem srt_app {o : Int} {A B : List Pr} : Srt o (A ++ B) ↔ Srt o A ∧ Srt o B ∧ ∀ a ∈ A, ∀ b ∈ B, codeI o a.1 ≤ codeI o b.1 := List.pairwise_append
theorem srt_get {o : Int} {l : List Pr} (h : Srt o l) {i j : Nat} (hij : i ≤ j) (hj : j < l.length) : codeI o l[i].1 ≤ codeI o l[j].1 := by
  rcases Nat.lt_or_ge i j with h1 | h1
  · exact List.pairwise_iff_getElem.1 h i j (by omega) hj h1
  · have : i = j := by omega
    subst this; exact Int.le_refl _
/-! ### Swaps -/
theorem set_mid {α : Type} {U V : List α} {x y : α} {i : Nat} (hi : i = U.length) : (U ++ x :: V).set i y = U ++ y :: V := by
  subst hi
  rw [List.set_append_right _ _ (Nat.le_refl _), Nat.sub_self]; rfl
theorem own_st {l : List Pr} {p : Option Addr} {n c base k : Nat} {w : World} (ho : OwnP w base p n c l) (hk : k < n) {a : Addr} (ha : ∃ b, p = some b ∧ a = b.add (k * 2)) {u v : Int} {K : World → Prop}
    (h : ∀ w', OwnP w' base p n c (l.set k (u, v)) → w.grownBy w' (Value.slice p n c).ownBlock → K w') : doSt (a.add 0) (.int .i64 u) w fun w1 => doSt (a.add 1) (.int .i64 v) w1 K := by
  obtain ⟨b, hb, rfl⟩ := ha
  have hl := ownP_len ho
  rcases ownP_open ho with ⟨hp, hn0, _⟩ | ⟨g, cur, hp, hbg, hg, _, hcm, hcl, hct⟩
  · omega
  subst hp; cases hb
  rw [add_zero', add_add]
  have ea : (⟨g, 0, none⟩ : Addr).add (k * 2) = ⟨g, k * 2, none⟩ := add_blk g _
  have eb : (⟨g, 0, none⟩ : Addr).add (k * 2 + 1) = ⟨g, k * 2 + 1, none⟩ := add_blk g _
  rw [ea, eb]
  have hs := ho.stored (k * 2) (.int .i64 u)
  rw [prs_set1 (by omega)] at hs
  refine ⟨⟨_, by rw [ho.cellAt _ (by omega)]; exact List.getElem?_eq_getElem (by simp; omega)⟩, ho.frozenAt _, ?_⟩
  have ho1 : OwnP (w.setCell ⟨g, k * 2, none⟩ (.int .i64 u)) base (some ⟨g, 0, none⟩) n c (l.set k (u, (l[k]'(by omega)).2)) := hs.1
  have hs1 := ho1.stored (k * 2 + 1) (.int .i64 v)
  rw [prs_set2 (by simp; omega)] at hs1
  refine ⟨⟨_, by rw [ho1.cellAt _ (by omega)]; exact List.getElem?_eq_getElem (by simp; omega)⟩, ho1.frozenAt _, h _ ?_ (grown_trans hs.2 hs1.2)⟩
  have := hs1.1
  simp only [List.getElem_set_self, List.set_set] at this
  exact this
theorem do_swap {l : List Pr} {p : Option Addr} {n c B : Nat} {w : World} (ho : OwnP w B p n c l) {iX iY : Int} {x y : Nat} (hX : iX = (x : Int)) (hY : iY = (y : Int)) (hx : x < n) (hy : y < n) {K : World → Prop}
    (k : ∀ w', OwnP w' B p n c ((l.set x (l[y]'(by rw [ownP_len ho]; exact hy))).set y (l[x]'(by rw [ownP_len ho]; exact hx))) → w.grownBy w' (Value.slice p n c).ownBlock → K w') :
    doDr w (fun w16 => ∃ (C15 : World → Prop), C15 w16 ∧ (doIx p n 2 iY (fun a17 => ∃ (x18 : Int), (∀ w, C15 w → World.cell? w (a17.add 0) = some (.int .i64 x18)) ∧ (∃ (x19 : Int), (∀ w, C15 w → World.cell? w (a17.add 1) = some (.int .i64 x19)) ∧ (
      doIx p n 2 iX (fun a20 => ∃ (x21 : Int), (∀ w, C15 w → World.cell? w (a20.add 0) = some (.int .i64 x21)) ∧ (∃ (x22 : Int), (∀ w, C15 w → World.cell? w (a20.add 1) = some (.int .i64 x22)) ∧ (
      doIx p n 2 iX (fun a23 => doSt (a23.add 0) (.int .i64 x18) w16 (fun w24 => doSt (a23.add 1) (.int .i64 x19) w24 (fun w25 =>
      doIx p n 2 iY (fun a26 => doSt (a26.add 0) (.int .i64 x21) w25 (fun w27 => doSt (a26.add 1) (.int .i64 x22) w27 K))))))))))))) := by
  have hl := ownP_len ho
  have ho1 : OwnP w.drew B p n c l := row_to ho (ext_drew w) (Nat.le_refl _)
  refine ⟨⟨fun w' => w' = w.drew, rfl, ?_⟩⟩
  have hC : ∀ w', w' = w.drew → Cs w' p (prs l) := fun w' e => by subst e; exact ownP_cs ho1
  refine ix_prC hC rfl hl hY hy fun a r1 r2 => ⟨_, r1, _, r2, ?_⟩
  refine ix_prC hC rfl hl hX hx fun a r3 r4 => ⟨_, r3, _, r4, ?_⟩
  refine ix_pr (ownP_cs ho1) hl hX hx fun a _ _ ha => ?_
  refine own_st ho1 hx ha fun w2 ho2 g2 => ?_
  refine ix_pr (ownP_cs ho2) (by simp [hl]) hY hy fun a _ _ ha => ?_
  refine own_st ho2 hy ha fun w3 ho3 g3 => ?_
  exact k w3 ho3 (grown_trans (grown_trans (grown_drew w _) g2) g3)
/-- in a row that is parted at two elements -/
theorem swap_lists {U V W : List Pr} {a b : Pr} {x y : Nat} (hx : x = U.length) (hy : y = U.length + 1 + V.length) :
    ∀ (h1 : x < (U ++ a :: (V ++ b :: W)).length) (h2 : y < (U ++ a :: (V ++ b :: W)).length), ((U ++ a :: (V ++ b :: W)).set x (U ++ a :: (V ++ b :: W))[y]).set y (U ++ a :: (V ++ b :: W))[x] = U ++ b :: (V ++ a :: W) ∧
      ((U ++ a :: (V ++ b :: W)).set y (U ++ a :: (V ++ b :: W))[x]).set x (U ++ a :: (V ++ b :: W))[y] = U ++ b :: (V ++ a :: W) := by
  intro h1 h2
  have e1 : (U ++ a :: (V ++ b :: W))[x] = a := by
    subst hx; simp
  have e2 : (U ++ a :: (V ++ b :: W))[y] = b := by
    subst hy
    rw [List.getElem_append_right (by omega)]
    simp only [show U.length + 1 + V.length - U.length = V.length + 1 by omega, List.getElem_cons_succ]
    rw [List.getElem_append_right (Nat.le_refl _)]
    simp
  have e3 : ∀ (a b c : Pr), (U ++ a :: (V ++ b :: W)).set y c = U ++ a :: (V ++ c :: W) := fun a b c => by
    have := set_mid (U := U ++ a :: V) (V := W) (x := b) (y := c) (i := y) (by simp; omega)
    simpa using this
  have e4 : ∀ (a b c : Pr), (U ++ a :: (V ++ b :: W)).set x c = U ++ c :: (V ++ b :: W) := fun a b c => set_mid hx
  rw [e1, e2]
  exact ⟨by rw [e4, e3], by rw [e3, e4]⟩
/-- the state of a sort: a row of one's own, and all that was there before it -/
structure Rw (w0 : World) (B : Nat) (p : Option Addr) (n c : Nat) (w : World) (l : List Pr) : Prop where
  own : OwnP w B p n c l
  ext : Ext w0 w
  keys : ∀ x ∈ l, In x.1
theorem Rw.len {w0 : World} {B : Nat} {p : Option Addr} {n c : Nat} {w : World} {l : List Pr} (h : Rw w0 B p n c w l) : l.length = n := ownP_len h.own
/-- what the comparing function does -/
def Cmp (o : Int) (w0 : World) (f : Fn) (fx fc : Array Value) : Prop := ∀ (x y : Pr), In x.1 → In y.1 → ∀ w, Ext w0 w → ∀ R : Ending → World → Prop, (∀ w', Ext w w' → R (.returned (.int .i64 (cmpI o x.1 y.1))) w') → doCall Tryz.prog (.func f fx fc) #[agP x, agP y] w R
theorem c_swapRange {w0 : World} {B : Nat} {p : Option Addr} {n c : Nat} {f : Fn} {fx fc : Array Value} (hB : w0.heap.size ≤ B) (hm : n ≤ 1000000000000) {L A M Bq S : List Pr} {a b k : Nat} {w : World} {R : Ending → World → Prop}
    (hw : Rw w0 B p n c w (L ++ (A ++ (M ++ (Bq ++ S))))) (hA : A.length = k) (hBq : Bq.length = k) (ha : a = L.length) (hb : b = L.length + k + M.length)
    (h : ∀ w', Rw w0 B p n c w' (L ++ (Bq ++ (M ++ (A ++ S)))) → R (.returned (.tuple #[])) w') :
    Calls Tryz.prog 345 #[.slice p n c, .int .i64 (a : Nat), .int .i64 (b : Nat), .int .i64 (k : Nat), .func f fx fc] w R := by
  refine sh345_ok _ _ _ _ _ _ _ _ _ ?_
  unfold sh345
  have hlen := hw.len
  simp only [List.length_append] at hlen
  refine ⟨fun vs w' => ∃ t : Nat, vs = [.int .i64 t] ∧ t ≤ k ∧ Rw w0 B p n c w' (L ++ ((Bq.take t ++ A.drop t) ++ (M ++ ((A.take t ++ Bq.drop t) ++ S)))), fun vs _ => k - (intOf (vs.getD 0 undef)).toNat, ⟨0, rfl, by omega, by simpa using hw⟩, ?_⟩
  rintro i _ w1 ⟨t, hv, htk, hr⟩
  simp only [List.cons.injEq, Value.int.injEq, true_and, and_true] at hv
  subst hv
  refine ifB_intro (fun hlt => ?_) fun hge => ?_
  · have hlt : t < k := by have := of_decide_eq_true hlt; omega
    have hAt : A.drop t = (A[t]'(by omega)) :: A.drop (t + 1) := List.drop_eq_getElem_cons (by omega)
    have hBt : Bq.drop t = (Bq[t]'(by omega)) :: Bq.drop (t + 1) := List.drop_eq_getElem_cons (by omega)
    have el : L ++ ((Bq.take t ++ A.drop t) ++ (M ++ ((A.take t ++ Bq.drop t) ++ S))) = (L ++ Bq.take t) ++ (A[t]'(by omega)) :: ((A.drop (t + 1) ++ (M ++ A.take t)) ++ (Bq[t]'(by omega)) :: (Bq.drop (t + 1) ++ S)) := by
      rw [hAt, hBt]; simp only [List.append_assoc, List.cons_append]
    rw [el] at hr
    have hx : a + t = (L ++ Bq.take t).length := by simp; omega
    have hy : b + t = (L ++ Bq.take t).length + 1 + (A.drop (t + 1) ++ (M ++ A.take t)).length := by simp; omega
    have e1 : IntKind.wrap .i64 ((a : Int) + (t : Int)) = ((a + t : Nat) : Int) := by rw [wrap_of (by omega) (by omega)]; omega
    have e2 : IntKind.wrap .i64 ((b : Int) + (t : Int)) = ((b + t : Nat) : Int) := by rw [wrap_of (by omega) (by omega)]; omega
    have hlen1 := hr.len
    refine do_swap hr.own e1 e2 (by omega) (by omega) fun w2 ho2 g2 => ?_
    rw [(swap_lists hx hy (by omega) (by omega)).1] at ho2
    refine ⟨⟨t + 1, by rw [wrap_succ hlt (by omega)], by omega, ⟨?_, ext_own hr.own hr.ext g2 hB, fun x hx => hr.keys x ?_⟩⟩, ?_⟩
    · have : L ++ ((Bq.take (t + 1) ++ A.drop (t + 1)) ++ (M ++ ((A.take (t + 1) ++ Bq.drop (t + 1)) ++ S))) = (L ++ Bq.take t) ++ (Bq[t]'(by omega)) :: ((A.drop (t + 1) ++ (M ++ A.take t)) ++ (A[t]'(by omega)) :: (Bq.drop (t + 1) ++ S)) := by
        rw [show Bq.take (t + 1) = Bq.take t ++ [Bq[t]'(by omega)] from (List.take_append_getElem (by omega)).symm, show A.take (t + 1) = A.take t ++ [A[t]'(by omega)] from (List.take_append_getElem (by omega)).symm]
        simp only [List.append_assoc, List.cons_append, List.nil_append]
      rw [this]; exact ho2
    · rw [show Bq.take (t + 1) = Bq.take t ++ [Bq[t]'(by omega)] from (List.take_append_getElem (by omega)).symm, show A.take (t + 1) = A.take t ++ [A[t]'(by omega)] from (List.take_append_getElem (by omega)).symm] at hx
      simp only [List.mem_append, List.mem_cons, List.not_mem_nil, or_false] at hx ⊢
      rcases hx with h | ((h | h) | h) | h | ((h | h) | h) | h <;> simp [h]
    · rw [wrap_succ hlt (by omega)]; simp [intOf]; omega
  · have hge : t = k := by have := of_decide_eq_false hge; omega
    subst hge
    rw [List.take_of_length_le (by omega), List.take_of_length_le (by omega), List.drop_of_length_le (by omega), List.drop_of_length_le (by omega)] at hr
    exact h w1 (by simpa using hr)
theorem c_rotate {w0 : World} {B : Nat} {p : Option Addr} {n c : Nat} {f : Fn} {fx fc : Array Value} (hB : w0.heap.size ≤ B) (hm : n ≤ 1000000000000) {L U V S : List Pr} {a m b : Nat} {w : World} {R : Ending → World → Prop}
    (hw : Rw w0 B p n c w (L ++ (U ++ (V ++ S)))) (ha : a = L.length) (hmm : m = L.length + U.length) (hb : b = L.length + U.length + V.length) (hU : 0 < U.length) (hV : 0 < V.length)
    (h : ∀ w', Rw w0 B p n c w' (L ++ (V ++ (U ++ S))) → R (.returned (.tuple #[])) w') :
    Calls Tryz.prog 330 #[.slice p n c, .int .i64 (a : Nat), .int .i64 (m : Nat), .int .i64 (b : Nat), .func f fx fc] w R := by
  refine sh330_ok _ _ _ _ _ _ _ _ _ ?_
  unfold sh330
  have hlen := hw.len
  simp only [List.length_append] at hlen
  refine ⟨fun vs w' => ∃ (l u v s : List Pr), vs = [.int .i64 (u.length : Nat), .int .i64 (v.length : Nat)] ∧ Rw w0 B p n c w' (l ++ (u ++ (v ++ s))) ∧ 0 < u.length ∧ 0 < v.length ∧ m = l.length + u.length ∧ l ++ (v ++ (u ++ s)) = L ++ (V ++ (U ++ S)),
    fun vs _ => (intOf (vs.getD 0 undef)).toNat + (intOf (vs.getD 1 undef)).toNat, ⟨L, U, V, S, ?_, hw, hU, hV, hmm, rfl⟩, ?_⟩
  · rw [wrap_of (by omega) (by omega), wrap_of (by omega) (by omega), show (m : Int) - (a : Int) = (U.length : Int) by omega, show (b : Int) - (m : Int) = (V.length : Int) by omega]
  rintro i j _ w1 ⟨l, u, v, s, hv, hr, hu, hvv, hml, hfin⟩
  simp only [List.cons.injEq, Value.int.injEq, true_and, and_true] at hv
  obtain ⟨rfl, rfl⟩ := hv
  have hlen1 := hr.len
  simp only [List.length_append] at hlen1
  have e1 : IntKind.wrap .i64 ((m : Int) - (u.length : Int)) = ((m - u.length : Nat) : Int) := by rw [wrap_of (by omega) (by omega)]; omega
  refine ifB_intro (fun hne => ?_) fun heq => ?_
  · have hne : u.length ≠ v.length := by intro e; rw [e] at hne; simp at hne
    refine ifB_intro (fun hgt => ?_) fun hle => ?_
    · have hgt : v.length < u.length := by have := of_decide_eq_true hgt; omega
      rw [e1]
      have hsp : l ++ (u ++ (v ++ s)) = l ++ (u.take v.length ++ (u.drop v.length ++ (v ++ s))) := by rw [← List.append_assoc (u.take _), List.take_append_drop]
      rw [hsp] at hr
      refine do_call Tryz.call345 (c_swapRange hB hm hr (k := v.length) (by simp; omega) rfl (by omega) (by simp; omega) fun w2 hr2 => retS_ret ⟨rfl, ⟨l ++ v, u.drop v.length, u.take v.length, s, ?_, ?_, ?_, ?_, ?_, ?_⟩, ?_⟩)
      · rw [wrap_of (by omega) (by omega), List.length_drop, List.length_take, show ((u.length : Int) - (v.length : Int)) = ((u.length - v.length : Nat) : Int) by omega, show min v.length u.length = v.length by omega]
      · simpa using hr2
      · simp; omega
      · simp; omega
      · simp; omega
      · rw [← hfin]; simp only [List.append_assoc]; rw [← List.append_assoc (u.take _) (u.drop _), List.take_append_drop]
      · rw [wrap_of (by omega) (by omega)]; simp [intOf]; omega
    · have hle : u.length < v.length := by have := of_decide_eq_false hle; omega
      have e2 : IntKind.wrap .i64 (IntKind.wrap .i64 ((m : Int) + (v.length : Int)) - (u.length : Int)) = ((m + v.length - u.length : Nat) : Int) := by
        rw [wrap_of (x := (m : Int) + (v.length : Int)) (by omega) (by omega), wrap_of (by omega) (by omega)]; omega
      rw [e1, e2]
      have hsp : l ++ (u ++ (v ++ s)) = l ++ (u ++ (v.take (v.length - u.length) ++ (v.drop (v.length - u.length) ++ s))) := by rw [← List.append_assoc (v.take _), List.take_append_drop]
      rw [hsp] at hr
      refine do_call Tryz.call345 (c_swapRange hB hm hr (k := u.length) rfl (by simp; omega) (by omega) (by simp; omega) fun w2 hr2 => retS_ret ⟨rfl, ⟨l, v.drop (v.length - u.length), v.take (v.length - u.length), u ++ s, ?_, ?_, ?_, ?_, ?_, ?_⟩, ?_⟩)
      · rw [wrap_of (by omega) (by omega), List.length_drop, List.length_take, show ((v.length : Int) - (u.length : Int)) = ((v.length - u.length : Nat) : Int) by omega, show min (v.length - u.length) v.length = v.length - u.length by omega, show v.length - (v.length - u.length) = u.length by omega]
      · exact hr2
      · simp; omega
      · simp; omega
      · simp; omega
      · rw [← hfin, ← List.append_assoc (v.take _) (v.drop _), List.take_append_drop]
      · rw [wrap_of (by omega) (by omega)]; simp [intOf]; omega
  · have heq : u.length = v.length := by simp at heq; omega
    rw [e1]
    have hsp : l ++ (u ++ (v ++ s)) = l ++ (u ++ ([] ++ (v ++ s))) := rfl
    rw [hsp] at hr
    refine do_call Tryz.call345 (c_swapRange hB hm hr (k := u.length) rfl heq.symm (by omega) (by simp; omega) fun w2 hr2 => retS_ret ⟨rfl, h w2 ?_⟩)
    rw [← hfin]; exact hr2
end Go.Proofs.YtlddfgfmkapoiaaGreat

namespace Go.Proofs.YtlddfgfmkapoiaaGreat
open Go Go.Sh Go.RowKit

theorem last_split {l : List Pr} (h : 0 < l.length) : ∃ u z, l = u ++ [z] := by
  have hne : l ≠ [] := by intro e; subst e; simp at h
  exact ⟨l.dropLast, l.getLast hne, (List.dropLast_concat_getLast hne).symm⟩
set_option maxRecDepth 20000 in
theorem c_insertion {o : Int} {w0 : World} {B : Nat} {p : Option Addr} {n c : Nat} {f : Fn} {fx fc : Array Value} (hB : w0.heap.size ≤ B) (hm : n ≤ 1000000000000) (hcmp : Cmp o w0 f fx fc) (hO : isO o = true) {L X S : List Pr} {a b : Nat} {w : World} {R : Ending → World → Prop}
    (hw : Rw w0 B p n c w (L ++ (X ++ S))) (ha : a = L.length) (hb : b = L.length + X.length)
    (h : ∀ w' X', Srt o X' → Stab X' X → Rw w0 B p n c w' (L ++ (X' ++ S)) → R (.returned (.tuple #[])) w') :
    Calls Tryz.prog 296 #[.slice p n c, .int .i64 (a : Nat), .int .i64 (b : Nat), .func f fx fc] w R := by
  refine sh296_ok _ _ _ _ _ _ _ _ ?_
  unfold sh296
  have hlen := hw.len
  simp only [List.length_append] at hlen
  refine ⟨fun vs w' => ∃ (i : Nat) (Xp Y M : List Pr), vs = [.int .i64 i] ∧ X = Xp ++ Y ∧ Srt o M ∧ Stab M Xp ∧ M.length = Xp.length ∧ Rw w0 B p n c w' (L ++ (M ++ (Y ++ S))) ∧ ((i = a + Xp.length ∧ 0 < Xp.length) ∨ (X = [] ∧ i = a + 1)), fun vs _ => n + 2 - (intOf (vs.getD 0 undef)).toNat, ?_, ?_⟩
  · have e : IntKind.wrap .i64 ((a : Int) + 1) = ((a + 1 : Nat) : Int) := by rw [wrap_of (by omega) (by omega)]; omega
    rw [e]
    cases X with
    | nil => exact ⟨a + 1, [], [], [], rfl, rfl, List.Pairwise.nil, Stab.refl _, rfl, hw, .inr ⟨rfl, rfl⟩⟩
    | cons x xs => exact ⟨a + 1, [x], xs, [x], rfl, rfl, List.pairwise_singleton _ _, Stab.refl _, rfl, hw, .inl ⟨rfl, by simp⟩⟩
  rintro i' _ w1 ⟨i, Xp, Y, M, hv, hX, hsM, hstM, hMl, hr, hi⟩
  simp only [List.cons.injEq, Value.int.injEq, true_and, and_true] at hv
  subst hv
  have hXl : X.length = Xp.length + Y.length := by rw [hX, List.length_append]
  refine ifB_intro (fun hlt => ?_) fun hge => ?_
  rotate_left
  · have hge : b ≤ i := by have := of_decide_eq_false hge; omega
    have hY : Y = [] := by
      rcases hi with ⟨h1, h2⟩ | ⟨h1, h2⟩
      · exact List.eq_nil_of_length_eq_zero (by omega)
      · rw [h1] at hXl; exact List.eq_nil_of_length_eq_zero (by simp at hXl; omega)
    subst hY
    rw [List.append_nil] at hX
    subst hX
    exact h w1 M hsM hstM (by simpa using hr)
  have hlt : i < b := by have := of_decide_eq_true hlt; omega
  have hia : i = a + Xp.length ∧ 0 < Xp.length := by
    rcases hi with h1 | ⟨h1, h2⟩
    · exact h1
    · rw [h1] at hb; simp at hb; omega
  obtain ⟨hia, hpos⟩ := hia
  obtain ⟨x, Y', rfl⟩ : ∃ x Y', Y = x :: Y' := by
    cases Y with
    | nil => simp at hXl; omega
    | cons x Y' => exact ⟨x, Y', rfl⟩
  have hxI : In x.1 := hr.keys x (by simp)
  have ei : IntKind.wrap .i64 ((i : Int) + 1) = ((i + 1 : Nat) : Int) := wrap_succ (n := n) (by omega) (by omega)
  rw [ei]
  -- behind a round
  have hK : ∀ {w' : World} {M1 M2 : List Pr}, M = M1 ++ M2 → (∀ y ∈ M2, codeI o x.1 < codeI o y.1) → (∀ y ∈ M1, codeI o y.1 ≤ codeI o x.1) → Rw w0 B p n c w' (L ++ (M1 ++ x :: (M2 ++ (Y' ++ S)))) →
      (∃ (i2 : Nat) (Xp Y M : List Pr), [Value.int .i64 ((i + 1 : Nat) : Int)] = [.int .i64 (i2 : Nat)] ∧ X = Xp ++ Y ∧ Srt o M ∧ Stab M Xp ∧ M.length = Xp.length ∧ Rw w0 B p n c w' (L ++ (M ++ (Y ++ S))) ∧ ((i2 = a + Xp.length ∧ 0 < Xp.length) ∨ (X = [] ∧ i2 = a + 1))) ∧
        n + 2 - (intOf (([Value.int .i64 ((i + 1 : Nat) : Int)] : List Value).getD 0 undef)).toNat < n + 2 - (intOf (([Value.int .i64 (i : Int)] : List Value).getD 0 undef)).toNat := by
    intro w' M1 M2 hM h2 h1 hrw
    have hs := hsM
    rw [hM, srt_app] at hs
    refine ⟨⟨i + 1, Xp ++ [x], Y', M1 ++ x :: M2, rfl, by rw [hX]; simp, ?_, ?_, ?_, ?_, .inl ⟨?_, ?_⟩⟩, ?_⟩
    · rw [srt_app]
      refine ⟨hs.1, List.Pairwise.cons (fun y hy => by have := h2 y hy; omega) hs.2.1, fun y hy z hz => ?_⟩
      rcases List.mem_cons.1 hz with rfl | hz
      · exact h1 y hy
      · exact hs.2.2 y hy z hz
    · have e1 : Stab (M1 ++ ([x] ++ M2)) (M1 ++ (M2 ++ [x])) := (Stab.refl M1).app (stab_swap fun y hy z hz => by simp at hz; subst hz; exact h2 y hy)
      have e2 : Stab (M1 ++ (M2 ++ [x])) (Xp ++ [x]) := by rw [← List.append_assoc, ← hM]; exact hstM.app (Stab.refl _)
      exact e1.trans e2
    · have := congrArg List.length hM
      simp only [List.length_append, List.length_cons, List.length_nil] at this ⊢
      omega
    · rw [List.append_assoc, List.cons_append]; exact hrw
    · simp; omega
    · simp
    · simp [intOf]; omega
  refine ⟨fun vs w' => ∃ M1 M2 : List Pr, vs = [.int .i64 (a + M1.length : Nat)] ∧ M = M1 ++ M2 ∧ (∀ y ∈ M2, codeI o x.1 < codeI o y.1) ∧ Rw w0 B p n c w' (L ++ (M1 ++ x :: (M2 ++ (Y' ++ S)))), fun vs _ => (intOf (vs.getD 0 undef)).toNat,
    ⟨M, [], by rw [hMl, hia], by simp, by simp, by simpa using hr⟩, ?_⟩
  rintro j _ w2 ⟨M1, M2, hv, hM, h2, hr2⟩
  simp only [List.cons.injEq, Value.int.injEq, true_and, and_true] at hv
  subst hv
  have hlen2 := hr2.len
  simp only [List.length_append, List.length_cons] at hlen2
  have hsM' := hsM
  rw [hM, srt_app] at hsM'
  refine ⟨⟨fun w' => Ext w2 w', ext_drew _, ?_⟩⟩
  refine ifB_intro (fun hgt => ?_) fun hle => ?_
  rotate_left
  · have h0 : M1 = [] := List.eq_nil_of_length_eq_zero (by have := of_decide_eq_false hle; omega)
    have hr3 : Rw w0 B p n c w2.drew (L ++ (M1 ++ x :: (M2 ++ (Y' ++ S)))) := ⟨row_to hr2.own (ext_drew _) (Nat.le_refl _), hr2.ext.drew, hr2.keys⟩
    exact hK hM h2 (by rw [h0]; intro y hy; cases hy) hr3
  have hgt : 0 < M1.length := by have := of_decide_eq_true hgt; omega
  obtain ⟨u, z, rfl⟩ := last_split hgt
  simp only [List.length_append, List.length_cons, List.length_nil] at hlen2
  have ed : L ++ ((u ++ [z]) ++ x :: (M2 ++ (Y' ++ S))) = (L ++ u) ++ z :: ([] ++ x :: (M2 ++ (Y' ++ S))) := by simp
  rw [ed] at hr2
  have ej : IntKind.wrap .i64 (((a + (u ++ [z]).length : Nat) : Int) - 1) = ((a + u.length : Nat) : Int) := by
    rw [List.length_append, List.length_singleton, wrap_of (by omega) (by omega)]; omega
  rw [ej]
  have ej' : a + (u ++ [z]).length = a + u.length + 1 := by rw [List.length_append, List.length_singleton]; omega
  rw [ej']
  have hln := hr2.len
  have g1 : ((L ++ u) ++ z :: ([] ++ x :: (M2 ++ (Y' ++ S))))[a + u.length]'(by rw [hln]; omega) = z := by
    rw [List.getElem_append_right (by simp; omega)]; simp [ha]
  have g2 : ((L ++ u) ++ z :: ([] ++ x :: (M2 ++ (Y' ++ S))))[a + u.length + 1]'(by rw [hln]; omega) = x := by
    rw [List.getElem_append_right (by simp; omega)]; simp [ha, show L.length + u.length + 1 - (L.length + u.length) = 1 by omega]
  have hC : ∀ w', Ext w2 w' → Cs w' p (prs ((L ++ u) ++ z :: ([] ++ x :: (M2 ++ (Y' ++ S))))) := fun w' e => (ownP_cs hr2.own).ext e
  have hzI : In z.1 := hr2.keys z (by simp)
  refine ix_prC hC (ext_refl _) hln (k := a + u.length + 1) rfl (by omega) fun q r1 r2 => ⟨_, r1, _, r2, ?_⟩
  refine ix_prC hC (ext_refl _) hln (k := a + u.length) rfl (by omega) fun q r3 r4 => ⟨_, r3, _, r4, ?_⟩
  rw [g1, g2]
  refine hcmp x z hxI hzI w2.drew hr2.ext.drew _ fun w3 e3 => retS_ret ⟨_, rfl, ?_⟩
  have hr3 : Rw w0 B p n c w3 ((L ++ u) ++ z :: ([] ++ x :: (M2 ++ (Y' ++ S)))) := ⟨row_to hr2.own ((ext_drew _).trans e3) (Nat.le_refl _), hr2.ext.trans ((ext_drew _).trans e3), hr2.keys⟩
  refine ifB_intro (fun hc => ?_) fun hc => ?_
  · have hc : codeI o x.1 < codeI o z.1 := (cmp_lt hO).1 (of_decide_eq_true hc)
    refine do_swap hr3.own (x := a + u.length + 1) (y := a + u.length) rfl rfl (by omega) (by omega) fun w4 ho4 g4 => ?_
    rw [(swap_lists (x := a + u.length) (y := a + u.length + 1) (by simp; omega) (by simp; omega) (by rw [hln]; omega) (by rw [hln]; omega)).2] at ho4
    refine ⟨⟨u, z :: M2, rfl, by rw [hM]; simp, fun y hy => ?_, ⟨?_, ext_own hr3.own hr3.ext g4 hB, fun y hy => hr3.keys y ?_⟩⟩, ?_⟩
    · rcases List.mem_cons.1 hy with rfl | hy
      · exact hc
      · exact h2 y hy
    · simpa using ho4
    · simp only [List.mem_append, List.mem_cons, List.not_mem_nil, false_or] at hy ⊢
      rcases hy with h | h | h | (h | h) | h | h <;> simp [h]
    · simp [intOf]; omega
  · have hc : codeI o z.1 ≤ codeI o x.1 := by
      have := of_decide_eq_false hc
      rw [cmp_lt hO] at this; omega
    refine hK hM h2 (fun y hy => ?_) (by rw [ed]; exact hr3)
    rcases List.mem_append.1 hy with h | h
    · have := (srt_app.1 hsM'.1).2.2 y h z (by simp); omega
    · simp at h; subst h; exact hc
end Go.Proofs.YtlddfgfmkapoiaaGreat

namespace Go.Proofs.YtlddfgfmkapoiaaGreat
open Go Go.Sh Go.RowKit

theorem get_part {P X Q : List Pr} {i : Nat} (h1 : P.length ≤ i) (h2 : i < P.length + X.length) (h3 : i < (P ++ (X ++ Q)).length) : (P ++ (X ++ Q))[i] = X[i - P.length]'(by omega) := by
  rw [List.getElem_append_right h1, List.getElem_append_left]
theorem Rw.to {w0 : World} {B : Nat} {p : Option Addr} {n c : Nat} {w w' : World} {l : List Pr} (h : Rw w0 B p n c w l) (e : Ext w w') : Rw w0 B p n c w' l := ⟨row_to h.own e (Nat.le_refl _), h.ext.trans e, h.keys⟩
/-- reading and comparing two elements -/
theorem do_cmp {o : Int} {w0 : World} {B : Nat} {p : Option Addr} {n c : Nat} {f : Fn} {fx fc : Array Value} (hcmp : Cmp o w0 f fx fc) {l : List Pr} {w : World} (hr : Rw w0 B p n c w l) {iX iY : Int} {x y : Nat} (hX : iX = (x : Int)) (hY : iY = (y : Int)) (hx : x < n) (hy : y < n) {K : Int → World → Prop} {Kf : List PanicEntry → World → Prop}
    (k : ∀ w', Ext w w' → K (cmpI o (l[x]'(by rw [hr.len]; exact hx)).1 (l[y]'(by rw [hr.len]; exact hy)).1) w') :
    doDr w (fun w17 => ∃ (C16 : World → Prop), C16 w17 ∧ (doIx p n 2 iX (fun a18 => ∃ (x19 : Int), (∀ w, C16 w → World.cell? w (a18.add 0) = some (.int .i64 x19)) ∧ (∃ (x20 : Int), (∀ w, C16 w → World.cell? w (a18.add 1) = some (.int .i64 x20)) ∧ (
      doIx p n 2 iY (fun a21 => ∃ (x22 : Int), (∀ w, C16 w → World.cell? w (a21.add 0) = some (.int .i64 x22)) ∧ (∃ (x23 : Int), (∀ w, C16 w → World.cell? w (a21.add 1) = some (.int .i64 x23)) ∧ (
      doCall Tryz.prog (.func f fx fc) #[.agg #[.int .i64 x19, .int .i64 x20], .agg #[.int .i64 x22, .int .i64 x23]] w17 (retS (fun v25 w26 => ∃ (x24 : Int), v25 = (.int .i64 x24 : Value) ∧ (K x24 w26)) Kf))))))))) := by
  have hC : ∀ w', Ext w w' → Cs w' p (prs l) := fun w' e => (ownP_cs hr.own).ext e
  refine ⟨⟨fun w' => Ext w w', ext_drew _, ?_⟩⟩
  refine ix_prC hC (ext_refl _) hr.len hX hx fun q r1 r2 => ⟨_, r1, _, r2, ?_⟩
  refine ix_prC hC (ext_refl _) hr.len hY hy fun q r3 r4 => ⟨_, r3, _, r4, ?_⟩
  exact hcmp _ _ (hr.keys _ (List.getElem_mem _)) (hr.keys _ (List.getElem_mem _)) w.drew hr.ext.drew _ fun w3 e3 => retS_ret ⟨_, rfl, k w3 ((ext_drew _).trans e3)⟩
set_option maxRecDepth 20000 in
set_option maxHeartbeats 1600000 in
theorem c_symMerge {o : Int} {w0 : World} {B : Nat} {p : Option Addr} {n c : Nat} {f : Fn} {fx fc : Array Value} (hB : w0.heap.size ≤ B) (hm : n ≤ 1000000000000) (hcmp : Cmp o w0 f fx fc) (hO : isO o = true) :
    ∀ (N : Nat) {L X Y S : List Pr} {a m b : Nat} {w : World} {R : Ending → World → Prop}, X.length + Y.length ≤ N → Rw w0 B p n c w (L ++ (X ++ (Y ++ S))) → Srt o X → Srt o Y → 0 < X.length → 0 < Y.length → a = L.length → m = L.length + X.length → b = L.length + X.length + Y.length →
      (∀ w' M, Srt o M → Stab M (X ++ Y) → M.length = X.length + Y.length → Rw w0 B p n c w' (L ++ (M ++ S)) → R (.returned (.tuple #[])) w') →
      Calls Tryz.prog 297 #[.slice p n c, .int .i64 (a : Nat), .int .i64 (m : Nat), .int .i64 (b : Nat), .func f fx fc] w R := by
  intro N
  induction N with
  | zero => intro L X Y S a m b w R hN; intros; omega
  | succ N ih =>
    intro L X Y S a m b w R hN hw hsX hsY hX0 hY0 ha hmm hb h
    refine sh297_ok _ _ _ _ _ _ _ _ _ ?_
    unfold sh297
    have hlen := hw.len
    simp only [List.length_append] at hlen
    have dX : ∀ (i : Nat) (h : i < X.length), (L ++ (X ++ (Y ++ S)))[a + i]'(by simp; omega) = X[i] := fun i hi => by
      rw [get_part (by omega) (by omega)]; simp [ha]
    have dY : ∀ (i : Nat) (h : i < Y.length), (L ++ (X ++ (Y ++ S)))[m + i]'(by simp; omega) = Y[i] := fun i hi => by
      have := get_part (P := L ++ X) (X := Y) (Q := S) (i := m + i) (by simp; omega) (by simp; omega) (by simp; omega)
      simp only [List.append_assoc] at this
      rw [this]; simp [hmm]
    refine ifB_intro (fun h1 => ?_) fun h1 => ?_
    · -- one element ahead
      have hX1 : X.length = 1 := by
        rw [wrap_of (by omega) (by omega)] at h1
        have : (m : Int) - (a : Int) = 1 := by simpa using h1
        omega
      obtain ⟨x, rfl⟩ : ∃ x, X = [x] := List.length_eq_one_iff.1 hX1
      have hx1 : ([x] : List Pr).length = 1 := rfl
      have dx : (L ++ ([x] ++ (Y ++ S)))[a]'(by simp; omega) = x := by have := dX 0 (by omega); simpa using this
      refine ⟨fun vs w' => ∃ i j : Nat, vs = [.int .i64 i, .int .i64 j] ∧ m ≤ i ∧ i ≤ j ∧ j ≤ b ∧ Rw w0 B p n c w' (L ++ ([x] ++ (Y ++ S))) ∧ (∀ k (h : k < Y.length), m + k < i → codeI o Y[k].1 < codeI o x.1) ∧ (∀ k (h : k < Y.length), j ≤ m + k → codeI o x.1 ≤ codeI o Y[k].1),
        fun vs _ => (intOf (vs.getD 1 undef)).toNat - (intOf (vs.getD 0 undef)).toNat, ⟨m, b, rfl, by omega, by omega, by omega, hw, fun k hk h => by omega, fun k hk h => by omega⟩, ?_⟩
      rintro i' j' _ w1 ⟨i, j, hv, hmi, hij, hjb, hr, hlo, hhi⟩
      simp only [List.cons.injEq, Value.int.injEq, true_and, and_true] at hv
      obtain ⟨rfl, rfl⟩ := hv
      refine ifB_intro (fun hlt => ?_) fun hge => ?_
      · have hlt : i < j := by have := of_decide_eq_true hlt; omega
        rw [mid_eq hlt (by omega)]
        refine ⟨by omega, ?_⟩
        obtain ⟨hh, hhe⟩ : ∃ hh, (i + j) / 2 = m + hh := ⟨(i + j) / 2 - m, by omega⟩
        have hhl : hh < Y.length := by omega
        refine do_cmp hcmp hr (x := (i + j) / 2) (y := a) rfl rfl (by omega) (by omega) fun w2 e2 => ?_
        have dh : (L ++ ([x] ++ (Y ++ S)))[(i + j) / 2]'(by simp; omega) = Y[hh] := by simp only [hhe]; exact dY hh hhl
        rw [dh, dx]
        refine ifB_intro (fun hc => ?_) fun hc => ?_
        · have hc := (cmp_lt hO).1 (of_decide_eq_true hc)
          have e : IntKind.wrap .i64 ((((i + j) / 2 : Nat) : Int) + 1) = (((i + j) / 2 + 1 : Nat) : Int) := wrap_succ (n := n) (by omega) (by omega)
          rw [e]
          refine ⟨⟨(i + j) / 2 + 1, j, rfl, by omega, by omega, hjb, hr.to e2, fun k hk h => ?_, hhi⟩, by simp [intOf]; omega⟩
          have := srt_get hsY (i := k) (j := hh) (by omega) hhl
          omega
        · have hc : codeI o x.1 ≤ codeI o Y[hh].1 := by have := of_decide_eq_false hc; rw [cmp_lt hO] at this; omega
          refine ⟨⟨i, (i + j) / 2, rfl, hmi, by omega, by omega, hr.to e2, hlo, fun k hk h => ?_⟩, by simp [intOf]; omega⟩
          have := srt_get hsY (i := hh) (j := k) (by omega) hk
          omega
      have hge : i = j := by have := of_decide_eq_false hge; omega
      subst hge
      obtain ⟨t0, ht0⟩ : ∃ t0, i = m + t0 := ⟨i - m, by omega⟩
      have hY1 : ∀ y ∈ Y.take t0, codeI o y.1 < codeI o x.1 := fun y hy => by
        obtain ⟨k, hk, rfl⟩ := List.getElem_of_mem hy
        rw [List.length_take] at hk
        rw [List.getElem_take]
        exact hlo k (by omega) (by omega)
      have hY2 : ∀ y ∈ Y.drop t0, codeI o x.1 ≤ codeI o y.1 := fun y hy => by
        obtain ⟨k, hk, rfl⟩ := List.getElem_of_mem hy
        rw [List.length_drop] at hk
        rw [List.getElem_drop]
        exact hhi (t0 + k) (by omega) (by omega)
      have ei : IntKind.wrap .i64 ((i : Int) - 1) = ((a + t0 : Nat) : Int) := by rw [wrap_of (by omega) (by omega)]; omega
      rw [ei]
      have hYl : (Y.take t0).length = t0 := by rw [List.length_take]; omega
      have hYs : Y.take t0 ++ Y.drop t0 = Y := List.take_append_drop _ _
      refine ⟨fun vs w' => ∃ u v : List Pr, vs = [.int .i64 (a + u.length : Nat)] ∧ Y.take t0 = u ++ v ∧ Rw w0 B p n c w' (L ++ (u ++ x :: (v ++ (Y.drop t0 ++ S)))), fun vs _ => a + t0 - (intOf (vs.getD 0 undef)).toNat,
        ⟨[], Y.take t0, by simp, rfl, by rw [← List.append_assoc (Y.take t0), hYs]; exact hr⟩, ?_⟩
      rintro k' _ w2 ⟨u, v, hv, huv, hr2⟩
      simp only [List.cons.injEq, Value.int.injEq, true_and, and_true] at hv
      subst hv
      have huvl := congrArg List.length huv
      rw [hYl, List.length_append] at huvl
      have hlen2 := hr2.len
      simp only [List.length_append, List.length_cons] at hlen2
      refine ifB_intro (fun hlt => ?_) fun hge => ?_
      · have hlt : u.length < t0 := by have := of_decide_eq_true hlt; omega
        obtain ⟨y, v', rfl⟩ : ∃ y v', v = y :: v' := by
          cases v with
          | nil => simp at huvl; omega
          | cons y v' => exact ⟨y, v', rfl⟩
        have e : IntKind.wrap .i64 (((a + u.length : Nat) : Int) + 1) = ((a + u.length + 1 : Nat) : Int) := wrap_succ (n := n) (by omega) (by omega)
        rw [e]
        have ed : L ++ (u ++ x :: (y :: v' ++ (Y.drop t0 ++ S))) = (L ++ u) ++ x :: ([] ++ y :: (v' ++ (Y.drop t0 ++ S))) := by simp
        rw [ed] at hr2
        simp only [List.length_cons] at hlen2
        refine do_swap hr2.own (x := a + u.length) (y := a + u.length + 1) rfl rfl (by omega) (by omega) fun w3 ho3 g3 => ?_
        rw [(swap_lists (x := a + u.length) (y := a + u.length + 1) (by simp; omega) (by simp; omega) (by rw [hr2.len]; omega) (by rw [hr2.len]; omega)).1] at ho3
        refine ⟨⟨u ++ [y], v', by simp; omega, by rw [huv]; simp, ⟨by simpa using ho3, ext_own hr2.own hr2.ext g3 hB, fun q hq => hr2.keys q ?_⟩⟩, ?_⟩
        · simp only [List.mem_append, List.mem_cons, List.not_mem_nil, or_false, false_or] at hq ⊢
          rcases hq with h | (h | h) | h | h | h | h <;> simp [h]
        · simp [intOf]; omega
      · have hge : v = [] := List.eq_nil_of_length_eq_zero (by have := of_decide_eq_false hge; omega)
        subst hge
        rw [List.append_nil] at huv
        refine h w2 (Y.take t0 ++ x :: Y.drop t0) ?_ ?_ (by simp; omega) (by rw [huv]; simpa using hr2)
        · rw [srt_app]
          rw [← hYs, srt_app] at hsY
          refine ⟨hsY.1, List.Pairwise.cons hY2 hsY.2.1, fun y hy z hz => ?_⟩
          rcases List.mem_cons.1 hz with rfl | hz
          · have := hY1 y hy; omega
          · exact hsY.2.2 y hy z hz
        · have e1 : Stab (Y.take t0 ++ [x]) ([x] ++ Y.take t0) := stab_swap fun y hy z hz => by simp at hy; subst hy; exact hY1 z hz
          have := e1.app (Stab.refl (Y.drop t0))
          rw [List.append_assoc, List.append_assoc, hYs] at this
          exact this
    have hX2 : 2 ≤ X.length := by
      rw [wrap_of (by omega) (by omega)] at h1
      have : ¬ (m : Int) - (a : Int) = 1 := by simpa using h1
      omega
    refine ifB_intro (fun h2 => ?_) fun h2 => ?_
    · -- one element behind
      have hY1 : Y.length = 1 := by
        rw [wrap_of (by omega) (by omega)] at h2
        have : (b : Int) - (m : Int) = 1 := by simpa using h2
        omega
      obtain ⟨y, rfl⟩ : ∃ y, Y = [y] := List.length_eq_one_iff.1 hY1
      have hy1 : ([y] : List Pr).length = 1 := rfl
      have dy : (L ++ (X ++ ([y] ++ S)))[m]'(by simp; omega) = y := by have := dY 0 (by omega); simpa using this
      refine ⟨fun vs w' => ∃ i j : Nat, vs = [.int .i64 i, .int .i64 j] ∧ a ≤ i ∧ i ≤ j ∧ j ≤ m ∧ Rw w0 B p n c w' (L ++ (X ++ ([y] ++ S))) ∧ (∀ k (h : k < X.length), a + k < i → codeI o X[k].1 ≤ codeI o y.1) ∧ (∀ k (h : k < X.length), j ≤ a + k → codeI o y.1 < codeI o X[k].1),
        fun vs _ => (intOf (vs.getD 1 undef)).toNat - (intOf (vs.getD 0 undef)).toNat, ⟨a, m, rfl, by omega, by omega, by omega, hw, fun k hk h => by omega, fun k hk h => by omega⟩, ?_⟩
      rintro i' j' _ w1 ⟨i, j, hv, hmi, hij, hjb, hr, hlo, hhi⟩
      simp only [List.cons.injEq, Value.int.injEq, true_and, and_true] at hv
      obtain ⟨rfl, rfl⟩ := hv
      refine ifB_intro (fun hlt => ?_) fun hge => ?_
      · have hlt : i < j := by have := of_decide_eq_true hlt; omega
        rw [mid_eq hlt (by omega)]
        refine ⟨by omega, ?_⟩
        obtain ⟨hh, hhe⟩ : ∃ hh, (i + j) / 2 = a + hh := ⟨(i + j) / 2 - a, by omega⟩
        have hhl : hh < X.length := by omega
        refine do_cmp hcmp hr (x := m) (y := (i + j) / 2) rfl rfl (by omega) (by omega) fun w2 e2 => ?_
        have dh : (L ++ (X ++ ([y] ++ S)))[(i + j) / 2]'(by simp; omega) = X[hh] := by simp only [hhe]; exact dX hh hhl
        rw [dh, dy]
        refine ifB_intro (fun hc => ?_) fun hc => ?_
        · have hc : codeI o X[hh].1 ≤ codeI o y.1 := by
            have : ¬ cmpI o y.1 X[hh].1 < 0 := by simpa using hc
            rw [cmp_lt hO] at this; omega
          have e : IntKind.wrap .i64 ((((i + j) / 2 : Nat) : Int) + 1) = (((i + j) / 2 + 1 : Nat) : Int) := wrap_succ (n := n) (by omega) (by omega)
          rw [e]
          refine ⟨⟨(i + j) / 2 + 1, j, rfl, by omega, by omega, hjb, hr.to e2, fun k hk h => ?_, hhi⟩, by simp [intOf]; omega⟩
          have := srt_get hsX (i := k) (j := hh) (by omega) hhl
          omega
        · have hc : codeI o y.1 < codeI o X[hh].1 := by
            have : cmpI o y.1 X[hh].1 < 0 := by simpa using hc
            rw [cmp_lt hO] at this; exact this
          refine ⟨⟨i, (i + j) / 2, rfl, hmi, by omega, by omega, hr.to e2, hlo, fun k hk h => ?_⟩, by simp [intOf]; omega⟩
          have := srt_get hsX (i := hh) (j := k) (by omega) hk
          omega
      have hge : i = j := by have := of_decide_eq_false hge; omega
      subst hge
      obtain ⟨t0, ht0⟩ : ∃ t0, i = a + t0 := ⟨i - a, by omega⟩
      have hX1' : ∀ x ∈ X.take t0, codeI o x.1 ≤ codeI o y.1 := fun x hx => by
        obtain ⟨k, hk, rfl⟩ := List.getElem_of_mem hx
        rw [List.length_take] at hk
        rw [List.getElem_take]
        exact hlo k (by omega) (by omega)
      have hX2' : ∀ x ∈ X.drop t0, codeI o y.1 < codeI o x.1 := fun x hx => by
        obtain ⟨k, hk, rfl⟩ := List.getElem_of_mem hx
        rw [List.length_drop] at hk
        rw [List.getElem_drop]
        exact hhi (t0 + k) (by omega) (by omega)
      have hXl : (X.take t0).length = t0 := by rw [List.length_take]; omega
      have hXd : (X.drop t0).length = X.length - t0 := by rw [List.length_drop]
      have hXs : X.take t0 ++ X.drop t0 = X := List.take_append_drop _ _
      refine ⟨fun vs w' => ∃ u v : List Pr, vs = [.int .i64 (i + u.length : Nat)] ∧ X.drop t0 = u ++ v ∧ Rw w0 B p n c w' (L ++ (X.take t0 ++ (u ++ y :: (v ++ S)))), fun vs _ => (intOf (vs.getD 0 undef)).toNat,
        ⟨X.drop t0, [], by rw [hXd, show i + (X.length - t0) = m by omega], by simp, by rw [← List.append_assoc (X.take t0), hXs]; exact hr⟩, ?_⟩
      rintro k' _ w2 ⟨u, v, hv, huv, hr2⟩
      simp only [List.cons.injEq, Value.int.injEq, true_and, and_true] at hv
      subst hv
      have huvl := congrArg List.length huv
      rw [hXd, List.length_append] at huvl
      have hlen2 := hr2.len
      simp only [List.length_append, List.length_cons, hXl] at hlen2
      refine ifB_intro (fun hlt => ?_) fun hge => ?_
      · have hlt : 0 < u.length := by have := of_decide_eq_true hlt; omega
        obtain ⟨u', z, rfl⟩ := last_split hlt
        simp only [List.length_append, List.length_cons, List.length_nil] at hlen2
        have ed : L ++ (X.take t0 ++ ((u' ++ [z]) ++ y :: (v ++ S))) = (L ++ (X.take t0 ++ u')) ++ z :: ([] ++ y :: (v ++ S)) := by simp
        rw [ed] at hr2
        have ej : IntKind.wrap .i64 (((i + (u' ++ [z]).length : Nat) : Int) - 1) = ((i + u'.length : Nat) : Int) := by
          rw [List.length_append, List.length_singleton, wrap_of (by omega) (by omega)]; omega
        rw [ej]
        have ej' : i + (u' ++ [z]).length = i + u'.length + 1 := by rw [List.length_append, List.length_singleton]; omega
        rw [ej']
        refine do_swap hr2.own (x := i + u'.length + 1) (y := i + u'.length) rfl rfl (by omega) (by omega) fun w3 ho3 g3 => ?_
        rw [(swap_lists (x := i + u'.length) (y := i + u'.length + 1) (by simp; omega) (by simp; omega) (by rw [hr2.len]; omega) (by rw [hr2.len]; omega)).2] at ho3
        refine ⟨⟨u', z :: v, rfl, by rw [huv]; simp, ⟨by simpa using ho3, ext_own hr2.own hr2.ext g3 hB, fun q hq => hr2.keys q ?_⟩⟩, ?_⟩
        · simp only [List.mem_append, List.mem_cons, List.not_mem_nil, false_or] at hq ⊢
          rcases hq with h | h | h | h | (h | h) | h <;> simp [h]
        · simp [intOf]; omega
      · have hge : u = [] := List.eq_nil_of_length_eq_zero (by have := of_decide_eq_false hge; omega)
        subst hge
        rw [List.nil_append] at huv
        refine h w2 (X.take t0 ++ y :: X.drop t0) ?_ ?_ (by simp; omega) (by rw [huv]; simpa using hr2)
        · rw [srt_app]
          rw [← hXs, srt_app] at hsX
          refine ⟨hsX.1, List.Pairwise.cons (fun x hx => by have := hX2' x hx; omega) hsX.2.1, fun x hx z hz => ?_⟩
          rcases List.mem_cons.1 hz with rfl | hz
          · exact hX1' x hx
          · exact hsX.2.2 x hx z hz
        · have e1 : Stab ([y] ++ X.drop t0) (X.drop t0 ++ [y]) := stab_swap fun x hx z hz => by simp at hz; subst hz; exact hX2' x hx
          have := (Stab.refl (X.take t0)).app e1
          rw [← List.append_assoc (X.take t0) (X.drop t0), hXs] at this
          exact this
    have hY2 : 2 ≤ Y.length := by
      rw [wrap_of (by omega) (by omega)] at h2
      have : ¬ (b : Int) - (m : Int) = 1 := by simpa using h2
      omega
    clear h1 h2
    have hab : a < b := by omega
    obtain ⟨mid, hmid⟩ : ∃ mid, mid = (a + b) / 2 := ⟨_, rfl⟩
    rw [mid_eq hab (by omega), ← hmid]
    have en : IntKind.wrap .i64 ((mid : Int) + (m : Int)) = ((mid + m : Nat) : Int) := by rw [wrap_of (by omega) (by omega)]; omega
    rw [en]
    refine ⟨by omega, fun vs w' => ∃ s r : Nat, vs = [.int .i64 s, .int .i64 r] ∧ w' = w ∧ ((mid < m ∧ s + b = mid + m ∧ r = mid) ∨ (m ≤ mid ∧ s = a ∧ r = m)), ?_, ?_⟩
    rotate_left
    · refine ifB_intro (fun hgt => ?_) fun hle => ?_
      · have hgt : mid < m := by have := of_decide_eq_true hgt; omega
        refine ⟨mid + m - b, mid, ?_, rfl, .inl ⟨hgt, by omega, rfl⟩⟩
        rw [wrap_of (by omega) (by omega), show (((mid + m : Nat) : Int) - (b : Int)) = ((mid + m - b : Nat) : Int) by omega]
      · have hle : m ≤ mid := by have := of_decide_eq_false hle; omega
        exact ⟨a, m, rfl, rfl, .inr ⟨hle, rfl, rfl⟩⟩
    rintro s' r' _ w1 ⟨s0, r0, hv, rfl, hsr⟩
    simp only [List.cons.injEq, Value.int.injEq, true_and, and_true] at hv
    obtain ⟨rfl, rfl⟩ := hv
    have hs0 : a ≤ s0 ∧ s0 ≤ r0 ∧ r0 ≤ m ∧ mid + m ≤ s0 + b ∧ mid ≤ r0 + (mid - r0) ∧ (r0 ≤ mid) := by rcases hsr with h | h <;> omega
    -- c in [s0, r0): the element c, and the one that stands opposite
    have hop : ∀ c, s0 ≤ c → c < r0 → a ≤ c ∧ c < m ∧ m ≤ mid + m - 1 - c ∧ mid + m - 1 - c < b := fun c h1 h2 => by rcases hsr with h | h <;> omega
    have hd1 : ∀ c (h1 : a ≤ c) (h2 : c < m), (L ++ (X ++ (Y ++ S)))[c]'(by simp; omega) = X[c - a]'(by omega) := fun c h1 h2 => by
      have := dX (c - a) (by omega); simp only [show a + (c - a) = c by omega] at this; exact this
    have hd2 : ∀ c (h1 : m ≤ c) (h2 : c < b), (L ++ (X ++ (Y ++ S)))[c]'(by simp; omega) = Y[c - m]'(by omega) := fun c h1 h2 => by
      have := dY (c - m) (by omega); simp only [show m + (c - m) = c by omega] at this; exact this
    refine ⟨fun vs w' => ∃ i j : Nat, vs = [.int .i64 i, .int .i64 j] ∧ s0 ≤ i ∧ i ≤ j ∧ j ≤ r0 ∧ Rw w0 B p n c w' (L ++ (X ++ (Y ++ S))) ∧
        (∀ k (h1 : s0 ≤ k) (h2 : k < i) (h3 : k < r0), codeI o (X[k - a]'(by have := hop k h1 h3; omega)).1 ≤ codeI o (Y[mid + m - 1 - k - m]'(by have := hop k h1 h3; omega)).1) ∧
        (∀ k (h1 : j ≤ k) (h2 : k < r0) (h3 : s0 ≤ k), codeI o (Y[mid + m - 1 - k - m]'(by have := hop k h3 h2; omega)).1 < codeI o (X[k - a]'(by have := hop k h3 h2; omega)).1),
      fun vs _ => (intOf (vs.getD 1 undef)).toNat - (intOf (vs.getD 0 undef)).toNat, ⟨s0, r0, rfl, by omega, by omega, by omega, hw, fun k h1 h2 h3 => by omega, fun k h1 h2 h3 => by omega⟩, ?_⟩
    rintro i' j' _ w2 ⟨i, j, hv, hsi, hij, hjr, hr, hlo, hhi⟩
    simp only [List.cons.injEq, Value.int.injEq, true_and, and_true] at hv
    obtain ⟨rfl, rfl⟩ := hv
    refine ifB_intro (fun hlt => ?_) fun hge => ?_
    · have hlt : i < j := by have := of_decide_eq_true hlt; omega
      rw [mid_eq hlt (by omega)]
      refine ⟨by omega, ?_⟩
      obtain ⟨q, hq⟩ : ∃ q, q = (i + j) / 2 := ⟨_, rfl⟩
      rw [← hq]
      have hqb : i ≤ q ∧ q < j := by omega
      obtain ⟨o1, o2, o3, o4⟩ := hop q (by omega) (by omega)
      have ep : IntKind.wrap .i64 (IntKind.wrap .i64 (((mid + m : Nat) : Int) - 1) - (q : Int)) = ((mid + m - 1 - q : Nat) : Int) := by
        rw [wrap_of (x := ((mid + m : Nat) : Int) - 1) (by omega) (by omega), wrap_of (by omega) (by omega)]; omega
      rw [ep]
      refine do_cmp hcmp hr (x := mid + m - 1 - q) (y := q) rfl rfl (by omega) (by omega) fun w3 e3 => ?_
      rw [hd1 q o1 o2, hd2 (mid + m - 1 - q) o3 o4]
      refine ifB_intro (fun hc => ?_) fun hc => ?_
      · have hc : codeI o (X[q - a]'(by omega)).1 ≤ codeI o (Y[mid + m - 1 - q - m]'(by omega)).1 := by
          have : ¬ cmpI o (Y[mid + m - 1 - q - m]'(by omega)).1 (X[q - a]'(by omega)).1 < 0 := by simpa using hc
          rw [cmp_lt hO] at this; omega
        have e : IntKind.wrap .i64 ((q : Int) + 1) = ((q + 1 : Nat) : Int) := wrap_succ (n := n) (by omega) (by omega)
        rw [e]
        refine ⟨⟨q + 1, j, rfl, by omega, by omega, hjr, hr.to e3, fun k g1 g2 g3 => ?_, hhi⟩, by simp [intOf]; omega⟩
        have p1 := hop k g1 g3
        have t1 := srt_get hsX (i := k - a) (j := q - a) (by omega) (by omega)
        have t2 := srt_get hsY (i := mid + m - 1 - q - m) (j := mid + m - 1 - k - m) (by omega) (by omega)
        omega
      · have hc : codeI o (Y[mid + m - 1 - q - m]'(by omega)).1 < codeI o (X[q - a]'(by omega)).1 := by
          have : cmpI o (Y[mid + m - 1 - q - m]'(by omega)).1 (X[q - a]'(by omega)).1 < 0 := by simpa using hc
          rw [cmp_lt hO] at this; exact this
        refine ⟨⟨i, q, rfl, hsi, by omega, by omega, hr.to e3, hlo, fun k g1 g2 g3 => ?_⟩, by simp [intOf]; omega⟩
        have p1 := hop k g3 g2
        have t1 := srt_get hsX (i := q - a) (j := k - a) (by omega) (by omega)
        have t2 := srt_get hsY (i := mid + m - 1 - k - m) (j := mid + m - 1 - q - m) (by omega) (by omega)
        omega
    have hge : i = j := by have := of_decide_eq_false hge; omega
    subst hge
    -- the four parts
    obtain ⟨u, hu⟩ : ∃ u, u = i - a := ⟨_, rfl⟩
    obtain ⟨v, hv⟩ : ∃ v, v = mid + m - i - m := ⟨_, rfl⟩
    have hul : u ≤ X.length := by omega
    have hvl : v ≤ Y.length := by omega
    have huv : a + u + v = mid ∧ a + u = i ∧ m + v = mid + m - i := by omega
    obtain ⟨X1, hX1⟩ : ∃ X1, X1 = X.take u := ⟨_, rfl⟩
    obtain ⟨X3, hX3⟩ : ∃ X3, X3 = X.drop u := ⟨_, rfl⟩
    obtain ⟨Y1, hY1⟩ : ∃ Y1, Y1 = Y.take v := ⟨_, rfl⟩
    obtain ⟨Y3, hY3⟩ : ∃ Y3, Y3 = Y.drop v := ⟨_, rfl⟩
    have hXs : X1 ++ X3 = X := by rw [hX1, hX3]; exact List.take_append_drop _ _
    have hYs : Y1 ++ Y3 = Y := by rw [hY1, hY3]; exact List.take_append_drop _ _
    have l1 : X1.length = u := by rw [hX1, List.length_take]; omega
    have l2 : X3.length = X.length - u := by rw [hX3, List.length_drop]
    have l3 : Y1.length = v := by rw [hY1, List.length_take]; omega
    have l4 : Y3.length = Y.length - v := by rw [hY3, List.length_drop]
    -- behind the turn all that is before stands before all that is behind
    have hA : ∀ x ∈ X1, ∀ y ∈ Y3, codeI o x.1 ≤ codeI o y.1 := fun x hx y hy => by
      rw [hX1] at hx; rw [hY3] at hy
      obtain ⟨k1, hk1, rfl⟩ := List.getElem_of_mem hx
      obtain ⟨k2, hk2, rfl⟩ := List.getElem_of_mem hy
      rw [List.length_take] at hk1; rw [List.length_drop] at hk2
      rw [List.getElem_take, List.getElem_drop]
      have hi0 : s0 < i := by rcases hsr with h | h <;> omega
      have t0 := hlo (i - 1) (by omega) (by omega) (by omega)
      have p1 := hop (i - 1) (by omega) (by omega)
      have t1 := srt_get hsX (i := k1) (j := i - 1 - a) (by omega) (by omega)
      have t2 := srt_get hsY (i := mid + m - 1 - (i - 1) - m) (j := v + k2) (by omega) (by omega)
      omega
    have hBB : ∀ x ∈ X3, ∀ y ∈ Y1, codeI o y.1 < codeI o x.1 := fun x hx y hy => by
      rw [hX3] at hx; rw [hY1] at hy
      obtain ⟨k1, hk1, rfl⟩ := List.getElem_of_mem hx
      obtain ⟨k2, hk2, rfl⟩ := List.getElem_of_mem hy
      rw [List.length_drop] at hk1; rw [List.length_take] at hk2
      rw [List.getElem_drop, List.getElem_take]
      have hi0 : i < r0 := by rcases hsr with h | h <;> omega
      have t0 := hhi i (by omega) (by omega) (by omega)
      have p1 := hop i (by omega) (by omega)
      have t1 := srt_get hsX (i := i - a) (j := u + k1) (by omega) (by omega)
      have t2 := srt_get hsY (i := k2) (j := mid + m - 1 - i - m) (by omega) (by omega)
      omega
    have hsX' := hsX
    have hsY' := hsY
    rw [← hXs, srt_app] at hsX'
    rw [← hYs, srt_app] at hsY'
    have hend : IntKind.wrap .i64 (((mid + m : Nat) : Int) - (i : Int)) = ((m + v : Nat) : Int) := by rw [wrap_of (by omega) (by omega)]; omega
    rw [hend]
    have hr2 : Rw w0 B p n c w2 (L ++ X1 ++ (X3 ++ (Y1 ++ (Y3 ++ S)))) := by
      rw [← hXs, ← hYs] at hr; simpa using hr
    refine ⟨fun vs w' => vs = [] ∧ Rw w0 B p n c w' (L ++ (X1 ++ (Y1 ++ (X3 ++ (Y3 ++ S))))), ?_, ?_⟩
    rotate_left
    · -- the turn
      refine ⟨fun vs w' => vs = [.bool (decide (i < m) && decide (m < m + v))] ∧ w' = w2, ?_, ?_⟩
      rotate_left
      · refine ifB_intro (fun h1 => ⟨?_, rfl⟩) fun h1 => ⟨?_, rfl⟩
        · have h1 : i < m := by have := of_decide_eq_true h1; omega
          rw [decide_eq_true h1, Bool.true_and]
          congr 2
          exact decide_eq_decide.2 (by omega)
        · have h1 : ¬ i < m := by have := of_decide_eq_false h1; omega
          rw [decide_eq_false h1]; rfl
      rintro x _ w3 ⟨hv', rfl⟩
      simp only [List.cons.injEq, Value.bool.injEq, and_true] at hv'
      subst hv'
      refine ifB_intro (fun h1 => ?_) fun h1 => ?_
      · simp only [Bool.and_eq_true, decide_eq_true_eq] at h1
        refine do_call Tryz.call330 (c_rotate hB hm hr2 (a := i) (m := m) (b := m + v) (by simp; omega) (by simp; omega) (by simp; omega) (by omega) (by omega) fun w4 hr4 => retS_ret ⟨rfl, rfl, by simpa using hr4⟩)
      · refine ⟨rfl, ?_⟩
        have hno : X3 = [] ∨ Y1 = [] := by
          simp only [Bool.and_eq_false_iff, decide_eq_false_iff_not] at h1
          rcases h1 with h1 | h1
          · exact .inl (List.eq_nil_of_length_eq_zero (by omega))
          · exact .inr (List.eq_nil_of_length_eq_zero (by omega))
        rcases hno with h0 | h0
        · rw [h0] at hr2 ⊢; simpa using hr2
        · rw [h0] at hr2 ⊢; simpa using hr2
    rintro _ w3 ⟨_, hr3⟩
    -- both sides
    refine ⟨fun vs w' => vs = [] ∧ ∃ M1, Srt o M1 ∧ Stab M1 (X1 ++ Y1) ∧ M1.length = u + v ∧ Rw w0 B p n c w' (L ++ (M1 ++ (X3 ++ (Y3 ++ S)))), ?_, ?_⟩
    rotate_left
    · refine ⟨fun vs w' => vs = [.bool (decide (a < i) && decide (i < mid))] ∧ w' = w3, ?_, ?_⟩
      rotate_left
      · refine ifB_intro (fun h1 => ⟨?_, rfl⟩) fun h1 => ⟨?_, rfl⟩
        · have h1 : a < i := by have := of_decide_eq_true h1; omega
          rw [decide_eq_true h1, Bool.true_and]
          congr 2
          exact decide_eq_decide.2 (by omega)
        · have h1 : ¬ a < i := by have := of_decide_eq_false h1; omega
          rw [decide_eq_false h1]; rfl
      rintro x _ w4 ⟨hv', rfl⟩
      simp only [List.cons.injEq, Value.bool.injEq, and_true] at hv'
      subst hv'
      refine ifB_intro (fun h1 => ?_) fun h1 => ?_
      · simp only [Bool.and_eq_true, decide_eq_true_eq] at h1
        refine do_call Tryz.call297 (ih (X := X1) (Y := Y1) (S := X3 ++ (Y3 ++ S)) (a := a) (m := i) (b := mid) (by omega) hr3 hsX'.1 hsY'.1 (by omega) (by omega) ha (by omega) (by omega) fun w5 M1 hM1 hM2 hM3 hr5 => retS_ret ⟨rfl, rfl, M1, hM1, hM2, by omega, hr5⟩)
      · refine ⟨rfl, X1 ++ Y1, ?_, Stab.refl _, by simp; omega, by simpa using hr3⟩
        simp only [Bool.and_eq_false_iff, decide_eq_false_iff_not] at h1
        rcases h1 with h1 | h1
        · rw [List.eq_nil_of_length_eq_zero (l := X1) (by omega)]; exact hsY'.1
        · rw [List.eq_nil_of_length_eq_zero (l := Y1) (by omega), List.append_nil]; exact hsX'.1
    rintro _ w4 ⟨_, M1, hM1, hM2, hM3, hr4⟩
    have hr4' : Rw w0 B p n c w4 ((L ++ M1) ++ (X3 ++ (Y3 ++ S))) := by simpa using hr4
    -- what stands in both halves together
    have hfin : ∀ {w' : World} {M3 : List Pr}, Srt o M3 → Stab M3 (X3 ++ Y3) → M3.length = X3.length + Y3.length → Rw w0 B p n c w' ((L ++ M1) ++ (M3 ++ S)) → R (.returned (.tuple #[])) w' := by
      intro w' M3 g1 g2 g3 g4
      refine h w' (M1 ++ M3) ?_ ?_ (by simp; omega) (by simpa using g4)
      · rw [srt_app]
        refine ⟨hM1, g1, fun x hx y hy => ?_⟩
        have hx := (hM2.mem x).1 hx
        have hy := (g2.mem y).1 hy
        rcases List.mem_append.1 hx with hx | hx <;> rcases List.mem_append.1 hy with hy | hy
        · exact hsX'.2.2 x hx y hy
        · exact hA x hx y hy
        · have := hBB y hy x hx; omega
        · exact hsY'.2.2 x hx y hy
      · have t1 : Stab (M1 ++ M3) ((X1 ++ Y1) ++ (X3 ++ Y3)) := hM2.app g2
        have t2 : Stab (X1 ++ ((Y1 ++ X3) ++ Y3)) (X1 ++ ((X3 ++ Y1) ++ Y3)) := (Stab.refl X1).app ((stab_swap hBB).app (Stab.refl Y3))
        have t3 := t1.trans (B := (X1 ++ Y1) ++ (X3 ++ Y3)) (by rw [show (X1 ++ Y1) ++ (X3 ++ Y3) = X1 ++ ((Y1 ++ X3) ++ Y3) by simp]; exact t2)
        rw [show X1 ++ ((X3 ++ Y1) ++ Y3) = (X1 ++ X3) ++ (Y1 ++ Y3) by simp, hXs, hYs] at t3
        exact t3
    refine ⟨fun vs w' => vs = [.bool (decide (mid < m + v) && decide (m + v < b))] ∧ w' = w4, ?_, ?_⟩
    rotate_left
    · refine ifB_intro (fun h1 => ⟨?_, rfl⟩) fun h1 => ⟨?_, rfl⟩
      · have h1 : mid < m + v := by have := of_decide_eq_true h1; omega
        rw [decide_eq_true h1, Bool.true_and]
        congr 2
        exact decide_eq_decide.2 (by omega)
      · have h1 : ¬ mid < m + v := by have := of_decide_eq_false h1; omega
        rw [decide_eq_false h1]; rfl
    rintro x _ w5 ⟨hv', rfl⟩
    simp only [List.cons.injEq, Value.bool.injEq, and_true] at hv'
    subst hv'
    refine ifB_intro (fun h1 => ?_) fun h1 => ?_
    · simp only [Bool.and_eq_true, decide_eq_true_eq] at h1
      refine do_call Tryz.call297 (ih (L := L ++ M1) (X := X3) (Y := Y3) (S := S) (a := mid) (m := m + v) (b := b) (by omega) hr4' hsX'.2.1 hsY'.2.1 (by omega) (by omega) (by simp; omega) (by simp; omega) (by simp; omega) fun w6 M3 g1 g2 g3 g4 => retS_ret ⟨rfl, hfin g1 g2 g3 g4⟩)
    · refine hfin (M3 := X3 ++ Y3) ?_ (Stab.refl _) (by simp) (by simpa using hr4')
      simp only [Bool.and_eq_false_iff, decide_eq_false_iff_not] at h1
      rcases h1 with h1 | h1
      · rw [List.eq_nil_of_length_eq_zero (l := X3) (by omega)]; exact hsY'.2.1
      · rw [List.eq_nil_of_length_eq_zero (l := Y3) (by omega), List.append_nil]; exact hsX'.2.1
end Go.Proofs.YtlddfgfmkapoiaaGreat

