/-
  slices.SortStableFunc over pairs: swaps, rotations, insertions, merges.
-/
import Derived.Test.YtinkkhcffoikmaaLaw4b
namespace Go.Proofs.Ytinkkhcffoikmaa
open Go Go.Sh Go.RowKit

/-! ### Plain: sorted, stable -/
theorem cmp_lt {o a b : Int} (ho : isO o = true) : cmpI o a b < 0 ↔ codeI o a < codeI o b := by
  have ho' : 1 ≤ o ∧ o ≤ 7 := by simpa [isO] using ho
  unfold cmpI
  rw [if_pos ho']
  split
  · exact ⟨fun _ => by assumption, fun _ => by omega⟩
  · split <;> omega
abbrev Srt (o : Int) (l : List Pr) : Prop := l.Pairwise fun a b => codeI o a.1 ≤ codeI o b.1
def Stab (M L : List Pr) : Prop := ∀ k : Int, M.filter (fun x => x.1 == k) = L.filter (fun x => x.1 == k)
theorem Stab.refl (L : List Pr) : Stab L L := fun _ => rfl
theorem Stab.trans {A B C : List Pr} (h : Stab A B) (k : Stab B C) : Stab A C := fun i => (h i).trans (k i)
theorem Stab.app {A B C D : List Pr} (h : Stab A B) (k : Stab C D) : Stab (A ++ C) (B ++ D) := fun i => by rw [List.filter_append, List.filter_append, h i, k i]
theorem Stab.mem {A B : List Pr} (h : Stab A B) (x : Pr) : x ∈ A ↔ x ∈ B := by
  have : ∀ C : List Pr, x ∈ C ↔ x ∈ C.filter (fun y => y.1 == x.1) := fun C => by simp [List.mem_filter]
  rw [this A, this B, h x.1]
theorem stab_nil {A : List Pr} (h : Stab A []) : A = [] := by
  rw [List.eq_nil_iff_forall_not_mem]; intro x hx; have := (h.mem x).1 hx; cases this
theorem filter_none' {p : Pr → Bool} {l : List Pr} (h : ∀ x ∈ l, p x = false) : l.filter p = [] := by
  rw [List.filter_eq_nil_iff]; intro x hx; simp [h x hx]
/-- two parts that have no key in common may be turned -/
theorem stab_swap {o : Int} {A B : List Pr} (h : ∀ a ∈ A, ∀ b ∈ B, codeI o b.1 < codeI o a.1) : Stab (B ++ A) (A ++ B) := fun k => by
  rw [List.filter_append, List.filter_append]
  by_cases hk : ∃ a ∈ A, a.1 = k
  · obtain ⟨a, ha, rfl⟩ := hk
    rw [filter_none' (l := B) fun b hb => by
      have := h a ha b hb
      cases hq : (b.1 == a.1)
      · rfl
      · have e : b.1 = a.1 := by simpa using hq
        rw [e] at this; omega]
    simp
  · rw [filter_none' (l := A) fun a ha => by
      cases hq : (a.1 == k)
      · rfl
      · exact absurd ⟨a, ha, by simpa using hq⟩ hk]
    simp
theorem srt_app {o : Int} {A B : List Pr} : Srt o (A ++ B) ↔ Srt o A ∧ Srt o B ∧ ∀ a ∈ A, ∀ b ∈ B, codeI o a.1 ≤ codeI o b.1 := List.pairwise_append
theorem srt_get {o : Int} {l : List Pr} (h : Srt o l) {i j : Nat} (hij : i ≤ j) (hj : j < l.length) : codeI o l[i].1 ≤ codeI o l[j].1 := by
  rcases Nat.lt_or_ge i j with h1 | h1
  · exact List.pairwise_iff_getElem.1 h i j (by omega) hj h1
  · have : i = j := by omega
    subst this; exact Int.le_refl _
/-! ### Swaps -/
theorem set_mid {α : Type} {U V : List α} {x y : α} {i : Nat} (hi : i = U.length) : (U ++ x :: V).set i y = U ++ y :: V := by
  subst hi
  rw [List.set_append_right _ _ (Nat.le_refl _), Nat.sub_self]; rfl
theorem own_st {l : List Pr} {p : Option Addr} {n c base k : Nat} {w : World} (ho : OwnP w base p n c l) (hk : k < n) {a : Addr} (ha : ∃ b, p = some b ∧ a = b.add (k * 2)) {u v : Int} {K : World → Prop}
    (h : ∀ w', OwnP w' base p n c (l.set k (u, v)) → w.grownBy w' (Value.slice p n c).ownBlock → K w') : doSt (a.add 0) (.int .i64 u) w fun w1 => doSt (a.add 1) (.int .i64 v) w1 K := by
  obtain ⟨b, hb, rfl⟩ := ha
  have hl := ownP_len ho
  rcases ownP_open ho with ⟨hp, hn0, _⟩ | ⟨g, cur, hp, hbg, hg, _, hcm, hcl, hct⟩
  · omega
  subst hp; cases hb
  rw [add_zero', add_add]
  have ea : (⟨g, 0, none⟩ : Addr).add (k * 2) = ⟨g, k * 2, none⟩ := add_blk g _
  have eb : (⟨g, 0, none⟩ : Addr).add (k * 2 + 1) = ⟨g, k * 2 + 1, none⟩ := add_blk g _
  rw [ea, eb]
  have hs := ho.stored (k * 2) (.int .i64 u)
  rw [prs_set1 (by omega)] at hs
  refine ⟨⟨_, by rw [ho.cellAt _ (by omega)]; exact List.getElem?_eq_getElem (by simp; omega)⟩, ho.frozenAt _, ?_⟩
  have ho1 : OwnP (w.setCell ⟨g, k * 2, none⟩ (.int .i64 u)) base (some ⟨g, 0, none⟩) n c (l.set k (u, (l[k]'(by omega)).2)) := hs.1
  have hs1 := ho1.stored (k * 2 + 1) (.int .i64 v)
  rw [prs_set2 (by simp; omega)] at hs1
  refine ⟨⟨_, by rw [ho1.cellAt _ (by omega)]; exact List.getElem?_eq_getElem (by simp; omega)⟩, ho1.frozenAt _, h _ ?_ (grown_trans hs.2 hs1.2)⟩
  have := hs1.1
  simp only [List.getElem_set_self, List.set_set] at this
  exact this
theorem do_swap {l : List Pr} {p : Option Addr} {n c B : Nat} {w : World} (ho : OwnP w B p n c l) {iX iY : Int} {x y : Nat} (hX : iX = (x : Int)) (hY : iY = (y : Int)) (hx : x < n) (hy : y < n) {K : World → Prop}
    (k : ∀ w', OwnP w' B p n c ((l.set x (l[y]'(by rw [ownP_len ho]; exact hy))).set y (l[x]'(by rw [ownP_len ho]; exact hx))) → w.grownBy w' (Value.slice p n c).ownBlock → K w') :
    doDr w (fun w16 => ∃ (C15 : World → Prop), C15 w16 ∧ (doIx p n 2 iY (fun a17 => ∃ (x18 : Int), (∀ w, C15 w → World.cell? w (a17.add 0) = some (.int .i64 x18)) ∧ (∃ (x19 : Int), (∀ w, C15 w → World.cell? w (a17.add 1) = some (.int .i64 x19)) ∧ (
      doIx p n 2 iX (fun a20 => ∃ (x21 : Int), (∀ w, C15 w → World.cell? w (a20.add 0) = some (.int .i64 x21)) ∧ (∃ (x22 : Int), (∀ w, C15 w → World.cell? w (a20.add 1) = some (.int .i64 x22)) ∧ (
      doIx p n 2 iX (fun a23 => doSt (a23.add 0) (.int .i64 x18) w16 (fun w24 => doSt (a23.add 1) (.int .i64 x19) w24 (fun w25 =>
      doIx p n 2 iY (fun a26 => doSt (a26.add 0) (.int .i64 x21) w25 (fun w27 => doSt (a26.add 1) (.int .i64 x22) w27 K))))))))))))) := by
  have hl := ownP_len ho
  have ho1 : OwnP w.drew B p n c l := row_to ho (ext_drew w) (Nat.le_refl _)
  refine ⟨⟨fun w' => w' = w.drew, rfl, ?_⟩⟩
  have hC : ∀ w', w' = w.drew → Cs w' p (prs l) := fun w' e => by subst e; exact ownP_cs ho1
  refine ix_prC hC rfl hl hY hy fun a r1 r2 => ⟨_, r1, _, r2, ?_⟩
  refine ix_prC hC rfl hl hX hx fun a r3 r4 => ⟨_, r3, _, r4, ?_⟩
  refine ix_pr (ownP_cs ho1) hl hX hx fun a _ _ ha => ?_
  refine own_st ho1 hx ha fun w2 ho2 g2 => ?_
  refine ix_pr (ownP_cs ho2) (by simp [hl]) hY hy fun a _ _ ha => ?_
  refine own_st ho2 hy ha fun w3 ho3 g3 => ?_
  exact k w3 ho3 (grown_trans (grown_trans (grown_drew w _) g2) g3)
/-- in a row that is parted at two elements -/
theorem swap_lists {U V W : List Pr} {a b : Pr} {x y : Nat} (hx : x = U.length) (hy : y = U.length + 1 + V.length) :
    ∀ (h1 : x < (U ++ a :: (V ++ b :: W)).length) (h2 : y < (U ++ a :: (V ++ b :: W)).length), ((U ++ a :: (V ++ b :: W)).set x (U ++ a :: (V ++ b :: W))[y]).set y (U ++ a :: (V ++ b :: W))[x] = U ++ b :: (V ++ a :: W) ∧
      ((U ++ a :: (V ++ b :: W)).set y (U ++ a :: (V ++ b :: W))[x]).set x (U ++ a :: (V ++ b :: W))[y] = U ++ b :: (V ++ a :: W) := by
  intro h1 h2
  have e1 : (U ++ a :: (V ++ b :: W))[x] = a := by
    subst hx; simp
  have e2 : (U ++ a :: (V ++ b :: W))[y] = b := by
    subst hy
    rw [List.getElem_append_right (by omega)]
    simp only [show U.length + 1 + V.length - U.length = V.length + 1 by omega, List.getElem_cons_succ]
    rw [List.getElem_append_right (Nat.le_refl _)]
    simp
  have e3 : ∀ (a b c : Pr), (U ++ a :: (V ++ b :: W)).set y c = U ++ a :: (V ++ c :: W) := fun a b c => by
    have := set_mid (U := U ++ a :: V) (V := W) (x := b) (y := c) (i := y) (by simp; omega)
    simpa using this
  have e4 : ∀ (a b c : Pr), (U ++ a :: (V ++ b :: W)).set x c = U ++ c :: (V ++ b :: W) := fun a b c => set_mid hx
  rw [e1, e2]
  exact ⟨by rw [e4, e3], by rw [e3, e4]⟩
/-- the state of a sort: a row of one's own, and all that was there before it -/
structure Rw (w0 : World) (B : Nat) (p : Option Addr) (n c : Nat) (w : World) (l : List Pr) : Prop where
  own : OwnP w B p n c l
  ext : Ext w0 w
  keys : ∀ x ∈ l, In x.1
theorem Rw.len {w0 : World} {B : Nat} {p : Option Addr} {n c : Nat} {w : World} {l : List Pr} (h : Rw w0 B p n c w l) : l.length = n := ownP_len h.own
/-- what the comparing function does -/
def Cmp (o : Int) (w0 : World) (f : Fn) (fx fc : Array Value) : Prop := ∀ (x y : Pr), In x.1 → In y.1 → ∀ w, Ext w0 w → ∀ R : Ending → World → Prop, (∀ w', Ext w w' → R (.returned (.int .i64 (cmpI o x.1 y.1))) w') → doCall Try.prog (.func f fx fc) #[agP x, agP y] w R
theorem c_swapRange {w0 : World} {B : Nat} {p : Option Addr} {n c : Nat} {f : Fn} {fx fc : Array Value} (hB : w0.heap.size ≤ B) (hm : n ≤ 1000000000000) {L A M Bq S : List Pr} {a b k : Nat} {w : World} {R : Ending → World → Prop}
    (hw : Rw w0 B p n c w (L ++ (A ++ (M ++ (Bq ++ S))))) (hA : A.length = k) (hBq : Bq.length = k) (ha : a = L.length) (hb : b = L.length + k + M.length)
    (h : ∀ w', Rw w0 B p n c w' (L ++ (Bq ++ (M ++ (A ++ S)))) → R (.returned (.tuple #[])) w') :
    Calls Try.prog 171 #[.slice p n c, .int .i64 (a : Nat), .int .i64 (b : Nat), .int .i64 (k : Nat), .func f fx fc] w R := by
  refine sh171_ok _ _ _ _ _ _ _ _ _ ?_
  unfold sh171
  have hlen := hw.len
  simp only [List.length_append] at hlen
  refine ⟨fun vs w' => ∃ t : Nat, vs = [.int .i64 t] ∧ t ≤ k ∧ Rw w0 B p n c w' (L ++ ((Bq.take t ++ A.drop t) ++ (M ++ ((A.take t ++ Bq.drop t) ++ S)))), fun vs _ => k - (intOf (vs.getD 0 undef)).toNat, ⟨0, rfl, by omega, by simpa using hw⟩, ?_⟩
  rintro i _ w1 ⟨t, hv, htk, hr⟩
  simp only [List.cons.injEq, Value.int.injEq, true_and, and_true] at hv
  subst hv
  refine ifB_intro (fun hlt => ?_) fun hge => ?_
  · have hlt : t < k := by have := of_decide_eq_true hlt; omega
    have hAt : A.drop t = (A[t]'(by omega)) :: A.drop (t + 1) := List.drop_eq_getElem_cons (by omega)
    have hBt : Bq.drop t = (Bq[t]'(by omega)) :: Bq.drop (t + 1) := List.drop_eq_getElem_cons (by omega)
    have el : L ++ ((Bq.take t ++ A.drop t) ++ (M ++ ((A.take t ++ Bq.drop t) ++ S))) = (L ++ Bq.take t) ++ (A[t]'(by omega)) :: ((A.drop (t + 1) ++ (M ++ A.take t)) ++ (Bq[t]'(by omega)) :: (Bq.drop (t + 1) ++ S)) := by
      rw [hAt, hBt]; simp only [List.append_assoc, List.cons_append]
    rw [el] at hr
    have hx : a + t = (L ++ Bq.take t).length := by simp; omega
    have hy : b + t = (L ++ Bq.take t).length + 1 + (A.drop (t + 1) ++ (M ++ A.take t)).length := by simp; omega
    have e1 : IntKind.wrap .i64 ((a : Int) + (t : Int)) = ((a + t : Nat) : Int) := by rw [wrap_of (by omega) (by omega)]; omega
    have e2 : IntKind.wrap .i64 ((b : Int) + (t : Int)) = ((b + t : Nat) : Int) := by rw [wrap_of (by omega) (by omega)]; omega
    have hlen1 := hr.len
    refine do_swap hr.own e1 e2 (by omega) (by omega) fun w2 ho2 g2 => ?_
    rw [(swap_lists hx hy (by omega) (by omega)).1] at ho2
    refine ⟨⟨t + 1, by rw [wrap_succ hlt (by omega)], by omega, ⟨?_, ext_own hr.own hr.ext g2 hB, fun x hx => hr.keys x ?_⟩⟩, ?_⟩
    · have : L ++ ((Bq.take (t + 1) ++ A.drop (t + 1)) ++ (M ++ ((A.take (t + 1) ++ Bq.drop (t + 1)) ++ S))) = (L ++ Bq.take t) ++ (Bq[t]'(by omega)) :: ((A.drop (t + 1) ++ (M ++ A.take t)) ++ (A[t]'(by omega)) :: (Bq.drop (t + 1) ++ S)) := by
        rw [show Bq.take (t + 1) = Bq.take t ++ [Bq[t]'(by omega)] from (List.take_append_getElem (by omega)).symm, show A.take (t + 1) = A.take t ++ [A[t]'(by omega)] from (List.take_append_getElem (by omega)).symm]
        simp only [List.append_assoc, List.cons_append, List.nil_append]
      rw [this]; exact ho2
    · rw [show Bq.take (t + 1) = Bq.take t ++ [Bq[t]'(by omega)] from (List.take_append_getElem (by omega)).symm, show A.take (t + 1) = A.take t ++ [A[t]'(by omega)] from (List.take_append_getElem (by omega)).symm] at hx
      simp only [List.mem_append, List.mem_cons, List.not_mem_nil, or_false] at hx ⊢
      rcases hx with h | ((h | h) | h) | h | ((h | h) | h) | h <;> simp [h]
    · rw [wrap_succ hlt (by omega)]; simp [intOf]; omega
  · have hge : t = k := by have := of_decide_eq_false hge; omega
    subst hge
    rw [List.take_of_length_le (by omega), List.take_of_length_le (by omega), List.drop_of_length_le (by omega), List.drop_of_length_le (by omega)] at hr
    exact h w1 (by simpa using hr)
theorem c_rotate {w0 : World} {B : Nat} {p : Option Addr} {n c : Nat} {f : Fn} {fx fc : Array Value} (hB : w0.heap.size ≤ B) (hm : n ≤ 1000000000000) {L U V S : List Pr} {a m b : Nat} {w : World} {R : Ending → World → Prop}
    (hw : Rw w0 B p n c w (L ++ (U ++ (V ++ S)))) (ha : a = L.length) (hmm : m = L.length + U.length) (hb : b = L.length + U.length + V.length) (hU : 0 < U.length) (hV : 0 < V.length)
    (h : ∀ w', Rw w0 B p n c w' (L ++ (V ++ (U ++ S))) → R (.returned (.tuple #[])) w') :
    Calls Try.prog 167 #[.slice p n c, .int .i64 (a : Nat), .int .i64 (m : Nat), .int .i64 (b : Nat), .func f fx fc] w R := by
  refine sh167_ok _ _ _ _ _ _ _ _ _ ?_
  unfold sh167
  have hlen := hw.len
  simp only [List.length_append] at hlen
  refine ⟨fun vs w' => ∃ (l u v s : List Pr), vs = [.int .i64 (u.length : Nat), .int .i64 (v.length : Nat)] ∧ Rw w0 B p n c w' (l ++ (u ++ (v ++ s))) ∧ 0 < u.length ∧ 0 < v.length ∧ m = l.length + u.length ∧ l ++ (v ++ (u ++ s)) = L ++ (V ++ (U ++ S)),
    fun vs _ => (intOf (vs.getD 0 undef)).toNat + (intOf (vs.getD 1 undef)).toNat, ⟨L, U, V, S, ?_, hw, hU, hV, hmm, rfl⟩, ?_⟩
  · rw [wrap_of (by omega) (by omega), wrap_of (by omega) (by omega), show (m : Int) - (a : Int) = (U.length : Int) by omega, show (b : Int) - (m : Int) = (V.length : Int) by omega]
  rintro i j _ w1 ⟨l, u, v, s, hv, hr, hu, hvv, hml, hfin⟩
  simp only [List.cons.injEq, Value.int.injEq, true_and, and_true] at hv
  obtain ⟨rfl, rfl⟩ := hv
  have hlen1 := hr.len
  simp only [List.length_append] at hlen1
  have e1 : IntKind.wrap .i64 ((m : Int) - (u.length : Int)) = ((m - u.length : Nat) : Int) := by rw [wrap_of (by omega) (by omega)]; omega
  refine ifB_intro (fun hne => ?_) fun heq => ?_
  · have hne : u.length ≠ v.length := by intro e; rw [e] at hne; simp at hne
    refine ifB_intro (fun hgt => ?_) fun hle => ?_
    · have hgt : v.length < u.length := by have := of_decide_eq_true hgt; omega
      rw [e1]
      have hsp : l ++ (u ++ (v ++ s)) = l ++ (u.take v.length ++ (u.drop v.length ++ (v ++ s))) := by rw [← List.append_assoc (u.take _), List.take_append_drop]
      rw [hsp] at hr
      refine do_call Try.call171 (c_swapRange hB hm hr (k := v.length) (by simp; omega) rfl (by omega) (by simp; omega) fun w2 hr2 => retS_ret ⟨rfl, ⟨l ++ v, u.drop v.length, u.take v.length, s, ?_, ?_, ?_, ?_, ?_, ?_⟩, ?_⟩)
      · rw [wrap_of (by omega) (by omega), List.length_drop, List.length_take, show ((u.length : Int) - (v.length : Int)) = ((u.length - v.length : Nat) : Int) by omega, show min v.length u.length = v.length by omega]
      · simpa using hr2
      · simp; omega
      · simp; omega
      · simp; omega
      · rw [← hfin]; simp only [List.append_assoc]; rw [← List.append_assoc (u.take _) (u.drop _), List.take_append_drop]
      · rw [wrap_of (by omega) (by omega)]; simp [intOf]; omega
    · have hle : u.length < v.length := by have := of_decide_eq_false hle; omega
      have e2 : IntKind.wrap .i64 (IntKind.wrap .i64 ((m : Int) + (v.length : Int)) - (u.length : Int)) = ((m + v.length - u.length : Nat) : Int) := by
        rw [wrap_of (x := (m : Int) + (v.length : Int)) (by omega) (by omega), wrap_of (by omega) (by omega)]; omega
      rw [e1, e2]
      have hsp : l ++ (u ++ (v ++ s)) = l ++ (u ++ (v.take (v.length - u.length) ++ (v.drop (v.length - u.length) ++ s))) := by rw [← List.append_assoc (v.take _), List.take_append_drop]
      rw [hsp] at hr
      refine do_call Try.call171 (c_swapRange hB hm hr (k := u.length) rfl (by simp; omega) (by omega) (by simp; omega) fun w2 hr2 => retS_ret ⟨rfl, ⟨l, v.drop (v.length - u.length), v.take (v.length - u.length), u ++ s, ?_, ?_, ?_, ?_, ?_, ?_⟩, ?_⟩)
      · rw [wrap_of (by omega) (by omega), List.length_drop, List.length_take, show ((v.length : Int) - (u.length : Int)) = ((v.length - u.length : Nat) : Int) by omega, show min (v.length - u.length) v.length = v.length - u.length by omega, show v.length - (v.length - u.length) = u.length by omega]
      · exact hr2
      · simp; omega
      · simp; omega
      · simp; omega
      · rw [← hfin, ← List.append_assoc (v.take _) (v.drop _), List.take_append_drop]
      · rw [wrap_of (by omega) (by omega)]; simp [intOf]; omega
  · have heq : u.length = v.length := by simp at heq; omega
    rw [e1]
    have hsp : l ++ (u ++ (v ++ s)) = l ++ (u ++ ([] ++ (v ++ s))) := rfl
    rw [hsp] at hr
    refine do_call Try.call171 (c_swapRange hB hm hr (k := u.length) rfl heq.symm (by omega) (by simp; omega) fun w2 hr2 => retS_ret ⟨rfl, h w2 ?_⟩)
    rw [← hfin]; exact hr2
end Go.Proofs.Ytinkkhcffoikmaa
