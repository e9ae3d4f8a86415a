/-
  What the functions of row do, part 3: rows of one's own: Clone, Insert, Delete, Put, Drop, Sum.
-/
import Derived.Test.YtinkkhcffoikmaaRow2
namespace Go.Proofs.Ytinkkhcffoikmaa
open Go Go.Sh Go.RowKit

/-- a row of pairs of one's own -/
abbrev OwnP (w : World) (base : Nat) (p : Option Addr) (n c : Nat) (l : List Pr) : Prop := w.ownsRow base 38 2 (.slice p n c) n (prs l)
theorem ownP_open {w : World} {base n c : Nat} {p : Option Addr} {l : List Pr} (h : OwnP w base p n c l) : (p = none ∧ n = 0 ∧ c = 0) ∨
    ∃ g cur, p = some ⟨g, 0, none⟩ ∧ base ≤ g ∧ Blk w g (List.toArray cur) 38 ∧ n ≤ c ∧ c ≤ maxLen ∧ cur.length = c * 2 ∧ cur.take (n * 2) = prs l := by
  rcases h.2 with ⟨hv, hn⟩ | ⟨g, cap, cur, hv, hb, hg, h1, h2, h3, h4⟩
  · cases hv; exact .inl ⟨rfl, rfl, rfl⟩
  · cases hv; exact .inr ⟨g, cur.toList, rfl, hb, hg, h1, h2, by simpa using h3, h4⟩
theorem ownP_close {w : World} {base g n c : Nat} {cur : List Value} {l : List Pr} (hb : base ≤ g) (hg : Blk w g cur.toArray 38) (h1 : n ≤ c) (h2 : c ≤ maxLen) (h3 : cur.length = c * 2) (h4 : cur.take (n * 2) = prs l) : OwnP w base (some ⟨g, 0, none⟩) n c l := by
  refine ⟨by rw [← h4]; simp; omega, .inr ⟨g, c, cur.toArray, rfl, hb, hg, h1, h2, by simpa using h3, h4⟩⟩
theorem ownP_len {w : World} {base n c : Nat} {p : Option Addr} {l : List Pr} (h : OwnP w base p n c l) : l.length = n := by have := h.1; simp at this; omega
theorem ownP_cs {w : World} {base n c : Nat} {p : Option Addr} {l : List Pr} (h : OwnP w base p n c l) : Cs w p (prs l) := Cs.of_row h
theorem ownP_nil (w : World) (base : Nat) : OwnP w base none 0 0 [] := World.ownsRow_nil _ _ _ _
theorem cs_prs_nil {w : World} {q : Option Addr} {l : List Pr} (h : Cs w q (prs l)) (hq : q = none) : l = [] := by
  subst hq
  cases l with
  | nil => rfl
  | cons x xs => obtain ⟨a, ha, _⟩ := h 0 (.int .i64 x.1) rfl; cases ha
theorem c_clone {l : List Pr} {q : Option Addr} {n c : Nat} {w : World} {R : Ending → World → Prop} (hl : Cs w q (prs l)) (hn : l.length = n) (hm : n ≤ 1000000000000)
    (h : ∀ p c' w', OwnP w' w.heap.size p n c' l → Ext w w' → R (.returned (.slice p n c')) w') : Calls Try.prog 87 #[.slice q n c] w R := by
  refine sh87_ok _ _ _ ?_
  unfold sh87
  cases q with
  | none =>
    have h0 := cs_prs_nil hl rfl
    subst h0
    have hn0 : n = 0 := by simpa using hn.symm
    subst hn0
    exact ifB_t rfl (h _ _ _ (ownP_nil w _) (ext_refl w))
  | some a =>
    refine ifB_f rfl ⟨?_⟩
    have e1 := ext_alloc w (.cells #[] 38)
    have hr := World.ownsRow_lit (base := w.heap.size) (size := 2) (e := 38) w #[] 0 (Nat.le_refl _) (by simp [maxLen]) (by simp)
    refine do_append elP hr (news := prs l) (hl.ext e1) (by simp [hn]) prs_one (by simp only [maxLen]; omega) (by omega) e1.size fun p c' w' h1 h2 => retS_ret ⟨_, _, _, rfl, ?_⟩
    simp only [Nat.zero_add, List.nil_append] at h1 ⊢
    exact h p c' w' h1 (e1.grown h2 (by rintro _ ⟨⟩; exact Nat.le_refl _))
theorem prs_split (l : List Pr) (i : Nat) : prs l = prs (l.take i) ++ prs (l.drop i) := by rw [← prs_append, List.take_append_drop]
theorem drop2 {Q : List Value} (h : 2 ≤ Q.length) : ∃ a b Z, Q = a :: b :: Z := by
  match Q, h with
  | a :: b :: Z, _ => exact ⟨a, b, Z, rfl⟩
set_option maxRecDepth 20000 in
theorem c_insert {l : List Pr} {x : Pr} {p : Option Addr} {n c base vb i : Nat} {w : World} {R : Ending → World → Prop} (ho : OwnP w base p n c l) (hb : base ≤ w.heap.size) (hm : n ≤ 1000000000000) (hi : i ≤ n)
    (hv : Blk w vb #[.int .i64 x.1, .int .i64 x.2] 38) (hne : p ≠ some (blk vb))
    (h : ∀ p' c' w', OwnP w' base p' (n + 1) c' (l.take i ++ x :: l.drop i) → w.grownBy w' (Value.slice p n c).ownBlock → R (.returned (.slice p' (n + 1 : Nat) c')) w') :
    Calls Try.prog 90 #[.slice p n c, .int .i64 (i : Nat), .slice (some (blk vb)) 1 1] w R := by
  refine sh90_ok _ _ _ _ _ _ _ ?_
  unfold sh90
  have hl := ownP_len ho
  have hcs := ownP_cs ho
  have hnc : n ≤ c := row_cap ho
  have hvc : Cs w (some (blk vb)) (prs [x]) := fun j v hj => by
    match j, hj with
    | 0, hj => cases hj; exact ⟨_, rfl, hv.cell (by rw [add_blk]) rfl⟩
    | 1, hj => cases hj; exact ⟨_, rfl, hv.cell (by rw [add_blk]) rfl⟩
    | j + 2, hj => simp at hj
  have hA : (prs (l.take i)).length = i * 2 := by simp; omega
  have hB : (prs (l.drop i)).length = (n - i) * 2 := by simp; omega
  have hX : (prs [x]).length = 2 := rfl
  have hres : prs (l.take i ++ x :: l.drop i) = prs (l.take i) ++ (prs [x] ++ prs (l.drop i)) := by rw [prs_append]; rfl
  have hdrop : ∀ {w' : World} {K : Option Addr → Nat → Nat → Prop}, Cs w' p (prs l) → (∀ q, Cs w' q (prs (l.drop i)) → K q (n - i) (c - i)) → doSl p c 2 (i : Nat) (n : Nat) K := fun hc k =>
    sl_pr hc hl hnc rfl rfl hi (Nat.le_refl n) fun q hq _ => by rw [← hl, List.take_length] at hq; exact hl ▸ k q hq
  refine hdrop hcs fun q0 _ => ?_
  refine ifB_f (by rfl) ?_
  refine ifB_intro (fun hin => ?_) fun hin => ?_
  · have hin : i = n := Int.ofNat_inj.1 (by simpa using hin)
    subst hin
    refine do_append elP ho (m := 1) hvc rfl prs_one (by simp only [maxLen]; omega) (by omega) hb fun p' c' w' h1 h2 => retS_ret ⟨_, _, _, rfl, ?_⟩
    refine h p' c' w' ?_ h2
    have e : l.take i ++ x :: l.drop i = l ++ [x] := by rw [← hl, List.take_length, List.drop_length]
    rw [e]
    unfold OwnP
    rw [prs_append]
    exact h1
  · have hin : i < n := by have : ¬ (i : Int) = n := by simpa using hin
                           omega
    refine do_cap (Try.underlying33) (retS_ret ⟨_, rfl, ?_⟩)
    have e1 : IntKind.wrap .i64 ((n : Int) + ((1 : Nat) : Int)) = ((n + 1 : Nat) : Int) := by rw [wrap_of (by omega) (by omega)]; omega
    have e2 : IntKind.wrap .i64 ((i : Int) + ((1 : Nat) : Int)) = ((i + 1 : Nat) : Int) := by rw [wrap_of (by omega) (by omega)]; omega
    have e3 : IntKind.wrap .i64 (((n + 1 : Nat) : Int) - (i : Int)) = ((n + 1 - i : Nat) : Int) := by rw [wrap_of (by omega) (by omega)]; omega
    simp only [e1, e2, e3]
    refine ifB_intro (fun hgt => ?_) fun hgt => ?_
    · have hgt : c < n + 1 := by have := of_decide_eq_true hgt; omega
      refine sl_pr (a := 0) (b := i) hcs hl hnc rfl rfl (by omega) hi fun q1 hq1 _ => ?_
      simp only [List.drop_zero, Nat.sub_zero] at hq1 ⊢
      refine do_append_zeros elP (Try.underlying3) (cs := prs (l.take i)) (n := i) (m := n + 1 - i) hA hq1 (by omega) (by omega) (by omega) (by simp only [maxLen]; omega) ?_
      intro b c' Q w1 hbb hc1 hc2 hQ hblk e1' 
      refine retS_ret ⟨_, _, _, rfl, ?_⟩
      rw [show i + (n + 1 - i) = n + 1 by omega] at hc1 ⊢
      obtain ⟨y1, y2, Z, rfl⟩ := drop2 (Q := Q) (by rw [hQ]; omega)
      have hZ : Z.length = (c' - i) * 2 - 2 := by simp at hQ; omega
      obtain ⟨Z1, Z2, rfl, hZ1⟩ : ∃ Z1 Z2, Z = Z1 ++ Z2 ∧ Z1.length = (n - i) * 2 := ⟨Z.take ((n - i) * 2), Z.drop ((n - i) * 2), (List.take_append_drop _ _).symm, by simp; omega⟩
      have hcell : c' ≤ maxLen := hc2
      refine ⟨by omega, by omega, by omega, ?_⟩
      rw [if_neg (by omega)]
      refine do_copy elP (g := b) (off := i * 2) (cs := prs [x]) hblk (fun _ => ?_) ?_ (hvc.ext e1') (by simp at hZ ⊢; omega) prs_one fun w2 hb2 g2 => retS_ret ⟨_, rfl, ⟨?_⟩⟩
      · simp only [Option.map_some, Int.toNat_natCast, Option.some.injEq]; exact add_blk b _
      · rw [show min 1 (((n + 1 : Nat) : Int).toNat - (i : Int).toNat) = 1 by omega]; rfl
      have hl2 : lay (prs (l.take i) ++ (y1 :: y2 :: (Z1 ++ Z2))) (i * 2) (prs [x]) = prs (l.take i) ++ (prs [x] ++ (Z1 ++ Z2)) := lay_mid (Y := [y1, y2]) hA.symm rfl
      rw [hl2] at hb2
      refine ⟨by omega, by omega, by omega, ?_⟩
      have e12 : Ext w w2 := e1'.st g2 (by omega)
      refine hdrop ((hcs.ext e12).ext (ext_drew _)) fun q3 hq3 => ?_
      refine do_copy elP (g := b) (off := (i + 1) * 2) (cs := prs (l.drop i)) (cur := prs (l.take i) ++ (prs [x] ++ (Z1 ++ Z2))) (w := w2.drew) hb2 (fun _ => ?_) ?_ hq3 ?_ prs_one fun w3 hb3 g3 => retS_ret ⟨_, rfl, ?_⟩
      · rw [if_neg (by omega)]
        simp only [Option.map_some, Int.toNat_natCast, Option.some.injEq]; exact add_blk b _
      · rw [hB, show min (n - i) (((n + 1 : Nat) : Int).toNat - ((i + 1 : Nat) : Int).toNat) = n - i by omega]
      · simp at hZ ⊢; omega
      have hl3 : lay (prs (l.take i) ++ (prs [x] ++ (Z1 ++ Z2))) ((i + 1) * 2) (prs (l.drop i)) = prs (l.take i) ++ (prs [x] ++ (prs (l.drop i) ++ Z2)) := by
        rw [← List.append_assoc, lay_mid (by simp; omega) (by rw [hZ1, hB]), List.append_assoc]
      rw [hl3] at hb3
      refine h _ _ _ (ownP_close (by omega) hb3 hc1 hc2 ?_ ?_) ?_
      · simp at hZ ⊢; omega
      · rw [hres, ← List.append_assoc, ← List.append_assoc, List.take_left' (by simp; omega), List.append_assoc]
      · have := e12.drew.st g3 (by omega)
        exact ⟨this.os, this.tape, this.output, this.size, fun k hk _ => this.block k hk⟩
    · have hge : n + 1 ≤ c := by have := of_decide_eq_false hgt; omega
      rcases ownP_open ho with ⟨_, hn0, _⟩ | ⟨g, cur, hp, hbg, hg, _, hcm, hcl, hct⟩
      · omega
      subst hp
      have hvg : vb ≠ g := fun e => hne (by rw [e])
      obtain ⟨C, hC⟩ : ∃ C, cur = prs (l.take i) ++ (prs (l.drop i) ++ C) := ⟨cur.drop (n * 2), by rw [← List.append_assoc, ← prs_split l i, ← hct, List.take_append_drop]⟩
      have hCl : C.length = (c - n) * 2 := by rw [hC] at hcl; simp at hcl; omega
      obtain ⟨y1, y2, C', rfl⟩ := drop2 (Q := C) (by omega)
      refine ⟨by omega, by omega, by omega, ?_⟩
      rw [if_neg (by omega)]
      simp only [Option.map_some, Int.toNat_zero, Nat.zero_mul, add_zero', Int.toNat_natCast, Nat.sub_zero]
      have hsub : ∀ {j : Nat} {K : Option Addr → Nat → Nat → Prop}, j ≤ n + 1 → (∀ q, (j < n + 1 → q = some ⟨g, j * 2, none⟩) → K q (n + 1 - j) (c - j)) → doSl (some ⟨g, 0, none⟩) c 2 (j : Nat) ((n + 1 : Nat) : Int) K := fun hj k => by
        refine ⟨by omega, by omega, by omega, ?_⟩
        simp only [Int.toNat_natCast]
        refine k _ fun hlt => ?_
        rw [if_neg (by omega)]
        simp only [Option.map_some, Option.some.injEq]; exact add_blk g _
      refine hsub (by omega) fun q1 hq1 => ?_
      have hcall : ∀ {R : Ending → World → Prop}, R (.returned (.bool false)) w → doCall Try.prog (.func (.func 121) #[] #[]) #[.slice (some (blk vb)) 1 1, .slice q1 (n + 1 - (i + 1)) (c - (i + 1))] w R := fun hR => by
        have hq1' := hq1 (by omega)
        subst hq1'
        exact do_overlaps Try.func121 (by kernel_rfl) (by kernel_rfl) (by kernel_rfl) (t := 33) (tr := 4) (by kernel_rfl) elP hv hg hvg (by rw [List.size_toArray, hcl]; omega) hR
      refine hcall (retS_ret ⟨_, rfl, ?_⟩)
      refine ifB_t rfl ⟨?_⟩
      refine hsub (by omega) fun q2 hq2 => hsub (by omega) fun q3 hq3 => ?_
      have hc3 : Cs w.drew q3 (prs (l.drop i)) := by
        rw [hq3 (by omega)]
        intro j v hj
        refine ⟨_, rfl, ?_⟩
        have hd := hcs.drop (i * 2) j v (by rw [prs_drop]; exact hj)
        obtain ⟨a, ha, hcell⟩ := hd
        cases ha
        rw [add_add, add_blk] at hcell
        have : (⟨g, i * 2, none⟩ : Addr).add j = ⟨g, i * 2 + j, none⟩ := by unfold Addr.add; split <;> simp_all
        rw [this]; exact hcell
      refine do_copy elP (g := g) (off := (i + 1) * 2) (cs := prs (l.drop i)) (cur := cur) (w := w.drew) hg (fun _ => hq2 (by omega)) ?_ hc3 (by rw [hB, hcl]; omega) prs_one fun w2 hb2 g2 => retS_ret ⟨_, rfl, ?_⟩
      · rw [hB, show min (n + 1 - i) (n + 1 - (i + 1)) = n - i by omega]
      obtain ⟨b1, b2, B', hB'⟩ := drop2 (Q := prs (l.drop i)) (by omega)
      have hBl : B'.length + 2 = (n - i) * 2 := by rw [← hB, hB']; rfl
      have hl2 : lay cur ((i + 1) * 2) (prs (l.drop i)) = prs (l.take i) ++ ([b1, b2] ++ (prs (l.drop i) ++ C')) := by
        rw [hC, ← List.append_assoc (prs (l.take i)) [b1, b2]]
        have : prs (l.take i) ++ (prs (l.drop i) ++ y1 :: y2 :: C') = (prs (l.take i) ++ [b1, b2]) ++ ((B' ++ [y1, y2]) ++ C') := by rw [hB']; simp
        rw [this, lay_mid (by simp; omega) (by rw [hB]; simp; omega)]
      rw [hl2] at hb2
      refine hsub (by omega) fun q4 hq4 => ?_
      refine do_copy elP (g := g) (off := i * 2) (cs := prs [x]) hb2 (fun _ => hq4 (by omega)) ?_ (q := some (blk vb)) ?_ (by simp; omega) prs_one fun w3 hb3 g3 => retS_ret ⟨_, rfl, ?_⟩
      · rw [show min 1 (n + 1 - i) = 1 by omega]; rfl
      · have hv2 : Blk w2 vb #[.int .i64 x.1, .int .i64 x.2] 38 := Blk.grown (w := w.drew) hv g2 (ne_some hvg)
        intro j v hj
        match j, hj with
        | 0, hj => cases hj; exact ⟨_, rfl, hv2.cell (by rw [add_blk]) rfl⟩
        | 1, hj => cases hj; exact ⟨_, rfl, hv2.cell (by rw [add_blk]) rfl⟩
        | j + 2, hj => simp at hj
      rw [lay_mid (A := prs (l.take i)) (Y := [b1, b2]) (X := prs [x]) hA.symm rfl] at hb3
      refine h _ _ _ (ownP_close hbg hb3 hge hcm ?_ ?_) (grown_trans (grown_trans (grown_drew w _) g2) g3)
      · simp at hCl ⊢; omega
      · rw [hres, ← List.append_assoc, ← List.append_assoc, List.take_left' (by simp; omega), List.append_assoc]
set_option maxRecDepth 20000 in
theorem c_delete {l : List Pr} {p : Option Addr} {n c base i : Nat} {w : World} {R : Ending → World → Prop} (ho : OwnP w base p n c l) (hm : n ≤ 1000000000000) (hi : i < n)
    (h : ∀ p' c' w', OwnP w' base p' (n - 1) c' (l.take i ++ l.drop (i + 1)) → w.grownBy w' (Value.slice p n c).ownBlock → R (.returned (.slice p' (n - 1 : Nat) c')) w') :
    Calls Try.prog 88 #[.slice p n c, .int .i64 (i : Nat), .int .i64 (i + 1 : Nat)] w R := by
  refine sh88_ok _ _ _ _ _ ?_
  unfold sh88
  have hl := ownP_len ho
  have hcs := ownP_cs ho
  have hnc : n ≤ c := row_cap ho
  rcases ownP_open ho with ⟨_, hn0, _⟩ | ⟨g, cur, hp, hbg, hg, _, hcm, hcl, hct⟩
  · omega
  subst hp
  have hA : (prs (l.take i)).length = i * 2 := by simp; omega
  have hB : (prs (l.drop (i + 1))).length = (n - (i + 1)) * 2 := by simp; omega
  have hres : prs (l.take i ++ l.drop (i + 1)) = prs (l.take i) ++ prs (l.drop (i + 1)) := prs_append _ _
  refine ⟨by omega, by omega, by omega, by omega, ifB_f ?_ ⟨?_⟩⟩
  · simp; omega
  refine sl_pr (a := 0) (b := i) hcs hl hnc rfl rfl (by omega) (by omega) fun q1 _ hq1 => ?_
  rw [if_neg (by omega)] at hq1
  simp only [Option.map_some, Nat.zero_mul, add_zero'] at hq1
  subst hq1
  refine sl_pr (a := i + 1) (b := n) hcs hl hnc rfl rfl (by omega) (Nat.le_refl n) fun q2 hc2 hq2 => ?_
  rw [← hl, List.take_length] at hc2
  obtain ⟨C, hC⟩ : ∃ C, cur = prs (l.take i) ++ (prs (l.drop i) ++ C) := ⟨cur.drop (n * 2), by rw [← List.append_assoc, ← prs_split l i, ← hct, List.take_append_drop]⟩
  have hCl : C.length = (c - n) * 2 := by rw [hC] at hcl; simp at hcl; omega
  have hD : prs (l.drop i) = .int .i64 (l[i]'(by omega)).1 :: .int .i64 (l[i]'(by omega)).2 :: prs (l.drop (i + 1)) := by rw [List.drop_eq_getElem_cons (by omega)]; rfl
  refine do_append_room elP (w := w.drew) (n := i) (m := n - (i + 1)) (cs := prs (l.drop (i + 1))) hg hB (hc2.ext (ext_drew w)) (by omega) (by rw [hB, hcl]; omega) prs_one (fun hq => ?_) fun w1 hb1 g1 => retS_ret ⟨_, _, _, rfl, ?_⟩
  · rw [hq2] at hq; split at hq <;> cases hq
  obtain ⟨Z1, Z2, hZ, hZ1⟩ : ∃ Z1 Z2, prs (l.drop i) = Z1 ++ Z2 ∧ Z1.length = (n - (i + 1)) * 2 := ⟨_, _, (List.take_append_drop ((n - (i + 1)) * 2) _).symm, by rw [List.length_take]; simp; omega⟩
  have hZ2 : Z2.length = 2 := by
    have := congrArg List.length hZ
    simp [hZ1] at this; omega
  have hl1 : lay cur (i * 2) (prs (l.drop (i + 1))) = (prs (l.take i) ++ prs (l.drop (i + 1))) ++ (Z2 ++ C) := by
    rw [hC, hZ, List.append_assoc Z1, lay_mid hA.symm (by rw [hZ1, hB]), List.append_assoc]
  rw [hl1] at hb1
  have en : i + (n - (i + 1)) = n - 1 := by omega
  rw [en]
  refine ⟨by omega, by omega, by omega, ?_⟩
  refine do_clear elP (by intro u hu; simp [Value.cells] at hu; subst hu; rfl) (g := g) (off := (n - 1) * 2) hb1 ?_ (by simp; omega) fun Q w2 hQ hb2 g2 => retS_ret ⟨rfl, ?_⟩
  · rw [if_neg (by omega)]
    simp only [Option.map_some, Int.toNat_natCast, Option.some.injEq]; exact add_blk g _
  rw [lay_mid (by simp; omega) (by rw [hZ2, hQ]; omega)] at hb2
  refine h _ _ _ (ownP_close hbg hb2 (by omega) hcm ?_ ?_) (grown_trans (grown_trans (grown_drew w _) g1) g2)
  · simp [hQ]; omega
  · rw [hres, List.take_left' (by simp; omega)]
def dropR (o : Int) (l : List Pr) (key : Int) : List Pr := cond (mayR o l) (cond (hasR o l key) (l.take (posR o l key) ++ l.drop (posR o l key + 1)) l) []
theorem row_to {w w' : World} {base base' n c : Nat} {p : Option Addr} {l : List Pr} (h : OwnP w base p n c l) (e : Ext w w') (hb : base' ≤ base) : OwnP w' base' p n c l := row_mono (e.row h) hb
theorem ext_own {a w w' : World} {base n c : Nat} {p : Option Addr} {l : List Pr} (h : OwnP w base p n c l) (e : Ext a w) (g : w.grownBy w' (Value.slice p n c).ownBlock) (hb : a.heap.size ≤ base) : Ext a w' :=
  e.grown g fun k hk => Nat.le_trans hb (World.ownsRow.lt h k hk).1
theorem c_drop {o key : Int} {l : List Pr} {q : Option Addr} {n c : Nat} {w : World} {R : Ending → World → Prop} (hl : Cs w q (prs l)) (hn : l.length = n) (hm : n ≤ 1000000000000) (hI : InP l) (hk : In key)
    (h : ∀ p n' c' w', OwnP w' w.heap.size p n' c' (dropR o l key) → Ext w w' → R (.returned (.tuple #[.slice p n' c', .bool (hasR o l key)])) w') : Calls Try.prog 38 #[.int .u8 o, .slice q n c, .int .i64 key] w R := by
  refine sh38_ok _ _ _ _ _ ?_
  unfold sh38
  refine do_call Try.call40 (c_may hl hn (by omega) hI fun w1 e1 => retS_ret ⟨_, rfl, ?_⟩)
  cases hmay : mayR o l
  · refine ifB_t rfl ?_
    have hr := h none 0 0 w1
    simp only [dropR, hasR, hmay, cond_false, Bool.false_and] at hr
    exact hr (ownP_nil _ _) e1
  · refine ifB_f rfl ?_
    refine do_call Try.call87 (c_clone (hl.ext e1) hn hm fun p c1 w2 ho e2 => retS_ret ⟨_, _, _, rfl, ?_⟩)
    refine do_call Try.call25 (c_rowfind ((hl.ext e1).ext e2) hn (by omega) hI hk fun w3 e3 => retS_ret ⟨_, _, rfl, ?_⟩)
    have E3 := (e1.trans e2).trans e3
    have ho3 := row_to ho e3 e1.size
    cases hh : hasR o l key
    · refine ifB_t rfl ?_
      have hr := h p n c1 w3
      simp only [dropR, hh, hmay, cond_false, cond_true] at hr
      exact hr ho3 E3
    · refine ifB_f rfl ?_
      have hlt := hasR_lt hh
      rw [show IntKind.wrap .i64 ((posR o l key : Nat) + 1 : Int) = ((posR o l key + 1 : Nat) : Int) from wrap_succ (n := n) (by omega) (by omega)]
      refine do_call Try.call88 (c_delete ho3 hm (by omega) fun p' c' w4 ho4 g4 => retS_ret ⟨_, _, _, rfl, ?_⟩)
      have hr := h p' (n - 1) c' w4
      simp only [dropR, hh, hmay, cond_true] at hr
      exact hr ho4 (ext_own ho3 E3 g4 (Nat.le_refl _))
/-- what is put -/
def putR (o p : Int) (l : List Pr) (x : Pr) : List Pr :=
  cond (mayR o l && may p) (cond (hasR o l x.1) (l.set (posR o l x.1) (x.1, comb p (l.getD (posR o l x.1) (0, 0)).2 x.2)) (l.take (posR o l x.1) ++ x :: l.drop (posR o l x.1))) []
def putE (o p : Int) (l : List Pr) : Int := cond (mayR o l && may p) 0 2
theorem prs_set2 {l : List Pr} {k : Nat} (hk : k < l.length) (v : Int) : (prs l).set (k * 2 + 1) (.int .i64 v) = prs (l.set k (l[k].1, v)) := by
  induction l generalizing k with
  | nil => simp at hk
  | cons x xs ih =>
    cases k with
    | zero => rfl
    | succ k =>
      have := ih (k := k) (by simpa using hk)
      rw [show (k + 1) * 2 + 1 = k * 2 + 1 + 1 + 1 by omega]
      simp only [prs_cons, List.set_cons_succ, List.getElem_cons_succ, this]
theorem prs_set1 {l : List Pr} {k : Nat} (hk : k < l.length) (v : Int) : (prs l).set (k * 2) (.int .i64 v) = prs (l.set k (v, l[k].2)) := by
  induction l generalizing k with
  | nil => simp at hk
  | cons x xs ih =>
    cases k with
    | zero => rfl
    | succ k =>
      have := ih (k := k) (by simpa using hk)
      rw [show (k + 1) * 2 = k * 2 + 1 + 1 by omega]
      simp only [prs_cons, List.set_cons_succ, List.getElem_cons_succ, this]
theorem own_st2 {l : List Pr} {p : Option Addr} {n c base k : Nat} {w : World} (ho : OwnP w base p n c l) (hk : k < n) {a : Addr} (ha : ∃ b, p = some b ∧ a = b.add (k * 2)) {v : Int} {K : World → Prop}
    (h : ∀ w', OwnP w' base p n c (l.set k ((l[k]'(by rw [ownP_len ho]; exact hk)).1, v)) → w.grownBy w' (Value.slice p n c).ownBlock → K w') : doSt ((a.add 1).add 0) (.int .i64 v) w K := by
  obtain ⟨b, hb, rfl⟩ := ha
  have hl := ownP_len ho
  rcases ownP_open ho with ⟨hp, hn0, _⟩ | ⟨g, cur, hp, hbg, hg, _, hcm, hcl, hct⟩
  · omega
  subst hp; cases hb
  rw [add_zero', add_add]
  have ea : (⟨g, 0, none⟩ : Addr).add (k * 2 + 1) = ⟨g, k * 2 + 1, none⟩ := add_blk g _
  rw [ea]
  have hs := ho.stored (k * 2 + 1) (.int .i64 v)
  rw [prs_set2 (by omega)] at hs
  exact ⟨⟨_, by rw [ho.cellAt _ (by omega)]; exact List.getElem?_eq_getElem (by simp; omega)⟩, ho.frozenAt _, h _ hs.1 hs.2⟩
theorem c_put {o p : Int} {l : List Pr} {x : Pr} {q : Option Addr} {n c : Nat} {w : World} {R : Ending → World → Prop} (hl : Cs w q (prs l)) (hn : l.length = n) (hm : n ≤ 1000000000000) (hI : InP l) (hx : In x.1)
    (h : ∀ p' n' c' w', OwnP w' w.heap.size p' n' c' (putR o p l x) → Ext w w' → R (.returned (.tuple #[.slice p' n' c', .int .i64 (putE o p l)])) w') : Calls Try.prog 39 #[.int .u8 o, .int .u8 p, .slice q n c, agP x] w R := by
  refine sh39_ok _ _ _ _ _ _ _ ?_
  unfold sh39
  refine ⟨?_⟩
  have e0 := ext_alloc w (.cells #[.int .i64 x.1, .int .i64 x.2] 38)
  have hb := blk_alloc w #[.int .i64 x.1, .int .i64 x.2] 38
  generalize hb0 : w.heap.size = b at *
  generalize w.alloc (.cells #[.int .i64 x.1, .int .i64 x.2] 38) = w0 at *
  refine do_call Try.call40 (c_may (hl.ext e0) hn (by omega) hI fun w1 e1 => retS_ret ⟨_, rfl, ?_⟩)
  have E1 := e0.trans e1
  have hb1 := hb.ext e1
  cases hmay : mayR o l
  · refine ifB_t rfl ?_
    have hr := h none 0 0 w1
    simp only [putR, putE, hmay, cond_false, Bool.false_and] at hr
    exact hr (ownP_nil _ _) E1
  refine ifB_f rfl ?_
  refine do_call Try.call89 (c_fmay fun w2 e2 => retS_ret ⟨_, rfl, ?_⟩)
  have E2 := E1.trans e2
  have hb2 := hb1.ext e2
  cases hp : may p
  · refine ifB_t rfl ?_
    have hr := h none 0 0 w2
    simp only [putR, putE, hp, cond_false, Bool.and_false] at hr
    exact hr (ownP_nil _ _) E2
  refine ifB_f rfl ?_
  refine do_call Try.call87 (c_clone (hl.ext E2) hn hm fun q3 c3 w3 ho e3 => retS_ret ⟨_, _, _, rfl, ?_⟩)
  have E3 := E2.trans e3
  have hb3 := hb2.ext e3
  refine ⟨_, hb3.cell (by rw [add_blk]) rfl, ?_⟩
  refine do_call Try.call25 (c_rowfind (hl.ext E3) hn (by omega) hI hx fun w4 e4 => retS_ret ⟨_, _, rfl, ?_⟩)
  have E4 := E3.trans e4
  have hb4 := hb3.ext e4
  have hsz2 : b < w2.heap.size := hb2.lt
  cases hh : hasR o l x.1
  · refine ifB_t rfl ?_
    refine ⟨_, hb4.cell (by rw [add_blk]) rfl, _, hb4.cell (by rw [add_blk]) rfl, ⟨?_⟩⟩
    have e5 := ext_alloc w4 (.cells #[.int .i64 x.1, .int .i64 x.2] 38)
    have hb5 := blk_alloc w4 #[.int .i64 x.1, .int .i64 x.2] 38
    have ho5 := row_to ho (e4.trans e5) (Nat.le_refl _)
    have hne : q3 ≠ some (blk w4.heap.size) := fun e => by
      have := (row_lt (row_to ho e4 (Nat.le_refl _)) e).2
      exact absurd this (Nat.lt_irrefl _)
    refine do_call Try.call90 (c_insert (x := x) ho5 (Nat.le_trans e3.size (e4.trans e5).size) hm (by have := posR_le o l x.1; omega) hb5 hne fun p' c' w6 ho6 g6 => retS_ret ⟨_, _, _, rfl, ?_⟩)
    have hr := h p' (n + 1) c' w6
    simp only [putR, putE, hp, hmay, hh, cond_false, cond_true, Bool.and_true] at hr
    exact hr (row_mono ho6 (by omega)) (ext_own ho5 (E4.trans e5) g6 (by omega))
  · refine ifB_f rfl ?_
    have hlt := hasR_lt hh
    refine ⟨⟨fun w' => Ext w4 w', ext_drew _, ?_⟩⟩
    refine ix_prC (fun w' e => (hl.ext E4).ext e) (ext_refl _) hn rfl (by omega) fun a _ r2 => ⟨_, r2, _, fun w' e => (hb4.ext e).cell (i := 1) (by rw [add_blk]) rfl, ?_⟩
    refine do_call Try.call91 (c_comb fun w6 e6 => retS_ret ⟨_, _, rfl, ?_⟩)
    have ho6 := row_to ho ((e4.drew).trans e6) (Nat.le_refl _)
    refine ix_pr (ownP_cs ho6) hn rfl (by omega) fun a' _ _ ha' => ?_
    refine own_st2 ho6 (by omega) ha' fun w7 ho7 g7 => ?_
    have hr := h q3 n c3 w7
    simp only [putR, putE, hp, hmay, hh, cond_true, Bool.and_true, getD_of hlt] at hr
    have e : (l[posR o l x.1]'hlt).1 = x.1 := hasR_key hh
    simp only [hp, cond_true, e] at ho7
    refine hr (row_mono ho7 (by omega)) (ext_own ho6 (E4.drew.trans e6) g7 (by omega))
theorem c_rowsum {l : List Pr} {q : Option Addr} {n c : Nat} {w : World} {R : Ending → World → Prop} (hl : Cs w q (prs l)) (hn : l.length = n) (hm : n ≤ 1000000000000)
    (h : ∀ w', Ext w w' → R (.returned (.int .i64 (sumL (l.map (·.2))))) w') : Calls Try.prog 51 #[.slice q n c] w R := by
  refine sh51_ok _ _ _ ?_
  unfold sh51
  refine ⟨fun vs w' => ∃ (p : Option Addr) (k c' : Nat), vs = [.slice p k c', .int .i64 (k : Nat)] ∧ k ≤ n ∧ Ext w w' ∧ w'.ownsRow w.heap.size 2 1 (.slice p k c') k (ints ((l.take k).map (·.2))), fun vs _ => n - (intOf (vs.getD 1 undef)).toNat,
    ⟨none, 0, 0, rfl, by omega, ext_refl w, World.ownsRow_nil _ _ _ _⟩, ?_⟩
  rintro p1 n1 c1 i1 _ w1 ⟨p, k, c', hv, hk, E, ho⟩
  simp only [List.cons.injEq, Value.slice.injEq, Value.int.injEq, true_and, and_true] at hv
  obtain ⟨⟨rfl, rfl, rfl⟩, rfl⟩ := hv
  refine ifB_intro (fun hlt => ?_) fun hge => ?_
  · have hlt : n1 < n := by have := of_decide_eq_true hlt; omega
    refine ix_pr (hl.ext E) hn rfl hlt fun a r1 r2 _ => ⟨_, r1, _, r2, ⟨?_⟩⟩
    refine do_st2 (blk_alloc w1 _ _) fun w2 h2 g2 => ⟨_, h2.cell (i := 1) (by rw [add_blk]) rfl, ⟨?_⟩⟩
    have e2 : Ext w1 w2 := (ext_alloc w1 _).st g2 (Nat.le_refl _)
    have e3 := ext_alloc w2 (.cells #[.int .i64 (l[n1]'(by omega)).2] 2)
    have ho3 := (e2.trans e3).row ho
    refine do_append elI ho3 (m := 1) (cs_alloc w2 _ _) (by simp) (by simp [Value.oneCell']) (by simp only [maxLen]; omega) (by omega) (Nat.le_trans E.size (e2.trans e3).size) fun p' c' w4 h4 g4 => retS_ret ⟨_, _, _, rfl, ?_⟩
    refine ⟨⟨p', n1 + 1, c', ?_, by omega, (E.trans (e2.trans e3)).grown g4 fun k hk => (World.ownsRow.lt ho3 k hk).1, ?_⟩, ?_⟩
    · rw [wrap_succ hlt (by omega)]
    · rw [show l.take (n1 + 1) = l.take n1 ++ [l[n1]'(by omega)] from (List.take_append_getElem (by omega)).symm, List.map_append, ints_append]; exact h4
    · rw [wrap_succ hlt (by omega)]; simp [intOf]; omega
  · have hge : n1 = n := by have := of_decide_eq_false hge; omega
    subst hge
    rw [← hn, List.take_length] at ho
    refine do_call Try.call98 (c_sum (l := l.map (·.2)) (Cs.of_row (by rw [hn] at ho; exact ho)) (by simpa using hn) (by omega) fun w2 e2 => retS_ret ⟨_, rfl, h w2 (E.trans e2)⟩)
end Go.Proofs.Ytinkkhcffoikmaa
