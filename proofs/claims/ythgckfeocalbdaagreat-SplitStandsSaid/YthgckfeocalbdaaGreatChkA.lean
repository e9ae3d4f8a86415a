/-
  avl.Check of a tree in balance: nothing is wrong.
-/
import Derived.Test.YthgckfeocalbdaaGreatChkW
import Derived.Test.YthgckfeocalbdaaGreatPr
namespace Go.Proofs.YthgckfeocalbdaaGreat
open Go Go.Sh Go.RowKit

set_option maxRecDepth 20000 in
theorem do_tagsA {p : Option Addr} {t : Tr} {w : World} {R : Ending → World → Prop} (ht : IsN w p t) (h : ∀ w', Ext w w' → R (.returned (.tuple #[.int .u64 (min t.left.tag t.right.tag), .int .u64 (max t.left.tag t.right.tag)])) w') :
    doCall Tryz.prog (.func (.func 189) #[] #[]) #[.pointer p] w R := by
  refine do_call Tryz.call189 (sh189_ok _ ?_)
  unfold sh189
  refine do_call Tryz.call68 (c_left0 ht (ext_refl _) fun pl hpl => retS_ret ⟨_, rfl, ?_⟩)
  refine do_call Tryz.call126 (c_tag hpl fun w1 e1 => retS_ret ⟨_, rfl, ?_⟩)
  refine do_call Tryz.call66 (c_right0 ht e1 fun pr hpr => retS_ret ⟨_, rfl, ?_⟩)
  refine do_call Tryz.call126 (c_tag (hpr.ext e1) fun w2 e2 => retS_ret ⟨_, rfl, ?_⟩)
  exact do_mink (retS_ret ⟨_, rfl, do_maxk (retS_ret ⟨_, rfl, h _ (e1.trans e2)⟩)⟩)
theorem avl_node {l r : Tr} {k v g : Int} (h : Avl (.node l k v g r)) (hs : (Tr.node l k v g r).size ≤ 5000) :
    0 ≤ l.tag ∧ 0 ≤ r.tag ∧ l.tag ≤ 5000 ∧ r.tag ≤ 5000 ∧ g = max l.tag r.tag + 1 ∧ l.tag ≤ r.tag + 1 ∧ r.tag ≤ l.tag + 1 := by
  obtain ⟨hl, hr, hg, h1, h2⟩ := h
  have a := hl.tag; have b := hr.tag
  have e : (Tr.node l k v g r).size = l.size + 1 + r.size := rfl
  refine ⟨a.1, b.1, ?_, ?_, hg, h1, h2⟩ <;> omega
theorem do_look1 {b1 : Nat} {T1 : TypeId} {p : Option Addr} {l r : Tr} {k v g : Int} {w : World} {R : Ending → World → Prop} (hb : Blk w b1 #[.func (.func 189) #[] #[]] T1) (ht : IsN w p (.node l k v g r)) (ha : Avl (.node l k v g r)) (hs : (Tr.node l k v g r).size ≤ 5000)
    (h : ∀ w', Ext w w' → R (.returned (.bool false)) w') : doCall Tryz.prog (.func (.func 190) #[] #[.pointer (some (blk b1))]) #[.pointer p] w R := by
  refine do_callc Tryz.call190 (by rfl) (sh190_ok _ _ ?_)
  unfold sh190
  obtain ⟨a1, a2, a3, a4, a5, a6, a7⟩ := avl_node ha hs
  refine ⟨_, _, _, hb.cell (i := 0) rfl rfl, ?_⟩
  refine do_tagsA ht fun w1 e1 => retS_ret ⟨_, _, rfl, ?_⟩
  intro K12
  refine do_call Tryz.call126 (c_tag (ht.ext e1) fun w2 e2 => retS_ret ⟨_, rfl, ?_⟩)
  refine ifB_f (by show (g == 0) = false; simp; omega) ?_
  refine do_call Tryz.call126 (c_tag (ht.ext (e1.trans e2)) fun w3 e3 => retS_ret ⟨_, rfl, ?_⟩)
  have : (IntKind.wrap .u64 ((Tr.node l k v g r).tag - 1) != max (Tr.node l k v g r).left.tag (Tr.node l k v g r).right.tag) = false := by
    show (IntKind.wrap .u64 (g - 1) != max l.tag r.tag) = false
    rw [a5]
    have : IntKind.wrap .u64 (max l.tag r.tag + 1 - 1) = max l.tag r.tag := by
      have : max l.tag r.tag + 1 - 1 = max l.tag r.tag := by omega
      rw [this]
      exact Int.emod_eq_of_lt (by omega) (by show _ < (18446744073709551616 : Int); omega)
    rw [this]; simp
  simp -zeta -zetaHave only [K12]
  rw [this]
  exact h _ ((e1.trans e2).trans e3)
theorem do_look2 {b1 : Nat} {T1 : TypeId} {p : Option Addr} {l r : Tr} {k v g : Int} {w : World} {R : Ending → World → Prop} (hb : Blk w b1 #[.func (.func 189) #[] #[]] T1) (ht : IsN w p (.node l k v g r)) (ha : Avl (.node l k v g r)) (hs : (Tr.node l k v g r).size ≤ 5000)
    (h : ∀ w', Ext w w' → R (.returned (.bool false)) w') : doCall Tryz.prog (.func (.func 191) #[] #[.pointer (some (blk b1))]) #[.pointer p] w R := by
  refine do_callc Tryz.call191 (by rfl) (sh191_ok _ _ ?_)
  unfold sh191
  obtain ⟨a1, a2, a3, a4, a5, a6, a7⟩ := avl_node ha hs
  refine ⟨_, _, _, hb.cell (i := 0) rfl rfl, ?_⟩
  refine do_tagsA ht fun w1 e1 => retS_ret ⟨_, _, rfl, ?_⟩
  have : decide (IntKind.wrap .u64 (max (Tr.node l k v g r).left.tag (Tr.node l k v g r).right.tag - min (Tr.node l k v g r).left.tag (Tr.node l k v g r).right.tag) > 1) = false := by
    show decide (IntKind.wrap .u64 (max l.tag r.tag - min l.tag r.tag) > 1) = false
    have : IntKind.wrap .u64 (max l.tag r.tag - min l.tag r.tag) = max l.tag r.tag - min l.tag r.tag := Int.emod_eq_of_lt (by omega) (by show _ < (18446744073709551616 : Int); omega)
    rw [this]
    exact decide_eq_false (by omega)
  rw [this]
  exact h _ e1
/-! ### the nodes, one by one -/
abbrev onA (b5 b7 : Nat) : Value := .func (.func 193) #[] #[.pointer (some (blk b5)), .pointer (some (blk b7))]
set_option maxRecDepth 20000 in
/-- each node is handed to yield, which goes on -/
theorem do_onA {Y1 : Fn} {Y2 Y3 : Array Value} {b5 b7 d1 : Nat} {T5 T7 : TypeId} {w0 : World} {J : Nat → World → Prop} (hd5 : d1 < b5) (hd7 : d1 < b7) (hJe : ∀ n w, J n w → Ext w0 w) (hJx : ∀ n w w', J n w → Ext w w' → J n w')
    (hY : ∀ n l k v g r p w (K : Ending → World → Prop), J n w → IsN w0 p (.node l k v g r) → Avl (.node l k v g r) → (Tr.node l k v g r).size ≤ 5000 → (∀ w', J (n + 1) w' → (∀ b cs ty, d1 < b → Blk w b cs ty → Blk w' b cs ty) → K (.returned (.bool true)) w') → doCall Tryz.prog (.func Y1 Y2 Y3) #[.pointer p] w K) :
    ∀ (t : Tr) {p : Option Addr} {n : Nat} {w : World} {K : Ending → World → Prop} (_ht : IsN w0 p t) (_ha : Avl t) (_hs : t.size ≤ 5000) (_hj : J n w) (_h5 : Blk w b5 #[.func Y1 Y2 Y3] T5) (_h7 : Blk w b7 #[onA b5 b7] T7)
      (_h : ∀ w', J (n + t.size) w' → Blk w' b5 #[.func Y1 Y2 Y3] T5 → Blk w' b7 #[onA b5 b7] T7 → K (.returned (.bool true)) w'), doCall Tryz.prog (onA b5 b7) #[.pointer p] w K
  | .nil, p, n, w, K, ht, ha, hs, hj, h5, h7, h => by
    refine do_callc Tryz.call193 (by rfl) (sh193_ok _ _ _ ?_)
    unfold sh193
    have : p = none := ht
    subst this
    intro K6
    have d := ext_drew w
    exact ⟨⟨fun w' => Ext w w', d, ifB_t rfl (h _ (hJx _ _ _ hj d) (h5.ext d) (h7.ext d))⟩⟩
  | .node l k v g r, p, n, w, K, ht, ha, hs, hj, h5, h7, h => by
    refine do_callc Tryz.call193 (by rfl) (sh193_ok _ _ _ ?_)
    unfold sh193
    intro K6
    have d := ext_drew w
    have e : (Tr.node l k v g r).size = l.size + 1 + r.size := rfl
    refine ⟨⟨fun w' => Blk w' b5 #[.func Y1 Y2 Y3] T5 ∧ Blk w' b7 #[onA b5 b7] T7, ⟨h5.ext d, h7.ext d⟩, ?_⟩⟩
    rw [show p.isNone = false from ht.isNone]
    refine ifB_f rfl ⟨_, _, _, fun w' q => q.1.cell (i := 0) rfl rfl, ?_⟩
    refine hY n l k v g r p _ _ (hJx _ _ _ hj d) ht ha hs fun w1 hj1 hf1 => retS_ret ⟨_, rfl, ?_⟩
    have h51 := hf1 _ _ _ hd5 (h5.ext d)
    have h71 := hf1 _ _ _ hd7 (h7.ext d)
    refine ⟨⟨h51, h71⟩, ifB_t rfl ⟨_, _, _, fun w' q => q.2.cell (i := 0) rfl rfl, ?_⟩⟩
    refine do_call Tryz.call68 (c_left0 ht (hJe _ _ hj1) fun pl hpl => retS_ret ⟨_, rfl, ⟨h51, h71⟩, ?_⟩)
    refine do_onA hd5 hd7 hJe hJx hY l hpl ha.1 (by omega) hj1 h51 h71 fun w2 hj2 h52 h72 => retS_ret ⟨_, rfl, ⟨h52, h72⟩, ?_⟩
    refine ifB_t rfl ⟨_, _, _, fun w' q => q.2.cell (i := 0) rfl rfl, ?_⟩
    refine do_call Tryz.call66 (c_right0 ht (hJe _ _ hj2) fun pr hpr => retS_ret ⟨_, rfl, ⟨h52, h72⟩, ?_⟩)
    refine do_onA hd5 hd7 hJe hJx hY r hpr ha.2.1 (by omega) hj2 h52 h72 fun w3 hj3 h53 h73 => retS_ret ⟨_, rfl, ⟨h53, h73⟩, ?_⟩
    rw [show n + 1 + l.size + r.size = n + (Tr.node l k v g r).size by omega] at hj3
    exact h _ hj3 h53 h73
theorem c_looks {w : World} {R : Ending → World → Prop} (h : ∀ b1 ba w', Ext w w' → w.heap.size ≤ b1 → w.heap.size ≤ ba → Blk w' b1 #[.func (.func 189) #[] #[]] 229 →
    Blk w' ba #[.func (.func 190) #[] #[.pointer (some (blk b1))], .int .i64 140, .func (.func 191) #[] #[.pointer (some (blk b1))], .int .i64 8] 212 → R (.returned (.slice (some (blk ba)) 2 2)) w') :
    Calls Tryz.prog 147 #[] w R := by
  refine sh147_ok ?_
  unfold sh147
  refine ⟨?_⟩
  refine do_st (blk_alloc w _ _) (i := 0) (add_blk _ _) (by simp) fun w1 h1 g1 => ⟨?_⟩
  have e1 : Ext w w1 := (ext_alloc w _).st g1 (Nat.le_refl _)
  have e2 := ext_alloc w1 (.cells #[.func (.func 190) #[] #[.pointer (some (blk w.heap.size))], .int .i64 140, .func (.func 191) #[] #[.pointer (some (blk w.heap.size))], .int .i64 8] 212)
  exact h w.heap.size w1.heap.size _ (e1.trans e2) (Nat.le_refl _) e1.size (h1.ext e2) (blk_alloc w1 _ _)
abbrev looksL (b1 : Nat) : List (Value × Int) := [(.func (.func 190) #[] #[.pointer (some (blk b1))], 140), (.func (.func 191) #[] #[.pointer (some (blk b1))], 8)]
set_option maxRecDepth 20000 in
set_option maxHeartbeats 1600000 in
theorem c_avlcheck {t : Tr} {p : Option Addr} {w : World} {R : Ending → World → Prop} (ht : IsN w p t) (ha : Avl t) (hn : t.size ≤ 5000) (h : ∀ k w', Ext w w' → R (.returned (.tuple #[.int .i64 k, .int .i64 0])) w') :
    Calls Tryz.prog 103 #[.pointer p] w R := by
  refine sh103_ok _ ?_
  unfold sh103
  refine ⟨⟨?_⟩⟩
  have e0 := ext_alloc w (.cells #[.int .i64 0] 3)
  have h2 := blk_alloc w #[.int .i64 0] 3
  have k2 : w.heap.size ≤ w.heap.size := Nat.le_refl _
  generalize hb2 : w.heap.size = b2 at h2 k2 ⊢
  generalize w.alloc (.cells #[.int .i64 0] 3) = w1 at *
  have e1 := ext_alloc w1 (.cells #[.int .i64 0] 34)
  have h4 := blk_alloc w1 #[.int .i64 0] 34
  have l2 := h2.lt
  have n24 : b2 < w1.heap.size := l2
  generalize w1.heap.size = b4 at *
  generalize w1.alloc (.cells #[.int .i64 0] 34) = w2 at *
  have h22 := h2.ext e1
  have l4 := h4.lt
  refine do_call Tryz.call147 (c_looks fun b1 ba w3 e3 nb1 nba hb1 hba => retS_ret ⟨_, _, _, rfl, ⟨?_⟩⟩)
  refine do_st (blk_alloc w3 _ _) (i := 0) (add_blk _ _) (by simp) fun w4 h11 g4 => ?_
  have e4 : Ext w3 w4 := (ext_alloc w3 _).st g4 (Nat.le_refl _)
  have h11 : Blk w4 w3.heap.size #[.slice (some (blk ba)) 2 2] 206 := h11
  have n11 : b4 < w3.heap.size := by have := e3.size; omega
  generalize w3.heap.size = b11 at *
  intro K15
  refine do_call Tryz.call148 (sh148_ok _ ?_)
  unfold sh148
  refine ⟨retS_ret ⟨_, _, _, rfl, do_rf fun fn L w6 d hd hL hst hpe e6 hd6 hl6 => ?_⟩⟩
  have e5 := ext_alloc w4 (.cells #[.pointer p] 29)
  have hbt := blk_alloc w4 #[.pointer p] 29
  generalize w4.heap.size = bt at *
  generalize w4.alloc (.cells #[.pointer p] 29) = w5 at *
  have e26 : Ext w2 w6 := (e3.trans e4).trans (e5.trans e6)
  have E6 : Ext w w6 := (e0.trans e1).trans e26
  have hbt6 := hbt.ext e6
  have d2 : b2 < d := by have := (h22.ext ((e3.trans e4).trans e5)).lt; omega
  have d4 : b4 < d := by have := (h4.ext ((e3.trans e4).trans e5)).lt; omega
  have d11 : b11 < d := by have := (h11.ext e5).lt; omega
  have da : ba < d := by have := (hba.ext (e4.trans e5)).lt; omega
  have d1 : b1 < d := by have := (hb1.ext (e4.trans e5)).lt; omega
  have dt : bt < d := by have := hbt.lt; omega
  obtain ⟨J, hJ⟩ : ∃ J : Nat → World → Prop, J = fun n w' => Ext w w' ∧ Blk w' b2 #[.int .i64 (IntKind.wrap .i64 (n : Nat))] 3 ∧ Blk w' b4 #[.int .i64 0] 34 ∧ Blk w' b11 #[.slice (some (blk ba)) 2 2] 206 ∧
      Blk w' ba #[.func (.func 190) #[] #[.pointer (some (blk b1))], .int .i64 140, .func (.func 191) #[] #[.pointer (some (blk b1))], .int .i64 8] 212 ∧
      Blk w' b1 #[.func (.func 189) #[] #[]] 229 ∧ w'.heap[d]? = some (.deferred (some [])) ∧ w'.heap[d + 1]? = some (.loop L) := ⟨_, rfl⟩
  have hJe : ∀ n w', J n w' → Ext w w' := fun n w' q => by rw [hJ] at q; exact q.1
  have hJx : ∀ n w' w'', J n w' → Ext w' w'' → J n w'' := fun n w' w'' q e => by
    rw [hJ] at q ⊢
    exact ⟨q.1.trans e, q.2.1.ext e, q.2.2.1.ext e, q.2.2.2.1.ext e, q.2.2.2.2.1.ext e, q.2.2.2.2.2.1.ext e, e.heap q.2.2.2.2.2.2.1, e.heap q.2.2.2.2.2.2.2⟩
  have hwl : w.heap.size ≤ d := by omega
  have hY : ∀ n l k v g r q w' (K : Ending → World → Prop), J n w' → IsN w q (.node l k v g r) → Avl (.node l k v g r) → (Tr.node l k v g r).size ≤ 5000 →
      (∀ w'', J (n + 1) w'' → (∀ b cs ty, d + 1 < b → Blk w' b cs ty → Blk w'' b cs ty) → K (.returned (.bool true)) w'') → doCall Tryz.prog (.func (.yield (d + 1)) #[] #[]) #[.pointer q] w' K := by
    intro n l k v g r q w5 K hj hq hav hsz hK
    rw [hJ] at hj
    obtain ⟨E5, j2, j4, j11, ja, j1, jd, jl⟩ := hj
    refine sh103_0_ok (by rw [jl, hL]) ?_
    unfold sh103_0
    refine ⟨_, jl, hst, ?_⟩
    have g7 := put_grown w5 (d + 1) (.loop { L with state := .busy })
    have l7 := put_heap (o' := .loop { L with state := .busy }) jl
    have E7 := E5.put (l := d + 1) (by omega) (.loop { L with state := .busy })
    have hlt := (Array.getElem?_eq_some_iff.1 jl).1
    have j2 := j2.grown g7 (ne_some (by omega))
    have j4 := j4.grown g7 (ne_some (by omega))
    have j11 := j11.grown g7 (ne_some (by omega))
    have ja := ja.grown g7 (ne_some (by omega))
    have j1 := j1.grown g7 (ne_some (by omega))
    have jd := heap_grown g7 jd (ne_some (by omega))
    have hfr : ∀ b cs ty, d + 1 < b → Blk w5 b cs ty → Blk (w5.putObj (d + 1) (.loop { L with state := .busy })) b cs ty := fun b cs ty hb hk => hk.grown g7 (ne_some (by omega))
    generalize w5.putObj (d + 1) (.loop { L with state := .busy }) = w7 at *
    refine ⟨_, _, _, j11.cell (i := 0) rfl rfl, ?_⟩
    refine ⟨fun vs w' => ∃ i : Nat, vs = [.int .i64 i] ∧ i ≤ 2 ∧ Ext w7 w', fun vs _ => 2 - (intOf (vs.getD 0 undef)).toNat, ⟨0, rfl, by omega, ext_refl _⟩, ?_⟩
    rintro x_ _ w8 ⟨i, hv, hi, e8⟩
    simp only [List.cons.injEq, Value.int.injEq, true_and, and_true] at hv
    subst hv
    refine ifB_intro (fun hlt2 => ?_) fun hge => ?_
    · have hlt2 : i < 2 := by have := of_decide_eq_true hlt2; omega
      have hcs : Cs w8 (some (blk ba)) ((looksL b1).flatMap fun x => [x.1, .int .i64 x.2]) := by
        intro j u hu
        refine ⟨_, rfl, ?_⟩
        rw [add_blk]
        match j with
        | 0 => simp at hu; subst hu; exact (ja.ext e8).cell (i := 0) rfl rfl
        | 1 => simp at hu; subst hu; exact (ja.ext e8).cell (i := 1) rfl rfl
        | 2 => simp at hu; subst hu; exact (ja.ext e8).cell (i := 2) rfl rfl
        | 3 => simp at hu; subst hu; exact (ja.ext e8).cell (i := 3) rfl rfl
        | j + 4 => simp at hu
      have hlook : ∀ w9 (S : Value → World → Prop), Ext w8 w9 → (∀ w', Ext w9 w' → S (.bool false) w') → doCall Tryz.prog ((looksL b1)[i]'(by simpa using hlt2)).1 #[.pointer q] w9 (retS S fun _ _ => False) := by
        intro w9 S e9 hS
        have e79 := e8.trans e9
        match i, hlt2 with
        | 0, _ => exact do_look1 (j1.ext e79) (hq.ext (E7.trans e79)) hav hsz fun w' e' => retS_ret (hS w' e')
        | 1, _ => exact do_look2 (j1.ext e79) (hq.ext (E7.trans e79)) hav hsz fun w' e' => retS_ret (hS w' e')
      have hfn : ∃ f, ((looksL b1)[i]'(by simpa using hlt2)).1 = .func f #[] #[.pointer (some (blk b1))] := by
        match i, hlt2 with
        | 0, _ => exact ⟨_, rfl⟩
        | 1, _ => exact ⟨_, rfl⟩
      obtain ⟨f, hf⟩ := hfn
      refine ix_flat (s := 2) (ec := fun x : Value × Int => [x.1, .int .i64 x.2]) (fun _ => rfl) (by omega) hcs rfl rfl hlt2 fun a r _ => ⟨f, _, _, by have := r 0 _ rfl; rw [hf] at this; exact this, _, r 1 _ rfl, ⟨?_⟩⟩
      refine do_st (blk_alloc w8 _ _) (i := 0) (add_blk _ _) (by simp) fun w9 h9 g9 => do_st h9 (i := 1) (add_blk _ _) (by simp) fun w10 h10 g10 => ?_
      have e10 : Ext w8 w10 := ((ext_alloc w8 _).st g9 (Nat.le_refl _)).st g10 (Nat.le_refl _)
      refine ⟨_, _, _, h10.cell (i := 0) (add_blk _ _) rfl, ?_⟩
      rw [hf] at hlook
      refine hlook w10 _ e10 fun w11 e11 => ⟨_, rfl, ifB_f rfl ⟨⟨i + 1, ?_, by omega, (e8.trans e10).trans e11⟩, ?_⟩⟩
      · rw [wrap_of (by omega) (by omega)]; simp
      · rw [wrap_of (by omega) (by omega)]; simp [intOf]; omega
    · refine ⟨_, (j2.ext e8).cell (i := 0) rfl rfl, ?_⟩
      refine do_st (j2.ext e8) (i := 0) (add_blk _ _) (by simp) fun w9 h9 g9 => ?_
      have l9 := heap_grown g9 (e8.heap l7) (ne_some (by omega))
      refine ⟨_, l9, hK _ ?_ fun b cs ty hb hk => ?_⟩
      · rw [hJ, rec_back hst hpe]
        have gp := put_grown w9 (d + 1) (.loop L)
        have h9 : Blk w9 b2 #[.int .i64 (IntKind.wrap .i64 ((n + 1 : Nat) : Int))] 3 := by
          have : IntKind.wrap .i64 (IntKind.wrap .i64 (n : Int) + 1) = IntKind.wrap .i64 ((n + 1 : Nat) : Int) := by rw [wrap_add]; rfl
          rw [this] at h9; exact h9
        exact ⟨((E7.trans e8).st g9 (by omega)).put (by omega) _, h9.grown gp (ne_some (by omega)), ((j4.ext e8).grown g9 (ne_some (by omega))).grown gp (ne_some (by omega)), ((j11.ext e8).grown g9 (ne_some (by omega))).grown gp (ne_some (by omega)),
          ((ja.ext e8).grown g9 (ne_some (by omega))).grown gp (ne_some (by omega)), ((j1.ext e8).grown g9 (ne_some (by omega))).grown gp (ne_some (by omega)), heap_grown gp (heap_grown g9 (e8.heap jd) (ne_some (by omega))) (ne_some (by omega)), put_heap l9⟩
      · exact (((hfr b cs ty hb hk).ext e8).grown g9 (ne_some (by omega))).grown (put_grown _ _ _) (ne_some (by omega))
  have hJ0 : J 0 w6 := by rw [hJ]; exact ⟨E6, h22.ext e26, h4.ext e26, h11.ext (e5.trans e6), hba.ext (e4.trans (e5.trans e6)), hb1.ext (e4.trans (e5.trans e6)), hd6, hl6⟩
  refine callE_c Tryz.call192 (by rfl) (sh192_ok _ _ _ _ ?_)
  unfold sh192
  refine ⟨⟨?_⟩⟩
  have e7 := ext_alloc w6 (.cells #[.func (.yield (d + 1)) #[] #[]] 101)
  have h7 := blk_alloc w6 #[.func (.yield (d + 1)) #[] #[]] 101
  have n7 : d + 1 < w6.heap.size := (Array.getElem?_eq_some_iff.1 hl6).1
  generalize w6.heap.size = b7 at *
  generalize w6.alloc (.cells #[.func (.yield (d + 1)) #[] #[]] 101) = w7 at *
  have n8 : b7 < w7.heap.size := h7.lt
  refine do_st (blk_alloc w7 _ _) (i := 0) (add_blk _ _) (by simp) fun w8 h8 g8 => ?_
  have e8 : Ext w7 w8 := (ext_alloc w7 _).st g8 (Nat.le_refl _)
  refine ⟨_, _, _, h8.cell (i := 0) rfl rfl, _, (hbt6.ext (e7.trans e8)).cell (i := 0) rfl rfl, ?_⟩
  refine do_onA (J := J) (d1 := d + 1) (by omega) (by omega) hJe hJx hY t ht ha hn (hJx _ _ _ hJ0 (e7.trans e8)) (h7.ext e8) h8 fun w9 hj9 _ _ => retS_ret ⟨_, rfl, ?_⟩
  rw [hJ] at hj9
  obtain ⟨E9, j2, j4, _, _, _, jd, jl⟩ := hj9
  refine rf_done jl (by rw [hst]; simp) hpe fun ob => ?_
  have gp := put_grown w9 (d + 1) ob
  have E10 := E9.put (l := d + 1) (by omega) ob
  have j2 := j2.grown gp (ne_some (by omega))
  have j4 := j4.grown gp (ne_some (by omega))
  have jd := heap_grown gp jd (ne_some (by omega))
  generalize w9.putObj (d + 1) ob = w10 at *
  have dr := ext_drew w10
  have hd' := hd.symm
  refine ⟨⟨fun w' => Blk w' b2 #[.int .i64 (IntKind.wrap .i64 ((0 + t.size : Nat) : Int))] 3 ∧ Blk w' b4 #[.int .i64 0] 34, ⟨j2.ext dr, j4.ext dr⟩, _, fun w' q => q.1.cell (i := 0) rfl rfl, _, fun w' q => q.2.cell (i := 0) rfl rfl, ?_⟩⟩
  refine do_st (j2.ext dr) (i := 0) (add_blk _ _) (by simp) fun w11 h11' g11 => ⟨⟨h11', (j4.ext dr).grown g11 (ne_some (by omega))⟩, ?_⟩
  refine do_st ((j4.ext dr).grown g11 (ne_some (by omega))) (i := 0) (add_blk _ _) (by simp) fun w12 h12 g12 => ?_
  have jd12 := heap_grown g12 (heap_grown g11 (dr.heap jd) (ne_some (by omega))) (ne_some (by omega))
  rw [hd] at jd12
  refine ⟨jd12, ?_⟩
  have gp2 := put_grown w12 d (.deferred none)
  rw [hd] at gp2
  refine ⟨_, ((h11'.grown g12 (ne_some (by omega))).grown gp2 (ne_some (by omega))).cell (i := 0) rfl rfl, _, (h12.grown gp2 (ne_some (by omega))).cell (i := 0) rfl rfl, ?_⟩
  refine h _ _ ?_
  have E12 := ((E10.trans dr).st g11 (by omega)).st g12 (by omega)
  exact E12.st gp2 (by omega)
end Go.Proofs.YthgckfeocalbdaaGreat
