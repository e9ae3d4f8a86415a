/-
  rb.Check of a tree in balance: nothing is wrong.
-/
import Derived.Test.YthgckfeocalbdaaGreatChkA
namespace Go.Proofs.YthgckfeocalbdaaGreat
open Go Go.Sh Go.RowKit

set_option maxRecDepth 20000 in
set_option maxHeartbeats 1600000 in
theorem c_rone {p : Option Addr} {l r : Tr} {k v g : Int} {w : World} {R : Ending → World → Prop} (ht : IsN w p (.node l k v g r)) (hr : Rb (.node l k v g r)) (hs : (Tr.node l k v g r).size ≤ 5000)
    (h : ∀ w', Ext w w' → R (.returned (.int .i64 0)) w') : Calls Tryz.prog 219 #[.pointer p] w R := by
  refine sh219_ok _ ?_
  unfold sh219
  have e : (Tr.node l k v g r).size = l.size + 1 + r.size := rfl
  have tgn := hr.tag
  have tn := hr.tg (by simp only [BIG]; omega)
  have gpos : 0 < g := tgn.2.2 rfl
  obtain ⟨rl, rr, hh, hg⟩ := hr
  have tl := rl.tg (by simp only [BIG]; omega)
  have tr := rr.tg (by simp only [BIG]; omega)
  have bl := rl.tag
  have hl0 : 0 ≤ hiR l := by unfold hiR; omega
  refine do_call Tryz.call68 (c_left0 ht (ext_refl _) fun pl hpl => retS_ret ⟨_, rfl, ?_⟩)
  refine do_call Tryz.call195 (c_rof hpl tl fun w1 e1 => retS_ret ⟨_, _, rfl, ?_⟩)
  refine do_call Tryz.call66 (c_right0 ht e1 fun pr hpr => retS_ret ⟨_, rfl, ?_⟩)
  refine do_call Tryz.call195 (c_rof (hpr.ext e1) tr fun w2 e2 => retS_ret ⟨_, _, rfl, ?_⟩)
  refine do_call Tryz.call195 (c_rof (ht.ext (e1.trans e2)) tn fun w3 e3 => retS_ret ⟨_, _, rfl, ⟨⟨⟨?_⟩⟩⟩⟩)
  have E3 := (e1.trans e2).trans e3
  have x1 := ext_alloc w3 (.cells #[.int .u64 0, .int .u64 0] 232)
  have h20 := blk_alloc w3 #[.int .u64 0, .int .u64 0] 232
  have m0 := E3.size
  generalize w3.heap.size = b20 at *
  generalize w3.alloc (.cells #[.int .u64 0, .int .u64 0] 232) = w4 at *
  have x2 := ext_alloc w4 (.cells #[.int .u64 0, .int .u64 0] 232)
  have h22 := blk_alloc w4 #[.int .u64 0, .int .u64 0] 232
  have m1 := h20.lt
  generalize w4.heap.size = b22 at *
  generalize w4.alloc (.cells #[.int .u64 0, .int .u64 0] 232) = w5 at *
  have x3 := ext_alloc w5 (.cells #[.int .u64 0, .int .u64 0] 232)
  have h24 := blk_alloc w5 #[.int .u64 0, .int .u64 0] 232
  have m2 := h22.lt
  generalize w5.heap.size = b24 at *
  generalize w5.alloc (.cells #[.int .u64 0, .int .u64 0] 232) = w6 at *
  have E6 := E3.trans ((x1.trans x2).trans x3)
  refine do_st (h20.ext (x2.trans x3)) (i := 0) (add_blk _ _) (by simp) fun w7 k7 g7 => do_st k7 (i := 1) (add_blk _ _) (by simp) fun w8 k8 g8 => ?_
  have h22 := ((h22.ext x3).grown g7 (ne_some (by omega))).grown g8 (ne_some (by omega))
  have h24 := (h24.grown g7 (ne_some (by omega))).grown g8 (ne_some (by omega))
  have E8 := (E6.st g7 (by omega)).st g8 (by omega)
  refine do_st h22 (i := 0) (add_blk _ _) (by simp) fun w9 k9 g9 => do_st k9 (i := 1) (add_blk _ _) (by simp) fun w10 k10 g10 => ?_
  have k8 := (k8.grown g9 (ne_some (by omega))).grown g10 (ne_some (by omega))
  have h24 := (h24.grown g9 (ne_some (by omega))).grown g10 (ne_some (by omega))
  have E10 := (E8.st g9 (by omega)).st g10 (by omega)
  refine do_st h24 (i := 0) (add_blk _ _) (by simp) fun w11 k11 g11 => do_st k11 (i := 1) (add_blk _ _) (by simp) fun w12 k12 g12 => ?_
  have ha : Blk w12 b20 #[.int .u64 (l.tag % 2), .int .u64 (hiR l)] 232 := (k8.grown g11 (ne_some (by omega))).grown g12 (ne_some (by omega))
  have hb : Blk w12 b22 #[.int .u64 (r.tag % 2), .int .u64 (hiR r)] 232 := (k10.grown g11 (ne_some (by omega))).grown g12 (ne_some (by omega))
  have hm : Blk w12 b24 #[.int .u64 (g % 2), .int .u64 (g / 2)] 232 := k12
  have E12 := (E10.st g11 (by omega)).st g12 (by omega)
  intro K33 K36
  have hK36 : ∀ w', Ext w12 w' → K36 false w' := by
    intro w' e'
    simp -zeta -zetaHave only [K36]
    refine ifB_f rfl ?_
    intro K39
    refine ⟨_, (ha.ext e').cell (i := 1) (add_blk _ _) rfl, _, (hb.ext e').cell (i := 1) (add_blk _ _) rfl, ifB_f (by rw [hh]; simp) ⟨_, (hm.ext e').cell (i := 0) (add_blk _ _) rfl, ?_⟩⟩
    refine ifB_intro (fun h1 => ?_) fun _ => h _ (E12.trans e')
    have h1 : g % 2 = 1 := by simpa using h1
    rcases hg with ⟨_, c1, c2⟩ | hg
    · refine ⟨_, (ha.ext e').cell (i := 0) (add_blk _ _) rfl, ifB_f c1 ⟨_, (hb.ext e').cell (i := 0) (add_blk _ _) rfl, ?_⟩⟩
      have c2 : ((r.tag % 2 : Int) == 1) = false := c2
      rw [c2]
      exact ifB_f rfl (h _ (E12.trans e'))
    · omega
  refine do_call Tryz.call126 (c_tag (ht.ext E12) fun w13 e13 => retS_ret ⟨_, rfl, ?_⟩)
  refine ifB_f (by show (g == 0) = false; simp; omega) ?_
  have d := ext_drew w13
  have e14 := e13.trans d
  refine ⟨⟨fun w' => Ext w12 w', e14, _, fun w' q => (hm.ext q).cell (i := 0) (add_blk _ _) rfl, _, fun w' q => (hm.ext q).cell (i := 1) (add_blk _ _) rfl, _, fun w' q => (ha.ext q).cell (i := 1) (add_blk _ _) rfl, ?_⟩⟩
  refine do_call Tryz.call194 (c_rover (c := true) hl0 (by omega) fun w15 e15 => retS_ret ⟨_, _, rfl, e14.trans e15, ?_⟩)
  have e16 := e14.trans e15
  rcases hg with ⟨hg, c1, c2⟩ | hg
  · refine ifB_f ?_ (hK36 _ e16)
    have a1 : g % 2 = 1 := by omega
    have a2 : g / 2 = hiR l := by omega
    simp [a1, a2]
  · refine ifB_t ?_ ⟨_, fun w' q => (ha.ext q).cell (i := 1) (add_blk _ _) rfl, ?_⟩
    · have a1 : g % 2 = 0 := by omega
      simp [a1]
    · refine do_call Tryz.call126 (c_tag (ht.ext (E12.trans e16)) fun w17 e17 => retS_ret ⟨_, rfl, e16.trans e17, ?_⟩)
      refine do_call Tryz.call194 (c_rover (c := false) hl0 (by omega) fun w18 e18 => retS_ret ⟨_, _, rfl, (e16.trans e17).trans e18, ?_⟩)
      have e19 := (e16.trans e17).trans e18
      refine do_call Tryz.call196 (c_rwtag (a := 0) (b := hiR l + 1) (by omega) (by omega) fun w20 e20 => retS_ret ⟨_, rfl, e19.trans e20, ?_⟩)
      have : ((Tr.node l k v g r).tag != 2 * (hiR l + 1) + 0) = false := by
        show (g != 2 * (hiR l + 1) + 0) = false
        simp; omega
      rw [this]
      exact hK36 _ (e19.trans e20)
/-! ### the nodes, one by one -/
abbrev onR (b5 b7 : Nat) : Value := .func (.func 218) #[] #[.pointer (some (blk b5)), .pointer (some (blk b7))]
set_option maxRecDepth 20000 in
theorem do_onR {Y1 : Fn} {Y2 Y3 : Array Value} {b5 b7 d1 : Nat} {T5 T7 : TypeId} {w0 : World} {J : Nat → World → Prop} (hd5 : d1 < b5) (hd7 : d1 < b7) (hJe : ∀ n w, J n w → Ext w0 w) (hJx : ∀ n w w', J n w → Ext w w' → J n w')
    (hY : ∀ n w (K : Ending → World → Prop), J n w → (∀ w', J (n + 1) w' → (∀ b cs ty, d1 < b → Blk w b cs ty → Blk w' b cs ty) → K (.returned (.bool true)) w') → doCall Tryz.prog (.func Y1 Y2 Y3) #[.int .i64 0] w K) :
    ∀ (t : Tr) {p : Option Addr} {n : Nat} {w : World} {K : Ending → World → Prop} (_ht : IsN w0 p t) (_ha : Rb t) (_hs : t.size ≤ 5000) (_hj : J n w) (_h5 : Blk w b5 #[.func Y1 Y2 Y3] T5) (_h7 : Blk w b7 #[onR b5 b7] T7)
      (_h : ∀ w', J (n + t.size) w' → Blk w' b5 #[.func Y1 Y2 Y3] T5 → Blk w' b7 #[onR b5 b7] T7 → K (.returned (.bool true)) w'), doCall Tryz.prog (onR b5 b7) #[.pointer p] w K
  | .nil, p, n, w, K, ht, ha, hs, hj, h5, h7, h => by
    refine do_callc Tryz.call218 (by rfl) (sh218_ok _ _ _ ?_)
    unfold sh218
    have : p = none := ht
    subst this
    intro K6
    have d := ext_drew w
    exact ⟨⟨fun w' => Ext w w', d, ifB_t rfl (h _ (hJx _ _ _ hj d) (h5.ext d) (h7.ext d))⟩⟩
  | .node l k v g r, p, n, w, K, ht, ha, hs, hj, h5, h7, h => by
    refine do_callc Tryz.call218 (by rfl) (sh218_ok _ _ _ ?_)
    unfold sh218
    intro K6
    have d := ext_drew w
    have e : (Tr.node l k v g r).size = l.size + 1 + r.size := rfl
    refine ⟨⟨fun w' => Blk w' b5 #[.func Y1 Y2 Y3] T5 ∧ Blk w' b7 #[onR b5 b7] T7, ⟨h5.ext d, h7.ext d⟩, ?_⟩⟩
    rw [show p.isNone = false from ht.isNone]
    refine ifB_f rfl ⟨_, _, _, fun w' q => q.1.cell (i := 0) rfl rfl, ?_⟩
    have hjd := hJx _ _ _ hj d
    refine do_call Tryz.call219 (c_rone (ht.ext (hJe _ _ hjd)) ha hs fun w4 e4 => retS_ret ⟨_, rfl, ⟨(h5.ext d).ext e4, (h7.ext d).ext e4⟩, ?_⟩)
    refine hY n _ _ (hJx _ _ _ hjd e4) fun w1 hj1 hf1 => retS_ret ⟨_, rfl, ?_⟩
    have h51 := hf1 _ _ _ hd5 ((h5.ext d).ext e4)
    have h71 := hf1 _ _ _ hd7 ((h7.ext d).ext e4)
    refine ⟨⟨h51, h71⟩, ifB_t rfl ⟨_, _, _, fun w' q => q.2.cell (i := 0) rfl rfl, ?_⟩⟩
    refine do_call Tryz.call68 (c_left0 ht (hJe _ _ hj1) fun pl hpl => retS_ret ⟨_, rfl, ⟨h51, h71⟩, ?_⟩)
    refine do_onR hd5 hd7 hJe hJx hY l hpl ha.1 (by omega) hj1 h51 h71 fun w2 hj2 h52 h72 => retS_ret ⟨_, rfl, ⟨h52, h72⟩, ?_⟩
    refine ifB_t rfl ⟨_, _, _, fun w' q => q.2.cell (i := 0) rfl rfl, ?_⟩
    refine do_call Tryz.call66 (c_right0 ht (hJe _ _ hj2) fun pr hpr => retS_ret ⟨_, rfl, ⟨h52, h72⟩, ?_⟩)
    refine do_onR hd5 hd7 hJe hJx hY r hpr ha.2.1 (by omega) hj2 h52 h72 fun w3 hj3 h53 h73 => retS_ret ⟨_, rfl, ⟨h53, h73⟩, ?_⟩
    rw [show n + 1 + l.size + r.size = n + (Tr.node l k v g r).size by omega] at hj3
    exact h _ hj3 h53 h73
set_option maxRecDepth 20000 in
set_option maxHeartbeats 1600000 in
theorem c_rbfirst {t : Tr} {p : Option Addr} {w : World} {R : Ending → World → Prop} (ht : IsN w p t) (ha : Rb t) (hn : t.size ≤ 5000) (h : ∀ k w', Ext w w' → R (.returned (.tuple #[.int .i64 k, .int .i64 0])) w') :
    Calls Tryz.prog 152 #[.pointer p] w R := by
  refine sh152_ok _ ?_
  unfold sh152
  refine ⟨⟨?_⟩⟩
  have e0 := ext_alloc w (.cells #[.int .i64 0] 3)
  have h2 := blk_alloc w #[.int .i64 0] 3
  have k2 : w.heap.size ≤ w.heap.size := Nat.le_refl _
  generalize hb2 : w.heap.size = b2 at h2 k2 ⊢
  generalize w.alloc (.cells #[.int .i64 0] 3) = w1 at *
  have e1 := ext_alloc w1 (.cells #[.int .i64 0] 34)
  have h4 := blk_alloc w1 #[.int .i64 0] 34
  have l2 := h2.lt
  have n24 : b2 < w1.heap.size := l2
  generalize w1.heap.size = b4 at *
  generalize w1.alloc (.cells #[.int .i64 0] 34) = w2 at *
  have h22 := h2.ext e1
  have l4 := h4.lt
  refine do_call Tryz.call197 (sh197_ok _ ?_)
  unfold sh197
  refine ⟨retS_ret ⟨_, _, _, rfl, do_rf fun fn L w6 d hd hL hst hpe e6 hd6 hl6 => ?_⟩⟩
  have e5 := ext_alloc w2 (.cells #[.pointer p] 29)
  have hbt := blk_alloc w2 #[.pointer p] 29
  generalize w2.heap.size = bt at *
  generalize w2.alloc (.cells #[.pointer p] 29) = w5 at *
  have e26 : Ext w2 w6 := e5.trans e6
  have E6 : Ext w w6 := (e0.trans e1).trans e26
  have hbt6 := hbt.ext e6
  have d2 : b2 < d := by have := (h22.ext e5).lt; omega
  have d4 : b4 < d := by have := (h4.ext e5).lt; omega
  have dt : bt < d := by have := hbt.lt; omega
  obtain ⟨J, hJ⟩ : ∃ J : Nat → World → Prop, J = fun n w' => Ext w w' ∧ Blk w' b2 #[.int .i64 (IntKind.wrap .i64 (n : Nat))] 3 ∧ Blk w' b4 #[.int .i64 0] 34 ∧ w'.heap[d]? = some (.deferred (some [])) ∧ w'.heap[d + 1]? = some (.loop L) := ⟨_, rfl⟩
  have hJe : ∀ n w', J n w' → Ext w w' := fun n w' q => by rw [hJ] at q; exact q.1
  have hJx : ∀ n w' w'', J n w' → Ext w' w'' → J n w'' := fun n w' w'' q e => by
    rw [hJ] at q ⊢
    exact ⟨q.1.trans e, q.2.1.ext e, q.2.2.1.ext e, e.heap q.2.2.2.1, e.heap q.2.2.2.2⟩
  have hwl : w.heap.size ≤ d := by omega
  have hY : ∀ n w' (K : Ending → World → Prop), J n w' →
      (∀ w'', J (n + 1) w'' → (∀ b cs ty, d + 1 < b → Blk w' b cs ty → Blk w'' b cs ty) → K (.returned (.bool true)) w'') → doCall Tryz.prog (.func (.yield (d + 1)) #[] #[]) #[.int .i64 0] w' K := by
    intro n w5 K hj hK
    rw [hJ] at hj
    obtain ⟨E5, j2, j4, jd, jl⟩ := hj
    refine sh152_0_ok (by rw [jl, hL]) ?_
    unfold sh152_0
    refine ⟨_, jl, hst, ?_⟩
    have g7 := put_grown w5 (d + 1) (.loop { L with state := .busy })
    have l7 := put_heap (o' := .loop { L with state := .busy }) jl
    have E7 := E5.put (l := d + 1) (by omega) (.loop { L with state := .busy })
    have hlt := (Array.getElem?_eq_some_iff.1 jl).1
    have j2 := j2.grown g7 (ne_some (by omega))
    have j4 := j4.grown g7 (ne_some (by omega))
    have jd := heap_grown g7 jd (ne_some (by omega))
    have hfr : ∀ b cs ty, d + 1 < b → Blk w5 b cs ty → Blk (w5.putObj (d + 1) (.loop { L with state := .busy })) b cs ty := fun b cs ty hb hk => hk.grown g7 (ne_some (by omega))
    generalize w5.putObj (d + 1) (.loop { L with state := .busy }) = w7 at *
    refine ifB_f rfl ⟨_, j2.cell (i := 0) rfl rfl, ?_⟩
    refine do_st j2 (i := 0) (add_blk _ _) (by simp) fun w9 h9 g9 => ?_
    have l9 := heap_grown g9 l7 (ne_some (by omega))
    refine ⟨_, l9, hK _ ?_ fun b cs ty hb hk => ?_⟩
    · rw [hJ, rec_back hst hpe]
      have gp := put_grown w9 (d + 1) (.loop L)
      have h9 : Blk w9 b2 #[.int .i64 (IntKind.wrap .i64 ((n + 1 : Nat) : Int))] 3 := by
        have : IntKind.wrap .i64 (IntKind.wrap .i64 (n : Int) + 1) = IntKind.wrap .i64 ((n + 1 : Nat) : Int) := by rw [wrap_add]; rfl
        rw [this] at h9; exact h9
      exact ⟨(E7.st g9 (by omega)).put (by omega) _, h9.grown gp (ne_some (by omega)), (j4.grown g9 (ne_some (by omega))).grown gp (ne_some (by omega)), heap_grown gp (heap_grown g9 jd (ne_some (by omega))) (ne_some (by omega)), put_heap l9⟩
    · exact ((hfr b cs ty hb hk).grown g9 (ne_some (by omega))).grown (put_grown _ _ _) (ne_some (by omega))
  have hJ0 : J 0 w6 := by rw [hJ]; exact ⟨E6, h22.ext e26, h4.ext e26, hd6, hl6⟩
  refine callE_c Tryz.call217 (by rfl) (sh217_ok _ _ _ _ ?_)
  unfold sh217
  refine ⟨⟨?_⟩⟩
  have e7 := ext_alloc w6 (.cells #[.func (.yield (d + 1)) #[] #[]] 254)
  have h7 := blk_alloc w6 #[.func (.yield (d + 1)) #[] #[]] 254
  have n7 : d + 1 < w6.heap.size := (Array.getElem?_eq_some_iff.1 hl6).1
  generalize w6.heap.size = b7 at *
  generalize w6.alloc (.cells #[.func (.yield (d + 1)) #[] #[]] 254) = w7 at *
  have n8 : b7 < w7.heap.size := h7.lt
  refine do_st (blk_alloc w7 _ _) (i := 0) (add_blk _ _) (by simp) fun w8 h8 g8 => ?_
  have e8 : Ext w7 w8 := (ext_alloc w7 _).st g8 (Nat.le_refl _)
  refine ⟨_, _, _, h8.cell (i := 0) rfl rfl, _, (hbt6.ext (e7.trans e8)).cell (i := 0) rfl rfl, ?_⟩
  refine do_onR (J := J) (d1 := d + 1) (by omega) (by omega) hJe hJx hY t ht ha hn (hJx _ _ _ hJ0 (e7.trans e8)) (h7.ext e8) h8 fun w9 hj9 _ _ => retS_ret ⟨_, rfl, ?_⟩
  rw [hJ] at hj9
  obtain ⟨E9, j2, j4, jd, jl⟩ := hj9
  refine rf_done jl (by rw [hst]; simp) hpe fun ob => ?_
  have gp := put_grown w9 (d + 1) ob
  have E10 := E9.put (l := d + 1) (by omega) ob
  have j2 := j2.grown gp (ne_some (by omega))
  have j4 := j4.grown gp (ne_some (by omega))
  have jd := heap_grown gp jd (ne_some (by omega))
  generalize w9.putObj (d + 1) ob = w10 at *
  refine ⟨_, j2.cell (i := 0) rfl rfl, ?_⟩
  refine do_st j2 (i := 0) (add_blk _ _) (by simp) fun w11 h11' g11 => ?_
  refine do_st (j4.grown g11 (ne_some (by omega))) (i := 0) (add_blk _ _) (by simp) fun w12 h12 g12 => ?_
  have jd12 := heap_grown g12 (heap_grown g11 jd (ne_some (by omega))) (ne_some (by omega))
  rw [hd] at jd12
  refine ⟨jd12, ?_⟩
  have gp2 := put_grown w12 d (.deferred none)
  rw [hd] at gp2
  refine ⟨_, ((h11'.grown g12 (ne_some (by omega))).grown gp2 (ne_some (by omega))).cell (i := 0) rfl rfl, _, (h12.grown gp2 (ne_some (by omega))).cell (i := 0) rfl rfl, ?_⟩
  refine h _ _ ?_
  have E12 := (E10.st g11 (by omega)).st g12 (by omega)
  exact E12.st gp2 (by omega)
theorem c_rbcheck {t : Tr} {p : Option Addr} {w : World} {R : Ending → World → Prop} (ht : IsN w p t) (ha : Rb t) (hb : redR t = false) (hn : t.size ≤ 5000) (h : ∀ k w', Ext w w' → R (.returned (.tuple #[.int .i64 k, .int .i64 0])) w') :
    Calls Tryz.prog 109 #[.pointer p] w R := by
  refine sh109_ok _ ?_
  unfold sh109
  refine do_call Tryz.call152 (c_rbfirst ht ha hn fun k w1 e1 => retS_ret ⟨_, _, rfl, ?_⟩)
  intro K7 K10
  refine ifB_t rfl (do_call Tryz.call153 (c_rred (ht.ext e1) (ha.tg (by simp only [BIG]; omega)) fun w2 e2 => retS_ret ⟨_, rfl, ?_⟩))
  rw [hb]
  exact ifB_f rfl (h _ _ (e1.trans e2))
end Go.Proofs.YthgckfeocalbdaaGreat
