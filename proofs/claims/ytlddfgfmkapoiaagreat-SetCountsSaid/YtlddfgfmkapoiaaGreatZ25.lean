/-
  set: sets of keys in memory.
-/
/-
  set: what a set is changed to, and which key is at a place; the chapter's example.
-/
/-
  Printed by a program (gen.py): what the functions of the program do, as formulas; each with the proof that its call is what the formula says.
-/
/-
  SetLaws: the walk.
-/
import Derived.Test.YtlddfgfmkapoiaaGreatZ24
import Derived.Test.YtlddfgfmkapoiaaGreatZ02
import Derived.Test.YtlddfgfmkapoiaaGreatProg
import Derived.Test.YtlddfgfmkapoiaaGreatZ05

namespace Go.Proofs.YtlddfgfmkapoiaaGreat
open Go Go.Sh Go.RowKit

abbrev setV (b : Nat) (o : Int) (pd pt : Option Addr) : Array Value := #[.pointer (some (blk b)), .int .u8 o, .pointer pd, .pointer pt]
/-- a set that lies in memory: its keys -/
structure SetU (c o : Int) (b : Nat) (pd : Option Addr) (bx : Nat) (K : List Int) (w : World) : Prop where
  ex : ∃ t pt, Blk w bx (setV b o pd pt) 174 ∧ IsN w pt t ∧ KeyT c o t K
theorem SetU.ext {c o : Int} {b bx : Nat} {pd : Option Addr} {K : List Int} {w w' : World} (h : SetU c o b pd bx K w) (e : Ext w w') : SetU c o b pd bx K w' := by
  obtain ⟨t, pt, h1, h2, h3⟩ := h.ex
  exact ⟨t, pt, h1.ext e, h2.ext e, h3⟩
theorem SetU.gd {c o : Int} {b bx : Nat} {pd : Option Addr} {K : List Int} {S : List Nat} {w w' : World} (h : SetU c o b pd bx K w) (hO : Oth S w) (g : Gd S w w') (hb : bx ∉ S) : SetU c o b pd bx K w' := by
  obtain ⟨t, pt, h1, h2, h3⟩ := h.ex
  exact ⟨t, pt, h1.gd g hb, h2.gd hO g, h3⟩
theorem SetU.gs {c c' o : Int} {b b' bx : Nat} {pd : Option Addr} {K : List Int} {w w' : World} (h : SetU c o b pd bx K w) (hs : IsSch c' b' w) (g : Gs b' w w') : SetU c o b pd bx K w' := by
  obtain ⟨t, pt, h1, h2, h3⟩ := h.ex
  exact ⟨t, pt, h1.gs g (hs.ne h1 (by decide)), h2.gs hs g, h3⟩
theorem SetU.lt {c o : Int} {b bx : Nat} {pd : Option Addr} {K : List Int} {w : World} (h : SetU c o b pd bx K w) : bx < w.heap.size := by
  obtain ⟨t, pt, h1, h2, h3⟩ := h.ex
  exact h1.lt
theorem SetU.asc {c o : Int} {b bx : Nat} {pd : Option Addr} {K : List Int} {w : World} (h : SetU c o b pd bx K w) : K.Pairwise (ltO o) := by
  obtain ⟨t, pt, h1, h2, h3⟩ := h.ex
  exact h3.asc
theorem c_kindtree {b : Nat} {o : Int} {pd : Option Addr} {q : Option Addr} {n cp : Nat} {sp : Option Addr} {w : World} {R : Ending → World → Prop}
    (k : ∀ w', Ext w w' → doCall Tryz.prog (.func (.func 24) #[] #[]) #[.pointer sp, .int .u8 o, .pointer pd, .slice q n cp] w' (retS (fun v14 w15 => ∃ (x12 : Option Addr), ∃ (x13 : Int), v14 = (.tuple #[.pointer x12, .int .i64 x13] : Value) ∧ (
 R (.returned (.tuple #[.pointer x12, .int .i64 x13])) w15)) (fun ch w => Kfn R ch [] w))) (_hb : b = b) : Calls Tryz.prog 136 #[.agg #[.pointer sp, .int .u8 o, .pointer pd], .slice q n cp] w R := by
  refine sh136_ok _ _ _ _ _ _ ?_
  unfold sh136
  refine ⟨?_⟩
  have e0 := ext_alloc w (.cells #[.pointer sp, .int .u8 o, .pointer pd] 171)
  have h0 := blk_alloc w #[.pointer sp, .int .u8 o, .pointer pd] 171
  exact ⟨_, h0.cell (i := 0) (add_blk _ _) rfl, _, h0.cell (i := 1) (add_blk _ _) rfl, _, h0.cell (i := 2) (add_blk _ _) rfl, k _ e0⟩
theorem do_st3k {w : World} {b : Nat} {u v z x y t : Value} {ty : TypeId} (h : Blk w b #[u, v, z] ty) {K : World → Prop} (k : ∀ w', Blk w' b #[x, y, t] ty → w.grownBy w' (some b) → K w') :
    doSt ((blk b).add 0) x w fun w1 => doSt ((blk b).add 1) y w1 fun w2 => doSt ((blk b).add 2) t w2 K :=
  do_st h (i := 0) (add_blk _ _) (by simp) fun _ h1 g1 => do_st h1 (i := 1) (add_blk _ _) (by simp) fun _ h2 g2 => do_st h2 (i := 2) (add_blk _ _) (by simp) fun _ h3 g3 => k _ h3 (grown_trans (grown_trans g1 g2) g3)
theorem c_setnew {c o : Int} {b : Nat} {p : Option Addr} {D : Option (Nat × Nat × Nat × Nat)} {ds keys : List Int} {q : Option Addr} {n cp : Nat} {w : World} {R : Ending → World → Prop} (ho : isO o = true) (hs : IsSch c b w) (hd : IsD p D ds w) (hU : InU ds) (hN : topD D ≤ w.heap.size)
    (hl : Cs w q (ints keys)) (hn : keys.length = n) (hB : n ≤ 1000000) (hI : ∀ k ∈ keys, In k)
    (h : ∀ bx K w', Gd (b :: blksD D) w w' → IsSch c b w' → (∃ r, IsD p D r w' ∧ InU r) → w.heap.size ≤ bx → SetU c o b p bx K w' → (∀ k, k ∈ K ↔ k ∈ keys) → K.length ≤ n → R (.returned (.tuple #[.pointer (some (blk bx)), .int .i64 0])) w') :
    Calls Tryz.prog 63 #[.pointer (some (blk b)), .int .u8 o, .pointer p, .slice q n cp] w R := by
  refine sh63_ok _ _ _ _ _ _ ?_
  unfold sh63
  refine ⟨?_⟩
  have e0 := ext_alloc w (.cells #[.pointer none, .int .u8 0, .pointer none] 171)
  refine do_st3k (blk_alloc w _ _) fun w1 h1 g1 => ?_
  have E1 : Ext w w1 := e0.st g1 (Nat.le_refl _)
  have l1 := h1.lt
  obtain ⟨b7, hb7⟩ : ∃ b7, b7 = w.heap.size := ⟨_, rfl⟩
  rw [← hb7] at h1 g1 l1 ⊢
  refine ⟨_, h1.cell (i := 0) (add_blk _ _) rfl, _, h1.cell (i := 1) (add_blk _ _) rfl, _, h1.cell (i := 2) (add_blk _ _) rfl, ?_⟩
  have hs1 := hs.ext E1
  have hd1 := hd.ext E1
  have hslt := hs.lt
  have hDlt := hd.lt
  obtain ⟨K, hK, hm, hle⟩ := keyT_build (ds := ds) hs.1 ho hI hU
  refine do_call Tryz.call136 (c_kindtree (b := b) (fun w2 e2 => ?_) rfl)
  refine do_call Tryz.call24 (c_bkeys ho (hs1.ext e2) (hd1.ext e2) (Nat.le_trans hN (E1.trans e2).size) (hl.ext (E1.trans e2)) hn hB hI fun pt w3 g3 hs3 hd3 h3 => retS_ret ⟨_, _, rfl, retS_ret ⟨_, _, rfl, ifB_f rfl ?_⟩⟩)
  have nS : b7 ∉ b :: blksD D := fun hk => by
    rcases List.mem_cons.1 hk with e | hk
    · omega
    · have := (hDlt _ hk).1; omega
  have h13 := (h1.ext e2).gd g3 nS
  refine ⟨_, h13.cell (i := 0) (add_blk _ _) rfl, _, h13.cell (i := 1) (add_blk _ _) rfl, _, h13.cell (i := 2) (add_blk _ _) rfl, ⟨?_⟩⟩
  have e4 := ext_alloc w3 (.cells (setV b o p pt) 174)
  have h4 := blk_alloc w3 (setV b o p pt) 174
  have G3 : Gd (b :: blksD D) w w3 := (gd_of (E1.trans e2)).trans g3
  have hr : InU (restL c ds (sortL o 1 (zeroP keys))) := by unfold restL; split
                                                            · exact hU.drop _
                                                            · exact hU
  exact h _ K _ (G3.trans (gd_of e4)) (hs3.ext e4) ⟨_, hd3.ext e4, hr⟩ G3.size ⟨_, pt, h4, h3.ext e4, hK⟩ hm (by omega)
/-! ### two sets -/
section
variable {c o : Int} {b bY bx by_ : Nat} {px py : Option Addr} {K L : List Int} {w : World} {R : Ending → World → Prop} {f : Fn} {fx fc : Array Value}
set_option maxRecDepth 20000 in
theorem c_btree (hsx : IsSch c b w) (hsy : IsSch c bY w) (hx : SetU c o b px bx K w) (hy : SetU c o bY py by_ L w)
    (k : ∀ t u pt pu w', Ext w w' → IsN w' pt t → IsN w' pu u → KeyT c o t K → KeyT c o u L → doCall Tryz.prog (.func f fx fc) #[.pointer (some (blk b)), .int .u8 o, .pointer pt, .pointer pu] w' (retS (fun v29 w30 => ∃ (x27 : Option Addr), ∃ (x28 : Int), v29 = (.tuple #[.pointer x27, .int .i64 x28] : Value) ∧ (
 R (.returned (.tuple #[.pointer x27, .int .i64 x28])) w30)) (fun ch w => Kfn R ch [] w))) :
    Calls Tryz.prog 140 #[.agg #[.func f fx fc], .pointer (some (blk bx)), .pointer (some (blk by_))] w R := by
  refine sh140_ok _ _ _ _ _ ?_
  unfold sh140
  refine ⟨?_⟩
  have e0 := ext_alloc w (.cells #[.func f fx fc] 176)
  have h0 := blk_alloc w #[.func f fx fc] 176
  generalize w.heap.size = b6 at h0 ⊢
  generalize w.alloc (.cells #[.func f fx fc] 176) = w1 at *
  obtain ⟨t, pt, x1, x2, x3⟩ := (hx.ext e0).ex
  obtain ⟨u, pu, y1, y2, y3⟩ := (hy.ext e0).ex
  intro K10
  refine ifB_f rfl ?_
  simp -zeta -zetaHave only [K10]
  refine ifB_f rfl ?_
  intro K13
  have d := ext_drew w1
  have r {w' : World} (e : Ext w1 w') (i : Nat) (v : Value) (hv : (setV b o px pt)[i]? = some v) : World.cell? w' ((blk bx).add i) = some v := (x1.ext e).cell (i := i) (add_blk _ _) hv
  have s {w' : World} (e : Ext w1 w') (i : Nat) (v : Value) (hv : (setV bY o py pu)[i]? = some v) : World.cell? w' ((blk by_).add i) = some v := (y1.ext e).cell (i := i) (add_blk _ _) hv
  refine ⟨⟨fun w' => Ext w1 w', d, _, rfl, _, fun w' e => by rw [add_zero']; exact r e 0 _ rfl, _, rfl, _, fun w' e => by rw [add_zero']; exact s e 0 _ rfl, ?_⟩⟩
  have hsd := (hsx.ext e0).ext d
  have htd := (hsy.ext e0).ext d
  refine do_call Tryz.call184 (c_scode hsd (retS_ret ⟨_, rfl, d, ?_⟩))
  refine do_call Tryz.call184 (c_scode htd (retS_ret ⟨_, rfl, d, ifB_f (by simp) ?_⟩))
  refine ⟨_, rfl, _, fun w' e => by rw [add_zero']; exact r e 1 _ rfl, _, rfl, _, fun w' e => by rw [add_zero']; exact s e 1 _ rfl, ?_⟩
  simp -zeta -zetaHave only [K13]
  refine ifB_f (by simp) ?_
  have d2 := d.trans (ext_drew _)
  refine ⟨⟨fun w' => Ext w1 w', d2, _, _, _, fun w' e => (h0.ext e).cell (i := 0) (add_blk _ _) rfl, _, rfl, _, fun w' e => by rw [add_zero']; exact r e 0 _ rfl, _, rfl, _, fun w' e => by rw [add_zero']; exact r e 1 _ rfl, _, rfl, _, fun w' e => r e 3 _ rfl, _, rfl, _, fun w' e => s e 3 _ rfl, ?_⟩⟩
  exact k t u pt pu _ (e0.trans d2) (x2.ext d2) (y2.ext d2) x3 y3
theorem c_bset (hsx : IsSch c b w) (hsy : IsSch c bY w) (hx : SetU c o b px bx K w) (hy : SetU c o bY py by_ L w) {M : List Int} {F : Tr → Tr → Tr} (hF : ∀ t u, KeyT c o t K → KeyT c o u L → KeyT c o (F t u) M)
    (k : ∀ t u pt pu w' R', Ext w w' → IsN w' pt t → IsN w' pu u → KeyT c o t K → KeyT c o u L → (∀ q w'', Gs b w' w'' → IsSch c b w'' → IsN w'' q (F t u) → R' (.returned (.tuple #[.pointer q, .int .i64 0])) w'') → doCall Tryz.prog (.func f fx fc) #[.pointer (some (blk b)), .int .u8 o, .pointer pt, .pointer pu] w' R')
    (h : ∀ bz w', Gs b w w' → IsSch c b w' → w.heap.size ≤ bz → SetU c o b px bz M w' → R (.returned (.tuple #[.pointer (some (blk bz)), .int .i64 0])) w') :
    Calls Tryz.prog 138 #[.agg #[.func f fx fc], .pointer (some (blk bx)), .pointer (some (blk by_))] w R := by
  refine sh138_ok _ _ _ _ _ ?_
  unfold sh138
  refine ⟨?_⟩
  have e0 := ext_alloc w (.cells #[.func f fx fc] 176)
  have h0 := blk_alloc w #[.func f fx fc] 176
  generalize w.heap.size = b6 at h0 ⊢
  generalize w.alloc (.cells #[.func f fx fc] 176) = w1 at *
  refine ⟨_, _, _, h0.cell (i := 0) (add_blk _ _) rfl, ?_⟩
  refine do_call Tryz.call140 (c_btree (hsx.ext e0) (hsy.ext e0) (hx.ext e0) (hy.ext e0) fun t u pt pu w2 e2 ht hu kt ku => ?_)
  refine k t u pt pu w2 _ (e0.trans e2) ht hu kt ku fun q w3 g3 hs3 h3 => retS_ret ⟨_, _, rfl, retS_ret ⟨_, _, rfl, ifB_f rfl ⟨_, rfl, ?_⟩⟩⟩
  have hs2 := (hsx.ext e0).ext e2
  have G3 := (gs_of (b := b) (e0.trans e2)).trans g3
  obtain ⟨t', pt', x1, x2, x3⟩ := (hx.gs hsx G3).ex
  have r (i : Nat) (v : Value) (hv : (setV b o px pt')[i]? = some v) : World.cell? w3 (((blk bx).add 0).add i) = some v := by rw [add_zero']; exact x1.cell (i := i) (add_blk _ _) hv
  refine ⟨_, r 0 _ rfl, _, r 1 _ rfl, _, r 2 _ rfl, ⟨?_⟩⟩
  have e4 := ext_alloc w3 (.cells (setV b o px q) 174)
  have h4 := blk_alloc w3 (setV b o px q) 174
  exact h _ _ (G3.trans (gs_of e4)) (hs3.ext e4) G3.size ⟨_, q, h4, h3.ext e4, hF t u kt ku⟩
theorem c_sunion (ho : isO o = true) (hsx : IsSch c b w) (hsy : IsSch c bY w) (hx : SetU c o b px bx K w) (hy : SetU c o bY py by_ L w) (hz : K.length ≤ 100000 ∧ L.length ≤ 100000)
    (h : ∀ bz M w', Gs b w w' → IsSch c b w' → w.heap.size ≤ bz → SetU c o b px bz M w' → (∀ k, k ∈ M ↔ k ∈ K ∨ k ∈ L) → M.length ≤ K.length + L.length → R (.returned (.tuple #[.pointer (some (blk bz)), .int .i64 0])) w') :
    Calls Tryz.prog 64 #[.pointer (some (blk bx)), .pointer (some (blk by_))] w R := by
  refine sh64_ok _ _ ?_
  unfold sh64
  obtain ⟨t0, _, _, _, k0⟩ := hx.ex
  obtain ⟨u0, _, _, _, l0⟩ := hy.ex
  obtain ⟨M, hM, hm, hl⟩ := keyT_union ho k0 l0
  refine do_call Tryz.call138 (c_bset (F := unionC c o 1) (M := M) hsx hsy hx hy (fun t u kt ku => ?_) (fun t u pt pu w1 R' e1 ht hu kt ku hR => ?_) fun bz w2 g2 hs2 hb2 h2 => retS_ret ⟨_, _, rfl, h bz M w2 g2 hs2 hb2 h2 hm hl⟩)
  · obtain ⟨M', hM', hm', _⟩ := keyT_union ho kt ku
    have : M' = M := keys_ext hM'.asc hM.asc fun k => (hm' k).trans (hm k).symm
    rw [← this]; exact hM'
  · refine do_call Tryz.call137 (sh137_ok _ _ _ _ ?_)
    unfold sh137
    have z1 := kt.len
    have z2 := ku.len
    exact do_call Tryz.call86 (c_union ho (by decide) (hsx.ext e1) ht hu kt.ok.ok.1 ku.ok.ok kt.ok.k ku.ok.k ku.ok.asc (by simp only [BIG]; omega) fun q w2 g2 hs2 h2 => retS_ret ⟨_, _, rfl, hR q w2 g2 hs2 h2⟩)
theorem c_smeet (ho : isO o = true) (hsx : IsSch c b w) (hsy : IsSch c bY w) (hx : SetU c o b px bx K w) (hy : SetU c o bY py by_ L w) (hz : K.length ≤ 100000 ∧ L.length ≤ 100000)
    (h : ∀ bz M w', Gs b w w' → IsSch c b w' → w.heap.size ≤ bz → SetU c o b px bz M w' → (∀ k, k ∈ M ↔ k ∈ K ∧ k ∈ L) → M.length ≤ K.length → R (.returned (.tuple #[.pointer (some (blk bz)), .int .i64 0])) w') :
    Calls Tryz.prog 65 #[.pointer (some (blk bx)), .pointer (some (blk by_))] w R := by
  refine sh65_ok _ _ ?_
  unfold sh65
  obtain ⟨t0, _, _, _, k0⟩ := hx.ex
  obtain ⟨u0, _, _, _, l0⟩ := hy.ex
  obtain ⟨M, hM, hm, hl⟩ := keyT_meet ho k0 l0
  refine do_call Tryz.call138 (c_bset (F := meetC c o 1) (M := M) hsx hsy hx hy (fun t u kt ku => ?_) (fun t u pt pu w1 R' e1 ht hu kt ku hR => ?_) fun bz w2 g2 hs2 hb2 h2 => retS_ret ⟨_, _, rfl, h bz M w2 g2 hs2 hb2 h2 hm hl⟩)
  · obtain ⟨M', hM', hm', _⟩ := keyT_meet ho kt ku
    have : M' = M := keys_ext hM'.asc hM.asc fun k => (hm' k).trans (hm k).symm
    rw [← this]; exact hM'
  · refine do_call Tryz.call139 (sh139_ok _ _ _ _ ?_)
    unfold sh139
    have z1 := kt.len
    have z2 := ku.len
    exact do_call Tryz.call87 (c_meet ho (by decide) (hsx.ext e1) ht hu kt.ok ku.ok (by simp only [BIG]; omega) fun q w2 g2 hs2 h2 => retS_ret ⟨_, _, rfl, hR q w2 g2 hs2 h2⟩)
theorem c_sless (ho : isO o = true) (hsx : IsSch c b w) (hsy : IsSch c bY w) (hx : SetU c o b px bx K w) (hy : SetU c o bY py by_ L w) (hz : K.length ≤ 100000 ∧ L.length ≤ 100000)
    (h : ∀ bz M w', Gs b w w' → IsSch c b w' → w.heap.size ≤ bz → SetU c o b px bz M w' → (∀ k, k ∈ M ↔ k ∈ K ∧ k ∉ L) → M.length ≤ K.length → R (.returned (.tuple #[.pointer (some (blk bz)), .int .i64 0])) w') :
    Calls Tryz.prog 66 #[.pointer (some (blk bx)), .pointer (some (blk by_))] w R := by
  refine sh66_ok _ _ ?_
  unfold sh66
  obtain ⟨t0, _, _, _, k0⟩ := hx.ex
  obtain ⟨u0, _, _, _, l0⟩ := hy.ex
  obtain ⟨M, hM, hm, hl⟩ := keyT_less ho k0 l0
  refine do_call Tryz.call138 (c_bset (F := lessC c o) (M := M) hsx hsy hx hy (fun t u kt ku => ?_) (fun t u pt pu w1 R' e1 ht hu kt ku hR => ?_) fun bz w2 g2 hs2 hb2 h2 => retS_ret ⟨_, _, rfl, h bz M w2 g2 hs2 hb2 h2 hm hl⟩)
  · obtain ⟨M', hM', hm', _⟩ := keyT_less ho kt ku
    have : M' = M := keys_ext hM'.asc hM.asc fun k => (hm' k).trans (hm k).symm
    rw [← this]; exact hM'
  · have z1 := kt.len
    have z2 := ku.len
    exact do_call Tryz.call88 (c_less ho (hsx.ext e1) ht hu kt.ok ku.ok (by simp only [BIG]; omega) fun q w2 g2 hs2 h2 => hR q w2 g2 hs2 h2)
theorem c_swithin (ho : isO o = true) (hsx : IsSch c b w) (hsy : IsSch c bY w) (hx : SetU c o b px bx K w) (hy : SetU c o bY py by_ L w) (hz : K.length ≤ 100000 ∧ L.length ≤ 100000)
    (h : ∀ r w', Gs b w w' → IsSch c b w' → (r = true ↔ ∀ k ∈ K, k ∈ L) → R (.returned (.tuple #[.bool r, .int .i64 0])) w') :
    Calls Tryz.prog 67 #[.pointer (some (blk bx)), .pointer (some (blk by_))] w R := by
  refine sh67_ok _ _ ?_
  unfold sh67
  refine do_call Tryz.call140 (c_btree hsx hsy hx hy fun t u pt pu w1 e1 ht hu kt ku => ?_)
  have z1 := kt.len
  have z2 := ku.len
  obtain ⟨M, hM, hm, hl⟩ := keyT_less ho kt ku
  refine do_call Tryz.call88 (c_less ho (hsx.ext e1) ht hu kt.ok ku.ok (by simp only [BIG]; omega) fun q w2 g2 hs2 h2 => retS_ret ⟨_, _, rfl, retS_ret ⟨_, _, rfl, ?_⟩⟩)
  intro K9
  refine ifB_t rfl (h _ w2 ((gs_of e1).trans g2) hs2 ?_)
  rw [h2.isNone]
  have hz : (lessC c o t u).nn = decide (0 < M.length) := by rw [Tr.nn_size, hM.len]
  rw [hz]
  constructor
  · intro q k hk
    have hM0 : M = [] := by
      cases M with
      | nil => rfl
      | cons x M => simp at q
    by_cases hL : k ∈ L
    · exact hL
    · have := (hm k).2 ⟨hk, hL⟩
      rw [hM0] at this; cases this
  · intro q
    have hM0 : M = [] := by
      cases M with
      | nil => rfl
      | cons x M =>
        have := (hm x).1 (by simp)
        exact absurd (q x this.1) this.2
    rw [hM0]; rfl
end
/-! ### one set -/
section
variable {c o : Int} {b bx : Nat} {px : Option Addr} {K : List Int} {w : World} {R : Ending → World → Prop}
theorem c_stree (hx : SetU c o b px bx K w) (h : ∀ t pt, IsN w pt t → KeyT c o t K → R (.returned (.pointer pt)) w) : Calls Tryz.prog 143 #[.pointer (some (blk bx))] w R := by
  refine sh143_ok _ ?_
  unfold sh143
  obtain ⟨t, pt, h1, h2, h3⟩ := hx.ex
  exact ifB_f rfl ⟨_, rfl, _, h1.cell (i := 3) (add_blk _ _) rfl, h t pt h2 h3⟩
theorem c_slen (hx : SetU c o b px bx K w) (h : ∀ w', Ext w w' → R (.returned (.int .i64 K.length)) w') : Calls Tryz.prog 72 #[.pointer (some (blk bx))] w R := by
  refine sh72_ok _ ?_
  unfold sh72
  refine do_call Tryz.call143 (c_stree hx fun t pt h1 h2 => retS_ret ⟨_, rfl, ?_⟩)
  refine do_call Tryz.call91 (c_tsize h1 fun w1 e1 => retS_ret ⟨_, rfl, ?_⟩)
  rw [h2.len]; exact h _ e1
theorem c_skeys (hx : SetU c o b px bx K w) (hz : K.length ≤ 1000000) (h : ∀ q n cp w', Ext w w' → OwnK w' w.heap.size q n cp K → R (.returned (.slice q n cp)) w') : Calls Tryz.prog 76 #[.pointer (some (blk bx))] w R := by
  refine sh76_ok _ ?_
  unfold sh76
  refine do_call Tryz.call143 (c_stree hx fun t pt h1 h2 => retS_ret ⟨_, rfl, ?_⟩)
  refine do_call Tryz.call147 (c_lkeys h1 (by rw [h2.len]; exact hz) fun q n cp w1 e1 o1 => retS_ret ⟨_, _, _, rfl, ?_⟩)
  rw [h2.prs] at o1
  exact h _ _ _ _ e1 o1
end
theorem c_samekeys {l r : List Int} {q q' : Option Addr} {n c n' c' : Nat} {w : World} {R : Ending → World → Prop} (hl : Cs w q (ints l)) (hn : l.length = n) (hr : Cs w q' (ints r)) (hn' : r.length = n') (hm : n ≤ 1000000000000)
    (h : ∀ w', Ext w w' → R (.returned (.bool (decide (l = r)))) w') : Calls Tryz.prog 61 #[.slice q n c, .slice q' n' c'] w R := by
  refine sh61_ok _ _ _ _ _ _ ?_
  unfold sh61
  refine ifB_intro (fun hne => ?_) fun heq => ?_
  · have hne : l ≠ r := fun e => by subst e; simp [← hn, ← hn'] at hne
    have := h w (ext_refl w)
    rw [decide_eq_false hne] at this
    exact this
  have heq : n = n' := by simp at heq; omega
  subst heq
  refine ⟨fun vs w' => ∃ k : Nat, vs = [.int .i64 k] ∧ k ≤ n ∧ Ext w w' ∧ l.take k = r.take k, fun vs _ => n - (intOf (vs.getD 0 undef)).toNat, ⟨0, rfl, by omega, ext_refl w, by simp⟩, ?_⟩
  rintro i _ w2 ⟨k, hv, hkn, E, hlo⟩
  simp only [List.cons.injEq, Value.int.injEq, true_and, and_true] at hv
  subst hv
  refine ifB_intro (fun hlt => ?_) fun hge => ?_
  · have hlt : k < n := by have := of_decide_eq_true hlt; omega
    have d := ext_drew w2
    have hli : ∀ w', Ext w2 w' → Cs w' q (l.flatMap fun x => [.int .i64 x]) := fun w' e => by
      have := (hl.ext E).ext e
      unfold ints at this
      rwa [List.map_eq_flatMap] at this
    have hri : ∀ w', Ext w2 w' → Cs w' q' (r.flatMap fun x => [.int .i64 x]) := fun w' e => by
      have := (hr.ext E).ext e
      unfold ints at this
      rwa [List.map_eq_flatMap] at this
    refine ⟨⟨fun w' => Ext w2 w', d, ?_⟩⟩
    refine ix_flatC (ec := fun x : Int => [.int .i64 x]) (s := 1) (fun _ => rfl) (by omega) hli d hn (k := k) rfl hlt fun a r1 => ⟨l[k]'(by omega), fun w' e => by have := r1 w' e 0 _ rfl; rwa [add_zero'] at this, ?_⟩
    refine ix_flatC (ec := fun x : Int => [.int .i64 x]) (s := 1) (fun _ => rfl) (by omega) hri d hn' (k := k) rfl hlt fun a r2 => ⟨r[k]'(by omega), fun w' e => by have := r2 w' e 0 _ rfl; rwa [add_zero'] at this, ?_⟩
    refine ifB_intro (fun hne => ?_) fun he => ?_
    · have hne : l[k]'(by omega) ≠ r[k]'(by omega) := by simpa using hne
      have hlr : l ≠ r := fun e => by subst e; exact hne rfl
      have := h _ (E.trans d)
      rw [decide_eq_false hlr] at this
      exact this
    · have he : l[k]'(by omega) = r[k]'(by omega) := by simpa using he
      refine ⟨⟨k + 1, by rw [wrap_succ hlt (by omega)], by omega, E.trans d, ?_⟩, by rw [wrap_succ hlt (by omega)]; simp [intOf]; omega⟩
      rw [show l.take (k + 1) = l.take k ++ [l[k]'(by omega)] from (List.take_append_getElem (by omega)).symm, show r.take (k + 1) = r.take k ++ [r[k]'(by omega)] from (List.take_append_getElem (by omega)).symm, hlo, he]
  · have hge : k = n := by have := of_decide_eq_false hge; omega
    subst hge
    rw [List.take_of_length_le (by omega), List.take_of_length_le (by omega)] at hlo
    have := h _ E
    rw [decide_eq_true hlo] at this
    exact this
theorem c_ssame {c o c' o' : Int} {b b' bx by_ : Nat} {px py : Option Addr} {K L : List Int} {w : World} {R : Ending → World → Prop} (hx : SetU c o b px bx K w) (hy : SetU c' o' b' py by_ L w) (hz : K.length ≤ 1000000 ∧ L.length ≤ 1000000)
    (h : ∀ w', Ext w w' → R (.returned (.bool (decide (K = L)))) w') : Calls Tryz.prog 71 #[.pointer (some (blk bx)), .pointer (some (blk by_))] w R := by
  refine sh71_ok _ _ ?_
  unfold sh71
  intro K5
  refine ifB_t rfl (ifB_t rfl ?_)
  refine do_call Tryz.call76 (c_skeys hx hz.1 fun q1 n1 c1 w1 e1 o1 => retS_ret ⟨_, _, _, rfl, ?_⟩)
  have hn1 := ownK_len o1
  refine do_call Tryz.call76 (c_skeys (hy.ext e1) hz.2 fun q2 n2 c2 w2 e2 o2 => retS_ret ⟨_, _, _, rfl, ?_⟩)
  refine do_call Tryz.call61 (c_samekeys ((Cs.of_row o1).ext e2) hn1 (Cs.of_row o2) (ownK_len o2) (by omega) fun w3 e3 => retS_ret ⟨_, rfl, h w3 ((e1.trans e2).trans e3)⟩)
end Go.Proofs.YtlddfgfmkapoiaaGreat

namespace Go.Proofs.YtlddfgfmkapoiaaGreat
open Go Go.Sh Go.RowKit

theorem keys_filter {o : Int} {K L : List Int} (h : K.Pairwise (ltO o)) (h' : L.Pairwise (ltO o)) (p : Int → Bool) (hm : ∀ k, k ∈ L ↔ k ∈ K ∧ p k = true) : L = K.filter p :=
  keys_ext h' (h.sublist List.filter_sublist) fun k => (hm k).trans List.mem_filter.symm
theorem len_part (p : Int → Bool) : ∀ K : List Int, (K.filter p).length + (K.filter fun k => !p k).length = K.length
  | [] => rfl
  | k :: K => by
    have := len_part p K
    simp only [List.filter_cons]
    cases p k <;> simp <;> omega
/-- as many as there were, and those that came -/
theorem len_union {o : Int} {K L M : List Int} (hK : K.Pairwise (ltO o)) (hM : M.Pairwise (ltO o)) (hm : ∀ k, k ∈ M ↔ k ∈ K ∨ k ∈ L) : ∃ D : List Int, D.Pairwise (ltO o) ∧ (∀ k, k ∈ D ↔ k ∈ L ∧ k ∉ K) ∧ M.length = K.length + D.length := by
  refine ⟨M.filter fun k => !decide (k ∈ K), hM.sublist List.filter_sublist, fun k => ?_, ?_⟩
  · rw [List.mem_filter, hm]
    by_cases h : k ∈ K <;> simp [h]
  · have e := keys_filter hM hK (fun k => decide (k ∈ K)) fun k => by
      rw [hm]; by_cases h : k ∈ K <;> simp [h]
    have := len_part (fun k => decide (k ∈ K)) M
    rw [← e] at this
    omega
/-- those that are there, and those that are not -/
theorem len_less {o : Int} {K L D W : List Int} (hK : K.Pairwise (ltO o)) (hD : D.Pairwise (ltO o)) (hW : W.Pairwise (ltO o)) (hd : ∀ k, k ∈ D ↔ k ∈ K ∧ k ∉ L) (hw : ∀ k, k ∈ W ↔ k ∈ K ∧ k ∈ L) : D.length + W.length = K.length := by
  have e := keys_filter hK hW (fun k => decide (k ∈ L)) fun k => by rw [hw]; simp
  have f := keys_filter hK hD (fun k => !decide (k ∈ L)) fun k => by rw [hd]; simp
  have := len_part (fun k => decide (k ∈ L)) K
  rw [← e, ← f] at this
  omega
theorem maxA {x y : Nat} (h : y ≤ x) : max ((x : Int) - y) (0 - ((x : Int) - y)) = (x : Int) - y := by omega
theorem maxB' {x y : Nat} (h : x ≤ y) : max ((x : Int) - y) (0 - ((x : Int) - y)) = (y : Int) - x := by omega
/-! ### one set, changed -/
section
variable {c o : Int} {b bx : Nat} {p : Option Addr} {D : Option (Nat × Nat × Nat × Nat)} {ds keys K : List Int} {q : Option Addr} {n cp : Nat} {w : World} {R : Ending → World → Prop}
theorem c_swith {f : Fn} {fx fc : Array Value} (F : Tr → Tr → Tr) (M : List Int) (ho : isO o = true) (hs : IsSch c b w) (hd : IsD p D ds w) (hU : InU ds) (hN : topD D ≤ w.heap.size) (hx : SetU c o b p bx K w) (hnb : bx ∉ b :: blksD D) (hNx : topD D ≤ bx)
    (hl : Cs w q (ints keys)) (hn : keys.length = n) (hB : n ≤ 1000000) (hI : ∀ k ∈ keys, In k) (hz : K.length ≤ 1000000) (hz' : M.length ≤ 4000000)
    (hF : ∀ t u L, KeyT c o t K → KeyT c o u L → (∀ k, k ∈ L ↔ k ∈ keys) → KeyT c o (F t u) M)
    (k : ∀ t u L pt pu w' R', Gd (b :: blksD D) w w' → IsSch c b w' → Blk w' bx (setV b o p pt) 174 → IsN w' pt t → IsN w' pu u → KeyT c o t K → KeyT c o u L → L.length ≤ n → (∀ q w'', Gs b w' w'' → IsSch c b w'' → IsN w'' q (F t u) → R' (.returned (.tuple #[.pointer q, .int .i64 0])) w'') → doCall Tryz.prog (.func f fx fc) #[.pointer pt, .pointer pu] w' R')
    (h : ∀ w', Gd (bx :: b :: blksD D) w w' → IsSch c b w' → (∃ r, IsD p D r w' ∧ InU r) → SetU c o b p bx M w' → R (.returned (.tuple #[.int .i64 (max ((M.length : Int) - K.length) (0 - ((M.length : Int) - K.length))), .int .i64 0])) w') :
    Calls Tryz.prog 144 #[.pointer (some (blk bx)), .slice q n cp, .func f fx fc] w R := by
  refine sh144_ok _ _ _ _ _ _ _ ?_
  unfold sh144
  obtain ⟨t, pt, x1, x2, x3⟩ := hx.ex
  have r {w' : World} {pt' : Option Addr} (x : Blk w' bx (setV b o p pt') 174) (i : Nat) (v : Value) (hv : (setV b o p pt')[i]? = some v) : World.cell? w' (((blk bx).add 0).add i) = some v := by rw [add_zero']; exact x.cell (i := i) (add_blk _ _) hv
  refine ifB_f rfl ⟨_, rfl, _, r x1 0 _ rfl, _, r x1 1 _ rfl, _, r x1 2 _ rfl, ?_⟩
  obtain ⟨L, hL, hLm, hLl⟩ := keyT_build (ds := ds) hs.1 ho hI hU
  refine do_call Tryz.call136 (c_kindtree (b := b) (fun w2 e2 => ?_) rfl)
  refine do_call Tryz.call24 (c_bkeys ho (hs.ext e2) (hd.ext e2) (Nat.le_trans hN e2.size) (hl.ext e2) hn hB hI fun pu w3 g3 hs3 hd3 h3 => retS_ret ⟨_, _, rfl, retS_ret ⟨_, _, rfl, ?_⟩⟩)
  have G3 := (gd_of e2).trans g3
  have O := oth_sd hs hd
  have x13 := x1.gd G3 hnb
  have x23 := x2.gd O G3
  refine ⟨_, rfl, _, x13.cell (i := 3) (add_blk _ _) rfl, ?_⟩
  have hF' := hF t _ L x3 hL hLm
  refine k t _ L pt pu w3 _ G3 hs3 x13 x23 h3 x3 hL (by omega) fun q w4 g4 hs4 h4 => retS_ret ⟨_, _, rfl, ?_⟩
  have hne := hs3.ne x13 (by decide)
  have x14 := x13.gs g4 hne
  have x24 := x23.gs hs3 g4
  have d := ext_drew w4
  refine ⟨⟨fun w' => Ext w4 w', d, _, rfl, _, fun w' e => (x14.ext e).cell (i := 3) (add_blk _ _) rfl, ?_⟩⟩
  refine do_call Tryz.call91 (c_tsize (h4.ext d) fun w5 e5 => retS_ret ⟨_, rfl, d.trans e5, ?_⟩)
  refine do_call Tryz.call91 (c_tsize (x24.ext (d.trans e5)) fun w6 e6 => retS_ret ⟨_, rfl, _, rfl, ?_⟩)
  have e46 := (d.trans e5).trans e6
  refine do_st (x14.ext e46) (i := 3) (by rw [Sh.add_add, add_blk]) (by simp) fun w7 x7 g7 => ?_
  have x7 : Blk w7 bx (setV b o p q) 174 := x7
  rw [hF'.len, x3.len]
  refine do_maxk (retS_ret ⟨_, rfl, ?_⟩)
  rw [wrap_of (x := (M.length : Int) - K.length) (by omega) (by omega), wrap_of (x := 0 - ((M.length : Int) - K.length)) (by omega) (by omega)]
  have G7 : Gd [bx] w6 w7 := (gd_refl _ _).st g7 (.inr (by simp))
  have hr : InU (restL c ds (sortL o 1 (zeroP keys))) := by unfold restL; split
                                                            · exact hU.drop _
                                                            · exact hU
  refine h w7 ?_ ((hs4.ext e46).gd G7 (by simp [Ne.symm hne])) ⟨_, ((hd3.gs hs3 g4).ext e46).gd G7 (by simpa using hNx), hr⟩ ⟨_, q, x7, (h4.ext e46).gd (fun k hk => ?_) G7, hF'⟩
  · exact ((((G3.mono fun k hk => List.mem_cons_of_mem _ hk).trans (gd_gs g4 (by simp))).trans (gd_of e46)).st g7 (.inr (by simp)))
  · have : k = bx := by simpa using hk
    subst this
    exact oth_blk (x14.ext e46) (by decide)
theorem c_sadd (ho : isO o = true) (hs : IsSch c b w) (hd : IsD p D ds w) (hU : InU ds) (hN : topD D ≤ w.heap.size) (hx : SetU c o b p bx K w) (hnb : bx ∉ b :: blksD D) (hNx : topD D ≤ bx)
    (hl : Cs w q (ints keys)) (hn : keys.length = n) (hB : n ≤ 100000) (hI : ∀ k ∈ keys, In k) (hz : K.length ≤ 100000)
    (h : ∀ M w', Gd (bx :: b :: blksD D) w w' → IsSch c b w' → (∃ r, IsD p D r w' ∧ InU r) → SetU c o b p bx M w' → (∀ k, k ∈ M ↔ k ∈ K ∨ k ∈ keys) → M.length ≤ K.length + n → R (.returned (.tuple #[.int .i64 ((M.length : Int) - K.length), .int .i64 0])) w') :
    Calls Tryz.prog 74 #[.pointer (some (blk bx)), .slice q n cp] w R := by
  refine sh74_ok _ _ _ _ ?_
  unfold sh74
  refine ⟨?_⟩
  have e0 := ext_alloc w (.cells #[.pointer (some (blk bx))] 85)
  have h0 := blk_alloc w #[.pointer (some (blk bx))] 85
  have hslt := hs.lt
  have hDlt := hd.lt
  obtain ⟨b5, hb5⟩ : ∃ b5, b5 = w.heap.size := ⟨_, rfl⟩
  rw [← hb5] at h0 ⊢
  generalize w.alloc (.cells #[.pointer (some (blk bx))] 85) = w1 at *
  have n5 : b5 ∉ b :: blksD D := fun hk => by
    rcases List.mem_cons.1 hk with e | hk
    · omega
    · have := (hDlt _ hk).1; omega
  refine ⟨_, h0.cell (i := 0) rfl rfl, ?_⟩
  obtain ⟨t0, _, _, _, k0⟩ := hx.ex
  obtain ⟨L0, hL0, hLm0, hLl0⟩ := keyT_build (ds := ds) hs.1 ho hI hU
  obtain ⟨M, hM, hm, hlen⟩ := keyT_union ho k0 hL0
  have hm' : ∀ k, k ∈ M ↔ k ∈ K ∨ k ∈ keys := fun k => (hm k).trans (or_congr Iff.rfl (hLm0 k))
  obtain ⟨D', _, _, hge⟩ := len_union hx.asc hM.asc hm'
  refine do_call Tryz.call144 (c_swith (unionC c o 1) M ho (hs.ext e0) (hd.ext e0) hU (Nat.le_trans hN e0.size) (hx.ext e0) hnb hNx (hl.ext e0) hn (by omega) hI (by omega) (by omega) (fun t u L kt ku hL => ?_) (fun t u L pt pu w2 R' G2 hs2 x2 ht hu kt ku hLl hR => ?_) fun w2 g2 hs2 hd2 hx2 => retS_ret ⟨_, _, rfl, ?_⟩)
  · obtain ⟨M', hM', hm2, _⟩ := keyT_union ho kt ku
    have : M' = M := keys_ext hM'.asc hM.asc fun k => by rw [hm2, hm', hL]
    rw [← this]; exact hM'
  · have y2 := h0.gd G2 n5
    refine do_callc Tryz.call145 (by rfl) (sh145_ok _ _ _ ?_)
    unfold sh145
    have d := ext_drew w2
    have r {w' : World} (x : Blk w' bx (setV b o p pt) 174) (i : Nat) (v : Value) (hv : (setV b o p pt)[i]? = some v) : World.cell? w' (((blk bx).add 0).add i) = some v := by rw [add_zero']; exact x.cell (i := i) (add_blk _ _) hv
    refine ⟨⟨fun w' => Blk w' b5 #[.pointer (some (blk bx))] 85 ∧ Blk w' bx (setV b o p pt) 174, ⟨y2.ext d, x2.ext d⟩, _, fun w' e => e.1.cell (i := 0) rfl rfl, _, rfl, _, fun w' e => r e.2 0 _ rfl, _, fun w' e => e.1.cell (i := 0) rfl rfl, _, rfl, _, fun w' e => r e.2 1 _ rfl, ?_⟩⟩
    have z1 := kt.len
    have z2 := ku.len
    refine do_call Tryz.call86 (c_union ho (by decide) (hs2.ext d) (ht.ext d) (hu.ext d) kt.ok.ok.1 ku.ok.ok kt.ok.k ku.ok.k ku.ok.asc (by simp only [BIG]; omega) fun q w3 g3 hs3 h3 => retS_ret ⟨_, _, rfl, ⟨(y2.ext d).gs g3 (hs2.ne y2 (by decide)), (x2.ext d).gs g3 (hs2.ne x2 (by decide))⟩, hR q w3 ((gs_of d).trans g3) hs3 h3⟩)
  · rw [maxA (by omega)]
    exact h M w2 ((gd_of e0).trans g2) hs2 hd2 hx2 hm' (by omega)
theorem c_sdrop (ho : isO o = true) (hs : IsSch c b w) (hd : IsD p D ds w) (hU : InU ds) (hN : topD D ≤ w.heap.size) (hx : SetU c o b p bx K w) (hnb : bx ∉ b :: blksD D) (hNx : topD D ≤ bx)
    (hl : Cs w q (ints keys)) (hn : keys.length = n) (hB : n ≤ 100000) (hI : ∀ k ∈ keys, In k) (hz : K.length ≤ 100000)
    (h : ∀ M w', Gd (bx :: b :: blksD D) w w' → IsSch c b w' → (∃ r, IsD p D r w' ∧ InU r) → SetU c o b p bx M w' → (∀ k, k ∈ M ↔ k ∈ K ∧ k ∉ keys) → M.length ≤ K.length → R (.returned (.tuple #[.int .i64 ((K.length : Int) - M.length), .int .i64 0])) w') :
    Calls Tryz.prog 75 #[.pointer (some (blk bx)), .slice q n cp] w R := by
  refine sh75_ok _ _ _ _ ?_
  unfold sh75
  refine ⟨?_⟩
  have e0 := ext_alloc w (.cells #[.pointer (some (blk bx))] 85)
  have h0 := blk_alloc w #[.pointer (some (blk bx))] 85
  have hslt := hs.lt
  have hDlt := hd.lt
  obtain ⟨b5, hb5⟩ : ∃ b5, b5 = w.heap.size := ⟨_, rfl⟩
  rw [← hb5] at h0 ⊢
  generalize w.alloc (.cells #[.pointer (some (blk bx))] 85) = w1 at *
  have n5 : b5 ∉ b :: blksD D := fun hk => by
    rcases List.mem_cons.1 hk with e | hk
    · omega
    · have := (hDlt _ hk).1; omega
  refine ⟨_, h0.cell (i := 0) rfl rfl, ?_⟩
  obtain ⟨t0, _, _, _, k0⟩ := hx.ex
  obtain ⟨L0, hL0, hLm0, hLl0⟩ := keyT_build (ds := ds) hs.1 ho hI hU
  obtain ⟨M, hM, hm, hlen⟩ := keyT_less ho k0 hL0
  have hm' : ∀ k, k ∈ M ↔ k ∈ K ∧ k ∉ keys := fun k => (hm k).trans (and_congr Iff.rfl (not_congr (hLm0 k)))
  refine do_call Tryz.call144 (c_swith (lessC c o) M ho (hs.ext e0) (hd.ext e0) hU (Nat.le_trans hN e0.size) (hx.ext e0) hnb hNx (hl.ext e0) hn (by omega) hI (by omega) (by omega) (fun t u L kt ku hL => ?_) (fun t u L pt pu w2 R' G2 hs2 x2 ht hu kt ku hLl hR => ?_) fun w2 g2 hs2 hd2 hx2 => retS_ret ⟨_, _, rfl, ?_⟩)
  · obtain ⟨M', hM', hm2, _⟩ := keyT_less ho kt ku
    have : M' = M := keys_ext hM'.asc hM.asc fun k => by rw [hm2, hm', hL]
    rw [← this]; exact hM'
  · have y2 := h0.gd G2 n5
    refine do_callc Tryz.call146 (by rfl) (sh146_ok _ _ _ ?_)
    unfold sh146
    have d := ext_drew w2
    have r {w' : World} (x : Blk w' bx (setV b o p pt) 174) (i : Nat) (v : Value) (hv : (setV b o p pt)[i]? = some v) : World.cell? w' (((blk bx).add 0).add i) = some v := by rw [add_zero']; exact x.cell (i := i) (add_blk _ _) hv
    refine ⟨⟨fun w' => Blk w' b5 #[.pointer (some (blk bx))] 85 ∧ Blk w' bx (setV b o p pt) 174, ⟨y2.ext d, x2.ext d⟩, _, fun w' e => e.1.cell (i := 0) rfl rfl, _, rfl, _, fun w' e => r e.2 0 _ rfl, _, fun w' e => e.1.cell (i := 0) rfl rfl, _, rfl, _, fun w' e => r e.2 1 _ rfl, ?_⟩⟩
    have z1 := kt.len
    have z2 := ku.len
    refine do_call Tryz.call88 (c_less ho (hs2.ext d) (ht.ext d) (hu.ext d) kt.ok ku.ok (by simp only [BIG]; omega) fun q w3 g3 hs3 h3 => retS_ret ⟨_, _, rfl, ⟨(y2.ext d).gs g3 (hs2.ne y2 (by decide)), (x2.ext d).gs g3 (hs2.ne x2 (by decide))⟩, hR q w3 ((gs_of d).trans g3) hs3 h3⟩)
  · rw [maxB' (by omega)]
    exact h M w2 ((gd_of e0).trans g2) hs2 hd2 hx2 hm' (by omega)
theorem c_sat {i : Int} (hx : SetU c o b p bx K w) (hz : K.length ≤ 1000000) (h : ∀ w', Ext w w' → R (.returned (.tuple #[.int .i64 (if 0 ≤ i ∧ i < (K.length : Int) then K.getD i.toNat 0 else 0), .int .i64 (if 0 ≤ i ∧ i < (K.length : Int) then 0 else 320)])) w') : Calls Tryz.prog 77 #[.pointer (some (blk bx)), .int .i64 i] w R := by
  refine sh77_ok _ _ ?_
  unfold sh77
  obtain ⟨t, pt, x1, x2, x3⟩ := hx.ex
  refine ifB_f rfl ⟨_, rfl, _, x1.cell (i := 3) (add_blk _ _) rfl, ?_⟩
  have z := x3.len
  refine do_call Tryz.call148 (c_select x2 (by omega) fun w1 e1 => retS_ret ⟨_, _, _, rfl, ⟨?_⟩⟩)
  have e2 := ext_alloc w1 (.cells #[.int .i64 0, .int .i64 0] 46)
  refine do_st (blk_alloc w1 #[.int .i64 0, .int .i64 0] 46) (i := 0) (add_blk _ _) (by simp) fun w2 h2 g2 => ?_
  have h2 : Blk w2 w1.heap.size #[.int .i64 (selR t i).1, .int .i64 0] 46 := h2
  refine do_st h2 (i := 1) (add_blk _ _) (by simp) fun w3 h3 g3 => ?_
  have h3 : Blk w3 w1.heap.size #[.int .i64 (selR t i).1, .int .i64 (selR t i).2] 46 := h3
  refine ⟨_, h3.cell (i := 0) (add_blk _ _) rfl, ?_⟩
  have E := (e1.trans e2).st (grown_trans g2 g3) e1.size
  have e : (selR t i).1 = if 0 ≤ i ∧ i < (K.length : Int) then K.getD i.toNat 0 else 0 := by
    unfold selR
    rw [z]
    by_cases hi : 0 ≤ i ∧ i < (K.length : Int)
    · rw [if_pos hi, if_pos hi, ← x3.prs]
      rw [List.getD_eq_getElem?_getD, List.getD_eq_getElem?_getD, List.getElem?_map]
      cases t.pairs[i.toNat]? <;> rfl
    · rw [if_neg hi, if_neg hi]
  have := h _ E
  rw [← e] at this
  unfold selE
  rw [z]
  exact this
end
theorem c_alive40 {w : World} {R : Ending → World → Prop} (h : ∀ w', Ext w w' → R (.returned (.bool true)) w') : Calls Tryz.prog 62 #[] w R := by
  refine sh62_ok ?_
  unfold sh62
  refine do_call Tryz.call15 (c_l22of (fun h0 => by cases h0) fun hsc b w1 e1 hbw hs1 => retS_ret ⟨_, _, rfl, ifB_f rfl ⟨?_⟩⟩)
  have hb : w.heap.size ≤ b := by omega
  have hS : ∀ k ∈ (b :: blksD none), w.heap.size ≤ k := fun k hk => by simp [blksD] at hk; omega
  have nU : InU [] := fun x hx => by cases hx
  have i1 : ∀ k ∈ [(1 : Int), 3, 2, 3], In k := fun k hk => by
    simp at hk
    rcases hk with rfl | rfl | rfl | rfl <;> exact ⟨by decide, by decide⟩
  have i2 : ∀ k ∈ [(2 : Int), 5, 5], In k := fun k hk => by
    simp at hk
    rcases hk with rfl | rfl <;> exact ⟨by decide, by decide⟩
  have i3 : ∀ k ∈ [(1 : Int), 7], In k := fun k hk => by
    simp at hk
    rcases hk with rfl | rfl <;> exact ⟨by decide, by decide⟩
  have e2 := ext_alloc w1 (.cells #[.int .i64 1, .int .i64 3, .int .i64 2, .int .i64 3] 2)
  have c2 : Cs (w1.alloc (.cells #[.int .i64 1, .int .i64 3, .int .i64 2, .int .i64 3] 2)) (some (blk w1.heap.size)) (ints [1, 3, 2, 3]) := cs_alloc w1 _ _
  generalize w1.alloc (.cells #[.int .i64 1, .int .i64 3, .int .i64 2, .int .i64 3] 2) = w2 at *
  refine do_call Tryz.call63 (c_setnew (by decide) (hs1.ext e2) (isD_nil _) nU (Nat.zero_le _) c2 rfl (by omega) i1 fun bx K w3 g3 hs3 _ hbx hx hm hlen => retS_ret ⟨_, _, rfl, ?_⟩)
  have E3 := Ext.gd (e1.trans e2) g3 hS
  have hK : K = [3, 2, 1] := keys_ext hx.asc (by decide) fun k => by rw [hm]; simp; omega
  subst hK
  intro K13
  refine ifB_f rfl (ifB_f rfl ?_)
  refine do_call Tryz.call76 (c_skeys hx (by decide) fun q4 n4 c4 w4 e4 o4 => retS_ret ⟨_, _, _, rfl, ⟨?_⟩⟩)
  have e5 := ext_alloc w4 (.cells #[.int .i64 3, .int .i64 2, .int .i64 1] 2)
  have c5 : Cs (w4.alloc (.cells #[.int .i64 3, .int .i64 2, .int .i64 1] 2)) (some (blk w4.heap.size)) (ints [3, 2, 1]) := cs_alloc w4 _ _
  have n4' : n4 = 3 := (ownK_len o4).symm
  refine do_call Tryz.call61 (c_samekeys ((Cs.of_row o4).ext e5) (ownK_len o4) c5 rfl (by omega) fun w6 e6 => retS_ret ⟨_, rfl, ?_⟩)
  have e46 := (e4.trans e5).trans e6
  rw [decide_eq_true rfl]
  simp -zeta -zetaHave only [K13]
  refine ifB_f rfl ⟨?_⟩
  have E6 := E3.trans e46
  have hbx' : bx ∉ b :: blksD none := by
    obtain ⟨_, _, x1, _⟩ := hx.ex
    have := hs3.ne x1 (by decide)
    simp [blksD, this]
  have hS' : ∀ k ∈ (bx :: b :: blksD none), w.heap.size ≤ k := fun k hk => by
    rcases List.mem_cons.1 hk with rfl | hk
    · have := (e1.trans e2).size; omega
    · exact hS k hk
  have e7 := ext_alloc w6 (.cells #[.int .i64 2, .int .i64 5, .int .i64 5] 2)
  have c7 : Cs (w6.alloc (.cells #[.int .i64 2, .int .i64 5, .int .i64 5] 2)) (some (blk w6.heap.size)) (ints [2, 5, 5]) := cs_alloc w6 _ _
  generalize w6.alloc (.cells #[.int .i64 2, .int .i64 5, .int .i64 5] 2) = w7 at *
  have e37 := e46.trans e7
  refine do_call Tryz.call74 (c_sadd (by decide) (hs3.ext e37) (isD_nil _) nU (Nat.zero_le _) (hx.ext e37) hbx' (Nat.zero_le _) c7 rfl (by omega) i2 (by decide) fun M w8 g8 hs8 _ hx8 hm8 _ => retS_ret ⟨_, _, rfl, ⟨?_⟩⟩)
  have E8 := Ext.gd (E6.trans e7) g8 hS'
  have hM : M = [5, 3, 2, 1] := keys_ext hx8.asc (by decide) fun k => by rw [hm8]; simp; omega
  subst hM
  have e9 := ext_alloc w8 (.cells #[.int .i64 1, .int .i64 7] 2)
  have c9 : Cs (w8.alloc (.cells #[.int .i64 1, .int .i64 7] 2)) (some (blk w8.heap.size)) (ints [1, 7]) := cs_alloc w8 _ _
  generalize w8.alloc (.cells #[.int .i64 1, .int .i64 7] 2) = w9 at *
  refine do_call Tryz.call75 (c_sdrop (by decide) (hs8.ext e9) (isD_nil _) nU (Nat.zero_le _) (hx8.ext e9) hbx' (Nat.zero_le _) c9 rfl (by omega) i3 (by decide) fun M w10 g10 hs10 _ hx10 hm10 _ => retS_ret ⟨_, _, rfl, ?_⟩)
  have E10 := Ext.gd (E8.trans e9) g10 hS'
  have hM : M = [5, 3, 2] := keys_ext hx10.asc (by decide) fun k => by rw [hm10]; simp; omega
  subst hM
  refine do_call Tryz.call77 (c_sat hx10 (by decide) fun w11 e11 => retS_ret ⟨_, _, rfl, ?_⟩)
  intro K32
  refine ifB_t rfl (ifB_t rfl (ifB_t rfl (ifB_t rfl (ifB_t rfl (ifB_t rfl ?_)))))
  refine do_call Tryz.call72 (c_slen (hx10.ext e11) fun w12 e12 => retS_ret ⟨_, rfl, h _ ((E10.trans e11).trans e12)⟩)
end Go.Proofs.YtlddfgfmkapoiaaGreat

namespace Go.Proofs.YtlddfgfmkapoiaaGreat
open Go Go.Sh
set_option maxRecDepth 100000 in
/-- joinery/joinerylaw40.SetLaws -/
def sh11 (code_1 : Int) (o_2 : Int) (l_p3 : Option Addr) (l_n4 : Nat) (l_c5 : Nat) (m_p6 : Option Addr) (m_n7 : Nat) (m_c8 : Nat) (n_p9 : Option Addr) (n_n10 : Nat) (n_c11 : Nat) (R : Ending → World → Prop) (w : World) : Prop :=
 doCall Tryz.prog (.func (.func 15) #[] #[]) #[.int .u8 code_1] w (retS (fun v14 w15 => ∃ (x12 : Option Addr), ∃ (x13 : Bool), v14 = (.tuple #[.pointer x12, .bool x13] : Value) ∧ (
 let K18 : Bool → World → Prop := fun (x16 : Bool) (w17 : World) => 
 ifB x16 (
 let K21 : Bool → World → Prop := fun (x19 : Bool) (w20 : World) => 
 R (.returned (.bool x19)) w20
 doCall Tryz.prog (.func (.func 18) #[] #[]) #[.int .u8 code_1] w17 (retS (fun v23 w24 => ∃ (x22 : Bool), v23 = (.bool x22 : Value) ∧ (
 ifB (x13 == x22) (
 doCall Tryz.prog (.func (.func 62) #[] #[]) #[] w24 (retS (fun v26 w27 => ∃ (x25 : Bool), v26 = (.bool x25 : Value) ∧ (
 K21 x25 w27)) (fun ch w => Kfn R ch [] w))) (
 R (.returned (.bool false)) w24))) (fun ch w => Kfn R ch [] w))) (
 doCall Tryz.prog (.func (.func 63) #[] #[]) #[.pointer x12, .int .u8 o_2, .pointer none, .slice l_p3 l_n4 l_c5] w17 (retS (fun v30 w31 => ∃ (x28 : Option Addr), ∃ (x29 : Int), v30 = (.tuple #[.pointer x28, .int .i64 x29] : Value) ∧ (
 doCall Tryz.prog (.func (.func 63) #[] #[]) #[.pointer x12, .int .u8 o_2, .pointer none, .slice m_p6 m_n7 m_c8] w31 (retS (fun v34 w35 => ∃ (x32 : Option Addr), ∃ (x33 : Int), v34 = (.tuple #[.pointer x32, .int .i64 x33] : Value) ∧ (
 doCall Tryz.prog (.func (.func 63) #[] #[]) #[.pointer x12, .int .u8 o_2, .pointer none, .slice n_p9 n_n10 n_c11] w35 (retS (fun v38 w39 => ∃ (x36 : Option Addr), ∃ (x37 : Int), v38 = (.tuple #[.pointer x36, .int .i64 x37] : Value) ∧ (
 doCall Tryz.prog (.func (.func 64) #[] #[]) #[.pointer x28, .pointer x32] w39 (retS (fun v42 w43 => ∃ (x40 : Option Addr), ∃ (x41 : Int), v42 = (.tuple #[.pointer x40, .int .i64 x41] : Value) ∧ (
 doCall Tryz.prog (.func (.func 64) #[] #[]) #[.pointer x32, .pointer x28] w43 (retS (fun v46 w47 => ∃ (x44 : Option Addr), ∃ (x45 : Int), v46 = (.tuple #[.pointer x44, .int .i64 x45] : Value) ∧ (
 doCall Tryz.prog (.func (.func 65) #[] #[]) #[.pointer x28, .pointer x32] w47 (retS (fun v50 w51 => ∃ (x48 : Option Addr), ∃ (x49 : Int), v50 = (.tuple #[.pointer x48, .int .i64 x49] : Value) ∧ (
 doCall Tryz.prog (.func (.func 65) #[] #[]) #[.pointer x32, .pointer x28] w51 (retS (fun v54 w55 => ∃ (x52 : Option Addr), ∃ (x53 : Int), v54 = (.tuple #[.pointer x52, .int .i64 x53] : Value) ∧ (
 let K58 : Bool → World → Prop := fun (x56 : Bool) (w57 : World) => 
 ifB x56 (
 R (.returned (.bool false)) w57) (
 doCall Tryz.prog (.func (.func 64) #[] #[]) #[.pointer x32, .pointer x36] w57 (retS (fun v61 w62 => ∃ (x59 : Option Addr), ∃ (x60 : Int), v61 = (.tuple #[.pointer x59, .int .i64 x60] : Value) ∧ (
 doCall Tryz.prog (.func (.func 65) #[] #[]) #[.pointer x28, .pointer x59] w62 (retS (fun v65 w66 => ∃ (x63 : Option Addr), ∃ (x64 : Int), v65 = (.tuple #[.pointer x63, .int .i64 x64] : Value) ∧ (
 doCall Tryz.prog (.func (.func 65) #[] #[]) #[.pointer x28, .pointer x36] w66 (retS (fun v69 w70 => ∃ (x67 : Option Addr), ∃ (x68 : Int), v69 = (.tuple #[.pointer x67, .int .i64 x68] : Value) ∧ (
 doCall Tryz.prog (.func (.func 64) #[] #[]) #[.pointer x48, .pointer x67] w70 (retS (fun v73 w74 => ∃ (x71 : Option Addr), ∃ (x72 : Int), v73 = (.tuple #[.pointer x71, .int .i64 x72] : Value) ∧ (
 doCall Tryz.prog (.func (.func 66) #[] #[]) #[.pointer x28, .pointer x32] w74 (retS (fun v77 w78 => ∃ (x75 : Option Addr), ∃ (x76 : Int), v77 = (.tuple #[.pointer x75, .int .i64 x76] : Value) ∧ (
 doCall Tryz.prog (.func (.func 64) #[] #[]) #[.pointer x75, .pointer x48] w78 (retS (fun v81 w82 => ∃ (x79 : Option Addr), ∃ (x80 : Int), v81 = (.tuple #[.pointer x79, .int .i64 x80] : Value) ∧ (
 doCall Tryz.prog (.func (.func 66) #[] #[]) #[.pointer x28, .pointer x59] w82 (retS (fun v85 w86 => ∃ (x83 : Option Addr), ∃ (x84 : Int), v85 = (.tuple #[.pointer x83, .int .i64 x84] : Value) ∧ (
 doCall Tryz.prog (.func (.func 66) #[] #[]) #[.pointer x75, .pointer x36] w86 (retS (fun v89 w90 => ∃ (x87 : Option Addr), ∃ (x88 : Int), v89 = (.tuple #[.pointer x87, .int .i64 x88] : Value) ∧ (
 doCall Tryz.prog (.func (.func 67) #[] #[]) #[.pointer x28, .pointer x32] w90 (retS (fun v93 w94 => ∃ (x91 : Bool), ∃ (x92 : Int), v93 = (.tuple #[.bool x91, .int .i64 x92] : Value) ∧ (
 let K97 : Bool → World → Prop := fun (x95 : Bool) (w96 : World) => 
 R (.returned (.bool x95)) w96
 doCall Tryz.prog (.func (.func 71) #[] #[]) #[.pointer x63, .pointer x71] w94 (retS (fun v99 w100 => ∃ (x98 : Bool), v99 = (.bool x98 : Value) ∧ (
 ifB x98 (
 doCall Tryz.prog (.func (.func 71) #[] #[]) #[.pointer x79, .pointer x28] w100 (retS (fun v102 w103 => ∃ (x101 : Bool), v102 = (.bool x101 : Value) ∧ (
 ifB x101 (
 doCall Tryz.prog (.func (.func 71) #[] #[]) #[.pointer x83, .pointer x87] w103 (retS (fun v105 w106 => ∃ (x104 : Bool), v105 = (.bool x104 : Value) ∧ (
 ifB x104 (
 ifB ((x92 : Int) == 0) (
 doCall Tryz.prog (.func (.func 71) #[] #[]) #[.pointer x40, .pointer x32] w106 (retS (fun v108 w109 => ∃ (x107 : Bool), v108 = (.bool x107 : Value) ∧ (
 ifB (x91 == x107) (
 doCall Tryz.prog (.func (.func 62) #[] #[]) #[] w109 (retS (fun v111 w112 => ∃ (x110 : Bool), v111 = (.bool x110 : Value) ∧ (
 K97 x110 w112)) (fun ch w => Kfn R ch [] w))) (
 R (.returned (.bool false)) w109))) (fun ch w => Kfn R ch [] w))) (
 R (.returned (.bool false)) w106)) (
 R (.returned (.bool false)) w106))) (fun ch w => Kfn R ch [] w))) (
 R (.returned (.bool false)) w103))) (fun ch w => Kfn R ch [] w))) (
 R (.returned (.bool false)) w100))) (fun ch w => Kfn R ch [] w)))) (fun ch w => Kfn R ch [] w)))) (fun ch w => Kfn R ch [] w)))) (fun ch w => Kfn R ch [] w)))) (fun ch w => Kfn R ch [] w)))) (fun ch w => Kfn R ch [] w)))) (fun ch w => Kfn R ch [] w)))) (fun ch w => Kfn R ch [] w)))) (fun ch w => Kfn R ch [] w)))) (fun ch w => Kfn R ch [] w)))
 doCall Tryz.prog (.func (.func 71) #[] #[]) #[.pointer x40, .pointer x44] w55 (retS (fun v114 w115 => ∃ (x113 : Bool), v114 = (.bool x113 : Value) ∧ (
 ifB (!x113) (
 R (.returned (.bool false)) w115) (
 doCall Tryz.prog (.func (.func 71) #[] #[]) #[.pointer x48, .pointer x52] w115 (retS (fun v117 w118 => ∃ (x116 : Bool), v117 = (.bool x116 : Value) ∧ (
 K58 (!x116) w118)) (fun ch w => Kfn R ch [] w))))) (fun ch w => Kfn R ch [] w)))) (fun ch w => Kfn R ch [] w)))) (fun ch w => Kfn R ch [] w)))) (fun ch w => Kfn R ch [] w)))) (fun ch w => Kfn R ch [] w)))) (fun ch w => Kfn R ch [] w)))) (fun ch w => Kfn R ch [] w)))) (fun ch w => Kfn R ch [] w)))
 ifB (decide ((((l_n4 : Nat) : Int) : Int) > 60)) (
 K18 true w15) (
 ifB (decide ((((m_n7 : Nat) : Int) : Int) > 60)) (
 K18 true w15) (
 ifB (decide ((((n_n10 : Nat) : Int) : Int) > 60)) (
 K18 true w15) (
 ifB (!x13) (
 K18 true w15) (
 doCall Tryz.prog (.func (.func 16) #[] #[]) #[.int .u8 o_2] w15 (retS (fun v120 w121 => ∃ (x119 : Bool), v120 = (.bool x119 : Value) ∧ (
 K18 (!x119) w121)) (fun ch w => Kfn R ch [] w)))))))) (fun ch w => Kfn R ch [] w))
set_option maxRecDepth 100000 in
theorem sh11_ok (code_1 : Int) (o_2 : Int) (l_p3 : Option Addr) (l_n4 : Nat) (l_c5 : Nat) (m_p6 : Option Addr) (m_n7 : Nat) (m_c8 : Nat) (n_p9 : Option Addr) (n_n10 : Nat) (n_c11 : Nat) {R : Ending → World → Prop} {w : World} : sh11 code_1 o_2 l_p3 l_n4 l_c5 m_p6 m_n7 m_c8 n_p9 n_n10 n_c11 R w → Calls Tryz.prog 11 #[.int .u8 code_1, .int .u8 o_2, .slice l_p3 l_n4 l_c5, .slice m_p6 m_n7 m_c8, .slice n_p9 n_n10 n_c11] w R :=
  calls_of_eq (ann := fun _ => []) (fn := Tryz.f11) (c := bodyOf Tryz.f11) (args := #[.int .u8 code_1, .int .u8 o_2, .slice l_p3 l_n4 l_c5, .slice m_p6 m_n7 m_c8, .slice n_p9 n_n10 n_c11]) 400 follows_mixed Tryz.func11 (by kernel_rfl) (by kernel_rfl)
end Go.Proofs.YtlddfgfmkapoiaaGreat

namespace Go.Proofs.YtlddfgfmkapoiaaGreat
open Go Go.Sh Go.RowKit

/-- sets that lie in memory, of one scheme -/
def Ss (c o : Int) (b : Nat) (l : List (Nat × List Int)) (w : World) : Prop := ∀ s ∈ l, SetU c o b none s.1 s.2 w
theorem Ss.get {c o : Int} {b : Nat} {l : List (Nat × List Int)} {w : World} {bx : Nat} {K : List Int} (h : Ss c o b l w) (hm : (bx, K) ∈ l) : SetU c o b none bx K w := h _ hm
theorem Ss.gs {c o : Int} {b : Nat} {l : List (Nat × List Int)} {w w' : World} (h : Ss c o b l w) (hs : IsSch c b w) (g : Gs b w w') : Ss c o b l w' := fun s hm => (h s hm).gs hs g
theorem Ss.ext {c o : Int} {b : Nat} {l : List (Nat × List Int)} {w w' : World} (h : Ss c o b l w) (e : Ext w w') : Ss c o b l w' := fun s hm => (h s hm).ext e
theorem Ss.cons {c o : Int} {b : Nat} {l : List (Nat × List Int)} {w : World} {bx : Nat} {K : List Int} (h : Ss c o b l w) (hx : SetU c o b none bx K w) : Ss c o b ((bx, K) :: l) w := fun s hm => by
  rcases List.mem_cons.1 hm with rfl | hm
  · exact hx
  · exact h s hm
theorem Ss.nil {c o : Int} {b : Nat} {w : World} : Ss c o b [] w := fun s hm => by cases hm
set_option maxRecDepth 20000 in
set_option maxHeartbeats 1600000 in
theorem c_setLaws {code o : Int} {l m n : List Int} {q1 q2 q3 : Option Addr} {n1 c1 n2 c2 n3 c3 : Nat} {w : World} {R : Ending → World → Prop} (hl : Cs w q1 (ints l)) (hn1 : l.length = n1) (iL : ∀ k ∈ l, In k) (hm : Cs w q2 (ints m)) (hn2 : m.length = n2) (iM : ∀ k ∈ m, In k) (hnn : Cs w q3 (ints n)) (hn3 : n.length = n3) (iN : ∀ k ∈ n, In k)
    (h : ∀ w', Ext w w' → R (.returned (.bool true)) w') : Calls Tryz.prog 11 #[.int .u8 code, .int .u8 o, .slice q1 n1 c1, .slice q2 n2 c2, .slice q3 n3 c3] w R := by
  refine sh11_ok _ _ _ _ _ _ _ _ _ _ _ ?_
  unfold sh11
  have hidle : ∀ w2, Ext w w2 → doCall Tryz.prog (.func (.func 18) #[] #[]) #[.int .u8 code] w2 (retS (fun v23 w24 => ∃ (x22 : Bool), v23 = (.bool x22 : Value) ∧ (
 ifB (isS code == x22) (
 doCall Tryz.prog (.func (.func 62) #[] #[]) #[] w24 (retS (fun v26 w27 => ∃ (x25 : Bool), v26 = (.bool x25 : Value) ∧ (
 R (.returned (.bool x25)) w27)) (fun ch w => Kfn R ch [] w))) (
 R (.returned (.bool false)) w24))) (fun ch w => Kfn R ch [] w)) := fun w2 e2 => by
    refine do_call Tryz.call18 (c_r22is (retS_ret ⟨_, rfl, ifB_t (by simp) ?_⟩))
    exact do_call Tryz.call62 (c_alive40 fun w3 e3 => retS_ret ⟨_, rfl, h _ (e2.trans e3)⟩)
  refine do_call Tryz.call15 (c_l22of (fun hc => retS_ret ⟨_, _, rfl, ?_⟩) fun hsc b w1 e1 hbw hs1 => retS_ret ⟨_, _, rfl, ?_⟩)
  · intro K18
    have hK : K18 true w := by
      simp -zeta -zetaHave only [K18]
      have := hidle w (ext_refl w)
      rw [hc] at this
      exact ifB_t rfl this
    refine ifB_intro (fun _ => hK) fun _ => ifB_intro (fun _ => hK) fun _ => ifB_intro (fun _ => hK) fun _ => ifB_t rfl hK
  intro K18
  have hK : ∀ w2, Ext w w2 → K18 true w2 := fun w2 e2 => by
    simp -zeta -zetaHave only [K18]
    have := hidle w2 e2
    rw [hsc] at this
    exact ifB_t rfl this
  refine ifB_intro (fun _ => hK _ e1) fun z1 => ifB_intro (fun _ => hK _ e1) fun z2 => ifB_intro (fun _ => hK _ e1) fun z3 => ifB_f rfl ?_
  have z1 : n1 ≤ 60 := by have := of_decide_eq_false z1; omega
  have z2 : n2 ≤ 60 := by have := of_decide_eq_false z2; omega
  have z3 : n3 ≤ 60 := by have := of_decide_eq_false z3; omega
  refine do_call Tryz.call16 (c_ris (retS_ret ⟨_, rfl, ?_⟩))
  cases ho : isO o with
  | false => exact hK _ e1
  | true =>
  simp -zeta -zetaHave only [K18]
  clear hK
  refine ifB_f rfl ?_
  have hb : w.heap.size ≤ b := by omega
  have nU : InU [] := fun x hx => by cases hx
  -- three sets
  refine do_call Tryz.call63 (c_setnew ho hs1 (isD_nil _) nU (Nat.zero_le _) (hl.ext e1) hn1 (by omega) iL fun bx X w2 g2 hs2 _ _ hx mx lx => retS_ret ⟨_, _, rfl, ?_⟩)
  have E2 := Ext.gs e1 (gs_none g2) hb
  have S2 : Ss code o b [(bx, X)] w2 := Ss.nil.cons hx
  refine do_call Tryz.call63 (c_setnew ho hs2 (isD_nil _) nU (Nat.zero_le _) (hm.ext E2) hn2 (by omega) iM fun by_ Y w3 g3 hs3 _ _ hy my ly => retS_ret ⟨_, _, rfl, ?_⟩)
  have E3 := Ext.gs E2 (gs_none g3) hb
  have S3 := (S2.gs hs2 (gs_none g3)).cons hy
  refine do_call Tryz.call63 (c_setnew ho hs3 (isD_nil _) nU (Nat.zero_le _) (hnn.ext E3) hn3 (by omega) iN fun bz Z w4 g4 hs4 _ _ hz mz lz => retS_ret ⟨_, _, rfl, ?_⟩)
  have E4 := Ext.gs E3 (gs_none g4) hb
  have S4 := (S3.gs hs3 (gs_none g4)).cons hz
  -- two by two
  refine do_call Tryz.call64 (c_sunion ho hs4 hs4 (S4.get (K := X) (by simp)) (S4.get (K := Y) (by simp)) (by omega) fun bxy XY w5 g5 hs5 _ h5 m5 l5 => retS_ret ⟨_, _, rfl, ?_⟩)
  have E5 := Ext.gs E4 g5 hb
  have S5 := (S4.gs hs4 g5).cons h5
  refine do_call Tryz.call64 (c_sunion ho hs5 hs5 (S5.get (K := Y) (by simp)) (S5.get (K := X) (by simp)) (by omega) fun byx YX w6 g6 hs6 _ h6 m6 l6 => retS_ret ⟨_, _, rfl, ?_⟩)
  have E6 := Ext.gs E5 g6 hb
  have S6 := (S5.gs hs5 g6).cons h6
  refine do_call Tryz.call65 (c_smeet ho hs6 hs6 (S6.get (K := X) (by simp)) (S6.get (K := Y) (by simp)) (by omega) fun ba A w7 g7 hs7 _ h7 m7 l7 => retS_ret ⟨_, _, rfl, ?_⟩)
  have E7 := Ext.gs E6 g7 hb
  have S7 := (S6.gs hs6 g7).cons h7
  refine do_call Tryz.call65 (c_smeet ho hs7 hs7 (S7.get (K := Y) (by simp)) (S7.get (K := X) (by simp)) (by omega) fun bb B w8 g8 hs8 _ h8 m8 l8 => retS_ret ⟨_, _, rfl, ?_⟩)
  have E8 := Ext.gs E7 g8 hb
  have S8 := (S7.gs hs7 g8).cons h8
  intro K58
  have q1 : XY = YX := keys_ext h5.asc h6.asc fun k => by rw [m5, m6]; exact or_comm
  have q2 : A = B := keys_ext h7.asc h8.asc fun k => by rw [m7, m8]; exact and_comm
  refine do_call Tryz.call71 (c_ssame (S8.get (K := XY) (by simp)) (S8.get (K := YX) (by simp)) (by omega) fun w9 e9 => retS_ret ⟨_, rfl, ?_⟩)
  rw [decide_eq_true q1]
  refine ifB_f rfl ?_
  refine do_call Tryz.call71 (c_ssame ((S8.get (K := A) (by simp)).ext e9) ((S8.get (K := B) (by simp)).ext e9) (by omega) fun w10 e10 => retS_ret ⟨_, rfl, ?_⟩)
  rw [decide_eq_true q2]
  simp -zeta -zetaHave only [K58]
  refine ifB_f rfl ?_
  have e810 := e9.trans e10
  have E10 := E8.trans e810
  have S10 := S8.ext e810
  have hs10 := hs8.ext e810
  refine do_call Tryz.call64 (c_sunion ho hs10 hs10 (S10.get (K := Y) (by simp)) (S10.get (K := Z) (by simp)) (by omega) fun byz YZ w11 g11 hs11 _ h11 m11 l11 => retS_ret ⟨_, _, rfl, ?_⟩)
  have E11 := Ext.gs E10 g11 hb
  have S11 := (S10.gs hs10 g11).cons h11
  refine do_call Tryz.call65 (c_smeet ho hs11 hs11 (S11.get (K := X) (by simp)) (S11.get (K := YZ) (by simp)) (by omega) fun bc C w12 g12 hs12 _ h12 m12 l12 => retS_ret ⟨_, _, rfl, ?_⟩)
  have E12 := Ext.gs E11 g12 hb
  have S12 := (S11.gs hs11 g12).cons h12
  refine do_call Tryz.call65 (c_smeet ho hs12 hs12 (S12.get (K := X) (by simp)) (S12.get (K := Z) (by simp)) (by omega) fun bd D w13 g13 hs13 _ h13 m13 l13 => retS_ret ⟨_, _, rfl, ?_⟩)
  have E13 := Ext.gs E12 g13 hb
  have S13 := (S12.gs hs12 g13).cons h13
  refine do_call Tryz.call64 (c_sunion ho hs13 hs13 (S13.get (K := A) (by simp)) (S13.get (K := D) (by simp)) (by omega) fun be EE w14 g14 hs14 _ h14 m14 l14 => retS_ret ⟨_, _, rfl, ?_⟩)
  have E14 := Ext.gs E13 g14 hb
  have S14 := (S13.gs hs13 g14).cons h14
  refine do_call Tryz.call66 (c_sless ho hs14 hs14 (S14.get (K := X) (by simp)) (S14.get (K := Y) (by simp)) (by omega) fun bf F w15 g15 hs15 _ h15 m15 l15 => retS_ret ⟨_, _, rfl, ?_⟩)
  have E15 := Ext.gs E14 g15 hb
  have S15 := (S14.gs hs14 g15).cons h15
  refine do_call Tryz.call64 (c_sunion ho hs15 hs15 (S15.get (K := F) (by simp)) (S15.get (K := A) (by simp)) (by omega) fun bg GG w16 g16 hs16 _ h16 m16 l16 => retS_ret ⟨_, _, rfl, ?_⟩)
  have E16 := Ext.gs E15 g16 hb
  have S16 := (S15.gs hs15 g16).cons h16
  refine do_call Tryz.call66 (c_sless ho hs16 hs16 (S16.get (K := X) (by simp)) (S16.get (K := YZ) (by simp)) (by omega) fun bh H w17 g17 hs17 _ h17 m17 l17 => retS_ret ⟨_, _, rfl, ?_⟩)
  have E17 := Ext.gs E16 g17 hb
  have S17 := (S16.gs hs16 g17).cons h17
  refine do_call Tryz.call66 (c_sless ho hs17 hs17 (S17.get (K := F) (by simp)) (S17.get (K := Z) (by simp)) (by omega) fun bi I w18 g18 hs18 _ h18 m18 l18 => retS_ret ⟨_, _, rfl, ?_⟩)
  have E18 := Ext.gs E17 g18 hb
  have S18 := (S17.gs hs17 g18).cons h18
  refine do_call Tryz.call67 (c_swithin ho hs18 hs18 (S18.get (K := X) (by simp)) (S18.get (K := Y) (by simp)) (by omega) fun r w19 g19 hs19 h19 => retS_ret ⟨_, _, rfl, ?_⟩)
  have E19 := Ext.gs E18 g19 hb
  have S19 := S18.gs hs18 g19
  intro K97
  have q3 : C = EE := keys_ext h12.asc h14.asc fun k => by rw [m12, m14, m11, m7, m13]; exact and_or_left
  have q4 : GG = X := keys_ext h16.asc hx.asc fun k => by
    rw [m16, m15, m7]
    by_cases hk : k ∈ Y <;> simp [hk]
  have q5 : H = I := keys_ext h17.asc h18.asc fun k => by
    rw [m17, m18, m15, m11]
    constructor
    · rintro ⟨a, b⟩; exact ⟨⟨a, fun c => b (.inl c)⟩, fun c => b (.inr c)⟩
    · rintro ⟨⟨a, b⟩, c⟩; exact ⟨a, fun d => d.elim b c⟩
  have q6 : r = decide (XY = Y) := by
    rw [Bool.eq_iff_iff, h19, decide_eq_true_iff]
    constructor
    · intro a
      exact keys_ext h5.asc hy.asc fun k => by
        rw [m5]
        exact ⟨fun d => d.elim (a k) id, .inr⟩
    · intro a k hk
      rw [← a]; exact (m5 k).2 (.inl hk)
  refine do_call Tryz.call71 (c_ssame (S19.get (K := C) (by simp)) (S19.get (K := EE) (by simp)) (by omega) fun w20 e20 => retS_ret ⟨_, rfl, ?_⟩)
  rw [decide_eq_true q3]
  refine ifB_t rfl ?_
  refine do_call Tryz.call71 (c_ssame ((S19.get (K := GG) (by simp)).ext e20) ((S19.get (K := X) (by simp)).ext e20) (by omega) fun w21 e21 => retS_ret ⟨_, rfl, ?_⟩)
  rw [decide_eq_true q4]
  have e1921 := e20.trans e21
  refine ifB_t rfl ?_
  refine do_call Tryz.call71 (c_ssame ((S19.get (K := H) (by simp)).ext e1921) ((S19.get (K := I) (by simp)).ext e1921) (by omega) fun w22 e22 => retS_ret ⟨_, rfl, ?_⟩)
  rw [decide_eq_true q5]
  have e1922 := e1921.trans e22
  refine ifB_t rfl (ifB_t rfl ?_)
  refine do_call Tryz.call71 (c_ssame ((S19.get (K := XY) (by simp)).ext e1922) ((S19.get (K := Y) (by simp)).ext e1922) (by omega) fun w23 e23 => retS_ret ⟨_, rfl, ?_⟩)
  refine ifB_t (by rw [q6]; simp) ?_
  exact do_call Tryz.call62 (c_alive40 fun w24 e24 => retS_ret ⟨_, rfl, h _ (((E19.trans e1922).trans e23).trans e24)⟩)
end Go.Proofs.YtlddfgfmkapoiaaGreat

