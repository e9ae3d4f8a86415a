/-
  What 'some' of rowset does.
-/
import Derived.Test.YtinkkhcffoikmaaRowset
namespace Go.Proofs.Ytinkkhcffoikmaa
open Go Go.Sh Go.RowKit

def valK (p : Int) (e : Ke) : Int := if e.inA && e.inB then comb p e.a e.b else IntKind.wrap .i64 (e.a + e.b)
def outL (p : Int) (want : Ke → Bool) (l : List Ke) : List Pr := (l.filter want).map fun e => (e.key, valK p e)
def someL (o p : Int) (want : Ke → Bool) (a b : List Pr) : List Pr := outL p want (mg o a b)
theorem outL_len (p : Int) (want : Ke → Bool) (l : List Ke) : (outL p want l).length ≤ l.length := by
  unfold outL; rw [List.length_map]; exact List.length_filter_le _ _
theorem mg_len (o : Int) (a b : List Pr) : (mg o a b).length ≤ a.length + b.length := by
  induction a, b using mg.induct o with
  | case1 => simp [mg]
  | case2 y b ih => rw [mg]; simp at ih ⊢; omega
  | case3 x a ih => rw [mg]; simp at ih ⊢; omega
  | case4 x a y b h ih => rw [mg, if_pos h]; simp at ih ⊢; omega
  | case5 x a y b h h2 h3 ih => rw [mg, if_neg h, if_pos h2, if_pos h3]; simp at ih ⊢; omega
  | case6 x a y b h h2 h3 ih => rw [mg, if_neg h, if_pos h2, if_neg h3]; simp at ih ⊢; omega
  | case7 x a y b h h2 ih => rw [mg, if_neg h, if_neg h2]; simp at ih ⊢; omega
theorem mg_all {Q : Ke → Prop} (o : Int) (a b : List Pr) (hA : ∀ x ∈ a, Q ⟨x.1, x.2, 0, true, false⟩) (hB : ∀ y ∈ b, Q ⟨y.1, 0, y.2, false, true⟩) (hAB : ∀ x ∈ a, ∀ y ∈ b, x.1 = y.1 → Q ⟨x.1, x.2, y.2, true, true⟩) : ∀ e ∈ mg o a b, Q e := by
  induction a, b using mg.induct o with
  | case1 => simp [mg]
  | case2 y b ih =>
    rw [mg]; intro e he; rcases List.mem_cons.1 he with h | h
    · rw [h]; exact hB y (by simp)
    · exact ih hA (fun x hx => hB x (by simp [hx])) (fun x hx => by cases hx) e h
  | case3 x a ih =>
    rw [mg]; intro e he; rcases List.mem_cons.1 he with h | h
    · rw [h]; exact hA x (by simp)
    · exact ih (fun x hx => hA x (by simp [hx])) hB (fun x _ y hy => by cases hy) e h
  | case4 x a y b h ih =>
    rw [mg, if_pos h]; intro e he; rcases List.mem_cons.1 he with h | h
    · rw [h]; exact hA x (by simp)
    · exact ih (fun x hx => hA x (by simp [hx])) hB (fun x hx => hAB x (by simp [hx])) e h
  | case5 x a y b h h2 h3 ih =>
    rw [mg, if_neg h, if_pos h2, if_pos h3]; intro e he; rcases List.mem_cons.1 he with h | h
    · rw [h]; exact hAB x (by simp) y (by simp) h3
    · exact ih (fun x hx => hA x (by simp [hx])) (fun x hx => hB x (by simp [hx])) (fun x hx y hy => hAB x (by simp [hx]) y (by simp [hy])) e h
  | case6 x a y b h h2 h3 ih =>
    rw [mg, if_neg h, if_pos h2, if_neg h3]; intro e he; rcases List.mem_cons.1 he with h | h
    · rw [h]; exact hA x (by simp)
    · exact ih (fun x hx => hA x (by simp [hx])) hB (fun x hx => hAB x (by simp [hx])) e h
  | case7 x a y b h h2 ih =>
    rw [mg, if_neg h, if_neg h2]; intro e he; rcases List.mem_cons.1 he with h | h
    · rw [h]; exact hB y (by simp)
    · exact ih hA (fun x hx => hB x (by simp [hx])) (fun x hx y hy => hAB x hx y (by simp [hy])) e h
theorem mg_key {P : Int → Prop} (o : Int) (a b : List Pr) (ha : ∀ x ∈ a, P x.1) (hb : ∀ x ∈ b, P x.1) : ∀ e ∈ mg o a b, P e.key :=
  mg_all (Q := fun e => P e.key) o a b ha hb fun x hx _ _ _ => ha x hx
theorem in_zero : In 0 := by unfold In; omega
theorem mg_in (o : Int) (a b : List Pr) (ha : InP a) (hb : InP b) : ∀ e ∈ mg o a b, In e.key ∧ In e.a ∧ In e.b :=
  mg_all (Q := fun e => In e.key ∧ In e.a ∧ In e.b) o a b (fun x hx => ⟨(ha x hx).1, (ha x hx).2, in_zero⟩) (fun x hx => ⟨(hb x hx).1, in_zero, (hb x hx).2⟩) fun x hx y hy _ => ⟨(ha x hx).1, (ha x hx).2, (hb y hy).2⟩
theorem comb_in {p a b : Int} (ha : In a) (hb : In b) : In (comb p a b) := by
  unfold comb
  split
  · exact ha
  · split
    · exact hb
    · exact wrap_in _
/-- what the wanted function does -/
def Wn (w0 : World) (want : Ke → Bool) (f : Fn) (fx fc : Array Value) (ok : Ke → Prop) : Prop :=
  ∀ (e : Ke), ok e → ∀ w, Ext w0 w → ∀ R : Ending → World → Prop, (∀ w', Ext w w' → R (.returned (.bool (want e))) w') → doCall Try.prog (.func f fx fc) #[keV e] w R
theorem blk_ne {w : World} {b k : Nat} {cs cs' : Array Value} {t t' : TypeId} (h : Blk w b cs t) (h' : Blk w k cs' t') (ht : t ≠ t') : b ≠ k := fun e => by
  subst e
  have := h.symm.trans h'
  simp at this
  exact ht this.2
theorem c_both {o : Int} {qa qb : Option Addr} {na ca nb cb : Nat} {w : World} {R : Ending → World → Prop} (h : ∀ bo ba bb w', Ext w w' → w.heap.size ≤ bo → bo < ba → ba < bb → Blk w' bo #[.int .u8 o] 5 → Blk w' ba #[.slice qa na ca] 33 → Blk w' bb #[.slice qb nb cb] 33 →
      R (.returned (.func (.func 159) #[] #[.pointer (some (blk ba)), .pointer (some (blk bb)), .pointer (some (blk bo))])) w') : Calls Try.prog 132 #[.int .u8 o, .slice qa na ca, .slice qb nb cb] w R := by
  refine sh132_ok _ _ _ _ _ _ _ ?_
  unfold sh132
  refine ⟨⟨⟨?_⟩⟩⟩
  have e1 := ext_alloc w (.cells #[.int .u8 o] 5)
  have h1 := blk_alloc w #[.int .u8 o] 5
  generalize hb1 : w.heap.size = b1 at *
  generalize w.alloc (.cells #[.int .u8 o] 5) = w1 at *
  have e2 := ext_alloc w1 (.cells #[.slice qa na ca] 33)
  have h2 := blk_alloc w1 #[.slice qa na ca] 33
  have h1' := h1.ext e2
  have l1 := h1.lt
  generalize hb2 : w1.heap.size = b2 at *
  generalize w1.alloc (.cells #[.slice qa na ca] 33) = w2 at *
  have e3 := ext_alloc w2 (.cells #[.slice qb nb cb] 33)
  have h3 := blk_alloc w2 #[.slice qb nb cb] 33
  have l2 := h2.lt
  exact h _ _ _ _ ((e1.trans e2).trans e3) (by omega) (by omega) (by omega) (h1'.ext e3) (h2.ext e3) h3
set_option maxRecDepth 20000 in
set_option maxHeartbeats 1600000 in
theorem c_some {o p : Int} {a b : List Pr} {want : Ke → Bool} {qa qb : Option Addr} {na ca nb cb : Nat} {f : Fn} {fx fc : Array Value} {w : World} {R : Ending → World → Prop} (hwant : Wn w want f fx fc fun e => In e.key)
    (hla : Cs w qa (prs a)) (hna : a.length = na) (hca : na ≤ ca) (hlb : Cs w qb (prs b)) (hnb : b.length = nb) (hcb : nb ≤ cb) (hm : na + nb ≤ 1000000) (hIa : InP a) (hIb : InP b)
    (h : ∀ p' n' c' w', OwnP w' w.heap.size p' n' c' (cond (mayR o a && mayR o b && may p) (someL o p want a b) []) → Ext w w' → R (.returned (.tuple #[.slice p' n' c', .int .i64 (cond (mayR o a && mayR o b && may p) 0 2)])) w') :
    Calls Try.prog 99 #[.int .u8 o, .int .u8 p, .slice qa na ca, .slice qb nb cb, .agg #[.func f fx fc]] w R := by
  refine sh99_ok _ _ _ _ _ _ _ _ _ _ _ ?_
  unfold sh99
  refine ⟨⟨⟨?_⟩⟩⟩
  have e1 := ext_alloc w (.cells #[.int .u8 p] 5)
  have hp1 := blk_alloc w #[.int .u8 p] 5
  generalize hbp : w.heap.size = bp at *
  generalize w.alloc (.cells #[.int .u8 p] 5) = w1 at *
  have lp := hp1.lt
  have e2 := ext_alloc w1 (.cells #[.func f fx fc] 125)
  have hf2 := blk_alloc w1 #[.func f fx fc] 125
  have hp2 := hp1.ext e2
  generalize hbf : w1.heap.size = bf at *
  generalize w1.alloc (.cells #[.func f fx fc] 125) = w2 at *
  have lf := hf2.lt
  have e3 := ext_alloc w2 (.cells #[.slice none 0 0] 33)
  have ho3 := blk_alloc w2 #[.slice none 0 0] 33
  have hp3 := hp2.ext e3
  have hf3 := hf2.ext e3
  generalize hbo : w2.heap.size = bout at *
  generalize w2.alloc (.cells #[.slice none 0 0] 33) = w3 at *
  have lo := ho3.lt
  have E3 := (e1.trans e2).trans e3
  clear e1 e2 e3 hp1 hp2 hf2
  have hno : ∀ {w' : World}, Ext w3 w' → (mayR o a && mayR o b && may p) = false → doSt ((blk bout).add 0) (.slice none 0 0) w' (fun w74 => ∃ (xp75 : Option Addr), ∃ (xn76 : Nat), ∃ (xc77 : Nat), World.cell? w74 (blk bout) = some (.slice xp75 xn76 xc77) ∧ (R (.returned (.tuple #[.slice xp75 xn76 xc77, .int .i64 2])) w74)) := by
    intro w' e hf
    refine do_st (i := 0) (ho3.ext e) (add_blk _ _) (by simp) fun w4 h4 g4 => ⟨_, _, _, h4.cell (i := 0) rfl rfl, ?_⟩
    have hr := h none 0 0 w4
    rw [hf] at hr
    exact hr (ownP_nil _ _) ((E3.trans e).st g4 (by omega))
  refine do_call Try.call40 (c_may (hla.ext E3) hna (by omega) hIa fun w4 e4 => retS_ret ⟨_, rfl, ?_⟩)
  refine ifB_intro (fun h1 => hno e4 (by have : mayR o a = false := by simpa using h1
                                         rw [this]; rfl)) fun h1 => ?_
  have h1 : mayR o a = true := by simpa using h1
  refine do_call Try.call40 (c_may (hlb.ext (E3.trans e4)) hnb (by omega) hIb fun w5 e5 => retS_ret ⟨_, rfl, ?_⟩)
  have E35 := e4.trans e5
  refine ifB_intro (fun h2 => hno E35 (by have : mayR o b = false := by simpa using h2
                                          rw [this, Bool.and_false]; rfl)) fun h2 => ?_
  have h2 : mayR o b = true := by simpa using h2
  refine ⟨_, (hp3.ext E35).cell (i := 0) rfl rfl, ?_⟩
  refine do_call Try.call89 (c_fmay fun w6 e6 => retS_ret ⟨_, rfl, ?_⟩)
  have E36 := E35.trans e6
  refine ifB_intro (fun h3 => hno E36 (by have : may p = false := by simpa using h3
                                          rw [this, Bool.and_false])) fun h3 => ?_
  have h3 : may p = true := by simpa using h3
  have hmay : (mayR o a && mayR o b && may p) = true := by rw [h1, h2, h3]; rfl
  rw [hmay] at h
  simp only [cond_true] at h
  refine do_call Try.call132 (c_both fun bo ba bb w7 e7 n1 n2 n3 hbo7 hba7 hbb7 => retS_ret ⟨_, _, _, rfl, do_rf fun fn L w8 d hd hL hst hpe e8 hd8 hl8 => ?_⟩)
  have E38 := (E36.trans e7).trans e8
  have E8 := E3.trans E38
  have hp8 := hp3.ext E38
  have hf8 := hf3.ext E38
  have ho8 := ho3.ext E38
  have hbo8 := hbo7.ext e8
  have hba8 := hba7.ext e8
  have hbb8 := hbb7.ext e8
  have n4 : bb < d := by rw [hd]; exact hbb7.lt
  have n0 : bout < bo := Nat.lt_of_lt_of_le lo (Nat.le_trans E36.size n1)
  have n00 : bp < bf ∧ bf < bout := by omega
  clear e4 e5 e6 e7 e8 E35 E36 E38 hp3 hf3 ho3 hbo7 hba7 hbb7 E3
  rw [← hd]
  obtain ⟨St, hSt⟩ : ∃ St : Nat → World → Prop, St = fun i w' => Ext w w' ∧ (∃ q n c, Blk w' bout #[.slice q n c] 33 ∧ OwnP w' (d + 2) q n c (outL p want ((mg o a b).take i))) ∧ Blk w' bp #[.int .u8 p] 5 ∧ Blk w' bf #[.func f fx fc] 125 ∧ Blk w' bo #[.int .u8 o] 5 ∧
    w'.heap[d]? = some (.deferred (some [])) ∧ w'.heap[d + 1]? = some (.loop L) := ⟨_, rfl⟩
  have hds : ∀ {w' : World}, w'.heap[d + 1]? = some (.loop L) → d + 2 ≤ w'.heap.size := fun hl => (Array.getElem?_eq_some_iff.1 hl).1
  have hmgI : ∀ e ∈ mg o a b, In e.key := mg_key o a b (fun x hx => (hIa x hx).1) (fun x hx => (hIb x hx).1)
  refine callE_c Try.call159 (by rfl) (c_both1 (hp := bp) (o := o) (a := a) (b := b) (qa := qa) (qb := qb) (ba := ba) (bb := bb) (bo := bo) (St := St) ⟨?_, ?_, ?_, ?_, ?_⟩ hna hca hnb hcb (by omega) hIa hIb (by omega) hba8 hbb8 ?_ ?_)
  · subst hSt
    rintro i w' ⟨E, _, _, _, hbo', _⟩
    exact ⟨hla.ext E, hlb.ext E, hbo'⟩
  · subst hSt
    rintro i w' w'' ⟨E, ⟨q, n, c, g1, g2⟩, g3, g4, g5, g6, g7⟩ e
    exact ⟨E.trans e, ⟨q, n, c, g1.ext e, row_to g2 e (Nat.le_refl _)⟩, g3.ext e, g4.ext e, g5.ext e, e.heap g6, e.heap g7⟩
  · subst hSt
    rintro i w' w'' k hk ⟨E, ⟨q, n, c, g1, g2⟩, g3, g4, g5, g6, g7⟩ g
    have hkp : bp ≤ k := by rcases hk with h | h | h <;> omega
    have hne : ∀ {x : Nat} {cs : Array Value} {t : TypeId}, Blk w' x cs t → x ≠ ba → x ≠ bb → t ≠ 122 → x ≠ k := fun hx h1 h2 h3 => by
      rcases hk with h | h | ⟨_, cs', h⟩
      · omega
      · omega
      · exact blk_ne hx h h3
    have hnh : ∀ {x : Nat} {ob : Obj}, w'.heap[x]? = some ob → x ≠ ba → x ≠ bb → (∀ cs t fr, ob ≠ .cells cs t fr) → x ≠ k := fun hx h1 h2 h3 => by
      rcases hk with h | h | ⟨_, cs', h⟩
      · omega
      · omega
      · intro e; subst e
        have := hx.symm.trans h
        exact h3 _ _ _ (Option.some.inj this)
    refine ⟨E.st g (by omega), ⟨q, n, c, g1.grown g (ne_some (hne g1 (by omega) (by omega) (by decide))), ?_⟩, g3.grown g (ne_some (hne g3 (by omega) (by omega) (by decide))), g4.grown g (ne_some (hne g4 (by omega) (by omega) (by decide))), g5.grown g (ne_some (hne g5 (by omega) (by omega) (by decide))),
      heap_grown g g6 (ne_some (hnh g6 (by omega) (by omega) (by intros; simp))), heap_grown g g7 (ne_some (hnh g7 (by omega) (by omega) (by intros; simp)))⟩
    refine World.ownsRow.kept g2 g ?_
    rcases ownP_open g2 with ⟨hq, _, _⟩ | ⟨gg, cur, hq, hgg, hblk, _⟩
    · subst hq; exact .inl rfl
    · subst hq
      right
      have hgg' : gg ≠ k := hne hblk (by omega) (by omega) (by decide)
      exact ne_some hgg'
  · subst hSt
    rintro i w' ⟨E, _, _, _, _, _, g7⟩
    have := hds g7; omega
  · -- a round
    intro i e he w9 sa sb hs9 hsa hsb R' hR'
    have hs9' := hs9
    rw [hSt] at hs9'
    obtain ⟨E9, ⟨q, n, c, hout, hrow⟩, hp9, hf9, hbo9, hd9, hl9⟩ := hs9'
    have heI := hmgI e (List.mem_of_getElem? he)
    refine sh99_0_ok (by rw [hl9, hL]) ?_
    unfold sh99_0
    refine ⟨?_⟩
    refine do_st5 (blk_alloc w9 _ _) fun w10 hx10 g10 => ?_
    have e10 : Ext w9 w10 := (ext_alloc w9 _).st g10 (Nat.le_refl _)
    have hl10 := e10.heap hl9
    have hd1 := hds hl9
    refine ⟨_, hl10, hst, ?_⟩
    have g11 := put_grown w10 (d + 1) (.loop { L with state := .busy })
    have hl11 := put_heap (o' := .loop { L with state := .busy }) hl10
    have hx11 := hx10.grown g11 (ne_some (by omega))
    have hout11 := (hout.ext e10).grown g11 (ne_some (by omega))
    have hp11 := (hp9.ext e10).grown g11 (ne_some (by omega))
    have hf11 := (hf9.ext e10).grown g11 (ne_some (by omega))
    have hbo11 := (hbo9.ext e10).grown g11 (ne_some (by omega))
    have hsa11 := (hsa.ext e10).grown g11 (ne_some (by omega))
    have hsb11 := (hsb.ext e10).grown g11 (ne_some (by omega))
    have hd11 := heap_grown g11 (e10.heap hd9) (ne_some (by omega))
    have hrow11 : OwnP (w10.putObj (d + 1) (.loop { L with state := .busy })) (d + 2) q n c (outL p want ((mg o a b).take i)) := World.ownsRow.kept (e10.row hrow) g11 (.inr fun hk => by have := (World.ownsRow.lt hrow _ hk).1; omega)
    have E11 := (E9.trans e10).st g11 (by omega)
    have hsz11 := Nat.le_trans (Nat.le_trans hd1 e10.size) g11.size
    generalize w10.putObj (d + 1) (.loop { L with state := .busy }) = w11 at *
    refine ⟨_, _, _, hf11.cell (i := 0) (add_blk _ _) rfl, _, hx11.cell (i := 0) (add_blk _ _) rfl, _, hx11.cell (i := 1) (add_blk _ _) rfl, _, hx11.cell (i := 2) (add_blk _ _) rfl, _, hx11.cell (i := 3) (add_blk _ _) rfl, _, hx11.cell (i := 4) (add_blk _ _) rfl, ?_⟩
    refine hwant e heI w11 E11 _ fun w12 e12 => retS_ret ⟨_, rfl, ?_⟩
    have hx12 := hx11.ext e12
    have hil := (List.getElem?_eq_some_iff.1 he).1
    have hti : (mg o a b).take (i + 1) = (mg o a b).take i ++ [e] := by
      rw [← List.take_append_getElem hil, (List.getElem?_eq_some_iff.1 he).2]
    refine ifB_intro (fun hw => ?_) fun hw => ?_
    · have hw : want e = false := by simpa using hw
      have hl12 := e12.heap hl11
      have g13 := put_grown w12 (d + 1) (.loop L)
      refine ⟨_, hl12, hR' _ ?_ ?_ ?_⟩
      · rw [rec_back hst hpe, hSt]
        refine ⟨(E11.trans e12).st g13 (by omega), ⟨q, n, c, (hout11.ext e12).grown g13 (ne_some (by omega)), ?_⟩, (hp11.ext e12).grown g13 (ne_some (by omega)), (hf11.ext e12).grown g13 (ne_some (by omega)), (hbo11.ext e12).grown g13 (ne_some (by omega)), heap_grown g13 (e12.heap hd11) (ne_some (by omega)), put_heap hl12⟩
        rw [hti, show outL p want ((mg o a b).take i ++ [e]) = outL p want ((mg o a b).take i) by simp [outL, List.filter_append, hw]]
        exact World.ownsRow.kept (e12.row hrow11) g13 (.inr fun hk => by have := (World.ownsRow.lt hrow11 _ hk).1; omega)
      · exact (hsa11.ext e12).grown (put_grown _ _ _) (ne_some (by omega))
      · exact (hsb11.ext e12).grown (put_grown _ _ _) (ne_some (by omega))
    have hw : want e = true := by simpa using hw
    refine ⟨_, hx12.cell (i := 1) (add_blk _ _) rfl, _, hx12.cell (i := 2) (add_blk _ _) rfl, ?_⟩
    have hrl := ownP_len hrow11
    have hol := outL_len p want ((mg o a b).take i)
    have hml := mg_len o a b
    rw [List.length_take] at hol
    -- the pair goes out
    have hK : ∀ {w' : World} (v : Int), Ext w12 w' → v = valK p e → (∃ (xp99 : Option Addr), ∃ (xn100 : Nat), ∃ (xc101 : Nat), World.cell? w' (blk bout) = some (.slice xp99 xn100 xc101) ∧ (∃ (x102 : Int), World.cell? w' ((blk w9.heap.size).add 0) = some (.int .i64 x102) ∧ (
        doAl (.cells #[.int .i64 x102, .int .i64 v] 38) w' (fun b103 w104 =>
        doGo Try.prog (.builtin .append #[33, 33] 33 #[false, false]) #[.slice xp99 xn100 xc101, .slice (some (blk b103)) 1 1] w104 (retS (fun v108 w109 => ∃ (xp105 : Option Addr), ∃ (xn106 : Nat), ∃ (xc107 : Nat), v108 = (.slice xp105 xn106 xc107 : Value) ∧ (
        doSt ((blk bout).add 0) (.slice xp105 xn106 xc107) w109 (fun w110 => ∃ (r111 : Loop), w110.heap[d + 1]? = some (.loop r111) ∧ R' (.returned (.bool true)) (w110.putObj (d + 1) (.loop { r111 with state := .ready, pending := none }))))) (fun _ _ => False)))))) := by
      intro w' v e' hv
      have e13 := e12.trans e'
      refine ⟨_, _, _, (hout11.ext e13).cell (i := 0) rfl rfl, _, (hx11.ext e13).cell (i := 0) (add_blk _ _) rfl, ⟨?_⟩⟩
      have e14 := e13.trans (ext_alloc w' (.cells #[.int .i64 e.key, .int .i64 v] 38))
      have hrow14 := row_to hrow11 e14 (Nat.le_refl _)
      refine do_app elP hrow14 (m := 1) (cs_alloc w' _ _) (by simp) (by simp [Value.oneCell']) (by simp only [maxLen]; omega) (by omega) (Nat.le_trans hsz11 e14.size) fun q' c' w15 h15 g15 => retS_ret ⟨_, _, _, rfl, ?_⟩
      have hne : ∀ k, k < d + 2 → some k ≠ (Value.slice q n c).ownBlock := fun k hk e => by have := (World.ownsRow.lt hrow14 _ e.symm).1; omega
      have hout15 := (hout11.ext e14).grown g15 (hne _ (by omega))
      refine do_st (i := 0) hout15 (add_blk _ _) (by simp) fun w16 h16 g16 => ?_
      have hl16 := heap_grown g16 (heap_grown g15 (e14.heap hl11) (hne _ (by omega))) (ne_some (by omega))
      refine ⟨_, hl16, ?_⟩
      rw [rec_back hst hpe]
      have g17 := put_grown w16 (d + 1) (.loop L)
      have hkept : ∀ {x : Nat} {cs : Array Value} {t : TypeId}, x < d → x ≠ bout → Blk w11 x cs t → Blk (w16.putObj (d + 1) (.loop L)) x cs t := fun h1 h2 hb => (((hb.ext e14).grown g15 (hne _ (by omega))).grown g16 (ne_some h2)).grown g17 (ne_some (by omega))
      refine hR' _ ?_ (hkept (by omega) (by omega) hsa11) (hkept (by omega) (by omega) hsb11)
      rw [hSt]
      refine ⟨(((E11.trans e14).grown g15 fun k hk => by have := (World.ownsRow.lt hrow14 _ hk).1; omega).st g16 (by omega)).st g17 (by omega), ⟨q', n + 1, c', h16.grown g17 (ne_some (by omega)), ?_⟩, hkept (by omega) (by omega) hp11, hkept (by omega) (by omega) hf11, hkept (by omega) (by omega) hbo11,
        heap_grown g17 (heap_grown g16 (heap_grown g15 (e14.heap hd11) (hne _ (by omega))) (ne_some (by omega))) (ne_some (by omega)), put_heap hl16⟩
      have hrow15 : OwnP w15 (d + 2) q' (n + 1) c' (outL p want ((mg o a b).take (i + 1))) := by
        rw [hti, show outL p want ((mg o a b).take i ++ [e]) = outL p want ((mg o a b).take i) ++ [(e.key, valK p e)] by simp [outL, List.filter_append, hw]]
        unfold OwnP; rw [prs_append, ← hv]; exact h15
      exact World.ownsRow.kept (World.ownsRow.kept hrow15 g16 (.inr fun hk => by have := (World.ownsRow.lt hrow15 _ hk).1; omega)) g17 (.inr fun hk => by have := (World.ownsRow.lt hrow15 _ hk).1; omega)
    refine ⟨_, hx12.cell (i := 3) (add_blk _ _) rfl, ?_⟩
    refine ifB_intro (fun hia => ?_) fun hia => ?_
    · refine ⟨_, hx12.cell (i := 4) (add_blk _ _) rfl, ?_⟩
      refine ifB_intro (fun hib => ?_) fun hib => ?_
      · refine ⟨_, (hp11.ext e12).cell (i := 0) rfl rfl, _, hx12.cell (i := 1) (add_blk _ _) rfl, _, hx12.cell (i := 2) (add_blk _ _) rfl, ?_⟩
        refine do_call Try.call91 (c_comb fun w13 e13 => retS_ret ⟨_, _, rfl, hK _ e13 ?_⟩)
        rw [h3]; unfold valK; rw [hia, hib]; rfl
      · refine hK _ (ext_refl _) ?_
        unfold valK; rw [hia, hib]; rfl
    · refine hK _ (ext_refl _) ?_
      unfold valK; rw [hia]; rfl
  · rw [hSt]
    exact ⟨E8, ⟨none, 0, 0, ho8, ownP_nil _ _⟩, hp8, hf8, hbo8, hd8, hl8⟩
  · intro w' hs'
    rw [hSt] at hs'
    obtain ⟨E9, ⟨q, n, c, hout, hrow⟩, hp9, hf9, hbo9, hd9, hl9⟩ := hs'
    rw [List.take_length] at hrow
    refine rf_done hl9 (by rw [hst]; simp) hpe fun ob => ?_
    have gob := put_grown w' (d + 1) ob
    have hout' := hout.grown gob (ne_some (by omega))
    refine ⟨_, _, _, hout'.cell (i := 0) rfl rfl, do_st (i := 0) hout' (add_blk _ _) (by simp) fun w10 h10 g10 => ⟨heap_grown g10 (heap_grown gob hd9 (ne_some (by omega))) (ne_some (by omega)), _, _, _, (h10.grown (put_grown _ _ _) (ne_some (by omega))).cell (i := 0) rfl rfl, ?_⟩⟩
    refine h _ _ _ _ (row_mono (World.ownsRow.kept (World.ownsRow.kept (World.ownsRow.kept hrow gob ?_) g10 ?_) (put_grown w10 d _) ?_) (by have := E8.size; omega)) (((E9.put (by omega) _).st g10 (by omega)).put (by omega) _)
    · exact .inr fun hk => by have := (World.ownsRow.lt hrow _ hk).1; omega
    · exact .inr fun hk => by have := (World.ownsRow.lt hrow _ hk).1; omega
    · exact .inr fun hk => by have := (World.ownsRow.lt hrow _ hk).1; omega
end Go.Proofs.Ytinkkhcffoikmaa
