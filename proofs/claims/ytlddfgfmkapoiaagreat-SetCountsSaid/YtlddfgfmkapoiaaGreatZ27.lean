/-
  What find.Get does.
-/
/-
  set: is a key there? A copy.
-/
/-
  Printed by a program (gen.py): what the functions of the program do, as formulas; each with the proof that its call is what the formula says.
-/
/-
  SetCounts: the walk.
-/
import Derived.Test.YtlddfgfmkapoiaaGreatZ19
import Derived.Test.YtlddfgfmkapoiaaGreatZ26
import Derived.Test.YtlddfgfmkapoiaaGreatZ02
import Derived.Test.YtlddfgfmkapoiaaGreatProg
import Derived.Test.YtlddfgfmkapoiaaGreatZ05
import Derived.Test.YtlddfgfmkapoiaaGreatZ25

namespace Go.Proofs.YtlddfgfmkapoiaaGreat
open Go Go.Sh Go.RowKit

/-- the last node on the way that is picked -/
def lastN (o key : Int) (sel : Int → Bool) : Tr → Tr → Tr
  | .nil, acc => acc
  | .node l k v g r, acc =>
    let acc' := if sel (cmpI o key k) then .node l k v g r else acc
    if cmpI o key k < 0 then lastN o key sel l acc' else if cmpI o key k = 0 then acc' else lastN o key sel r acc'
def lastR (o : Int) (t : Tr) (key : Int) (sel : Int → Bool) : Tr := cond (isO o) (lastN o key sel t .nil) .nil
theorem lastN_next {o key : Int} {sel : Int → Bool} {s acc : Tr} (h : s.nn = true) : lastN o key sel s acc =
    if cmpI o key s.key = 0 then (if sel (cmpI o key s.key) then s else acc) else lastN o key sel (s.next o key) (if sel (cmpI o key s.key) then s else acc) := by
  cases s with
  | nil => cases h
  | node l k v g r =>
    show lastN o key sel (.node l k v g r) acc = if cmpI o key k = 0 then (if sel (cmpI o key k) then .node l k v g r else acc) else lastN o key sel (if cmpI o key k < 0 then l else r) (if sel (cmpI o key k) then .node l k v g r else acc)
    rw [lastN]
    generalize cmpI o key k = c
    by_cases h1 : c < 0
    · rw [if_pos h1, if_neg (show ¬ c = 0 by omega), if_pos h1]
    · rw [if_neg h1, if_neg h1]
set_option maxRecDepth 20000 in
theorem c_fway1 {o key : Int} {t : Tr} {pt : Option Addr} {bt bo bk : Nat} {f : Fn} {fx fc : Array Value} {St : Tr → World → Prop} {Fin : World → Prop} {w0 w : World} {R : Ending → World → Prop}
    (hy : WayTo o key w0 pt t bt bo bk (.func f fx fc) St Fin) (ht : IsN w0 pt t) (hk : In key) (hA : AllK t) (h0 : St t w)
    (hno : isO o = false → ∀ w', St t w' → R (.returned (.tuple #[])) w') (hnil : ∀ w', isO o = true → St .nil w' → R (.returned (.tuple #[])) w') (hfin : ∀ w', isO o = true → Fin w' → R (.returned (.tuple #[])) w') :
    Calls Tryz.prog 259 #[.func f fx fc, .pointer (some (blk bo)), .pointer (some (blk bt)), .pointer (some (blk bk))] w R := by
  refine sh259_ok _ _ _ _ _ _ ?_
  unfold sh259
  refine ⟨_, (hy.blks _ _ h0).2.2.1.cell (i := 0) rfl rfl, ?_⟩
  refine do_call Tryz.call172 (c_name fun w1 e1 => retS_ret ⟨_, rfl, ?_⟩)
  rw [name_empty]
  have hs1 := hy.ext _ _ _ h0 e1
  cases ho : isO o
  · exact ifB_t rfl (hno ho _ hs1)
  refine ifB_f rfl ?_
  refine ⟨_, (hy.blks _ _ hs1).2.1.cell (i := 0) rfl rfl, ?_⟩
  refine ⟨fun vs w' => ∃ (s : Tr) (p : Option Addr), vs = [.pointer p] ∧ IsN w0 p s ∧ St s w' ∧ AllK s ∧ s.size ≤ t.size, fun vs w' => szAt (vs.getD 0 undef) w', ⟨t, pt, rfl, ht, hs1, hA, Nat.le_refl _⟩, ?_⟩
  rintro p _ w2 ⟨s, p', hv, hN0, hs, hA, hsz⟩
  simp only [List.cons.injEq, Value.pointer.injEq, and_true] at hv
  subst hv
  have hN : IsN w2 p s := hN0.ext (hy.blks _ _ hs).1
  have hnone := hN.isNone
  refine ifB_intro (fun hp => ?_) fun hp => ?_
  rotate_left
  · have hsn : s.nn = false := by rw [hnone] at hp; simpa using hp
    cases s with
    | nil => exact hnil _ ho hs
    | node l k v g r => cases hsn
  have hsn : s.nn = true := by rw [hnone] at hp; simpa using hp
  refine ⟨⟨fun w' => Ext w2 w', ext_drew _, _, fun w' e => ((hy.blks _ _ hs).2.2.1.ext e).cell (i := 0) rfl rfl, _, fun w' e => ((hy.blks _ _ hs).2.2.2.ext e).cell (i := 0) rfl rfl, ?_⟩⟩
  refine do_call Tryz.call108 (c_key (hN.ext (ext_drew _)) fun w3 e3 => retS_ret ⟨_, rfl, (ext_drew _).trans e3, ?_⟩)
  have hsk : In s.key := by
    cases s with
    | nil => cases hsn
    | node l k v g r => exact hA.node.2.1
  refine do_call Tryz.call176 (c_compare hk hsk fun w4 e4 => retS_ret ⟨_, rfl, ?_⟩)
  have E4 : Ext w2 w4 := (ext_drew w2).trans (e3.trans e4)
  have hs4 := hy.ext _ _ _ hs E4
  refine hy.yields s p w4 hsn hA hsz hN0 hs4 _ fun w5 h5 => retS_ret ⟨_, rfl, ifB_f rfl ?_⟩
  refine ifB_intro (fun h1 => ?_) fun h1 => ?_
  · have h1 : cmpI o key s.key = 0 := by simpa using h1
    rw [if_pos h1] at h5
    exact hfin _ ho h5
  · have h1 : cmpI o key s.key ≠ 0 := by simpa using h1
    rw [if_neg h1] at h5
    have hlt := Tr.next_lt hsn o key
    refine ifB_intro (fun h2 => ?_) fun h2 => ?_
    · have h2 := of_decide_eq_true h2
      have hnx : s.next o key = s.left := by unfold Tr.next; rw [if_pos h2]
      rw [hnx] at h5 hlt
      refine do_call Tryz.call123 (c_left0 hN0 (hy.blks _ _ h5).1 fun ql hql => retS_ret ⟨_, rfl, ⟨s.left, ql, rfl, hql, h5, hA.left, by omega⟩, ?_⟩)
      show szAt (.pointer ql) w5 < szAt (.pointer p) w2
      rw [szAt_of (hql.ext (hy.blks _ _ h5).1), szAt_of hN]; exact hlt
    · have h2 := of_decide_eq_false h2
      have hnx : s.next o key = s.right := by unfold Tr.next; rw [if_neg h2]
      rw [hnx] at h5 hlt
      refine do_call Tryz.call125 (c_right0 hN0 (hy.blks _ _ h5).1 fun ql hql => retS_ret ⟨_, rfl, ⟨s.right, ql, rfl, hql, h5, hA.right, by omega⟩, ?_⟩)
      show szAt (.pointer ql) w5 < szAt (.pointer p) w2
      rw [szAt_of (hql.ext (hy.blks _ _ h5).1), szAt_of hN]; exact hlt
theorem c_fway {o key : Int} {pt : Option Addr} {w : World} {R : Ending → World → Prop} (h : ∀ bt bo bk w', Ext w w' → w.heap.size ≤ bt → w.heap.size ≤ bo → w.heap.size ≤ bk → Blk w' bt #[.pointer pt] 35 → Blk w' bo #[.int .u8 o] 5 → Blk w' bk #[.int .i64 key] 2 →
      R (.returned (.func (.func 259) #[] #[.pointer (some (blk bo)), .pointer (some (blk bt)), .pointer (some (blk bk))])) w') : Calls Tryz.prog 206 #[.int .u8 o, .pointer pt, .int .i64 key] w R := by
  refine sh206_ok _ _ _ ?_
  unfold sh206
  refine ⟨⟨⟨?_⟩⟩⟩
  have e1 := ext_alloc w (.cells #[.int .u8 o] 5)
  have h1 := blk_alloc w #[.int .u8 o] 5
  generalize hb1 : w.heap.size = b1 at *
  generalize w.alloc (.cells #[.int .u8 o] 5) = w1 at *
  have e2 := ext_alloc w1 (.cells #[.pointer pt] 35)
  have h2 := blk_alloc w1 #[.pointer pt] 35
  have h1' := h1.ext e2
  have l1 := h1.lt
  generalize hb2 : w1.heap.size = b2 at *
  generalize w1.alloc (.cells #[.pointer pt] 35) = w2 at *
  have e3 := ext_alloc w2 (.cells #[.int .i64 key] 2)
  have h3 := blk_alloc w2 #[.int .i64 key] 2
  have l2 := h2.lt
  exact h _ _ _ _ ((e1.trans e2).trans e3) (by omega) (by omega) (by omega) (h2.ext e3) (h1'.ext e3) h3
/-- the function that keeps -/
abbrev keepV (bx : Nat) : Value := .func (.func 257) #[] #[.pointer (some (blk bx))]
theorem c_findlast {w : World} {R : Ending → World → Prop} (h : ∀ b w', Ext w w' → w.heap.size ≤ b → Blk w' b #[.pointer none] 35 → R (.returned (.tuple #[keepV b, .func (.func 258) #[] #[.pointer (some (blk b))]])) w') :
    Calls Tryz.prog 205 #[] w R := by
  refine sh205_ok ?_
  unfold sh205
  exact ⟨h _ _ (ext_alloc w _) (Nat.le_refl _) (blk_alloc w _ _)⟩
theorem c_findkeep {p kp : Option Addr} {is : Bool} {bx : Nat} {w : World} {R : Ending → World → Prop} (hb : Blk w bx #[.pointer kp] 35) (h : ∀ w', w.grownBy w' (some bx) → Blk w' bx #[.pointer (if is then p else kp)] 35 → R (.returned (.tuple #[])) w') :
    doCall Tryz.prog (keepV bx) #[.pointer p, .bool is] w R := by
  refine do_callc Tryz.call257 (by rfl) (sh257_ok _ _ _ ?_)
  unfold sh257
  cases is
  · exact ifB_f rfl (h w (grown_refl w _) hb)
  · exact ifB_t rfl (do_st (i := 0) hb (add_blk _ _) (by simp) fun w1 h1 g1 => h w1 g1 h1)
theorem putf_back {w w1 : World} {l b : Nat} {o o1 : Obj} (h : w.heap[l]? = some o) (g : (w.putObj l o1).grownBy w1 (some b)) : w.grownBy (w1.putObj l o) (some b) := by
  have g0 := put_grown w l o1
  have g2 := put_grown w1 l o
  have hl := (Array.getElem?_eq_some_iff.1 h).1
  refine ⟨(g2.os.trans g.os).trans g0.os, (g2.tape.trans g.tape).trans g0.tape, (g2.output.trans g.output).trans g0.output, Nat.le_trans g0.size (Nat.le_trans g.size g2.size), fun k hk hne => ?_⟩
  by_cases hkl : k = l
  · subst hkl
    rw [h]
    exact World.putObj_heap_same (Nat.lt_of_lt_of_le hl (Nat.le_trans g0.size g.size))
  · rw [g2.block k (Nat.lt_of_lt_of_le hk (Nat.le_trans g0.size g.size)) (ne_some hkl), g.block k (Nat.lt_of_lt_of_le hk g0.size) hne, g0.block k hk (ne_some hkl)]
theorem c_findpair {p : Option Addr} {t : Tr} {w : World} {R : Ending → World → Prop} (ht : IsN w p t) (h : ∀ w', Ext w w' → R (.returned (.tuple #[agP (t.key, t.val), .bool t.nn])) w') : Calls Tryz.prog 207 #[.pointer p] w R := by
  refine sh207_ok _ ?_
  unfold sh207
  refine ⟨?_⟩
  have e1 := ext_alloc w (.cells #[.int .i64 0, .int .i64 0] 46)
  have hb := blk_alloc w #[.int .i64 0, .int .i64 0] 46
  cases t with
  | nil =>
    obtain rfl : p = none := ht
    exact ifB_t rfl (do_st2 hb fun w2 h2 g2 => ⟨_, h2.cell (i := 0) (add_blk _ _) rfl, _, h2.cell (i := 1) (add_blk _ _) rfl, h _ (e1.st g2 (Nat.le_refl _))⟩)
  | node l k v g r =>
    have hnn : p.isNone = false := ht.isNone
    refine ifB_f hnn ?_
    refine do_call Tryz.call108 (c_key (ht.ext e1) fun w2 e2 => retS_ret ⟨_, rfl, ?_⟩)
    refine do_call Tryz.call126 (c_val ((ht.ext e1).ext e2) fun w3 e3 => retS_ret ⟨_, rfl, ?_⟩)
    refine do_st2 (hb.ext (e2.trans e3)) fun w4 h4 g4 => ⟨_, h4.cell (i := 0) (add_blk _ _) rfl, _, h4.cell (i := 1) (add_blk _ _) rfl, h _ ((e1.trans (e2.trans e3)).st g4 (Nat.le_refl _))⟩
/-- what the states of a search are -/
def StF (o key : Int) (sel : Int → Bool) (w : World) (t : Tr) (pt : Option Addr) (bx bf bt bo bk d : Nat) (L : Loop) (s : Tr) (w' : World) : Prop :=
  Ext w w' ∧ (∃ kp acc, Blk w' bx #[.pointer kp] 35 ∧ IsN w kp acc ∧ lastN o key sel s acc = lastN o key sel t .nil ∧ (s = t → acc = .nil)) ∧ Blk w' bf #[keepV bx] 270 ∧
    Blk w' bt #[.pointer pt] 35 ∧ Blk w' bo #[.int .u8 o] 5 ∧ Blk w' bk #[.int .i64 key] 2 ∧ w'.heap[d]? = some (.deferred (some [])) ∧ w'.heap[d + 1]? = some (.loop L)
def FinF (o key : Int) (sel : Int → Bool) (w : World) (t : Tr) (bx d : Nat) (L : Loop) (w' : World) : Prop :=
  Ext w w' ∧ (∃ kp, Blk w' bx #[.pointer kp] 35 ∧ IsN w kp (lastN o key sel t .nil)) ∧ w'.heap[d]? = some (.deferred (some [])) ∧ w'.heap[d + 1]? = some (.loop L)
theorem fwayTo {o key : Int} {sel : Int → Bool} {w : World} {t : Tr} {pt : Option Addr} {bx bf bt bo bk d : Nat} {L : Loop} (hw : w.heap.size ≤ bx) (n1 : bx < bf) (n2 : bf < bt) (n3 : bf < bo) (n4 : bf < bk) (n5 : bt < d)
    (hround : ∀ (p kp : Option Addr) (c : Int) (w' : World) (R' : Ending → World → Prop), w'.heap[d + 1]? = some (.loop L) → Blk w' bf #[keepV bx] 270 → Blk w' bx #[.pointer kp] 35 →
      (∀ w'', w'.grownBy w'' (some bx) → Blk w'' bx #[.pointer (if sel c then p else kp)] 35 → R' (.returned (.bool true)) w'') → doCall Tryz.prog (.func (.yield (d + 1)) #[] #[]) #[.pointer p, .int .i64 c] w' R') :
    WayTo o key w pt t bt bo bk (.func (.yield (d + 1)) #[] #[]) (StF o key sel w t pt bx bf bt bo bk d L) (FinF o key sel w t bx d L) := by
  refine ⟨?_, ?_, ?_, ?_⟩
  · rintro s w' ⟨E, _, _, h1, h2, h3, _⟩
    exact ⟨E, h1, h2, h3⟩
  · rintro s w' w'' ⟨E, ⟨kp, acc, h0, h1, h2⟩, h3, h4, h5, h6, h7, h8⟩ e
    exact ⟨E.trans e, ⟨kp, acc, h0.ext e, h1, h2⟩, h3.ext e, h4.ext e, h5.ext e, h6.ext e, e.heap h7, e.heap h8⟩
  · rintro s p w' hsn hA hsz hN ⟨E, ⟨kp, acc, h0, h1, h2, h2'⟩, h3, h4, h5, h6, h7, h8⟩ R' hR'
    refine hround p kp _ w' R' h8 h3 h0 fun w'' g hb => hR' w'' ?_
    have hE := E.st g hw
    rw [lastN_next hsn] at h2
    have hN' : IsN w (if sel (cmpI o key s.key) then p else kp) (if sel (cmpI o key s.key) then s else acc) := by split <;> assumption
    by_cases hc : cmpI o key s.key = 0
    · rw [if_pos hc] at h2 ⊢
      rw [h2] at hN'
      exact ⟨hE, ⟨_, hb, hN'⟩, heap_grown g h7 (ne_some (by omega)), heap_grown g h8 (ne_some (by omega))⟩
    · rw [if_neg hc] at h2 ⊢
      refine ⟨hE, ⟨_, _, hb, hN', h2, fun e => ?_⟩, h3.grown g (ne_some (by omega)), h4.grown g (ne_some (by omega)), h5.grown g (ne_some (by omega)), h6.grown g (ne_some (by omega)), heap_grown g h7 (ne_some (by omega)), heap_grown g h8 (ne_some (by omega))⟩
      have := Tr.next_lt hsn o key
      rw [e] at this; omega
  · rintro w' ⟨E, _⟩
    exact E
set_option maxRecDepth 20000 in
theorem c_fget {o key : Int} {t : Tr} {pt : Option Addr} {w : World} {R : Ending → World → Prop} (ht : IsN w pt t) (hk : In key) (hA : AllK t)
    (h : ∀ w', Ext w w' → R (.returned (.tuple #[.int .i64 (lastR o t key (fun c => ((c : Int) == 0))).val, .bool (lastR o t key (fun c => ((c : Int) == 0))).nn])) w') : Calls Tryz.prog 149 #[.int .u8 o, .pointer pt, .int .i64 key] w R := by
  refine sh149_ok _ _ _ ?_
  unfold sh149
  have e0 := ext_refl w
  intro K11
  refine do_call Tryz.call205 (c_findlast fun bx w2 e2 hbx hx => retS_ret (.inl ⟨_, _, _, _, _, _, rfl, ⟨?_⟩⟩))
  have lx := hx.lt
  refine do_st (blk_alloc w2 #[.nilFunc] 270) (i := 0) (add_blk _ _) (by simp) fun w3 hf3 g3 => ?_
  have hf3 : Blk w3 w2.heap.size #[keepV bx] 270 := hf3
  have e3 : Ext w2 w3 := (ext_alloc w2 _).st g3 (Nat.le_refl _)
  obtain ⟨bf, hbf⟩ : ∃ bf, bf = w2.heap.size := ⟨_, rfl⟩
  rw [← hbf] at hf3 ⊢
  have lf := hf3.lt
  simp -zeta -zetaHave only [K11]
  refine do_call Tryz.call206 (c_fway fun bt bo bk w4 e4 hbt hbo hbk h1 h2 h3 => retS_ret ⟨_, _, _, rfl, do_rf fun fn L w5 d hd hL hst hpe e5 hd5 hl5 => ?_⟩)
  have E4 : Ext w w4 := (e0.trans e2).trans (e3.trans e4)
  have E5 := E4.trans e5
  have hx5 := hx.ext ((e3.trans e4).trans e5)
  have hf5 := hf3.ext (e4.trans e5)
  have ht5 := h1.ext e5
  have ho5 := h2.ext e5
  have hk5 := h3.ext e5
  have n1 : bx < bf := by omega
  have n2 : bf < bt := by omega
  have n3 : bf < bo := by omega
  have n4 : bf < bk := by omega
  have n5 : bt < d := by rw [hd]; exact h1.lt
  have hwx : w.heap.size ≤ bx := Nat.le_trans e0.size hbx
  clear e2 e3 e4 e5 hx hf3 h1 h2 h3 g3 lx lf
  rw [← hd]
  have hround : ∀ (p kp : Option Addr) (c : Int) (w' : World) (R' : Ending → World → Prop), w'.heap[d + 1]? = some (.loop L) → Blk w' bf #[keepV bx] 270 → Blk w' bx #[.pointer kp] 35 →
      (∀ w'', w'.grownBy w'' (some bx) → Blk w'' bx #[.pointer (if ((c : Int) == 0) then p else kp)] 35 → R' (.returned (.bool true)) w'') → doCall Tryz.prog (.func (.yield (d + 1)) #[] #[]) #[.pointer p, .int .i64 c] w' R' := by
    intro p kp c w' R' hl hf hx hR'
    refine sh149_0_ok (by rw [hl, hL]) ?_
    unfold sh149_0
    refine ⟨_, hl, hst, ?_⟩
    have g1 := put_grown w' (d + 1) (.loop { L with state := .busy })
    refine ⟨_, _, _, (hf.grown g1 (ne_some (by omega))).cell (i := 0) rfl rfl, ?_⟩
    refine c_findkeep (hx.grown g1 (ne_some (by omega))) fun w1 g2 hx1 => retS_ret ⟨rfl, _, heap_grown g2 (put_heap hl) (ne_some (by omega)), ?_⟩
    rw [rec_back hst hpe]
    exact hR' _ (putf_back hl g2) (hx1.grown (put_grown _ _ _) (ne_some (by omega)))
  have hend : ∀ {w' : World} {kp : Option Addr} (Kf : List PanicEntry → World → Prop), Ext w w' → Blk w' bx #[.pointer kp] 35 → IsN w kp (lastR o t key (fun c => ((c : Int) == 0))) → w'.heap[d]? = some (.deferred (some [])) →
      doCall Tryz.prog (.func (.func 258) #[] #[.pointer (some (blk bx))]) #[] w' (retS (fun v22 w23 => ∃ (x21 : Option Addr), v22 = (.pointer x21 : Value) ∧ (
        doCall Tryz.prog (.func (.func 207) #[] #[]) #[.pointer x21] w23 (retS (fun v27 w28 => ∃ (x24 : Int), ∃ (x25 : Int), ∃ (x26 : Bool), v27 = (.tuple #[.agg #[.int .i64 x24, .int .i64 x25], .bool x26] : Value) ∧ (
        doAl (.cells #[.int .i64 0, .int .i64 0] 46) w28 (fun b29 w30 => doSt ((blk b29).add 0) (.int .i64 x24) w30 (fun w31 => doSt ((blk b29).add 1) (.int .i64 x25) w31 (fun w32 =>
        ∃ (x33 : Int), World.cell? w32 ((blk b29).add 1) = some (.int .i64 x33) ∧ (w32.heap[d]? = some (.deferred (some [])) ∧ (
        R (.returned (.tuple #[.int .i64 x33, .bool x26])) (w32.putObj d (.deferred none))))))))) Kf))) Kf) := by
    intro w' kp Kf E hb hN hd'
    refine do_callc Tryz.call258 (by rfl) (sh258_ok _ ?_)
    unfold sh258
    refine ⟨_, hb.cell (i := 0) rfl rfl, retS_ret ⟨_, rfl, ?_⟩⟩
    refine do_call Tryz.call207 (c_findpair (hN.ext E) fun w6 e6 => retS_ret ⟨_, _, _, rfl, ⟨?_⟩⟩)
    refine do_st2 (blk_alloc w6 _ _) fun w7 h7 g7 => ⟨_, h7.cell (i := 1) (add_blk _ _) rfl, ?_⟩
    have e7 : Ext w' w7 := e6.trans ((ext_alloc w6 _).st g7 (Nat.le_refl _))
    exact ⟨e7.heap hd', h _ ((E.trans e7).put (by omega) _)⟩
  have hW := fwayTo (o := o) (key := key) (sel := (fun c => ((c : Int) == 0))) (t := t) (pt := pt) hwx n1 n2 n3 n4 n5 hround
  refine callE_c Tryz.call259 (by rfl) (c_fway1 hW ht hk hA ⟨E5, ⟨none, .nil, hx5, rfl, rfl, fun _ => rfl⟩, hf5, ht5, ho5, hk5, hd5, hl5⟩ ?_ ?_ ?_)
  · rintro hno w' ⟨E6, ⟨kp, acc, h0, h1, h2, h2'⟩, h3, h4, h5, h6, h7, h8⟩
    refine rf_done h8 (by rw [hst]; simp) hpe fun ob => ?_
    have gob := put_grown w' (d + 1) ob
    refine hend _ (E6.put (by omega) _) (h0.grown gob (ne_some (by omega))) ?_ (heap_grown gob h7 (ne_some (by omega)))
    unfold lastR; rw [hno]; rw [h2' rfl] at h1; exact h1
  · rintro w' hyes ⟨E6, ⟨kp, acc, h0, h1, h2, h2'⟩, h3, h4, h5, h6, h7, h8⟩
    refine rf_done h8 (by rw [hst]; simp) hpe fun ob => ?_
    have gob := put_grown w' (d + 1) ob
    refine hend _ (E6.put (by omega) _) (h0.grown gob (ne_some (by omega))) ?_ (heap_grown gob h7 (ne_some (by omega)))
    unfold lastR; rw [hyes, cond_true, ← h2]; exact h1
  · rintro w' hyes ⟨E6, ⟨kp, h0, h1⟩, h7, h8⟩
    refine rf_done h8 (by rw [hst]; simp) hpe fun ob => ?_
    have gob := put_grown w' (d + 1) ob
    refine hend _ (E6.put (by omega) _) (h0.grown gob (ne_some (by omega))) ?_ (heap_grown gob h7 (ne_some (by omega)))
    unfold lastR; rw [hyes, cond_true]; exact h1
end Go.Proofs.YtlddfgfmkapoiaaGreat

namespace Go.Proofs.YtlddfgfmkapoiaaGreat
open Go Go.Sh Go.RowKit

theorem lastN_mem {o key : Int} (ho : isO o = true) (hk : In key) : ∀ {t acc : Tr}, AllK t → (t.pairs.map (·.1)).Pairwise (ltO o) → acc.nn = false → ((lastN o key (fun c => (c : Int) == 0) t acc).nn = true ↔ key ∈ t.pairs.map (·.1))
  | .nil, acc, _, _, ha => by simp [lastN, ha, Tr.pairs]
  | .node l k v g r, acc, hA, hp, ha => by
    have e0 : (Tr.node l k v g r).pairs = l.pairs ++ (k, v) :: r.pairs := rfl
    have hAl : AllK l := fun x hx => hA x (by rw [e0]; simp [hx])
    have hAk : In k := hA (k, v) (by rw [e0]; simp)
    have hAr : AllK r := fun x hx => hA x (by rw [e0]; simp [hx])
    have e : (Tr.node l k v g r).pairs.map (·.1) = l.pairs.map (·.1) ++ k :: r.pairs.map (·.1) := by
      show (l.pairs ++ (k, v) :: r.pairs).map (·.1) = _
      simp
    rw [e] at hp ⊢
    obtain ⟨hpl, hpr, hx⟩ := List.pairwise_append.1 hp
    obtain ⟨hkr, hpr⟩ := List.pairwise_cons.1 hpr
    rw [lastN]
    have hself := cmpI_self o key
    by_cases h1 : cmpI o key k < 0
    · have n1 : ¬ cmpI o key k = 0 := by omega
      rw [if_pos h1]
      simp only [beq_eq_false_iff_ne.2 n1, Bool.false_eq_true, if_false]
      rw [lastN_mem ho hk hAl hpl ha, List.mem_append, List.mem_cons]
      constructor
      · exact .inl
      · rintro (h | rfl | h)
        · exact h
        · omega
        · have : cmpI o key key < 0 := cmpI_trans h1 (hkr _ h)
          omega
    · rw [if_neg h1]
      by_cases h2 : cmpI o key k = 0
      · rw [if_pos h2]
        have hkk := cmpI_eq ho hk hAk h2
        simp only [h2, beq_self_eq_true, if_true]
        simp [hkk, Tr.nn]
      · rw [if_neg h2]
        simp only [beq_eq_false_iff_ne.2 h2, Bool.false_eq_true, if_false]
        have h3 : ltO o k key := cmpI_pos (by omega)
        rw [lastN_mem ho hk hAr hpr ha, List.mem_append, List.mem_cons]
        constructor
        · intro h; exact .inr (.inr h)
        · rintro (h | rfl | h)
          · have : cmpI o key key < 0 := cmpI_trans (hx _ h _ (by simp)) h3
            omega
          · omega
          · exact h
section
variable {c o : Int} {b bx : Nat} {px : Option Addr} {K : List Int} {w : World} {R : Ending → World → Prop}
theorem c_shas {key : Int} (ho : isO o = true) (hk : In key) (hx : SetU c o b px bx K w) (h : ∀ w', Ext w w' → R (.returned (.bool (decide (key ∈ K)))) w') : Calls Tryz.prog 78 #[.pointer (some (blk bx)), .int .i64 key] w R := by
  refine sh78_ok _ _ ?_
  unfold sh78
  obtain ⟨t, pt, x1, x2, x3⟩ := hx.ex
  refine ifB_f rfl ?_
  have d := ext_drew w
  refine ⟨⟨fun w' => Ext w w', d, _, rfl, _, fun w' e => by rw [add_zero']; exact (x1.ext e).cell (i := 1) (add_blk _ _) rfl, _, rfl, _, fun w' e => (x1.ext e).cell (i := 3) (add_blk _ _) rfl, ?_⟩⟩
  refine do_call Tryz.call149 (c_fget (x2.ext d) hk (fun x hx => (x3.inP x hx).1) fun w1 e1 => retS_ret ⟨_, _, rfl, ?_⟩)
  have e : (lastR o t key fun c => (c : Int) == 0).nn = decide (key ∈ K) := by
    rw [Bool.eq_iff_iff, decide_eq_true_iff]
    unfold lastR
    rw [ho, cond_true, lastN_mem ho hk (fun x hx => (x3.inP x hx).1) (by rw [x3.prs]; exact x3.asc) rfl, x3.prs]
  rw [e]
  exact h w1 (d.trans e1)
theorem c_scopy (hx : SetU c o b px bx K w) (h : ∀ by_ w', Ext w w' → by_ = w.heap.size → SetU c o b px by_ K w' → R (.returned (.pointer (some (blk by_)))) w') : Calls Tryz.prog 73 #[.pointer (some (blk bx))] w R := by
  refine sh73_ok _ ?_
  unfold sh73
  obtain ⟨t, pt, x1, x2, x3⟩ := hx.ex
  refine ifB_f rfl ⟨_, rfl, _, x1.cell (i := 0) (add_blk _ _) rfl, _, x1.cell (i := 1) (add_blk _ _) rfl, _, x1.cell (i := 2) (add_blk _ _) rfl, _, x1.cell (i := 3) (add_blk _ _) rfl, ⟨?_⟩⟩
  have e0 := ext_alloc w (.cells #[.pointer none, .int .u8 0, .pointer none, .pointer none] 174)
  refine do_st (blk_alloc w #[.pointer none, .int .u8 0, .pointer none, .pointer none] 174) (i := 0) (add_blk _ _) (by simp) fun w1 h1 g1 => ?_
  refine do_st h1 (i := 1) (add_blk _ _) (by simp) fun w2 h2 g2 => ?_
  refine do_st h2 (i := 2) (add_blk _ _) (by simp) fun w3 h3 g3 => ?_
  refine do_st h3 (i := 3) (add_blk _ _) (by simp) fun w4 h4 g4 => ?_
  have h4 : Blk w4 w.heap.size (setV b o px pt) 174 := h4
  have E := e0.st (grown_trans (grown_trans (grown_trans g1 g2) g3) g4) (Nat.le_refl _)
  exact h _ w4 E rfl ⟨t, pt, h4, x2.ext E, x3⟩
end
end Go.Proofs.YtlddfgfmkapoiaaGreat

namespace Go.Proofs.YtlddfgfmkapoiaaGreat
open Go Go.Sh
set_option maxRecDepth 100000 in
/-- joinery/joinerylaw40.SetCounts -/
def sh12 (code_1 : Int) (o_2 : Int) (l_p3 : Option Addr) (l_n4 : Nat) (l_c5 : Nat) (m_p6 : Option Addr) (m_n7 : Nat) (m_c8 : Nat) (R : Ending → World → Prop) (w : World) : Prop :=
 doCall Tryz.prog (.func (.func 15) #[] #[]) #[.int .u8 code_1] w (retS (fun v11 w12 => ∃ (x9 : Option Addr), ∃ (x10 : Bool), v11 = (.tuple #[.pointer x9, .bool x10] : Value) ∧ (
 let K15 : Bool → World → Prop := fun (x13 : Bool) (w14 : World) => 
 ifB x13 (
 let K18 : Bool → World → Prop := fun (x16 : Bool) (w17 : World) => 
 R (.returned (.bool x16)) w17
 doCall Tryz.prog (.func (.func 18) #[] #[]) #[.int .u8 code_1] w14 (retS (fun v20 w21 => ∃ (x19 : Bool), v20 = (.bool x19 : Value) ∧ (
 ifB (x10 == x19) (
 doCall Tryz.prog (.func (.func 62) #[] #[]) #[] w21 (retS (fun v23 w24 => ∃ (x22 : Bool), v23 = (.bool x22 : Value) ∧ (
 K18 x22 w24)) (fun ch w => Kfn R ch [] w))) (
 R (.returned (.bool false)) w21))) (fun ch w => Kfn R ch [] w))) (
 doCall Tryz.prog (.func (.func 63) #[] #[]) #[.pointer x9, .int .u8 o_2, .pointer none, .slice l_p3 l_n4 l_c5] w14 (retS (fun v27 w28 => ∃ (x25 : Option Addr), ∃ (x26 : Int), v27 = (.tuple #[.pointer x25, .int .i64 x26] : Value) ∧ (
 doCall Tryz.prog (.func (.func 63) #[] #[]) #[.pointer x9, .int .u8 o_2, .pointer none, .slice m_p6 m_n7 m_c8] w28 (retS (fun v31 w32 => ∃ (x29 : Option Addr), ∃ (x30 : Int), v31 = (.tuple #[.pointer x29, .int .i64 x30] : Value) ∧ (
 let K35 : Bool → World → Prop := fun (x33 : Bool) (w34 : World) => 
 ifB x33 (
 R (.returned (.bool false)) w34) (
 doCall Tryz.prog (.func (.func 64) #[] #[]) #[.pointer x25, .pointer x29] w34 (retS (fun v38 w39 => ∃ (x36 : Option Addr), ∃ (x37 : Int), v38 = (.tuple #[.pointer x36, .int .i64 x37] : Value) ∧ (
 doCall Tryz.prog (.func (.func 65) #[] #[]) #[.pointer x25, .pointer x29] w39 (retS (fun v42 w43 => ∃ (x40 : Option Addr), ∃ (x41 : Int), v42 = (.tuple #[.pointer x40, .int .i64 x41] : Value) ∧ (
 doCall Tryz.prog (.func (.func 66) #[] #[]) #[.pointer x25, .pointer x29] w43 (retS (fun v46 w47 => ∃ (x44 : Option Addr), ∃ (x45 : Int), v46 = (.tuple #[.pointer x44, .int .i64 x45] : Value) ∧ (
 let K50 : Bool → World → Prop := fun (x48 : Bool) (w49 : World) => 
 ifB x48 (
 R (.returned (.bool false)) w49) (
 doCall Tryz.prog (.func (.func 73) #[] #[]) #[.pointer x25] w49 (retS (fun v52 w53 => ∃ (x51 : Option Addr), v52 = (.pointer x51 : Value) ∧ (
 doCall Tryz.prog (.func (.func 74) #[] #[]) #[.pointer x51, .slice m_p6 m_n7 m_c8] w53 (retS (fun v56 w57 => ∃ (x54 : Int), ∃ (x55 : Int), v56 = (.tuple #[.int .i64 x54, .int .i64 x55] : Value) ∧ (
 doCall Tryz.prog (.func (.func 75) #[] #[]) #[.pointer x51, .slice l_p3 l_n4 l_c5] w57 (retS (fun v60 w61 => ∃ (x58 : Int), ∃ (x59 : Int), v60 = (.tuple #[.int .i64 x58, .int .i64 x59] : Value) ∧ (
 let K64 : Bool → World → Prop := fun (x62 : Bool) (w63 : World) => 
 ifB x62 (
 R (.returned (.bool false)) w63) (
 doCall Tryz.prog (.func (.func 76) #[] #[]) #[.pointer x36] w63 (retS (fun v68 w69 => ∃ (xp65 : Option Addr), ∃ (xn66 : Nat), ∃ (xc67 : Nat), v68 = (.slice xp65 xn66 xc67 : Value) ∧ (
 ∃ (I70 : List Value → World → Prop) (μ71 : List Value → World → Nat), I70 [.int .i64 0] w69 ∧ (∀ (q_74 : Int), ∀ (_j72 : Nat → Value) (w73 : World), I70 [.int .i64 q_74] w73 → (
 ifB (decide ((q_74 : Int) < ((xn66 : Nat) : Int))) (
 let K76 : World → Prop := fun (w75 : World) => 
 I70 [.int .i64 (IntKind.wrap .i64 (q_74 + 1))] w75 ∧ μ71 [.int .i64 (IntKind.wrap .i64 (q_74 + 1))] w75 < μ71 [.int .i64 q_74] w73
 doCall Tryz.prog (.func (.func 77) #[] #[]) #[.pointer x36, .int .i64 q_74] w73 (retS (fun v79 w80 => ∃ (x77 : Int), ∃ (x78 : Int), v79 = (.tuple #[.int .i64 x77, .int .i64 x78] : Value) ∧ (
 let K83 : Bool → World → Prop := fun (x81 : Bool) (w82 : World) => 
 ifB x81 (
 R (.returned (.bool false)) w82) (
 K76 w82)
 ifB ((x78 : Int) != 0) (
 R (.returned (.bool false)) w80) (
 doIx xp65 xn66 1 (q_74) (fun a84 =>
 ∃ (x85 : Int), World.cell? w80 a84 = some (.int .i64 x85) ∧ (
 ifB ((x77 : Int) != x85) (
 R (.returned (.bool false)) w80) (
 doCall Tryz.prog (.func (.func 78) #[] #[]) #[.pointer x36, .int .i64 x77] w80 (retS (fun v87 w88 => ∃ (x86 : Bool), v87 = (.bool x86 : Value) ∧ (
 ifB (!x86) (
 R (.returned (.bool false)) w88) (
 ifB (decide ((q_74 : Int) > 0)) (
 doIx xp65 xn66 1 (IntKind.wrap .i64 (q_74 - 1)) (fun a89 =>
 ∃ (x90 : Int), World.cell? w88 a89 = some (.int .i64 x90) ∧ (
 doCall Tryz.prog (.func (.func 79) #[] #[]) #[.int .u8 o_2, .int .i64 x90, .int .i64 x77] w88 (retS (fun v92 w93 => ∃ (x91 : Int), v92 = (.int .i64 x91 : Value) ∧ (
 K83 (decide ((x91 : Int) ≥ 0)) w93)) (fun ch w => Kfn R ch [] w))))) (
 K76 w88)))) (fun ch w => Kfn R ch [] w)))))))) (fun ch w => Kfn R ch [] w))) (
 let K96 : Bool → World → Prop := fun (x94 : Bool) (w95 : World) => 
 R (.returned (.bool x94)) w95
 doCall Tryz.prog (.func (.func 72) #[] #[]) #[.pointer x36] w73 (retS (fun v98 w99 => ∃ (x97 : Int), v98 = (.int .i64 x97 : Value) ∧ (
 ifB ((((xn66 : Nat) : Int) : Int) == x97) (
 doCall Tryz.prog (.func (.func 62) #[] #[]) #[] w99 (retS (fun v101 w102 => ∃ (x100 : Bool), v101 = (.bool x100 : Value) ∧ (
 K96 x100 w102)) (fun ch w => Kfn R ch [] w))) (
 R (.returned (.bool false)) w99))) (fun ch w => Kfn R ch [] w))))))) (fun ch w => Kfn R ch [] w)))
 ifB ((x55 : Int) != 0) (
 R (.returned (.bool false)) w61) (
 ifB ((x59 : Int) != 0) (
 R (.returned (.bool false)) w61) (
 doCall Tryz.prog (.func (.func 72) #[] #[]) #[.pointer x36] w61 (retS (fun v104 w105 => ∃ (x103 : Int), v104 = (.int .i64 x103 : Value) ∧ (
 doCall Tryz.prog (.func (.func 72) #[] #[]) #[.pointer x25] w105 (retS (fun v107 w108 => ∃ (x106 : Int), v107 = (.int .i64 x106 : Value) ∧ (
 ifB ((x54 : Int) != (IntKind.wrap .i64 (x103 - x106))) (
 R (.returned (.bool false)) w108) (
 doCall Tryz.prog (.func (.func 72) #[] #[]) #[.pointer x25] w108 (retS (fun v110 w111 => ∃ (x109 : Int), v110 = (.int .i64 x109 : Value) ∧ (
 ifB ((x58 : Int) != x109) (
 R (.returned (.bool false)) w111) (
 doCall Tryz.prog (.func (.func 72) #[] #[]) #[.pointer x51] w111 (retS (fun v113 w114 => ∃ (x112 : Int), v113 = (.int .i64 x112 : Value) ∧ (
 doCall Tryz.prog (.func (.func 72) #[] #[]) #[.pointer x36] w114 (retS (fun v116 w117 => ∃ (x115 : Int), v116 = (.int .i64 x115 : Value) ∧ (
 doCall Tryz.prog (.func (.func 72) #[] #[]) #[.pointer x25] w117 (retS (fun v119 w120 => ∃ (x118 : Int), v119 = (.int .i64 x118 : Value) ∧ (
 K64 ((x112 : Int) != (IntKind.wrap .i64 (x115 - x118))) w120)) (fun ch w => Kfn R ch [] w)))) (fun ch w => Kfn R ch [] w)))) (fun ch w => Kfn R ch [] w))))) (fun ch w => Kfn R ch [] w))))) (fun ch w => Kfn R ch [] w)))) (fun ch w => Kfn R ch [] w)))))) (fun ch w => Kfn R ch [] w)))) (fun ch w => Kfn R ch [] w)))) (fun ch w => Kfn R ch [] w)))
 ifB ((x37 : Int) != 0) (
 R (.returned (.bool false)) w47) (
 ifB ((x41 : Int) != 0) (
 R (.returned (.bool false)) w47) (
 ifB ((x45 : Int) != 0) (
 R (.returned (.bool false)) w47) (
 doCall Tryz.prog (.func (.func 72) #[] #[]) #[.pointer x36] w47 (retS (fun v122 w123 => ∃ (x121 : Int), v122 = (.int .i64 x121 : Value) ∧ (
 doCall Tryz.prog (.func (.func 72) #[] #[]) #[.pointer x40] w123 (retS (fun v125 w126 => ∃ (x124 : Int), v125 = (.int .i64 x124 : Value) ∧ (
 doCall Tryz.prog (.func (.func 72) #[] #[]) #[.pointer x25] w126 (retS (fun v128 w129 => ∃ (x127 : Int), v128 = (.int .i64 x127 : Value) ∧ (
 doCall Tryz.prog (.func (.func 72) #[] #[]) #[.pointer x29] w129 (retS (fun v131 w132 => ∃ (x130 : Int), v131 = (.int .i64 x130 : Value) ∧ (
 ifB (((IntKind.wrap .i64 (x121 + x124)) : Int) != (IntKind.wrap .i64 (x127 + x130))) (
 R (.returned (.bool false)) w132) (
 doCall Tryz.prog (.func (.func 72) #[] #[]) #[.pointer x44] w132 (retS (fun v134 w135 => ∃ (x133 : Int), v134 = (.int .i64 x133 : Value) ∧ (
 doCall Tryz.prog (.func (.func 72) #[] #[]) #[.pointer x40] w135 (retS (fun v137 w138 => ∃ (x136 : Int), v137 = (.int .i64 x136 : Value) ∧ (
 doCall Tryz.prog (.func (.func 72) #[] #[]) #[.pointer x25] w138 (retS (fun v140 w141 => ∃ (x139 : Int), v140 = (.int .i64 x139 : Value) ∧ (
 K50 (((IntKind.wrap .i64 (x133 + x136)) : Int) != x139) w141)) (fun ch w => Kfn R ch [] w)))) (fun ch w => Kfn R ch [] w)))) (fun ch w => Kfn R ch [] w))))) (fun ch w => Kfn R ch [] w)))) (fun ch w => Kfn R ch [] w)))) (fun ch w => Kfn R ch [] w)))) (fun ch w => Kfn R ch [] w))))))) (fun ch w => Kfn R ch [] w)))) (fun ch w => Kfn R ch [] w)))) (fun ch w => Kfn R ch [] w)))
 ifB ((x26 : Int) != 0) (
 R (.returned (.bool false)) w32) (
 ifB ((x30 : Int) != 0) (
 R (.returned (.bool false)) w32) (
 ifB ((x25).isNone) (
 R (.returned (.bool false)) w32) (
 K35 ((x29).isNone) w32))))) (fun ch w => Kfn R ch [] w)))) (fun ch w => Kfn R ch [] w)))
 ifB (decide ((((l_n4 : Nat) : Int) : Int) > 80)) (
 K15 true w12) (
 ifB (decide ((((m_n7 : Nat) : Int) : Int) > 80)) (
 K15 true w12) (
 ifB (!x10) (
 K15 true w12) (
 doCall Tryz.prog (.func (.func 16) #[] #[]) #[.int .u8 o_2] w12 (retS (fun v143 w144 => ∃ (x142 : Bool), v143 = (.bool x142 : Value) ∧ (
 K15 (!x142) w144)) (fun ch w => Kfn R ch [] w))))))) (fun ch w => Kfn R ch [] w))
set_option maxRecDepth 100000 in
theorem sh12_ok (code_1 : Int) (o_2 : Int) (l_p3 : Option Addr) (l_n4 : Nat) (l_c5 : Nat) (m_p6 : Option Addr) (m_n7 : Nat) (m_c8 : Nat) {R : Ending → World → Prop} {w : World} : sh12 code_1 o_2 l_p3 l_n4 l_c5 m_p6 m_n7 m_c8 R w → Calls Tryz.prog 12 #[.int .u8 code_1, .int .u8 o_2, .slice l_p3 l_n4 l_c5, .slice m_p6 m_n7 m_c8] w R :=
  calls_of_eq (ann := fun i => if i = 0 then [(27, .int .i64 0)] else []) (fn := Tryz.f12) (c := bodyOf Tryz.f12) (args := #[.int .u8 code_1, .int .u8 o_2, .slice l_p3 l_n4 l_c5, .slice m_p6 m_n7 m_c8]) 400 follows_mixed Tryz.func12 (by kernel_rfl) (by kernel_rfl)
end Go.Proofs.YtlddfgfmkapoiaaGreat

namespace Go.Proofs.YtlddfgfmkapoiaaGreat
open Go Go.Sh Go.RowKit

set_option maxRecDepth 20000 in
set_option maxHeartbeats 1600000 in
theorem c_setCounts {code o : Int} {l m : List Int} {q1 q2 : Option Addr} {n1 c1 n2 c2 : Nat} {w : World} {R : Ending → World → Prop} (hl : Cs w q1 (ints l)) (hn1 : l.length = n1) (iL : ∀ k ∈ l, In k) (hm : Cs w q2 (ints m)) (hn2 : m.length = n2) (iM : ∀ k ∈ m, In k)
    (h : ∀ w', Ext w w' → R (.returned (.bool true)) w') : Calls Tryz.prog 12 #[.int .u8 code, .int .u8 o, .slice q1 n1 c1, .slice q2 n2 c2] w R := by
  refine sh12_ok _ _ _ _ _ _ _ _ ?_
  unfold sh12
  have hidle : ∀ w2, Ext w w2 → doCall Tryz.prog (.func (.func 18) #[] #[]) #[.int .u8 code] w2 (retS (fun v23 w24 => ∃ (x22 : Bool), v23 = (.bool x22 : Value) ∧ (
 ifB (isS code == x22) (
 doCall Tryz.prog (.func (.func 62) #[] #[]) #[] w24 (retS (fun v26 w27 => ∃ (x25 : Bool), v26 = (.bool x25 : Value) ∧ (
 R (.returned (.bool x25)) w27)) (fun ch w => Kfn R ch [] w))) (
 R (.returned (.bool false)) w24))) (fun ch w => Kfn R ch [] w)) := fun w2 e2 => by
    refine do_call Tryz.call18 (c_r22is (retS_ret ⟨_, rfl, ifB_t (by simp) ?_⟩))
    exact do_call Tryz.call62 (c_alive40 fun w3 e3 => retS_ret ⟨_, rfl, h _ (e2.trans e3)⟩)
  refine do_call Tryz.call15 (c_l22of (fun hc => retS_ret ⟨_, _, rfl, ?_⟩) fun hsc b w1 e1 hbw hs1 => retS_ret ⟨_, _, rfl, ?_⟩)
  · intro K18
    have hK : K18 true w := by
      simp -zeta -zetaHave only [K18]
      have := hidle w (ext_refl w)
      rw [hc] at this
      exact ifB_t rfl this
    refine ifB_intro (fun _ => hK) fun _ => ifB_intro (fun _ => hK) fun _ => ifB_t rfl hK
  intro K18
  have hK : ∀ w2, Ext w w2 → K18 true w2 := fun w2 e2 => by
    simp -zeta -zetaHave only [K18]
    have := hidle w2 e2
    rw [hsc] at this
    exact ifB_t rfl this
  refine ifB_intro (fun _ => hK _ e1) fun z1 => ifB_intro (fun _ => hK _ e1) fun z2 => ifB_f rfl ?_
  have z1 : n1 ≤ 80 := by have := of_decide_eq_false z1; omega
  have z2 : n2 ≤ 80 := by have := of_decide_eq_false z2; omega
  refine do_call Tryz.call16 (c_ris (retS_ret ⟨_, rfl, ?_⟩))
  cases ho : isO o with
  | false => exact hK _ e1
  | true =>
  simp -zeta -zetaHave only [K18]
  clear hK
  refine ifB_f rfl ?_
  have hb : w.heap.size ≤ b := by omega
  have nU : InU [] := fun x hx => by cases hx
  refine do_call Tryz.call63 (c_setnew ho hs1 (isD_nil _) nU (Nat.zero_le _) (hl.ext e1) hn1 (by omega) iL fun bx X w2 g2 hs2 _ _ hx mx lx => retS_ret ⟨_, _, rfl, ?_⟩)
  have E2 := Ext.gs e1 (gs_none g2) hb
  have S2 : Ss code o b [(bx, X)] w2 := Ss.nil.cons hx
  refine do_call Tryz.call63 (c_setnew ho hs2 (isD_nil _) nU (Nat.zero_le _) (hm.ext E2) hn2 (by omega) iM fun by_ Y w3 g3 hs3 _ _ hy my ly => retS_ret ⟨_, _, rfl, ?_⟩)
  have E3 := Ext.gs E2 (gs_none g3) hb
  have S3 := (S2.gs hs2 (gs_none g3)).cons hy
  intro K35
  refine ifB_f rfl (ifB_f rfl (ifB_f rfl ?_))
  simp -zeta -zetaHave only [K35]
  refine ifB_f rfl ?_
  refine do_call Tryz.call64 (c_sunion ho hs3 hs3 (S3.get (K := X) (by simp)) (S3.get (K := Y) (by simp)) (by omega) fun bu U w4 g4 hs4 hbu hu mu lu => retS_ret ⟨_, _, rfl, ?_⟩)
  have E4 := Ext.gs E3 g4 hb
  have S4 := (S3.gs hs3 g4).cons hu
  refine do_call Tryz.call65 (c_smeet ho hs4 hs4 (S4.get (K := X) (by simp)) (S4.get (K := Y) (by simp)) (by omega) fun bw W w5 g5 hs5 hbw5 hw mw lw => retS_ret ⟨_, _, rfl, ?_⟩)
  have E5 := Ext.gs E4 g5 hb
  have S5 := (S4.gs hs4 g5).cons hw
  refine do_call Tryz.call66 (c_sless ho hs5 hs5 (S5.get (K := X) (by simp)) (S5.get (K := Y) (by simp)) (by omega) fun bd D w6 g6 hs6 hbd hd md ld => retS_ret ⟨_, _, rfl, ?_⟩)
  have E6 := Ext.gs E5 g6 hb
  have S6 := (S5.gs hs5 g6).cons hd
  obtain ⟨D0, aD0, mD0, lD0⟩ := len_union hx.asc hu.asc mu
  have q1 : D0.length + W.length = Y.length := len_less (L := X) hy.asc aD0 hw.asc mD0 fun k => by rw [mw]; exact and_comm
  have q2 : D.length + W.length = X.length := len_less (L := Y) hx.asc hd.asc hw.asc md mw
  intro K50
  refine ifB_f rfl (ifB_f rfl (ifB_f rfl ?_))
  refine do_call Tryz.call72 (c_slen (S6.get (K := U) (by simp)) fun w7 e7 => retS_ret ⟨_, rfl, ?_⟩)
  refine do_call Tryz.call72 (c_slen ((S6.get (K := W) (by simp)).ext e7) fun w8 e8 => retS_ret ⟨_, rfl, ?_⟩)
  have e68 := e7.trans e8
  refine do_call Tryz.call72 (c_slen ((S6.get (K := X) (by simp)).ext e68) fun w9 e9 => retS_ret ⟨_, rfl, ?_⟩)
  have e69 := e68.trans e9
  refine do_call Tryz.call72 (c_slen ((S6.get (K := Y) (by simp)).ext e69) fun w10 e10 => retS_ret ⟨_, rfl, ?_⟩)
  have e610 := e69.trans e10
  refine ifB_f (by rw [wrap_of (x := (U.length : Int) + W.length) (by omega) (by omega), wrap_of (x := (X.length : Int) + Y.length) (by omega) (by omega)]; simp; omega) ?_
  refine do_call Tryz.call72 (c_slen ((S6.get (K := D) (by simp)).ext e610) fun w11 e11 => retS_ret ⟨_, rfl, ?_⟩)
  have e611 := e610.trans e11
  refine do_call Tryz.call72 (c_slen ((S6.get (K := W) (by simp)).ext e611) fun w12 e12 => retS_ret ⟨_, rfl, ?_⟩)
  have e612 := e611.trans e12
  refine do_call Tryz.call72 (c_slen ((S6.get (K := X) (by simp)).ext e612) fun w13 e13 => retS_ret ⟨_, rfl, ?_⟩)
  have e613 := e612.trans e13
  simp -zeta -zetaHave only [K50]
  refine ifB_f (by rw [wrap_of (x := (D.length : Int) + W.length) (by omega) (by omega)]; simp; omega) ?_
  -- a copy
  have E13 := E6.trans e613
  have S13 := S6.ext e613
  have hs13 := hs6.ext e613
  refine do_call Tryz.call73 (c_scopy (S13.get (K := X) (by simp)) fun bc w14 e14 hbc hc => retS_ret ⟨_, rfl, ?_⟩)
  have E14 := E13.trans e14
  have S14 := S13.ext e14
  have hs14 := hs13.ext e14
  have hbc' : bc ∉ b :: blksD none := by
    have := hs13.lt
    simp [blksD]; omega
  have lt13 : ∀ {bb : Nat} {KK : List Int}, SetU code o b none bb KK w13 → bb ∉ bc :: b :: blksD none := fun {bb KK} hq hm => by
    obtain ⟨_, _, x1, _⟩ := hq.ex
    have h1 := x1.lt
    have h2 := hs13.ne x1 (by decide)
    simp [blksD] at hm
    omega
  have oth14 : Oth (bc :: b :: blksD none) w14 := fun k hk => by
    simp [blksD] at hk
    rcases hk with rfl | rfl
    · obtain ⟨_, _, x1, _⟩ := hc.ex
      exact oth_blk x1 (by decide)
    · exact hs14.oth
  have E0 : ∀ w', Gd (bc :: b :: blksD none) w14 w' → Ext w w' := fun w' g => Ext.gd E14 g fun k hk => by
    simp [blksD] at hk
    have := E13.size
    omega
  refine do_call Tryz.call74 (c_sadd ho hs14 (isD_nil _) nU (Nat.zero_le _) hc hbc' (Nat.zero_le _) (hm.ext E14) hn2 (by omega) iM (by omega) fun M w15 g15 hs15 _ hc15 mm lm => retS_ret ⟨_, _, rfl, ?_⟩)
  have E15 := E0 _ g15
  refine do_call Tryz.call75 (c_sdrop ho hs15 (isD_nil _) nU (Nat.zero_le _) hc15 hbc' (Nat.zero_le _) (hl.ext E15) hn1 (by omega) iL (by omega) fun N w16 g16 hs16 _ hc16 mn ln => retS_ret ⟨_, _, rfl, ?_⟩)
  have G16 := g15.trans g16
  have E16 := E0 _ G16
  have hu16 : SetU code o b none bu U w16 := ((S13.get (K := U) (by simp)).ext e14).gd oth14 G16 (lt13 (S13.get (K := U) (by simp)))
  have hx16 : SetU code o b none bx X w16 := ((S13.get (K := X) (by simp)).ext e14).gd oth14 G16 (lt13 (S13.get (K := X) (by simp)))
  have qM : M = U := keys_ext hc15.asc hu.asc fun k => by rw [mm, mu, my]
  have q3 : N.length + X.length = M.length := len_less (L := l) hc15.asc hc16.asc hx.asc mn fun k => by
    rw [mx, mm, mx]
    constructor
    · intro a; exact ⟨.inl a, a⟩
    · exact fun a => a.2
  subst qM
  intro K64
  refine ifB_f rfl (ifB_f rfl ?_)
  refine do_call Tryz.call72 (c_slen hu16 fun w17 e17 => retS_ret ⟨_, rfl, ?_⟩)
  refine do_call Tryz.call72 (c_slen (hx16.ext e17) fun w18 e18 => retS_ret ⟨_, rfl, ?_⟩)
  have e1618 := e17.trans e18
  refine ifB_f (by rw [wrap_of (x := (M.length : Int) - X.length) (by omega) (by omega)]; simp) ?_
  refine do_call Tryz.call72 (c_slen (hx16.ext e1618) fun w19 e19 => retS_ret ⟨_, rfl, ifB_f (by simp; omega) ?_⟩)
  have e1619 := e1618.trans e19
  refine do_call Tryz.call72 (c_slen (hc16.ext e1619) fun w20 e20 => retS_ret ⟨_, rfl, ?_⟩)
  have e1620 := e1619.trans e20
  refine do_call Tryz.call72 (c_slen (hu16.ext e1620) fun w21 e21 => retS_ret ⟨_, rfl, ?_⟩)
  have e1621 := e1620.trans e21
  refine do_call Tryz.call72 (c_slen (hx16.ext e1621) fun w22 e22 => retS_ret ⟨_, rfl, ?_⟩)
  have e1622 := e1621.trans e22
  simp -zeta -zetaHave only [K64]
  refine ifB_f (by rw [wrap_of (x := (M.length : Int) - X.length) (by omega) (by omega)]; simp; omega) ?_
  have E22 := E16.trans e1622
  have hu22 := hu16.ext e1622
  refine do_call Tryz.call76 (c_skeys hu22 (by omega) fun p3 n3 c3 w23 e23 o23 => retS_ret ⟨_, _, _, rfl, ?_⟩)
  have hn3 := ownK_len o23
  have E23 := E22.trans e23
  have iU : ∀ k ∈ M, In k := fun k hk => ((mu k).1 hk).elim (fun a => iL k ((mx k).1 a)) fun a => iM k ((my k).1 a)
  refine ⟨fun vs w' => ∃ k : Nat, vs = [.int .i64 k] ∧ k ≤ n3 ∧ Ext w23 w', fun vs _ => n3 - (intOf (vs.getD 0 undef)).toNat, ⟨0, rfl, by omega, ext_refl _⟩, ?_⟩
  rintro i _ w24 ⟨k, hv, hkn, E⟩
  simp only [List.cons.injEq, Value.int.injEq, true_and, and_true] at hv
  subst hv
  have hu24 := hu22.ext (e23.trans E)
  refine ifB_intro (fun hlt => ?_) fun hge => ?_
  · have hlt : k < n3 := by have := of_decide_eq_true hlt; omega
    have hkl : k < M.length := by omega
    have e : ∀ j : Nat, (hj : j < M.length) → M.getD (j : Int).toNat 0 = M[j] := fun j hj => by rw [Int.toNat_natCast, List.getD_eq_getElem?_getD, List.getElem?_eq_getElem hj]; rfl
    intro K76
    have hK76 : ∀ w', Ext w23 w' → K76 w' := fun w' E' => by
      refine ⟨⟨k + 1, by rw [wrap_succ hlt (by omega)], by omega, E'⟩, by rw [wrap_succ hlt (by omega)]; simp [intOf]; omega⟩
    refine do_call Tryz.call77 (c_sat hu24 (by omega) fun w25 e25 => retS_ret ⟨_, _, rfl, ?_⟩)
    have hik : 0 ≤ (k : Int) ∧ (k : Int) < (M.length : Int) := by omega
    rw [if_pos hik, if_pos hik, e k hkl]
    have E25 := E.trans e25
    intro K83
    refine ifB_f rfl ?_
    refine ix_int ((Cs.of_row o23).ext E25) hn3 (by omega) (by omega) fun a ha hc => ⟨_, hc, ?_⟩
    rw [e k hkl]
    refine ifB_f (by simp) ?_
    refine do_call Tryz.call78 (c_shas ho (iU _ (List.getElem_mem hkl)) (hu24.ext e25) fun w26 e26 => retS_ret ⟨_, rfl, ifB_f (by simp) ?_⟩)
    have E26 := E25.trans e26
    refine ifB_intro (fun hpos => ?_) fun _ => hK76 _ E26
    have hpos : 0 < k := by have := of_decide_eq_true hpos; omega
    have ek : IntKind.wrap .i64 ((k : Int) - 1) = ((k - 1 : Nat) : Int) := by rw [wrap_of (by omega) (by omega)]; omega
    rw [ek]
    refine ix_int ((Cs.of_row o23).ext E26) hn3 (by omega) (by omega) fun a ha hc => ⟨_, hc, ?_⟩
    rw [e (k - 1) (by omega)]
    have hlt2 : cmpI o (M[k - 1]'(by omega)) M[k] < 0 := List.pairwise_iff_getElem.1 hu.asc (k - 1) k (by omega) hkl (by omega)
    refine do_call Tryz.call79 (c_rcompare (iU _ (List.getElem_mem (by omega))) (iU _ (List.getElem_mem hkl)) (retS_ret ⟨_, rfl, ?_⟩))
    simp -zeta -zetaHave only [K83]
    exact ifB_f (by simp; omega) (hK76 _ E26)
  · have hge : k = n3 := by have := of_decide_eq_false hge; omega
    intro K96
    refine do_call Tryz.call72 (c_slen hu24 fun w25 e25 => retS_ret ⟨_, rfl, ifB_t (by simp; omega) ?_⟩)
    exact do_call Tryz.call62 (c_alive40 fun w26 e26 => retS_ret ⟨_, rfl, h _ (((E23.trans E).trans e25).trans e26)⟩)
end Go.Proofs.YtlddfgfmkapoiaaGreat

