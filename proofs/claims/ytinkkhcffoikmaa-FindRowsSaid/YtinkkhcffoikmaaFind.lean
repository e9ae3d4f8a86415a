/-
  What the functions of find do.
-/
import Derived.Test.YtinkkhcffoikmaaRank2
namespace Go.Proofs.Ytinkkhcffoikmaa
open Go Go.Sh Go.RowKit

/-- the last node on the way that is picked -/
def lastN (o key : Int) (sel : Int → Bool) : Tr → Tr → Tr
  | .nil, acc => acc
  | .node l k v g r, acc =>
    let acc' := if sel (cmpI o key k) then .node l k v g r else acc
    if cmpI o key k < 0 then lastN o key sel l acc' else if cmpI o key k = 0 then acc' else lastN o key sel r acc'
def lastR (o : Int) (t : Tr) (key : Int) (sel : Int → Bool) : Tr := cond (isO o) (lastN o key sel t .nil) .nil
theorem lastN_next {o key : Int} {sel : Int → Bool} {s acc : Tr} (h : s.nn = true) : lastN o key sel s acc =
    if cmpI o key s.key = 0 then (if sel (cmpI o key s.key) then s else acc) else lastN o key sel (s.next o key) (if sel (cmpI o key s.key) then s else acc) := by
  cases s with
  | nil => cases h
  | node l k v g r =>
    show lastN o key sel (.node l k v g r) acc = if cmpI o key k = 0 then (if sel (cmpI o key k) then .node l k v g r else acc) else lastN o key sel (if cmpI o key k < 0 then l else r) (if sel (cmpI o key k) then .node l k v g r else acc)
    rw [lastN]
    generalize cmpI o key k = c
    by_cases h1 : c < 0
    · rw [if_pos h1, if_neg (show ¬ c = 0 by omega), if_pos h1]
    · rw [if_neg h1, if_neg h1]
set_option maxRecDepth 20000 in
theorem c_fway1 {o key : Int} {t : Tr} {pt : Option Addr} {bt bo bk : Nat} {f : Fn} {fx fc : Array Value} {St : Tr → World → Prop} {Fin : World → Prop} {w0 w : World} {R : Ending → World → Prop}
    (hy : WayTo o key w0 pt t bt bo bk (.func f fx fc) St Fin) (ht : IsN w0 pt t) (hk : In key) (hA : AllK t) (h0 : St t w)
    (hno : isO o = false → ∀ w', St t w' → R (.returned (.tuple #[])) w') (hnil : ∀ w', isO o = true → St .nil w' → R (.returned (.tuple #[])) w') (hfin : ∀ w', isO o = true → Fin w' → R (.returned (.tuple #[])) w') :
    Calls Try.prog 119 #[.func f fx fc, .pointer (some (blk bo)), .pointer (some (blk bt)), .pointer (some (blk bk))] w R := by
  refine sh119_ok _ _ _ _ _ _ ?_
  unfold sh119
  refine ⟨_, (hy.blks _ _ h0).2.2.1.cell (i := 0) rfl rfl, ?_⟩
  refine do_call Try.call94 (c_name fun w1 e1 => retS_ret ⟨_, rfl, ?_⟩)
  rw [name_empty]
  have hs1 := hy.ext _ _ _ h0 e1
  cases ho : isO o
  · exact ifB_t rfl (hno ho _ hs1)
  refine ifB_f rfl ?_
  refine ⟨_, (hy.blks _ _ hs1).2.1.cell (i := 0) rfl rfl, ?_⟩
  refine ⟨fun vs w' => ∃ (s : Tr) (p : Option Addr), vs = [.pointer p] ∧ IsN w0 p s ∧ St s w' ∧ AllK s ∧ s.size ≤ t.size, fun vs w' => szAt (vs.getD 0 undef) w', ⟨t, pt, rfl, ht, hs1, hA, Nat.le_refl _⟩, ?_⟩
  rintro p _ w2 ⟨s, p', hv, hN0, hs, hA, hsz⟩
  simp only [List.cons.injEq, Value.pointer.injEq, and_true] at hv
  subst hv
  have hN : IsN w2 p s := hN0.ext (hy.blks _ _ hs).1
  have hnone := hN.isNone
  refine ifB_intro (fun hp => ?_) fun hp => ?_
  rotate_left
  · have hsn : s.nn = false := by rw [hnone] at hp; simpa using hp
    cases s with
    | nil => exact hnil _ ho hs
    | node l k v g r => cases hsn
  have hsn : s.nn = true := by rw [hnone] at hp; simpa using hp
  refine ⟨⟨fun w' => Ext w2 w', ext_drew _, _, fun w' e => ((hy.blks _ _ hs).2.2.1.ext e).cell (i := 0) rfl rfl, _, fun w' e => ((hy.blks _ _ hs).2.2.2.ext e).cell (i := 0) rfl rfl, ?_⟩⟩
  refine do_call Try.call76 (c_key (hN.ext (ext_drew _)) fun w3 e3 => retS_ret ⟨_, rfl, (ext_drew _).trans e3, ?_⟩)
  have hsk : In s.key := by
    cases s with
    | nil => cases hsn
    | node l k v g r => exact hA.node.2.1
  refine do_call Try.call93 (c_compare hk hsk fun w4 e4 => retS_ret ⟨_, rfl, ?_⟩)
  have E4 : Ext w2 w4 := (ext_drew w2).trans (e3.trans e4)
  have hs4 := hy.ext _ _ _ hs E4
  refine hy.yields s p w4 hsn hA hsz hN0 hs4 _ fun w5 h5 => retS_ret ⟨_, rfl, ifB_f rfl ?_⟩
  refine ifB_intro (fun h1 => ?_) fun h1 => ?_
  · have h1 : cmpI o key s.key = 0 := by simpa using h1
    rw [if_pos h1] at h5
    exact hfin _ ho h5
  · have h1 : cmpI o key s.key ≠ 0 := by simpa using h1
    rw [if_neg h1] at h5
    have hlt := Tr.next_lt hsn o key
    refine ifB_intro (fun h2 => ?_) fun h2 => ?_
    · have h2 := of_decide_eq_true h2
      have hnx : s.next o key = s.left := by unfold Tr.next; rw [if_pos h2]
      rw [hnx] at h5 hlt
      refine do_call Try.call73 (c_left0 hN0 (hy.blks _ _ h5).1 fun ql hql => retS_ret ⟨_, rfl, ⟨s.left, ql, rfl, hql, h5, hA.left, by omega⟩, ?_⟩)
      show szAt (.pointer ql) w5 < szAt (.pointer p) w2
      rw [szAt_of (hql.ext (hy.blks _ _ h5).1), szAt_of hN]; exact hlt
    · have h2 := of_decide_eq_false h2
      have hnx : s.next o key = s.right := by unfold Tr.next; rw [if_neg h2]
      rw [hnx] at h5 hlt
      refine do_call Try.call78 (c_right0 hN0 (hy.blks _ _ h5).1 fun ql hql => retS_ret ⟨_, rfl, ⟨s.right, ql, rfl, hql, h5, hA.right, by omega⟩, ?_⟩)
      show szAt (.pointer ql) w5 < szAt (.pointer p) w2
      rw [szAt_of (hql.ext (hy.blks _ _ h5).1), szAt_of hN]; exact hlt
theorem c_fway {o key : Int} {pt : Option Addr} {w : World} {R : Ending → World → Prop} (h : ∀ bt bo bk w', Ext w w' → w.heap.size ≤ bt → w.heap.size ≤ bo → w.heap.size ≤ bk → Blk w' bt #[.pointer pt] 27 → Blk w' bo #[.int .u8 o] 5 → Blk w' bk #[.int .i64 key] 2 →
      R (.returned (.func (.func 119) #[] #[.pointer (some (blk bo)), .pointer (some (blk bt)), .pointer (some (blk bk))])) w') : Calls Try.prog 85 #[.int .u8 o, .pointer pt, .int .i64 key] w R := by
  refine sh85_ok _ _ _ ?_
  unfold sh85
  refine ⟨⟨⟨?_⟩⟩⟩
  have e1 := ext_alloc w (.cells #[.int .u8 o] 5)
  have h1 := blk_alloc w #[.int .u8 o] 5
  generalize hb1 : w.heap.size = b1 at *
  generalize w.alloc (.cells #[.int .u8 o] 5) = w1 at *
  have e2 := ext_alloc w1 (.cells #[.pointer pt] 27)
  have h2 := blk_alloc w1 #[.pointer pt] 27
  have h1' := h1.ext e2
  have l1 := h1.lt
  generalize hb2 : w1.heap.size = b2 at *
  generalize w1.alloc (.cells #[.pointer pt] 27) = w2 at *
  have e3 := ext_alloc w2 (.cells #[.int .i64 key] 2)
  have h3 := blk_alloc w2 #[.int .i64 key] 2
  have l2 := h2.lt
  exact h _ _ _ _ ((e1.trans e2).trans e3) (by omega) (by omega) (by omega) (h2.ext e3) (h1'.ext e3) h3
/-- the function that keeps -/
abbrev keepV (bx : Nat) : Value := .func (.func 117) #[] #[.pointer (some (blk bx))]
theorem c_last {w : World} {R : Ending → World → Prop} (h : ∀ b w', Ext w w' → w.heap.size ≤ b → Blk w' b #[.pointer none] 27 → R (.returned (.tuple #[keepV b, .func (.func 118) #[] #[.pointer (some (blk b))]])) w') :
    Calls Try.prog 84 #[] w R := by
  refine sh84_ok ?_
  unfold sh84
  exact ⟨h _ _ (ext_alloc w _) (Nat.le_refl _) (blk_alloc w _ _)⟩
theorem c_keep {p kp : Option Addr} {is : Bool} {bx : Nat} {w : World} {R : Ending → World → Prop} (hb : Blk w bx #[.pointer kp] 27) (h : ∀ w', w.grownBy w' (some bx) → Blk w' bx #[.pointer (if is then p else kp)] 27 → R (.returned (.tuple #[])) w') :
    doCall Try.prog (keepV bx) #[.pointer p, .bool is] w R := by
  refine do_callc Try.call117 (by rfl) (sh117_ok _ _ _ ?_)
  unfold sh117
  cases is
  · exact ifB_f rfl (h w (grown_refl w _) hb)
  · exact ifB_t rfl (do_st (i := 0) hb (add_blk _ _) (by simp) fun w1 h1 g1 => h w1 g1 h1)
theorem put_back {w w1 : World} {l b : Nat} {o o1 : Obj} (h : w.heap[l]? = some o) (g : (w.putObj l o1).grownBy w1 (some b)) : w.grownBy (w1.putObj l o) (some b) := by
  have g0 := put_grown w l o1
  have g2 := put_grown w1 l o
  have hl := (Array.getElem?_eq_some_iff.1 h).1
  refine ⟨(g2.os.trans g.os).trans g0.os, (g2.tape.trans g.tape).trans g0.tape, (g2.output.trans g.output).trans g0.output, Nat.le_trans g0.size (Nat.le_trans g.size g2.size), fun k hk hne => ?_⟩
  by_cases hkl : k = l
  · subst hkl
    rw [h]
    exact World.putObj_heap_same (Nat.lt_of_lt_of_le hl (Nat.le_trans g0.size g.size))
  · rw [g2.block k (Nat.lt_of_lt_of_le hk (Nat.le_trans g0.size g.size)) (ne_some hkl), g.block k (Nat.lt_of_lt_of_le hk g0.size) hne, g0.block k hk (ne_some hkl)]
theorem c_pair {p : Option Addr} {t : Tr} {w : World} {R : Ending → World → Prop} (ht : IsN w p t) (h : ∀ w', Ext w w' → R (.returned (.tuple #[agP (t.key, t.val), .bool t.nn])) w') : Calls Try.prog 86 #[.pointer p] w R := by
  refine sh86_ok _ ?_
  unfold sh86
  refine ⟨?_⟩
  have e1 := ext_alloc w (.cells #[.int .i64 0, .int .i64 0] 38)
  have hb := blk_alloc w #[.int .i64 0, .int .i64 0] 38
  cases t with
  | nil =>
    obtain rfl : p = none := ht
    exact ifB_t rfl (do_st2 hb fun w2 h2 g2 => ⟨_, h2.cell (i := 0) (add_blk _ _) rfl, _, h2.cell (i := 1) (add_blk _ _) rfl, h _ (e1.st g2 (Nat.le_refl _))⟩)
  | node l k v g r =>
    have hnn : p.isNone = false := ht.isNone
    refine ifB_f hnn ?_
    refine do_call Try.call76 (c_key (ht.ext e1) fun w2 e2 => retS_ret ⟨_, rfl, ?_⟩)
    refine do_call Try.call77 (c_val ((ht.ext e1).ext e2) fun w3 e3 => retS_ret ⟨_, rfl, ?_⟩)
    refine do_st2 (hb.ext (e2.trans e3)) fun w4 h4 g4 => ⟨_, h4.cell (i := 0) (add_blk _ _) rfl, _, h4.cell (i := 1) (add_blk _ _) rfl, h _ ((e1.trans (e2.trans e3)).st g4 (Nat.le_refl _))⟩
/-- what the states of a search are -/
def StF (o key : Int) (sel : Int → Bool) (w : World) (t : Tr) (pt : Option Addr) (bx bf bt bo bk d : Nat) (L : Loop) (s : Tr) (w' : World) : Prop :=
  Ext w w' ∧ (∃ kp acc, Blk w' bx #[.pointer kp] 27 ∧ IsN w kp acc ∧ lastN o key sel s acc = lastN o key sel t .nil ∧ (s = t → acc = .nil)) ∧ Blk w' bf #[keepV bx] 105 ∧
    Blk w' bt #[.pointer pt] 27 ∧ Blk w' bo #[.int .u8 o] 5 ∧ Blk w' bk #[.int .i64 key] 2 ∧ w'.heap[d]? = some (.deferred (some [])) ∧ w'.heap[d + 1]? = some (.loop L)
def FinF (o key : Int) (sel : Int → Bool) (w : World) (t : Tr) (bx d : Nat) (L : Loop) (w' : World) : Prop :=
  Ext w w' ∧ (∃ kp, Blk w' bx #[.pointer kp] 27 ∧ IsN w kp (lastN o key sel t .nil)) ∧ w'.heap[d]? = some (.deferred (some [])) ∧ w'.heap[d + 1]? = some (.loop L)
theorem fwayTo {o key : Int} {sel : Int → Bool} {w : World} {t : Tr} {pt : Option Addr} {bx bf bt bo bk d : Nat} {L : Loop} (hw : w.heap.size ≤ bx) (n1 : bx < bf) (n2 : bf < bt) (n3 : bf < bo) (n4 : bf < bk) (n5 : bt < d)
    (hround : ∀ (p kp : Option Addr) (c : Int) (w' : World) (R' : Ending → World → Prop), w'.heap[d + 1]? = some (.loop L) → Blk w' bf #[keepV bx] 105 → Blk w' bx #[.pointer kp] 27 →
      (∀ w'', w'.grownBy w'' (some bx) → Blk w'' bx #[.pointer (if sel c then p else kp)] 27 → R' (.returned (.bool true)) w'') → doCall Try.prog (.func (.yield (d + 1)) #[] #[]) #[.pointer p, .int .i64 c] w' R') :
    WayTo o key w pt t bt bo bk (.func (.yield (d + 1)) #[] #[]) (StF o key sel w t pt bx bf bt bo bk d L) (FinF o key sel w t bx d L) := by
  refine ⟨?_, ?_, ?_, ?_⟩
  · rintro s w' ⟨E, _, _, h1, h2, h3, _⟩
    exact ⟨E, h1, h2, h3⟩
  · rintro s w' w'' ⟨E, ⟨kp, acc, h0, h1, h2⟩, h3, h4, h5, h6, h7, h8⟩ e
    exact ⟨E.trans e, ⟨kp, acc, h0.ext e, h1, h2⟩, h3.ext e, h4.ext e, h5.ext e, h6.ext e, e.heap h7, e.heap h8⟩
  · rintro s p w' hsn hA hsz hN ⟨E, ⟨kp, acc, h0, h1, h2, h2'⟩, h3, h4, h5, h6, h7, h8⟩ R' hR'
    refine hround p kp _ w' R' h8 h3 h0 fun w'' g hb => hR' w'' ?_
    have hE := E.st g hw
    rw [lastN_next hsn] at h2
    have hN' : IsN w (if sel (cmpI o key s.key) then p else kp) (if sel (cmpI o key s.key) then s else acc) := by split <;> assumption
    by_cases hc : cmpI o key s.key = 0
    · rw [if_pos hc] at h2 ⊢
      rw [h2] at hN'
      exact ⟨hE, ⟨_, hb, hN'⟩, heap_grown g h7 (ne_some (by omega)), heap_grown g h8 (ne_some (by omega))⟩
    · rw [if_neg hc] at h2 ⊢
      refine ⟨hE, ⟨_, _, hb, hN', h2, fun e => ?_⟩, h3.grown g (ne_some (by omega)), h4.grown g (ne_some (by omega)), h5.grown g (ne_some (by omega)), h6.grown g (ne_some (by omega)), heap_grown g h7 (ne_some (by omega)), heap_grown g h8 (ne_some (by omega))⟩
      have := Tr.next_lt hsn o key
      rw [e] at this; omega
  · rintro w' ⟨E, _⟩
    exact E
set_option maxRecDepth 20000 in
theorem c_fget {o key : Int} {t : Tr} {pt : Option Addr} {w : World} {R : Ending → World → Prop} (ht : IsN w pt t) (hk : In key) (hA : AllK t)
    (h : ∀ w', Ext w w' → R (.returned (.tuple #[.int .i64 (lastR o t key (fun c => ((c : Int) == 0))).val, .bool (lastR o t key (fun c => ((c : Int) == 0))).nn])) w') : Calls Try.prog 27 #[.int .u8 o, .pointer pt, .int .i64 key] w R := by
  refine sh27_ok _ _ _ ?_
  unfold sh27
  have e0 := ext_refl w
  refine do_call Try.call84 (c_last fun bx w2 e2 hbx hx => retS_ret ⟨_, _, _, _, _, _, rfl, ⟨?_⟩⟩)
  have lx := hx.lt
  refine do_st (blk_alloc w2 #[.nilFunc] 105) (i := 0) (add_blk _ _) (by simp) fun w3 hf3 g3 => ?_
  have hf3 : Blk w3 w2.heap.size #[keepV bx] 105 := hf3
  have e3 : Ext w2 w3 := (ext_alloc w2 _).st g3 (Nat.le_refl _)
  obtain ⟨bf, hbf⟩ : ∃ bf, bf = w2.heap.size := ⟨_, rfl⟩
  rw [← hbf] at hf3 ⊢
  have lf := hf3.lt
  refine do_call Try.call85 (c_fway fun bt bo bk w4 e4 hbt hbo hbk h1 h2 h3 => retS_ret ⟨_, _, _, rfl, do_rf fun fn L w5 d hd hL hst hpe e5 hd5 hl5 => ?_⟩)
  have E4 : Ext w w4 := (e0.trans e2).trans (e3.trans e4)
  have E5 := E4.trans e5
  have hx5 := hx.ext ((e3.trans e4).trans e5)
  have hf5 := hf3.ext (e4.trans e5)
  have ht5 := h1.ext e5
  have ho5 := h2.ext e5
  have hk5 := h3.ext e5
  have n1 : bx < bf := by omega
  have n2 : bf < bt := by omega
  have n3 : bf < bo := by omega
  have n4 : bf < bk := by omega
  have n5 : bt < d := by rw [hd]; exact h1.lt
  have hwx : w.heap.size ≤ bx := Nat.le_trans e0.size hbx
  clear e2 e3 e4 e5 hx hf3 h1 h2 h3 g3 lx lf
  rw [← hd]
  have hround : ∀ (p kp : Option Addr) (c : Int) (w' : World) (R' : Ending → World → Prop), w'.heap[d + 1]? = some (.loop L) → Blk w' bf #[keepV bx] 105 → Blk w' bx #[.pointer kp] 27 →
      (∀ w'', w'.grownBy w'' (some bx) → Blk w'' bx #[.pointer (if ((c : Int) == 0) then p else kp)] 27 → R' (.returned (.bool true)) w'') → doCall Try.prog (.func (.yield (d + 1)) #[] #[]) #[.pointer p, .int .i64 c] w' R' := by
    intro p kp c w' R' hl hf hx hR'
    refine sh27_0_ok (by rw [hl, hL]) ?_
    unfold sh27_0
    refine ⟨_, hl, hst, ?_⟩
    have g1 := put_grown w' (d + 1) (.loop { L with state := .busy })
    refine ⟨_, _, _, (hf.grown g1 (ne_some (by omega))).cell (i := 0) rfl rfl, ?_⟩
    refine c_keep (hx.grown g1 (ne_some (by omega))) fun w1 g2 hx1 => retS_ret ⟨rfl, _, heap_grown g2 (put_heap hl) (ne_some (by omega)), ?_⟩
    rw [rec_back hst hpe]
    exact hR' _ (put_back hl g2) (hx1.grown (put_grown _ _ _) (ne_some (by omega)))
  have hend : ∀ {w' : World} {kp : Option Addr} (Kf : List PanicEntry → World → Prop), Ext w w' → Blk w' bx #[.pointer kp] 27 → IsN w kp (lastR o t key (fun c => ((c : Int) == 0))) → w'.heap[d]? = some (.deferred (some [])) →
      doCall Try.prog (.func (.func 118) #[] #[.pointer (some (blk bx))]) #[] w' (retS (fun v22 w23 => ∃ (x21 : Option Addr), v22 = (.pointer x21 : Value) ∧ (
        doCall Try.prog (.func (.func 86) #[] #[]) #[.pointer x21] w23 (retS (fun v27 w28 => ∃ (x24 : Int), ∃ (x25 : Int), ∃ (x26 : Bool), v27 = (.tuple #[.agg #[.int .i64 x24, .int .i64 x25], .bool x26] : Value) ∧ (
        doAl (.cells #[.int .i64 0, .int .i64 0] 38) w28 (fun b29 w30 => doSt ((blk b29).add 0) (.int .i64 x24) w30 (fun w31 => doSt ((blk b29).add 1) (.int .i64 x25) w31 (fun w32 =>
        ∃ (x33 : Int), World.cell? w32 ((blk b29).add 1) = some (.int .i64 x33) ∧ (w32.heap[d]? = some (.deferred (some [])) ∧ (
        R (.returned (.tuple #[.int .i64 x33, .bool x26])) (w32.putObj d (.deferred none))))))))) Kf))) Kf) := by
    intro w' kp Kf E hb hN hd'
    refine do_callc Try.call118 (by rfl) (sh118_ok _ ?_)
    unfold sh118
    refine ⟨_, hb.cell (i := 0) rfl rfl, retS_ret ⟨_, rfl, ?_⟩⟩
    refine do_call Try.call86 (c_pair (hN.ext E) fun w6 e6 => retS_ret ⟨_, _, _, rfl, ⟨?_⟩⟩)
    refine do_st2 (blk_alloc w6 _ _) fun w7 h7 g7 => ⟨_, h7.cell (i := 1) (add_blk _ _) rfl, ?_⟩
    have e7 : Ext w' w7 := e6.trans ((ext_alloc w6 _).st g7 (Nat.le_refl _))
    exact ⟨e7.heap hd', h _ ((E.trans e7).put (by omega) _)⟩
  have hW := fwayTo (o := o) (key := key) (sel := (fun c => ((c : Int) == 0))) (t := t) (pt := pt) hwx n1 n2 n3 n4 n5 hround
  refine callE_c Try.call119 (by rfl) (c_fway1 hW ht hk hA ⟨E5, ⟨none, .nil, hx5, rfl, rfl, fun _ => rfl⟩, hf5, ht5, ho5, hk5, hd5, hl5⟩ ?_ ?_ ?_)
  · rintro hno w' ⟨E6, ⟨kp, acc, h0, h1, h2, h2'⟩, h3, h4, h5, h6, h7, h8⟩
    refine rf_done h8 (by rw [hst]; simp) hpe fun ob => ?_
    have gob := put_grown w' (d + 1) ob
    refine hend _ (E6.put (by omega) _) (h0.grown gob (ne_some (by omega))) ?_ (heap_grown gob h7 (ne_some (by omega)))
    unfold lastR; rw [hno]; rw [h2' rfl] at h1; exact h1
  · rintro w' hyes ⟨E6, ⟨kp, acc, h0, h1, h2, h2'⟩, h3, h4, h5, h6, h7, h8⟩
    refine rf_done h8 (by rw [hst]; simp) hpe fun ob => ?_
    have gob := put_grown w' (d + 1) ob
    refine hend _ (E6.put (by omega) _) (h0.grown gob (ne_some (by omega))) ?_ (heap_grown gob h7 (ne_some (by omega)))
    unfold lastR; rw [hyes, cond_true, ← h2]; exact h1
  · rintro w' hyes ⟨E6, ⟨kp, h0, h1⟩, h7, h8⟩
    refine rf_done h8 (by rw [hst]; simp) hpe fun ob => ?_
    have gob := put_grown w' (d + 1) ob
    refine hend _ (E6.put (by omega) _) (h0.grown gob (ne_some (by omega))) ?_ (heap_grown gob h7 (ne_some (by omega)))
    unfold lastR; rw [hyes, cond_true]; exact h1
set_option maxRecDepth 20000 in
theorem c_ffloor {o key : Int} {t : Tr} {pt : Option Addr} {w : World} {R : Ending → World → Prop} (ht : IsN w pt t) (hk : In key) (hA : AllK t)
    (h : ∀ w', Ext w w' → R (.returned (.tuple #[agP ((lastR o t key (fun c => (decide ((c : Int) ≥ 0)))).key, (lastR o t key (fun c => (decide ((c : Int) ≥ 0)))).val), .bool (lastR o t key (fun c => (decide ((c : Int) ≥ 0)))).nn])) w') : Calls Try.prog 29 #[.int .u8 o, .pointer pt, .int .i64 key] w R := by
  refine sh29_ok _ _ _ ?_
  unfold sh29
  refine ⟨?_⟩
  have e0 := ext_alloc w (.cells #[.int .i64 0, .int .i64 0] 38)
  have hr := blk_alloc w #[.int .i64 0, .int .i64 0] 38
  generalize hbr : w.heap.size = br at *
  generalize w.alloc (.cells #[.int .i64 0, .int .i64 0] 38) = w0 at *
  have lr := hr.lt
  refine do_call Try.call84 (c_last fun bx w2 e2 hbx hx => retS_ret ⟨_, _, _, _, _, _, rfl, ⟨?_⟩⟩)
  have lx := hx.lt
  refine do_st (blk_alloc w2 #[.nilFunc] 105) (i := 0) (add_blk _ _) (by simp) fun w3 hf3 g3 => ?_
  have hf3 : Blk w3 w2.heap.size #[keepV bx] 105 := hf3
  have e3 : Ext w2 w3 := (ext_alloc w2 _).st g3 (Nat.le_refl _)
  obtain ⟨bf, hbf⟩ : ∃ bf, bf = w2.heap.size := ⟨_, rfl⟩
  rw [← hbf] at hf3 ⊢
  have lf := hf3.lt
  refine do_call Try.call85 (c_fway fun bt bo bk w4 e4 hbt hbo hbk h1 h2 h3 => retS_ret ⟨_, _, _, rfl, do_rf fun fn L w5 d hd hL hst hpe e5 hd5 hl5 => ?_⟩)
  have E4 : Ext w w4 := (e0.trans e2).trans (e3.trans e4)
  have E5 := E4.trans e5
  have hx5 := hx.ext ((e3.trans e4).trans e5)
  have hf5 := hf3.ext (e4.trans e5)
  have ht5 := h1.ext e5
  have ho5 := h2.ext e5
  have hk5 := h3.ext e5
  have n1 : bx < bf := by omega
  have n2 : bf < bt := by omega
  have n3 : bf < bo := by omega
  have n4 : bf < bk := by omega
  have n5 : bt < d := by rw [hd]; exact h1.lt
  have hwx : w.heap.size ≤ bx := Nat.le_trans e0.size hbx
  have hr5 := hr.ext (((e2.trans e3).trans e4).trans e5)
  have nr : br < bx := by omega
  clear e2 e3 e4 e5 hx hf3 h1 h2 h3 g3 lx lf
  rw [← hd]
  have hround : ∀ (p kp : Option Addr) (c : Int) (w' : World) (R' : Ending → World → Prop), w'.heap[d + 1]? = some (.loop L) → Blk w' bf #[keepV bx] 105 → Blk w' bx #[.pointer kp] 27 →
      (∀ w'', w'.grownBy w'' (some bx) → Blk w'' bx #[.pointer (if (decide ((c : Int) ≥ 0)) then p else kp)] 27 → R' (.returned (.bool true)) w'') → doCall Try.prog (.func (.yield (d + 1)) #[] #[]) #[.pointer p, .int .i64 c] w' R' := by
    intro p kp c w' R' hl hf hx hR'
    refine sh29_0_ok (by rw [hl, hL]) ?_
    unfold sh29_0
    refine ⟨_, hl, hst, ?_⟩
    have g1 := put_grown w' (d + 1) (.loop { L with state := .busy })
    refine ⟨_, _, _, (hf.grown g1 (ne_some (by omega))).cell (i := 0) rfl rfl, ?_⟩
    refine c_keep (hx.grown g1 (ne_some (by omega))) fun w1 g2 hx1 => retS_ret ⟨rfl, _, heap_grown g2 (put_heap hl) (ne_some (by omega)), ?_⟩
    rw [rec_back hst hpe]
    exact hR' _ (put_back hl g2) (hx1.grown (put_grown _ _ _) (ne_some (by omega)))
  have hend : ∀ {w' : World} {kp : Option Addr} (Kf : List PanicEntry → World → Prop), Ext w w' → Blk w' br #[.int .i64 0, .int .i64 0] 38 → Blk w' bx #[.pointer kp] 27 → IsN w kp (lastR o t key (fun c => (decide ((c : Int) ≥ 0)))) → w'.heap[d]? = some (.deferred (some [])) →
      doCall Try.prog (.func (.func 118) #[] #[.pointer (some (blk bx))]) #[] w' (retS (fun v24 w25 => ∃ (x23 : Option Addr), v24 = (.pointer x23 : Value) ∧ (
        doCall Try.prog (.func (.func 86) #[] #[]) #[.pointer x23] w25 (retS (fun v29 w30 => ∃ (x26 : Int), ∃ (x27 : Int), ∃ (x28 : Bool), v29 = (.tuple #[.agg #[.int .i64 x26, .int .i64 x27], .bool x28] : Value) ∧ (
        doSt ((blk br).add 0) (.int .i64 x26) w30 (fun w31 => doSt ((blk br).add 1) (.int .i64 x27) w31 (fun w32 => w32.heap[d]? = some (.deferred (some [])) ∧ (
        ∃ (x34 : Int), World.cell? (w32.putObj d (.deferred none)) ((blk br).add 0) = some (.int .i64 x34) ∧ (
        ∃ (x35 : Int), World.cell? (w32.putObj d (.deferred none)) ((blk br).add 1) = some (.int .i64 x35) ∧ (
        R (.returned (.tuple #[.agg #[.int .i64 x34, .int .i64 x35], .bool x28])) (w32.putObj d (.deferred none))))))))) Kf))) Kf) := by
    intro w' kp Kf E hr' hb hN hd'
    refine do_callc Try.call118 (by rfl) (sh118_ok _ ?_)
    unfold sh118
    refine ⟨_, hb.cell (i := 0) rfl rfl, retS_ret ⟨_, rfl, ?_⟩⟩
    refine do_call Try.call86 (c_pair (hN.ext E) fun w6 e6 => retS_ret ⟨_, _, _, rfl, ?_⟩)
    refine do_st2 (hr'.ext e6) fun w7 h7 g7 => ⟨heap_grown g7 (e6.heap hd') (ne_some (by omega)), ?_⟩
    have h7' := h7.grown (put_grown w7 d (.deferred none)) (ne_some (by omega))
    exact ⟨_, h7'.cell (i := 0) (add_blk _ _) rfl, _, h7'.cell (i := 1) (add_blk _ _) rfl, h _ (((E.trans e6).st g7 (by omega)).put (by omega) _)⟩
  have hW := fwayTo (o := o) (key := key) (sel := (fun c => (decide ((c : Int) ≥ 0)))) (t := t) (pt := pt) hwx n1 n2 n3 n4 n5 hround
  have hW2 : WayTo o key w pt t bt bo bk (.func (.yield (d + 1)) #[] #[]) (fun s w' => StF o key (fun c => (decide ((c : Int) ≥ 0))) w t pt bx bf bt bo bk d L s w' ∧ Blk w' br #[.int .i64 0, .int .i64 0] 38) (fun w' => FinF o key (fun c => (decide ((c : Int) ≥ 0))) w t bx d L w' ∧ Blk w' br #[.int .i64 0, .int .i64 0] 38) := by
    refine ⟨fun s w' hs => hW.blks s w' hs.1, fun s w' w'' hs e => ⟨hW.ext s w' w'' hs.1 e, hs.2.ext e⟩, ?_, fun w' hs => hW.fext w' hs.1⟩
    rintro s p w' hsn hA hsz hN ⟨hs, hbr'⟩ R' hR'
    obtain ⟨E, ⟨kp, acc, h0, h1, h2, h2'⟩, h3, h4, h5, h6, h7, h8⟩ := id hs
    have hWy := hW.yields s p w' hsn hA hsz hN hs
    refine (hround p kp _ w' R' h8 h3 h0 fun w'' g hb => hR' w'' ?_)
    have hbr'' := hbr'.grown g (ne_some (by omega))
    have hE := E.st g hwx
    rw [lastN_next hsn] at h2
    have hN' : IsN w (if (decide ((cmpI o key s.key : Int) ≥ 0)) then p else kp) (if (decide ((cmpI o key s.key : Int) ≥ 0)) then s else acc) := by split <;> assumption
    by_cases hc : cmpI o key s.key = 0
    · rw [if_pos hc] at h2 ⊢
      rw [h2] at hN'
      exact ⟨⟨hE, ⟨_, hb, hN'⟩, heap_grown g h7 (ne_some (by omega)), heap_grown g h8 (ne_some (by omega))⟩, hbr''⟩
    · rw [if_neg hc] at h2 ⊢
      refine ⟨⟨hE, ⟨_, _, hb, hN', h2, fun e => ?_⟩, h3.grown g (ne_some (by omega)), h4.grown g (ne_some (by omega)), h5.grown g (ne_some (by omega)), h6.grown g (ne_some (by omega)), heap_grown g h7 (ne_some (by omega)), heap_grown g h8 (ne_some (by omega))⟩, hbr''⟩
      have := Tr.next_lt hsn o key
      rw [e] at this; omega
  refine callE_c Try.call119 (by rfl) (c_fway1 hW2 ht hk hA ⟨⟨E5, ⟨none, .nil, hx5, rfl, rfl, fun _ => rfl⟩, hf5, ht5, ho5, hk5, hd5, hl5⟩, hr5⟩ ?_ ?_ ?_)
  · rintro hno w' ⟨⟨E6, ⟨kp, acc, h0, h1, h2, h2'⟩, h3, h4, h5, h6, h7, h8⟩, hb⟩
    refine rf_done h8 (by rw [hst]; simp) hpe fun ob => ?_
    have gob := put_grown w' (d + 1) ob
    refine hend _ (E6.put (by omega) _) (hb.grown gob (ne_some (by omega))) (h0.grown gob (ne_some (by omega))) ?_ (heap_grown gob h7 (ne_some (by omega)))
    unfold lastR; rw [hno]; rw [h2' rfl] at h1; exact h1
  · rintro w' hyes ⟨⟨E6, ⟨kp, acc, h0, h1, h2, h2'⟩, h3, h4, h5, h6, h7, h8⟩, hb⟩
    refine rf_done h8 (by rw [hst]; simp) hpe fun ob => ?_
    have gob := put_grown w' (d + 1) ob
    refine hend _ (E6.put (by omega) _) (hb.grown gob (ne_some (by omega))) (h0.grown gob (ne_some (by omega))) ?_ (heap_grown gob h7 (ne_some (by omega)))
    unfold lastR; rw [hyes, cond_true, ← h2]; exact h1
  · rintro w' hyes ⟨⟨E6, ⟨kp, h0, h1⟩, h7, h8⟩, hb⟩
    refine rf_done h8 (by rw [hst]; simp) hpe fun ob => ?_
    have gob := put_grown w' (d + 1) ob
    refine hend _ (E6.put (by omega) _) (hb.grown gob (ne_some (by omega))) (h0.grown gob (ne_some (by omega))) ?_ (heap_grown gob h7 (ne_some (by omega)))
    unfold lastR; rw [hyes, cond_true]; exact h1
set_option maxRecDepth 20000 in
theorem c_fceil {o key : Int} {t : Tr} {pt : Option Addr} {w : World} {R : Ending → World → Prop} (ht : IsN w pt t) (hk : In key) (hA : AllK t)
    (h : ∀ w', Ext w w' → R (.returned (.tuple #[agP ((lastR o t key (fun c => (decide ((c : Int) ≤ 0)))).key, (lastR o t key (fun c => (decide ((c : Int) ≤ 0)))).val), .bool (lastR o t key (fun c => (decide ((c : Int) ≤ 0)))).nn])) w') : Calls Try.prog 31 #[.int .u8 o, .pointer pt, .int .i64 key] w R := by
  refine sh31_ok _ _ _ ?_
  unfold sh31
  refine ⟨?_⟩
  have e0 := ext_alloc w (.cells #[.int .i64 0, .int .i64 0] 38)
  have hr := blk_alloc w #[.int .i64 0, .int .i64 0] 38
  generalize hbr : w.heap.size = br at *
  generalize w.alloc (.cells #[.int .i64 0, .int .i64 0] 38) = w0 at *
  have lr := hr.lt
  refine do_call Try.call84 (c_last fun bx w2 e2 hbx hx => retS_ret ⟨_, _, _, _, _, _, rfl, ⟨?_⟩⟩)
  have lx := hx.lt
  refine do_st (blk_alloc w2 #[.nilFunc] 105) (i := 0) (add_blk _ _) (by simp) fun w3 hf3 g3 => ?_
  have hf3 : Blk w3 w2.heap.size #[keepV bx] 105 := hf3
  have e3 : Ext w2 w3 := (ext_alloc w2 _).st g3 (Nat.le_refl _)
  obtain ⟨bf, hbf⟩ : ∃ bf, bf = w2.heap.size := ⟨_, rfl⟩
  rw [← hbf] at hf3 ⊢
  have lf := hf3.lt
  refine do_call Try.call85 (c_fway fun bt bo bk w4 e4 hbt hbo hbk h1 h2 h3 => retS_ret ⟨_, _, _, rfl, do_rf fun fn L w5 d hd hL hst hpe e5 hd5 hl5 => ?_⟩)
  have E4 : Ext w w4 := (e0.trans e2).trans (e3.trans e4)
  have E5 := E4.trans e5
  have hx5 := hx.ext ((e3.trans e4).trans e5)
  have hf5 := hf3.ext (e4.trans e5)
  have ht5 := h1.ext e5
  have ho5 := h2.ext e5
  have hk5 := h3.ext e5
  have n1 : bx < bf := by omega
  have n2 : bf < bt := by omega
  have n3 : bf < bo := by omega
  have n4 : bf < bk := by omega
  have n5 : bt < d := by rw [hd]; exact h1.lt
  have hwx : w.heap.size ≤ bx := Nat.le_trans e0.size hbx
  have hr5 := hr.ext (((e2.trans e3).trans e4).trans e5)
  have nr : br < bx := by omega
  clear e2 e3 e4 e5 hx hf3 h1 h2 h3 g3 lx lf
  rw [← hd]
  have hround : ∀ (p kp : Option Addr) (c : Int) (w' : World) (R' : Ending → World → Prop), w'.heap[d + 1]? = some (.loop L) → Blk w' bf #[keepV bx] 105 → Blk w' bx #[.pointer kp] 27 →
      (∀ w'', w'.grownBy w'' (some bx) → Blk w'' bx #[.pointer (if (decide ((c : Int) ≤ 0)) then p else kp)] 27 → R' (.returned (.bool true)) w'') → doCall Try.prog (.func (.yield (d + 1)) #[] #[]) #[.pointer p, .int .i64 c] w' R' := by
    intro p kp c w' R' hl hf hx hR'
    refine sh31_0_ok (by rw [hl, hL]) ?_
    unfold sh31_0
    refine ⟨_, hl, hst, ?_⟩
    have g1 := put_grown w' (d + 1) (.loop { L with state := .busy })
    refine ⟨_, _, _, (hf.grown g1 (ne_some (by omega))).cell (i := 0) rfl rfl, ?_⟩
    refine c_keep (hx.grown g1 (ne_some (by omega))) fun w1 g2 hx1 => retS_ret ⟨rfl, _, heap_grown g2 (put_heap hl) (ne_some (by omega)), ?_⟩
    rw [rec_back hst hpe]
    exact hR' _ (put_back hl g2) (hx1.grown (put_grown _ _ _) (ne_some (by omega)))
  have hend : ∀ {w' : World} {kp : Option Addr} (Kf : List PanicEntry → World → Prop), Ext w w' → Blk w' br #[.int .i64 0, .int .i64 0] 38 → Blk w' bx #[.pointer kp] 27 → IsN w kp (lastR o t key (fun c => (decide ((c : Int) ≤ 0)))) → w'.heap[d]? = some (.deferred (some [])) →
      doCall Try.prog (.func (.func 118) #[] #[.pointer (some (blk bx))]) #[] w' (retS (fun v24 w25 => ∃ (x23 : Option Addr), v24 = (.pointer x23 : Value) ∧ (
        doCall Try.prog (.func (.func 86) #[] #[]) #[.pointer x23] w25 (retS (fun v29 w30 => ∃ (x26 : Int), ∃ (x27 : Int), ∃ (x28 : Bool), v29 = (.tuple #[.agg #[.int .i64 x26, .int .i64 x27], .bool x28] : Value) ∧ (
        doSt ((blk br).add 0) (.int .i64 x26) w30 (fun w31 => doSt ((blk br).add 1) (.int .i64 x27) w31 (fun w32 => w32.heap[d]? = some (.deferred (some [])) ∧ (
        ∃ (x34 : Int), World.cell? (w32.putObj d (.deferred none)) ((blk br).add 0) = some (.int .i64 x34) ∧ (
        ∃ (x35 : Int), World.cell? (w32.putObj d (.deferred none)) ((blk br).add 1) = some (.int .i64 x35) ∧ (
        R (.returned (.tuple #[.agg #[.int .i64 x34, .int .i64 x35], .bool x28])) (w32.putObj d (.deferred none))))))))) Kf))) Kf) := by
    intro w' kp Kf E hr' hb hN hd'
    refine do_callc Try.call118 (by rfl) (sh118_ok _ ?_)
    unfold sh118
    refine ⟨_, hb.cell (i := 0) rfl rfl, retS_ret ⟨_, rfl, ?_⟩⟩
    refine do_call Try.call86 (c_pair (hN.ext E) fun w6 e6 => retS_ret ⟨_, _, _, rfl, ?_⟩)
    refine do_st2 (hr'.ext e6) fun w7 h7 g7 => ⟨heap_grown g7 (e6.heap hd') (ne_some (by omega)), ?_⟩
    have h7' := h7.grown (put_grown w7 d (.deferred none)) (ne_some (by omega))
    exact ⟨_, h7'.cell (i := 0) (add_blk _ _) rfl, _, h7'.cell (i := 1) (add_blk _ _) rfl, h _ (((E.trans e6).st g7 (by omega)).put (by omega) _)⟩
  have hW := fwayTo (o := o) (key := key) (sel := (fun c => (decide ((c : Int) ≤ 0)))) (t := t) (pt := pt) hwx n1 n2 n3 n4 n5 hround
  have hW2 : WayTo o key w pt t bt bo bk (.func (.yield (d + 1)) #[] #[]) (fun s w' => StF o key (fun c => (decide ((c : Int) ≤ 0))) w t pt bx bf bt bo bk d L s w' ∧ Blk w' br #[.int .i64 0, .int .i64 0] 38) (fun w' => FinF o key (fun c => (decide ((c : Int) ≤ 0))) w t bx d L w' ∧ Blk w' br #[.int .i64 0, .int .i64 0] 38) := by
    refine ⟨fun s w' hs => hW.blks s w' hs.1, fun s w' w'' hs e => ⟨hW.ext s w' w'' hs.1 e, hs.2.ext e⟩, ?_, fun w' hs => hW.fext w' hs.1⟩
    rintro s p w' hsn hA hsz hN ⟨hs, hbr'⟩ R' hR'
    obtain ⟨E, ⟨kp, acc, h0, h1, h2, h2'⟩, h3, h4, h5, h6, h7, h8⟩ := id hs
    have hWy := hW.yields s p w' hsn hA hsz hN hs
    refine (hround p kp _ w' R' h8 h3 h0 fun w'' g hb => hR' w'' ?_)
    have hbr'' := hbr'.grown g (ne_some (by omega))
    have hE := E.st g hwx
    rw [lastN_next hsn] at h2
    have hN' : IsN w (if (decide ((cmpI o key s.key : Int) ≤ 0)) then p else kp) (if (decide ((cmpI o key s.key : Int) ≤ 0)) then s else acc) := by split <;> assumption
    by_cases hc : cmpI o key s.key = 0
    · rw [if_pos hc] at h2 ⊢
      rw [h2] at hN'
      exact ⟨⟨hE, ⟨_, hb, hN'⟩, heap_grown g h7 (ne_some (by omega)), heap_grown g h8 (ne_some (by omega))⟩, hbr''⟩
    · rw [if_neg hc] at h2 ⊢
      refine ⟨⟨hE, ⟨_, _, hb, hN', h2, fun e => ?_⟩, h3.grown g (ne_some (by omega)), h4.grown g (ne_some (by omega)), h5.grown g (ne_some (by omega)), h6.grown g (ne_some (by omega)), heap_grown g h7 (ne_some (by omega)), heap_grown g h8 (ne_some (by omega))⟩, hbr''⟩
      have := Tr.next_lt hsn o key
      rw [e] at this; omega
  refine callE_c Try.call119 (by rfl) (c_fway1 hW2 ht hk hA ⟨⟨E5, ⟨none, .nil, hx5, rfl, rfl, fun _ => rfl⟩, hf5, ht5, ho5, hk5, hd5, hl5⟩, hr5⟩ ?_ ?_ ?_)
  · rintro hno w' ⟨⟨E6, ⟨kp, acc, h0, h1, h2, h2'⟩, h3, h4, h5, h6, h7, h8⟩, hb⟩
    refine rf_done h8 (by rw [hst]; simp) hpe fun ob => ?_
    have gob := put_grown w' (d + 1) ob
    refine hend _ (E6.put (by omega) _) (hb.grown gob (ne_some (by omega))) (h0.grown gob (ne_some (by omega))) ?_ (heap_grown gob h7 (ne_some (by omega)))
    unfold lastR; rw [hno]; rw [h2' rfl] at h1; exact h1
  · rintro w' hyes ⟨⟨E6, ⟨kp, acc, h0, h1, h2, h2'⟩, h3, h4, h5, h6, h7, h8⟩, hb⟩
    refine rf_done h8 (by rw [hst]; simp) hpe fun ob => ?_
    have gob := put_grown w' (d + 1) ob
    refine hend _ (E6.put (by omega) _) (hb.grown gob (ne_some (by omega))) (h0.grown gob (ne_some (by omega))) ?_ (heap_grown gob h7 (ne_some (by omega)))
    unfold lastR; rw [hyes, cond_true, ← h2]; exact h1
  · rintro w' hyes ⟨⟨E6, ⟨kp, h0, h1⟩, h7, h8⟩, hb⟩
    refine rf_done h8 (by rw [hst]; simp) hpe fun ob => ?_
    have gob := put_grown w' (d + 1) ob
    refine hend _ (E6.put (by omega) _) (hb.grown gob (ne_some (by omega))) (h0.grown gob (ne_some (by omega))) ?_ (heap_grown gob h7 (ne_some (by omega)))
    unfold lastR; rw [hyes, cond_true]; exact h1
end Go.Proofs.Ytinkkhcffoikmaa
