/-
  What Sort of rowset does.
-/
/-
  edit: an item put in, or taken out; the document's answers of layer 26.
-/
/-
  The document's answers of layer 26; the chapter's examples.
-/
/-
  Two rows of items made one. Plain.
-/
/-
  union: two trees made one; the document's answers of layer 28.
-/
/-
  union: Union, Many; the document's answers of layer 28; the chapter's examples.
-/
/-
  What two rows of items have both, and what one has alone. Plain.
-/
/-
  Less, Meet, Apart: what the trees have. Plain.
-/
/-
  Keys as trees of keys: what is kept of items. Plain.
-/
/-
  build.Of, build.Keys, and where nothing is built; the document's answers of layer 27.
-/
/-
  The document's answers of layer 27; what its statements share.
-/
/-
  meet: two trees gone down together.
-/
import Derived.Test.YtlfjaogbehpleaaGreatZ23
import Derived.Test.YtlfjaogbehpleaaGreatZ20
import Derived.Test.YtlfjaogbehpleaaGreatZ21
import Derived.Laws.OwnMore

namespace Go.Proofs.YtlfjaogbehpleaaGreat
open Go Go.Sh Go.RowKit

theorem put_end {o p : Int} {r : List Pr} {x : Pr} (hm : mayR o r = true) (hp : may p = true) (h : ∀ y ∈ r, ltO o y.1 x.1) : putR o p r x = r ++ [x] := by
  have hh : hasR o r x.1 = false := by
    cases hq : hasR o r x.1
    · rfl
    · obtain ⟨i, hi, e⟩ := (hasR_iff hm).1 hq
      exact absurd e (ltO_ne (h _ (List.getElem_mem hi)))
  have hpos : posR o r x.1 = r.length := by
    unfold posR; rw [hm, cond_true]
    exact idxR_eq (Nat.le_refl _) (fun i hi _ => h _ (List.getElem_mem hi)) fun hi => absurd hi (Nat.lt_irrefl _)
  rw [put_miss hm hp hh, hpos, List.take_length, List.drop_length]
theorem put_last {o p : Int} {r : List Pr} {x : Pr} (hm : mayR o r = true) (hp : may p = true) (h0 : 0 < r.length) (h : (r[r.length - 1]).1 = x.1) :
    putR o p r x = r.set (r.length - 1) ((r[r.length - 1]).1, comb p (r[r.length - 1]).2 x.2) := by
  have := pos_at hm (show r.length - 1 < r.length by omega)
  rw [h] at this
  rw [put_hit hm hp this.2.1, this.1, this.2.2, h]
theorem sortL_keys {o p : Int} (ho : isO o = true) (hp : may p = true) {l : List Pr} (hl : InP l) : ∀ y ∈ sortL o p l, ∃ z ∈ l, z.1 = y.1 := fun y hy => by
  have := (lk_iff (sortL_may ho hp hl).1 (k := y.1) (v := y.2)).2 hy
  rw [sortL_lk0 ho hp hl] at this
  cases hf : l.filter (fun x => x.1 == y.1) with
  | nil => rw [hf] at this; cases this
  | cons z t =>
    have hz : z ∈ l.filter (fun x => x.1 == y.1) := by rw [hf]; simp
    have := List.mem_filter.1 hz
    exact ⟨z, this.1, by simpa using this.2⟩
theorem c_srt1 {o : Int} {b : Nat} {w0 : World} (h : Blk w0 b #[.int .u8 o] 5) : Cmp o w0 (.func 218) #[] #[.pointer (some (blk b))] := by
  intro x y hx hy w e R h'
  refine do_callc Tryz.call218 (by rfl) (sh218_ok _ _ _ _ _ ?_)
  unfold sh218
  refine ⟨⟨?_⟩⟩
  have e1 := ext_alloc w (.cells #[.int .i64 x.1, .int .i64 x.2] 63)
  have h1 := blk_alloc w #[.int .i64 x.1, .int .i64 x.2] 63
  generalize hb1 : w.heap.size = b1 at *
  generalize w.alloc (.cells #[.int .i64 x.1, .int .i64 x.2] 63) = w1 at *
  have e2 := ext_alloc w1 (.cells #[.int .i64 y.1, .int .i64 y.2] 63)
  have h2 := blk_alloc w1 #[.int .i64 y.1, .int .i64 y.2] 63
  generalize hb2 : w1.heap.size = b2 at *
  generalize w1.alloc (.cells #[.int .i64 y.1, .int .i64 y.2] 63) = w2 at *
  refine ⟨_, (h.ext ((e.trans e1).trans e2)).cell (i := 0) rfl rfl, _, (h1.ext e2).cell (i := 0) (add_blk _ _) rfl, _, h2.cell (i := 0) (add_blk _ _) rfl, ?_⟩
  exact do_call Tryz.call64 (c_compare hx hy fun w3 e3 => retS_ret ⟨_, rfl, h' _ ((e1.trans e2).trans e3)⟩)
set_option maxRecDepth 20000 in
set_option maxHeartbeats 1600000 in
theorem c_rsort {o p : Int} {l : List Pr} {q : Option Addr} {n c : Nat} {w : World} {R : Ending → World → Prop} (hl : Cs w q (prs l)) (hn : l.length = n) (hm : n ≤ 1000000) (hI : InP l)
    (h : ∀ p' n' c' w', OwnP w' w.heap.size p' n' c' (cond (isO o && may p) (sortL o p l) []) → Ext w w' → R (.returned (.tuple #[.slice p' n' c', .int .i64 (cond (isO o && may p) 0 2)])) w') :
    Calls Tryz.prog 137 #[.int .u8 o, .int .u8 p, .slice q n c] w R := by
  refine sh137_ok _ _ _ _ _ ?_
  unfold sh137
  refine ⟨?_⟩
  have e1 := ext_alloc w (.cells #[.int .u8 o] 5)
  have h1 := blk_alloc w #[.int .u8 o] 5
  generalize w.heap.size = b1 at h1
  generalize w.alloc (.cells #[.int .u8 o] 5) = w1 at *
  refine ⟨_, h1.cell (i := 0) rfl rfl, ?_⟩
  refine do_call Tryz.call40 (c_name fun w2 e2 => retS_ret ⟨_, rfl, ?_⟩)
  rw [name_empty]
  cases ho : isO o
  · refine ifB_t rfl ?_
    have hr := h none 0 0 w2
    rw [ho, Bool.false_and] at hr
    exact hr (ownP_nil _ _) (e1.trans e2)
  refine ifB_f rfl ?_
  refine do_call Tryz.call75 (c_fmay fun w3 e3 => retS_ret ⟨_, rfl, ?_⟩)
  cases hp : may p
  · refine ifB_t rfl ?_
    have hr := h none 0 0 w3
    rw [ho, hp, Bool.and_false] at hr
    exact hr (ownP_nil _ _) ((e1.trans e2).trans e3)
  refine ifB_f rfl ?_
  rw [ho, hp] at h
  simp only [Bool.and_self, cond_true] at h
  have E3 := (e1.trans e2).trans e3
  have h3 := (h1.ext e2).ext e3
  clear e1 e2 e3
  refine do_call Tryz.call37 (c_clone (hl.ext E3) hn (by omega) fun q4 c4 w4 g4 e4 => retS_ret ⟨_, _, _, rfl, ?_⟩)
  refine do_call Tryz.call217 (c_sortStable (o := o) (w0 := w3) (B := w3.heap.size) (Nat.le_refl _) (by omega) (c_srt1 h3) ho (l := l) ⟨g4, e4, fun x hx => (hI x hx).1⟩ fun w5 S hS hst hw5 => retS_ret ⟨rfl, ?_⟩)
  have E5 := E3.trans hw5.ext
  have hIS : InP S := fun x hx => hI x ((hst.mem x).1 hx)
  have hSn : S.length = n := hw5.len
  have hsrc := ownP_cs hw5.own
  have hsz5 : w.heap.size ≤ w5.heap.size := E5.size
  clear h1 h3 g4 e4 hl
  refine ⟨fun vs w' => ∃ (i nn cc : Nat) (qq : Option Addr), vs = [.slice qq nn cc, .int .i64 i] ∧ i ≤ n ∧ Ext w5 w' ∧ OwnP w' w5.heap.size qq nn cc (sortL o p (S.take i)),
    fun vs _ => n - (intOf (vs.getD 1 undef)).toNat, ⟨0, 0, 0, none, rfl, by omega, ext_refl _, ownP_nil _ _⟩, ?_⟩
  rintro q' n' c' x' _ w6 ⟨i, nn, cc, qq, hv, hi, e6, hrow⟩
  simp only [List.cons.injEq, Value.slice.injEq, Value.int.injEq, true_and, and_true] at hv
  obtain ⟨⟨rfl, rfl, rfl⟩, rfl⟩ := hv
  refine ifB_intro (fun hlt => ?_) fun hge => ?_
  rotate_left
  · have hge : ¬ (i : Int) < n := of_decide_eq_false hge
    rw [List.take_of_length_le (by omega), sortL_stab ho hp hI hst] at hrow
    exact h _ _ _ _ (row_mono hrow hsz5) (E5.trans e6)
  have hlt : i < n := by have := of_decide_eq_true hlt; omega
  have hi' : i < S.length := by omega
  have hinv : ∀ x ∈ S.take i, In x.1 ∧ In x.2 := fun x hx => hIS x (List.mem_of_mem_take hx)
  obtain ⟨m1, m2, m3⟩ := sortL_may (p := p) ho hp hinv
  have hkeys := sortL_keys ho hp hinv
  have hxI := hIS _ (List.getElem_mem hi')
  have hle : ∀ y ∈ sortL o p (S.take i), codeI o y.1 ≤ codeI o S[i].1 := fun y hy => by
    obtain ⟨z, hz, e⟩ := hkeys y hy
    obtain ⟨j, hj, e'⟩ := List.getElem_of_mem hz
    rw [List.length_take] at hj
    rw [← e, ← e', List.getElem_take]
    exact srt_get hS (by omega) hi'
  have hstep : sortL o p (S.take (i + 1)) = putR o p (sortL o p (S.take i)) S[i] := sortL_take hi'
  rw [List.length_take] at m3
  have hrl := ownP_len hrow
  have hcap : n' ≤ n := by omega
  generalize hr0 : sortL o p (S.take i) = r at *
  refine ix_pr (hsrc.ext e6) hSn rfl hlt fun a r1 r2 _ => ⟨_, r1, _, r2, ⟨?_⟩⟩
  have e7 := ext_alloc w6 (.cells #[.int .i64 0, .int .i64 0] 63)
  refine do_st2 (blk_alloc w6 _ _) fun w8 h8 g8 => ?_
  have E8 : Ext w6 w8 := e7.st g8 (Nat.le_refl _)
  generalize hbx : w6.heap.size = bx at *
  have hrow8 := E8.row hrow
  have hnext : IntKind.wrap .i64 ((i : Int) + 1) = ((i + 1 : Nat) : Int) := wrap_succ (n := n) (by omega) (by omega)
  have hmu : n - (intOf ((([.slice q' n' c', .int .i64 ((i + 1 : Nat) : Int)] : List Value)).getD 1 undef)).toNat < n - (intOf ((([.slice q' n' c', .int .i64 (i : Int)] : List Value)).getD 1 undef)).toNat := by
    show n - (((i + 1 : Nat) : Int)).toNat < n - ((i : Nat) : Int).toNat
    omega
  have hbsz : w5.heap.size ≤ bx := by rw [← hbx]; exact e6.size
  -- a new key
  have hnew : ∀ w', Ext w8 w' → (∀ y ∈ r, ltO o y.1 S[i].1) → ∃ (x41 : Int), World.cell? w' ((blk bx).add 0) = some (.int .i64 x41) ∧ (
     ∃ (x42 : Int), World.cell? w' ((blk bx).add 1) = some (.int .i64 x42) ∧ (
     doAl (.cells #[.int .i64 x41, .int .i64 x42] 63) w' (fun b43 w44 =>
     doGo Tryz.prog (.builtin .append #[22, 22] 22 #[false, false]) #[.slice q' n' c', .slice (some (blk b43)) 1 1] w44 (retS (fun v48 w49 => ∃ (xp45 : Option Addr), ∃ (xn46 : Nat), ∃ (xc47 : Nat), v48 = (.slice xp45 xn46 xc47 : Value) ∧ (
       (∃ (i' nn cc : Nat) (qq : Option Addr), ([.slice xp45 xn46 xc47, .int .i64 (IntKind.wrap .i64 ((i : Int) + 1))] : List Value) = [.slice qq nn cc, .int .i64 i'] ∧ i' ≤ n ∧ Ext w5 w49 ∧ OwnP w49 w5.heap.size qq nn cc (sortL o p (S.take i'))) ∧
       n - (intOf (([.slice xp45 xn46 xc47, .int .i64 (IntKind.wrap .i64 ((i : Int) + 1))] : List Value).getD 1 undef)).toNat < n - (intOf (([.slice q' n' c', .int .i64 (i : Int)] : List Value).getD 1 undef)).toNat)) (fun ch w => Kfn R ch [] w))))) := by
    intro w' e9 hall
    have h9 := h8.ext e9
    refine ⟨_, h9.cell (i := 0) (add_blk _ _) rfl, _, h9.cell (i := 1) (add_blk _ _) rfl, ⟨?_⟩⟩
    have e10 := ext_alloc w' (.cells #[.int .i64 S[i].1, .int .i64 S[i].2] 63)
    have hrow10 := (e9.trans e10).row hrow8
    refine do_app elP hrow10 (m := 1) (cs_alloc w' _ _) (by simp) (by simp [Value.oneCell']) (by simp only [maxLen]; omega) (by omega) (Nat.le_trans e6.size (Nat.le_trans E8.size (e9.trans e10).size)) fun q11 c11 w11 h11 g11 => retS_ret ⟨_, _, _, rfl, ?_⟩
    rw [hnext]
    refine ⟨⟨i + 1, n' + 1, c11, q11, rfl, by omega, ?_, ?_⟩, ?_⟩
    · exact ext_own hrow10 (((e6.trans E8).trans e9).trans e10) g11 (Nat.le_refl _)
    · rw [hstep, put_end m1 hp hall]
      unfold OwnP; rw [prs_append]; exact h11
    · show n - (((i + 1 : Nat) : Int)).toNat < n - ((i : Nat) : Int).toNat
      omega
  refine ⟨⟨fun w' => Ext w8 w', ext_drew _, ?_⟩⟩
  refine ifB_intro (fun h0 => ?_) fun h0 => ?_
  · have h0 : n' = 0 := by simpa using h0
    refine ifB_t rfl (hnew _ (ext_drew _) ?_)
    have : r = [] := List.eq_nil_of_length_eq_zero (by omega)
    subst this; intro y hy; cases hy
  have h0 : 0 < n' := by have : ¬ n' = 0 := by simpa using h0
                         omega
  have hw1 : IntKind.wrap .i64 ((n' : Int) - 1) = ((n' - 1 : Nat) : Int) := by rw [wrap_of (by omega) (by omega)]; omega
  rw [hw1]
  refine ix_prC (fun w' e' => (ownP_cs hrow8).ext e') (ext_refl _) hrl (k := n' - 1) rfl (by omega) fun a s1 _ => ⟨_, s1, _, fun w' e' => (h8.ext e').cell (i := 0) (add_blk _ _) rfl, ?_⟩
  refine ifB_intro (fun hne => ?_) fun heq => ?_
  · have hne : (r[n' - 1]'(by omega)).1 ≠ S[i].1 := by simpa using hne
    refine hnew _ (ext_drew _) fun y hy => ?_
    have hlast : ltO o (r[n' - 1]'(by omega)).1 S[i].1 := by
      have h1 := hle _ (List.getElem_mem (show n' - 1 < r.length by omega))
      show cmpI o _ _ < 0
      rw [cmp_lt ho]
      rcases Int.lt_or_le (codeI o (r[n' - 1]'(by omega)).1) (codeI o S[i].1) with h | h
      · exact h
      · exfalso
        refine hne (cmpI_eq ho (m2 _ (List.getElem_mem _)).1 hxI.1 ?_)
        have k1 : ¬ cmpI o (r[n' - 1]'(by omega)).1 S[i].1 < 0 := by rw [cmp_lt ho]; omega
        have k2 : ¬ 0 < cmpI o (r[n' - 1]'(by omega)).1 S[i].1 := fun k => by
          have := cmpI_pos k
          rw [cmp_lt ho] at this; omega
        omega
    obtain ⟨j, hj, e⟩ := List.getElem_of_mem hy
    rcases Nat.lt_or_ge j (n' - 1) with hjl | hjl
    · rw [← e]; exact cmpI_trans (chain_lt (mayR_chain m1) hjl (by omega)) hlast
    · have : j = n' - 1 := by omega
      subst this; rw [← e]; exact hlast
  have heq : (r[n' - 1]'(by omega)).1 = S[i].1 := by simpa using heq
  refine ⟨⟨fun w' => Ext w8.drew w', ext_drew _, ?_⟩⟩
  have e9 := ext_drew w8
  refine ix_prC (fun w' e' => ((ownP_cs hrow8).ext e9).ext e') (ext_refl _) hrl (k := n' - 1) rfl (by omega) fun a _ s2 => ⟨_, s2, _, fun w' e' => ((h8.ext e9).ext e').cell (i := 1) (add_blk _ _) rfl, ?_⟩
  refine do_call Tryz.call78 (c_comb fun w11 e11 => retS_ret ⟨_, _, rfl, ?_⟩)
  rw [hp, cond_true]
  have E11 := (e9.trans (ext_drew _)).trans e11
  have hrow11 := E11.row hrow8
  refine ix_pr (ownP_cs hrow11) hrl (k := n' - 1) rfl (by omega) fun a' _ _ ha' => ?_
  refine own_st2 hrow11 (by omega) ha' fun w12 h12 g12 => ?_
  rw [hnext]
  refine ⟨⟨i + 1, n', c', q', rfl, by omega, ext_own hrow11 ((e6.trans E8).trans E11) g12 (Nat.le_refl _), ?_⟩, hmu⟩
  rw [hstep, put_last m1 hp (by omega) (by simpa [hrl] using heq)]
  simp only [hrl]
  exact h12
end Go.Proofs.YtlfjaogbehpleaaGreat

namespace Go.Proofs.YtlfjaogbehpleaaGreat
open Go Go.Sh Go.RowKit

def editL (o key : Int) (y : It × Bool) (l : List It) : List It := ltF o key l ++ (cond y.2 [y.1] []) ++ gtF o key l
/-! ### what the three do with an item -/
def insI (p : Int) (x y : It) (is : Bool) : It × Bool := (cond is (y.1, comb p y.2.1 x.2.1, y.2.2) x, true)
/-! ### Insert, Delete, Set -/
end Go.Proofs.YtlfjaogbehpleaaGreat

namespace Go.Proofs.YtlfjaogbehpleaaGreat
open Go Go.Sh Go.RowKit

/-! ### the chapter's examples -/
end Go.Proofs.YtlfjaogbehpleaaGreat

namespace Go.Proofs.YtlfjaogbehpleaaGreat
open Go Go.Sh Go.RowKit

def insL (o p : Int) (l : List It) (z : It) : List It := editL o z.1 (insI p z (lastE o z.1 l) (anyE o z.1 l)) l
def foldI (o p : Int) (l b : List It) : List It := b.foldl (insL o p) l
theorem foldI_nil (o p : Int) (l : List It) : foldI o p l [] = l := rfl
theorem foldI_cons (o p : Int) (l b : List It) (z : It) : foldI o p l (z :: b) = foldI o p (insL o p l z) b := rfl
theorem foldI_app (o p : Int) (l b d : List It) : foldI o p l (b ++ d) = foldI o p (foldI o p l b) d := List.foldl_append
theorem cmpI_sym {o a b : Int} (h : cmpI o a b = 0) : cmpI o b a = 0 := by
  rcases Int.lt_trichotomy (cmpI o b a) 0 with g | g | g
  · have := cmpI_neg g; omega
  · exact g
  · have := cmpI_pos g; omega
theorem insL_left {o p : Int} {l m : List It} {z : It} (h : ∀ x ∈ m, 0 < cmpI o x.1 z.1) : insL o p (l ++ m) z = insL o p l z ++ m := by
  have e1 : ltF o z.1 (l ++ m) = ltF o z.1 l := by
    unfold ltF; rw [List.filter_append, filt_no (l := m) fun x hx => decide_eq_false (by have := h x hx; omega), List.append_nil]
  have e2 : eqF o z.1 (l ++ m) = eqF o z.1 l := by
    unfold eqF; rw [List.filter_append, filt_no (l := m) fun x hx => decide_eq_false (by have := h x hx; omega), List.append_nil]
  have e3 : gtF o z.1 (l ++ m) = gtF o z.1 l ++ m := by
    unfold gtF; rw [List.filter_append, filt_all (l := m) fun x hx => decide_eq_true (h x hx)]
  unfold insL editL lastE anyE
  rw [e1, e2, e3, List.append_assoc, List.append_assoc, List.append_assoc]
theorem insL_right {o p : Int} {l m : List It} {z : It} (h : ∀ x ∈ l, cmpI o x.1 z.1 < 0) : insL o p (l ++ m) z = l ++ insL o p m z := by
  have e1 : ltF o z.1 (l ++ m) = l ++ ltF o z.1 m := by
    unfold ltF; rw [List.filter_append, filt_all (l := l) fun x hx => decide_eq_true (h x hx)]
  have e2 : eqF o z.1 (l ++ m) = eqF o z.1 m := by
    unfold eqF; rw [List.filter_append, filt_no (l := l) fun x hx => decide_eq_false (by have := h x hx; omega), List.nil_append]
  have e3 : gtF o z.1 (l ++ m) = gtF o z.1 m := by
    unfold gtF; rw [List.filter_append, filt_no (l := l) fun x hx => decide_eq_false (by have := h x hx; omega), List.nil_append]
  unfold insL editL lastE anyE
  rw [e1, e2, e3, List.append_assoc, List.append_assoc, List.append_assoc]
theorem insL_nil {o p : Int} {z : It} : insL o p [] z = [z] := rfl
theorem foldI_left {o p : Int} {m : List It} : ∀ {b l : List It}, (∀ z ∈ b, ∀ x ∈ m, 0 < cmpI o x.1 z.1) → foldI o p (l ++ m) b = foldI o p l b ++ m
  | [], l, _ => rfl
  | z :: b, l, h => by
    rw [foldI_cons, foldI_cons, insL_left (h z (.head _)), foldI_left fun y hy => h y (.tail _ hy)]
theorem foldI_right {o p : Int} {l : List It} : ∀ {b m : List It}, (∀ z ∈ b, ∀ x ∈ l, cmpI o x.1 z.1 < 0) → foldI o p (l ++ m) b = l ++ foldI o p m b
  | [], m, _ => rfl
  | z :: b, m, h => by
    rw [foldI_cons, foldI_cons, insL_right (h z (.head _)), foldI_right fun y hy => h y (.tail _ hy)]
theorem asc_cons {o : Int} {x : It} {l : List It} (h : asc o (x :: l)) : (∀ y ∈ l, cmpI o x.1 y.1 < 0) ∧ asc o l := by
  unfold asc at h ⊢
  rw [List.map_cons, List.pairwise_cons] at h
  exact ⟨fun y hy => h.1 _ (List.mem_map_of_mem hy), h.2⟩
theorem foldI_none {o p : Int} : ∀ {b : List It}, asc o b → foldI o p [] b = b
  | [], _ => rfl
  | z :: b, h => by
    obtain ⟨h1, h2⟩ := asc_cons h
    rw [foldI_cons, insL_nil, show [z] = [z] ++ ([] : List It) from rfl, foldI_right fun y hy x hx => by simp at hx; subst hx; exact h1 y hy]
    rw [foldI_none h2]; rfl
theorem asc_parts {o key : Int} : ∀ {l : List It}, asc o l → l = ltF o key l ++ (eqF o key l ++ gtF o key l)
  | [], _ => rfl
  | x :: l, h => by
    obtain ⟨h1, h2⟩ := asc_cons h
    have ih := asc_parts (key := key) h2
    rcases Int.lt_trichotomy (cmpI o x.1 key) 0 with g | g | g
    · have e1 : ltF o key (x :: l) = x :: ltF o key l := by unfold ltF; rw [List.filter_cons, if_pos (decide_eq_true g)]
      have e2 : eqF o key (x :: l) = eqF o key l := by unfold eqF; rw [List.filter_cons, if_neg (by simp; omega)]
      have e3 : gtF o key (x :: l) = gtF o key l := by unfold gtF; rw [List.filter_cons, if_neg (by simp; omega)]
      rw [e1, e2, e3, List.cons_append, ← ih]
    · have hgt : ∀ y ∈ l, 0 < cmpI o y.1 key := fun y hy => cmpI_eql (h1 y hy) g
      have e1 : ltF o key (x :: l) = [] := by unfold ltF; rw [List.filter_cons, if_neg (by simp; omega), filt_no fun y hy => decide_eq_false (by have := hgt y hy; omega)]
      have e2 : eqF o key (x :: l) = [x] := by unfold eqF; rw [List.filter_cons, if_pos (decide_eq_true g), filt_no fun y hy => decide_eq_false (by have := hgt y hy; omega)]
      have e3 : gtF o key (x :: l) = l := by unfold gtF; rw [List.filter_cons, if_neg (by simp; omega), filt_all fun y hy => decide_eq_true (hgt y hy)]
      rw [e1, e2, e3]; rfl
    · have hgt : ∀ y ∈ l, 0 < cmpI o y.1 key := fun y hy => by
        have := cmpI_trans (cmpI_pos g) (h1 y hy)
        exact cmpI_neg this
      have e1 : ltF o key (x :: l) = [] := by unfold ltF; rw [List.filter_cons, if_neg (by simp; omega), filt_no fun y hy => decide_eq_false (by have := hgt y hy; omega)]
      have e2 : eqF o key (x :: l) = [] := by unfold eqF; rw [List.filter_cons, if_neg (by simp; omega), filt_no fun y hy => decide_eq_false (by have := hgt y hy; omega)]
      have e3 : gtF o key (x :: l) = x :: l := by unfold gtF; rw [List.filter_cons, if_pos (decide_eq_true g), filt_all fun y hy => decide_eq_true (hgt y hy)]
      rw [e1, e2, e3]; rfl
theorem lastE_mem {o key : Int} {l : List It} (h : anyE o key l = true) : lastE o key l ∈ l ∧ cmpI o (lastE o key l).1 key = 0 := by
  unfold anyE at h
  unfold lastE
  cases hq : (eqF o key l).getLast? with
  | none => rw [List.getLast?_eq_none_iff] at hq; rw [hq] at h; cases h
  | some x =>
    have := List.mem_of_getLast? hq
    unfold eqF at this
    rw [List.mem_filter] at this
    exact ⟨this.1, of_decide_eq_true this.2⟩
theorem mem_insL {o p : Int} {l : List It} {z y : It} (h : y ∈ insL o p l z) : y ∈ l ∨ y = z ∨ ∃ u ∈ l, y = (u.1, comb p u.2.1 z.2.1, u.2.2) := by
  unfold insL editL insI at h
  rcases List.mem_append.1 h with h | h
  · rcases List.mem_append.1 h with h | h
    · exact .inl (List.mem_filter.1 h).1
    · simp only [cond_true, List.mem_singleton] at h
      cases ha : anyE o z.1 l with
      | false => rw [ha] at h; exact .inr (.inl h)
      | true => rw [ha] at h; exact .inr (.inr ⟨_, (lastE_mem ha).1, h⟩)
  · exact .inl (List.mem_filter.1 h).1
/-- what all keys and tags have -/
theorem foldI_all {o p : Int} {P : Int → Int → Prop} : ∀ {b l : List It}, (∀ y ∈ l, P y.1 y.2.2) → (∀ y ∈ b, P y.1 y.2.2) → ∀ y ∈ foldI o p l b, P y.1 y.2.2
  | [], l, hl, _ => hl
  | z :: b, l, hl, hb => by
    refine foldI_all (l := insL o p l z) (b := b) (fun y hy => ?_) fun y hy => hb y (.tail _ hy)
    rcases mem_insL hy with h | rfl | ⟨u, hu, rfl⟩
    · exact hl y h
    · exact hb _ (.head _)
    · exact hl u hu
theorem asc_filter {o : Int} {l : List It} {q : It → Bool} (h : asc o l) : asc o (l.filter q) := List.Pairwise.sublist (List.Sublist.map _ List.filter_sublist) h
theorem asc_insL {o p : Int} {l : List It} {z : It} (h : asc o l) : asc o (insL o p l z) := by
  have hy : cmpI o (insI p z (lastE o z.1 l) (anyE o z.1 l)).1.1 z.1 = 0 := by
    unfold insI
    cases ha : anyE o z.1 l with
    | false => exact cmpI_self _ _
    | true => exact (lastE_mem ha).2
  unfold insL editL
  generalize (insI p z (lastE o z.1 l) (anyE o z.1 l)).1 = y at *
  show asc o (ltF o z.1 l ++ [y] ++ gtF o z.1 l)
  have h1 : asc o (ltF o z.1 l) := asc_filter h
  have h3 : asc o (gtF o z.1 l) := asc_filter h
  have a1 : ∀ x ∈ ltF o z.1 l, cmpI o x.1 y.1 < 0 := fun x hx => cmpI_eqr (of_decide_eq_true (List.mem_filter.1 hx).2) (cmpI_sym hy)
  have a2 : ∀ x ∈ gtF o z.1 l, cmpI o y.1 x.1 < 0 := fun x hx => by
    have g := cmpI_pos (of_decide_eq_true (List.mem_filter.1 hx).2)
    have g := cmpI_neg g
    rcases Int.lt_trichotomy (cmpI o y.1 x.1) 0 with k | k | k
    · exact k
    · have := cmpI_eqr (cmpI_pos g) (cmpI_sym k); have := cmpI_neg this; have := cmpI_sym hy; omega
    · have := cmpI_trans (cmpI_pos g) (cmpI_pos k); have := cmpI_neg this; omega
  unfold asc at *
  rw [List.map_append, List.map_append, List.pairwise_append, List.pairwise_append]
  refine ⟨⟨h1, by simp, fun a ha b hb => ?_⟩, h3, fun a ha b hb => ?_⟩
  · obtain ⟨x, hx, rfl⟩ := List.mem_map.1 ha
    simp at hb; subst hb
    exact a1 x hx
  · obtain ⟨x, hx, rfl⟩ := List.mem_map.1 hb
    rcases List.mem_append.1 ha with ha | ha
    · obtain ⟨u, hu, rfl⟩ := List.mem_map.1 ha
      exact cmpI_trans (a1 u hu) (a2 x hx)
    · simp at ha; subst ha
      exact a2 x hx
theorem asc_foldI {o p : Int} : ∀ {b l : List It}, asc o l → asc o (foldI o p l b)
  | [], _, h => h
  | _ :: b, _, h => asc_foldI (b := b) (asc_insL h)
/-! ### trees -/
end Go.Proofs.YtlfjaogbehpleaaGreat

namespace Go.Proofs.YtlfjaogbehpleaaGreat
open Go Go.Sh Go.RowKit

theorem do_callf {P : Program} {k : Nat} {first cap args bs : Array Value} {w : World} {R : Ending → World → Prop} (he : ∀ xs w, (callFunc k xs).run P w = .ok (.enter k xs) w) (hb : first ++ args ++ cap = bs) (h : Calls P k bs w R) :
    doCall P (.func (.func k) first cap) args w R := ⟨callV_func he (by subst hb; exact h)⟩
theorem inK_lt {c o key : Int} {t s : Tr} {q : It → Bool} (h : InK t) (e : itsC c s = (itsC c t).filter q) (_ : asc o (itsC c t)) (_ : key = key) : InK s := (inK_its (c := c)).2 fun x hx => by
  rw [e] at hx
  exact (inK_its (c := c)).1 h x (List.mem_filter.1 hx).1
end Go.Proofs.YtlfjaogbehpleaaGreat

namespace Go.Proofs.YtlfjaogbehpleaaGreat
open Go Go.Sh Go.RowKit

/-! ### Many -/
structure OkU (c o : Int) (t : Tr) : Prop where
  ok : OkM c t
  asc : asc o (itsC c t)
  k : InK t
/-! ### the document's -/
end Go.Proofs.YtlfjaogbehpleaaGreat

namespace Go.Proofs.YtlfjaogbehpleaaGreat
open Go Go.Sh Go.RowKit

def findK (b : List It) (k : Int) : Option It := b.find? fun z => decide (z.1 = k)
def lessL (a b : List It) : List It := a.filter fun x => (findK b x.1).isNone
def meetG (p : Int) (b : List It) (x : It) : Option It := (findK b x.1).map fun y => (x.1, comb p x.2.1 y.2.1, x.2.2)
def meetL (p : Int) (a b : List It) : List It := a.filterMap (meetG p b)
theorem findK_filter {b : List It} {k : Int} {q : It → Bool} (h : ∀ z ∈ b, z.1 = k → q z = true) : findK (b.filter q) k = findK b k := by
  unfold findK
  rw [List.find?_filter]
  induction b with
  | nil => rfl
  | cons z b ih =>
    have ih := ih fun y hy => h y (.tail _ hy)
    simp only [List.find?_cons]
    by_cases hz : z.1 = k
    · simp [h z (.head _) hz, hz]
    · simp [hz]; simpa using ih
theorem findK_eq {o k : Int} {b : List It} (ho : isO o = true) (hk : In k) (hb : ∀ z ∈ b, In z.1) : findK b k = (eqF o k b).head? := by
  unfold findK eqF
  rw [List.head?_filter]
  induction b with
  | nil => rfl
  | cons z b ih =>
    have ih := ih fun y hy => hb y (.tail _ hy)
    simp only [List.find?_cons]
    have : decide (z.1 = k) = decide (cmpI o z.1 k = 0) := by
      by_cases hz : z.1 = k
      · rw [decide_eq_true hz, hz, cmpI_self]; rfl
      · rw [decide_eq_false hz, decide_eq_false fun g => hz (cmpI_eq ho (hb z (.head _)) hk g)]
    rw [this, ih]
theorem findK_none {b : List It} {k : Int} (h : ∀ z ∈ b, z.1 ≠ k) : findK b k = none := by
  unfold findK
  rw [List.find?_eq_none]
  intro z hz
  simp [h z hz]
theorem less_nil (a : List It) : lessL a [] = a := filt_all fun _ _ => rfl
theorem less_app (a d b : List It) : lessL (a ++ d) b = lessL a b ++ lessL d b := List.filter_append ..
theorem less_congr {a b d : List It} (h : ∀ x ∈ a, findK b x.1 = findK d x.1) : lessL a b = lessL a d := by
  unfold lessL
  exact List.filter_congr fun x hx => by rw [h x hx]
theorem meet_congr {p : Int} {a b d : List It} (h : ∀ x ∈ a, findK b x.1 = findK d x.1) : meetL p a b = meetL p a d := by
  unfold meetL
  induction a with
  | nil => rfl
  | cons x a ih =>
    rw [List.filterMap_cons, List.filterMap_cons, ih fun y hy => h y (.tail _ hy)]
    unfold meetG
    rw [h x (.head _)]
theorem mem_less {a b : List It} {x : It} (h : x ∈ lessL a b) : x ∈ a := (List.mem_filter.1 h).1
/-- what stands below a key is found below it -/
theorem find_lt {o k : Int} {a b : List It} (h : ∀ x ∈ a, cmpI o x.1 k < 0) : ∀ x ∈ a, findK b x.1 = findK (ltF o k b) x.1 := fun x hx =>
  (findK_filter fun z _ e => by rw [e]; exact decide_eq_true (h x hx)).symm
theorem find_gt {o k : Int} {a b : List It} (h : ∀ x ∈ a, 0 < cmpI o x.1 k) : ∀ x ∈ a, findK b x.1 = findK (gtF o k b) x.1 := fun x hx =>
  (findK_filter fun z _ e => by rw [e]; exact decide_eq_true (h x hx)).symm
/-! ### trees -/
/-- two trees, gone down together -/
def goC (c o : Int) (f1 f2 : Tr → Tr) (it : It → It → Bool → It × Bool) : Tr → Tr → Tr
  | .nil, u => f2 u
  | .node l k v g r, u =>
    if u.nn then
      if (it (itC c (k, v, g)) (itO (splitC c o k u).2.1) (splitC c o k u).2.1.isSome).2 then
        joinC c (goC c o f1 f2 it l (splitC c o k u).1) (it (itC c (k, v, g)) (itO (splitC c o k u).2.1) (splitC c o k u).2.1.isSome).1 (goC c o f1 f2 it r (splitC c o k u).2.2)
      else join2C c (goC c o f1 f2 it l (splitC c o k u).1) (goC c o f1 f2 it r (splitC c o k u).2.2)
    else f1 (.node l k v g r)
theorem join2C_size {c : Int} {l r : Tr} (hl : OkP c l) (hr : OkP c r) : (join2C c l r).size = l.size + r.size := by
  have := congrArg List.length (join2C_ok hl hr).2
  simp only [itsC_len, List.length_append] at this
  omega
structure Side (c : Int) (f : Tr → Tr) : Prop where
  ok : ∀ t, OkP c t → OkM c (f t)
  sz : ∀ t, OkP c t → (f t).size ≤ t.size
theorem goC_p {c o : Int} {f1 f2 : Tr → Tr} {it : It → It → Bool → It × Bool} (h1 : Side c f1) (h2 : Side c f2) : ∀ {a u : Tr}, OkP c a → OkM c u → OkM c (goC c o f1 f2 it a u) ∧ (goC c o f1 f2 it a u).size ≤ a.size + u.size
  | .nil, u, _, hu => ⟨h2.ok u hu.1, by have := h2.sz u hu.1; show (f2 u).size ≤ 0 + u.size; omega⟩
  | .node l k v g r, u, ha, hu => by
    obtain ⟨hl, hr⟩ := ha.sides
    have e : (Tr.node l k v g r).size = l.size + 1 + r.size := rfl
    unfold goC
    split
    · have sp := splitC_p (o := o) (key := k) hu.1
      have IL := goC_p (o := o) (it := it) h1 h2 hl sp.1
      have IR := goC_p (o := o) (it := it) h1 h2 hr sp.2.1
      split
      · have j := joinC_ok IL.1.1 IR.1.1 (it (itC c (k, v, g)) (itO (splitC c o k u).2.1) (splitC c o k u).2.1.isSome).1
        have js := joinC_size IL.1.1 IR.1.1 (it (itC c (k, v, g)) (itO (splitC c o k u).2.1) (splitC c o k u).2.1.isSome).1
        exact ⟨j.1, by rw [js]; omega⟩
      · have j := join2C_ok IL.1.1 IR.1.1
        have js := join2C_size IL.1.1 IR.1.1
        exact ⟨j.1, by rw [js]; omega⟩
    · exact ⟨h1.ok _ ha, by have := h1.sz _ ha; omega⟩
/-- whatever goes by parts: if it holds of what is empty, and goes by parts, it holds -/
theorem goC_its {c o : Int} {f1 f2 : Tr → Tr} {it : It → It → Bool → It × Bool} (h1 : Side c f1) (h2 : Side c f2) (W : List It → List It → List It)
    (w1 : ∀ t, OkP c t → asc o (itsC c t) → itsC c (f2 t) = W [] (itsC c t)) (w2 : ∀ t, OkP c t → itsC c (f1 t) = W (itsC c t) [])
    (hi : ∀ x y is, itC c x = x → itC c (it x y is).1 = (it x y is).1)
    (w3 : ∀ l r x b (z : Option It), asc o (l ++ x :: r) → asc o b → In x.1 → (∀ y ∈ l, In y.1) → (∀ y ∈ r, In y.1) → (∀ y ∈ b, In y.1) → (∀ y ∈ l, cmpI o y.1 x.1 < 0) → (∀ y ∈ r, cmpI o x.1 y.1 < 0) → z.toList = eqF o x.1 b →
      W (l ++ x :: r) b = W l (ltF o x.1 b) ++ (cond (it x (itO z) z.isSome).2 [(it x (itO z) z.isSome).1] []) ++ W r (gtF o x.1 b)) :
    ∀ {a u : Tr}, OkP c a → OkM c u → asc o (itsC c a) → asc o (itsC c u) → InK a → InK u → itsC c (goC c o f1 f2 it a u) = W (itsC c a) (itsC c u)
  | .nil, u, _, hu, _, hau, _, _ => w1 u hu.1 hau
  | .node l k v g r, u, ha, hu, haa, hau, hka, hku => by
    obtain ⟨hl, hr⟩ := ha.sides
    obtain ⟨al, ar, bl, br⟩ := asc_node haa
    obtain ⟨kl, kk, kr⟩ := hka
    unfold goC
    split
    · have S := splitC_ok (o := o) (key := k) hu.1 hau
      have q1 : asc o (itsC c (splitC c o k u).1) := by rw [S.lt]; exact asc_filter hau
      have q2 : asc o (itsC c (splitC c o k u).2.2) := by rw [S.gt]; exact asc_filter hau
      have kuI := (inK_its (c := c)).1 hku
      have k1 : InK (splitC c o k u).1 := (inK_its (c := c)).2 fun x hx => by rw [S.lt] at hx; exact kuI x (List.mem_filter.1 hx).1
      have k2 : InK (splitC c o k u).2.2 := (inK_its (c := c)).2 fun x hx => by rw [S.gt] at hx; exact kuI x (List.mem_filter.1 hx).1
      have IL := goC_its h1 h2 W w1 w2 hi w3 hl S.okl al q1 kl k1
      have IR := goC_its h1 h2 W w1 w2 hi w3 hr S.okr ar q2 kr k2
      have pL := goC_p (o := o) (it := it) h1 h2 hl S.okl
      have pR := goC_p (o := o) (it := it) h1 h2 hr S.okr
      have hxk : (itC c (k, v, g)).1 = k := itC_key _ _
      have w := w3 (itsC c l) (itsC c r) (itC c (k, v, g)) (itsC c u) (splitC c o k u).2.1 (by rw [← itsC_node]; exact haa) hau (by rw [hxk]; exact kk) ((inK_its (c := c)).1 kl) ((inK_its (c := c)).1 kr) kuI (by rw [hxk]; exact bl) (by rw [hxk]; exact br) (by rw [hxk]; exact S.eq)
      rw [hxk] at w
      rw [itsC_node, w]
      have hfix := hi (itC c (k, v, g)) (itO (splitC c o k u).2.1) (splitC c o k u).2.1.isSome (itC_itC c _)
      split
      · rename_i hy
        have j := joinC_ok pL.1.1 pR.1.1 (it (itC c (k, v, g)) (itO (splitC c o k u).2.1) (splitC c o k u).2.1.isSome).1
        rw [j.2, IL, IR, S.lt, S.gt, hfix, hy]
        simp
      · rename_i hy
        have j := join2C_ok pL.1.1 pR.1.1
        rw [j.2, IL, IR, S.lt, S.gt, (Bool.not_eq_true _).mp hy]
        simp
    · rename_i hn
      have : u = .nil := by cases u with
        | nil => rfl
        | node _ _ _ _ _ => exact absurd rfl hn
      subst this
      exact w2 _ ha
end Go.Proofs.YtlfjaogbehpleaaGreat

namespace Go.Proofs.YtlfjaogbehpleaaGreat
open Go Go.Sh Go.RowKit

def aloneI (x _ : It) (is : Bool) : It × Bool := (x, !is)
def meetI (p : Int) (x y : It) (is : Bool) : It × Bool := ((x.1, comb p x.2.1 y.2.1, x.2.2), is)
theorem side_whole (c : Int) : Side c (wholeC c) := ⟨fun _ h => (wholeC_ok h).1, fun _ h => Nat.le_of_eq (wholeC_size h)⟩
theorem side_none {c : Int} (hc : isS c = true) : Side c fun _ => .nil := ⟨fun _ _ => .nil hc, fun _ _ => Nat.zero_le _⟩
theorem head_one {l : List It} {z : Option It} (h : z.toList = l) : l.head? = z := by subst h; cases z <;> rfl
theorem find_app (a d : List It) (k : Int) : findK (a ++ d) k = (findK a k).or (findK d k) := List.find?_append
theorem itC_same {c v : Int} {x : It} (h : itC c x = x) : itC c (x.1, v, x.2.2) = (x.1, v, x.2.2) := by
  unfold itC at h ⊢
  split
  · rfl
  · rename_i hc
    rw [if_neg hc] at h
    have := congrArg (fun y : It => y.2.2) h
    simp at this
    simp [this]
theorem less_parts {o : Int} (ho : isO o = true) {l r b : List It} {x : It} {z : Option It} (hx : In x.1) (hb : ∀ y ∈ b, In y.1) (bl : ∀ y ∈ l, cmpI o y.1 x.1 < 0) (br : ∀ y ∈ r, cmpI o x.1 y.1 < 0) (hz : z.toList = eqF o x.1 b) :
    lessL (l ++ x :: r) b = lessL l (ltF o x.1 b) ++ (cond (!z.isSome) [x] []) ++ lessL r (gtF o x.1 b) := by
  rw [show l ++ x :: r = (l ++ [x]) ++ r by simp, less_app, less_app, less_congr (find_lt (b := b) bl), less_congr (a := r) (find_gt (b := b) fun y hy => cmpI_neg (br y hy))]
  congr 2
  unfold lessL
  rw [List.filter_cons, List.filter_nil, findK_eq ho hx hb, head_one hz]
  cases z <;> rfl
theorem meet_parts {o p : Int} (ho : isO o = true) {l r b : List It} {x : It} {z : Option It} (hx : In x.1) (hb : ∀ y ∈ b, In y.1) (bl : ∀ y ∈ l, cmpI o y.1 x.1 < 0) (br : ∀ y ∈ r, cmpI o x.1 y.1 < 0) (hz : z.toList = eqF o x.1 b) :
    meetL p (l ++ x :: r) b = meetL p l (ltF o x.1 b) ++ (cond (meetI p x (itO z) z.isSome).2 [(meetI p x (itO z) z.isSome).1] []) ++ meetL p r (gtF o x.1 b) := by
  rw [← meet_congr (find_lt (b := b) bl), ← meet_congr (a := r) (find_gt (b := b) fun y hy => cmpI_neg (br y hy))]
  unfold meetL
  rw [show l ++ x :: r = (l ++ [x]) ++ r by simp, List.filterMap_append, List.filterMap_append]
  congr 2
  rw [List.filterMap_cons, List.filterMap_nil]
  unfold meetG
  rw [findK_eq ho hx hb, head_one hz]
  cases z <;> rfl
def meetC (c o p : Int) : Tr → Tr → Tr := goC c o (fun _ => .nil) (fun _ => .nil) (meetI p)
def apartC (c o : Int) : Tr → Tr → Tr := goC c o (wholeC c) (wholeC c) aloneI
def apartL (o : Int) (a b : List It) : List It := foldI o 1 (lessL a b) (lessL b a)
theorem meetC_ok {c o p : Int} (ho : isO o = true) {a u : Tr} (ha : OkU c o a) (hu : OkU c o u) : OkM c (meetC c o p a u) ∧ itsC c (meetC c o p a u) = meetL p (itsC c a) (itsC c u) ∧ (meetC c o p a u).size ≤ a.size + u.size := by
  have hc := ha.ok.1.s
  have P := goC_p (o := o) (it := meetI p) (side_none hc) (side_none hc) ha.ok.1 hu.ok
  refine ⟨P.1, goC_its (side_none hc) (side_none hc) (meetL p) (fun _ _ _ => rfl) (fun t _ => ?_) (fun x y is h => itC_same (v := comb p x.2.1 y.2.1) h) (fun l r x b z _ _ hx _ _ hb bl br hz => meet_parts ho hx hb bl br hz) ha.ok.1 hu.ok ha.asc hu.asc ha.k hu.k, P.2⟩
  symm
  show List.filterMap (meetG p []) (itsC c t) = []
  rw [List.filterMap_eq_nil_iff]
  intro x _
  rfl
theorem less_below {o : Int} {l r : List It} {x : It} {b : List It} (bl : ∀ y ∈ b, cmpI o y.1 x.1 < 0) (br : ∀ y ∈ r, cmpI o x.1 y.1 < 0) : lessL b (l ++ x :: r) = lessL b l := less_congr fun y hy => by
  rw [find_app, findK_none (b := x :: r) fun z hz e => ?_, Option.or_none]
  have g := bl y hy
  rw [← e] at g
  rcases List.mem_cons.1 hz with rfl | hz
  · have := cmpI_self o z.1; omega
  · have := cmpI_neg (br z hz); omega
theorem less_above {o : Int} {l r : List It} {x : It} {b : List It} (bb : ∀ y ∈ b, 0 < cmpI o y.1 x.1) (bl : ∀ y ∈ l, cmpI o y.1 x.1 < 0) : lessL b (l ++ x :: r) = lessL b r := less_congr fun y hy => by
  rw [show l ++ x :: r = (l ++ [x]) ++ r by simp, find_app, findK_none (b := l ++ [x]) fun z hz e => ?_, Option.none_or]
  have g := bb y hy
  rw [← e] at g
  rcases List.mem_append.1 hz with hz | hz
  · have := bl z hz; omega
  · simp at hz; subst hz
    have := cmpI_self o z.1; omega
theorem apart_parts {o : Int} (ho : isO o = true) {l r b : List It} {x : It} {z : Option It} (hb0 : asc o b) (hx : In x.1) (hb : ∀ y ∈ b, In y.1) (bl : ∀ y ∈ l, cmpI o y.1 x.1 < 0) (br : ∀ y ∈ r, cmpI o x.1 y.1 < 0) (hz : z.toList = eqF o x.1 b) :
    apartL o (l ++ x :: r) b = apartL o l (ltF o x.1 b) ++ (cond (!z.isSome) [x] []) ++ apartL o r (gtF o x.1 b) := by
  have mlt : ∀ y ∈ ltF o x.1 b, cmpI o y.1 x.1 < 0 := fun z hz => of_decide_eq_true (List.mem_filter.1 hz).2
  have meq : ∀ y ∈ eqF o x.1 b, cmpI o y.1 x.1 = 0 := fun z hz => of_decide_eq_true (List.mem_filter.1 hz).2
  have mgt : ∀ y ∈ gtF o x.1 b, 0 < cmpI o y.1 x.1 := fun z hz => of_decide_eq_true (List.mem_filter.1 hz).2
  have e2 : lessL b (l ++ x :: r) = lessL (ltF o x.1 b) l ++ lessL (gtF o x.1 b) r := by
    have hp := asc_parts (key := x.1) hb0
    rw [show lessL b (l ++ x :: r) = lessL (ltF o x.1 b ++ (eqF o x.1 b ++ gtF o x.1 b)) (l ++ x :: r) from congrArg (fun q => lessL q (l ++ x :: r)) hp]
    rw [less_app, less_app, less_below mlt br, less_above mgt bl]
    have : lessL (eqF o x.1 b) (l ++ x :: r) = [] := filt_no fun y hy => by
      have e := cmpI_eq ho (hb y (List.mem_filter.1 hy).1) hx (meq y hy)
      rw [find_app, Option.isNone_or]
      have : findK (x :: r) y.1 = some x := by unfold findK; rw [List.find?_cons, decide_eq_true e.symm]
      rw [this]; simp
    rw [this, List.nil_append]
  unfold apartL
  rw [less_parts ho hx hb bl br hz, e2, foldI_app, List.append_assoc]
  have hX : ∀ y ∈ (cond (!z.isSome) [x] [] : List It), y = x := fun y hy => by cases z <;> simp at hy; exact hy
  rw [foldI_left (l := lessL l (ltF o x.1 b)) fun w hw y hy => by
    have g := mlt w (mem_less hw)
    rcases List.mem_append.1 hy with hy | hy
    · rw [hX y hy]; exact cmpI_neg g
    · exact cmpI_neg (cmpI_trans g (br y (mem_less hy)))]
  rw [← List.append_assoc, foldI_right fun w hw y hy => ?_]
  have g := cmpI_pos (mgt w (mem_less hw))
  rcases List.mem_append.1 hy with hy | hy
  · exact cmpI_trans (foldI_all (P := fun a _ => cmpI o a x.1 < 0) (fun y hy => bl y (mem_less hy)) (fun y hy => mlt y (mem_less hy)) y hy) g
  · rw [hX y hy]; exact g
theorem apartC_ok {c o : Int} (ho : isO o = true) {a u : Tr} (ha : OkU c o a) (hu : OkU c o u) : OkM c (apartC c o a u) ∧ itsC c (apartC c o a u) = apartL o (itsC c a) (itsC c u) ∧ (apartC c o a u).size ≤ a.size + u.size := by
  have P := goC_p (o := o) (it := aloneI) (side_whole c) (side_whole c) ha.ok.1 hu.ok
  refine ⟨P.1, goC_its (side_whole c) (side_whole c) (apartL o) (fun t ht hat => ?_) (fun t ht => ?_) (fun _ _ _ h => h) (fun l r x b z _ hb0 hx _ _ hb bl br hz => apart_parts ho hb0 hx hb bl br hz) ha.ok.1 hu.ok ha.asc hu.asc ha.k hu.k, P.2⟩
  · rw [(wholeC_ok ht).2]
    unfold apartL
    rw [less_nil]
    exact (foldI_none hat).symm
  · rw [(wholeC_ok ht).2]
    unfold apartL
    rw [less_nil]; rfl
end Go.Proofs.YtlfjaogbehpleaaGreat

namespace Go.Proofs.YtlfjaogbehpleaaGreat
open Go Go.Sh Go.RowKit

theorem tagL_key {c : Int} {ds : List Int} {l : List Pr} {k : Int} : (∃ x ∈ tagL c ds l, x.1 = k) ↔ ∃ y ∈ l, y.1 = k := by
  have e := tagL_prs c ds l
  constructor
  · rintro ⟨x, hx, rfl⟩
    refine ⟨(x.1, x.2.1), ?_, rfl⟩
    have := List.mem_map_of_mem (f := fun x : It => (x.1, x.2.1)) hx
    rw [e] at this
    exact this
  · rintro ⟨y, hy, rfl⟩
    rw [← e] at hy
    obtain ⟨x, hx, rfl⟩ := List.mem_map.1 hy
    exact ⟨x, hx, rfl⟩
theorem findK_isSome {b : List It} {k : Int} : (findK b k).isSome = true ↔ ∃ x ∈ b, x.1 = k := by
  unfold findK
  rw [List.find?_isSome]
  simp
end Go.Proofs.YtlfjaogbehpleaaGreat

namespace Go.Proofs.YtlfjaogbehpleaaGreat
open Go Go.Sh Go.RowKit

theorem c_brow_no {o : Int} {sp p : Option Addr} {l : List Pr} {q : Option Addr} {n cp : Nat} {w : World} {R : Ending → World → Prop} (hl : Cs w q (prs l)) (hn : l.length = n) (hB : n ≤ 1000000) (hI : InP l) (hno : sp = none ∨ mayR o l = false)
    (h : ∀ w', Ext w w' → R (.returned (.tuple #[.pointer none, .int .i64 2])) w') : Calls Tryz.prog 138 #[.pointer sp, .int .u8 o, .pointer p, .slice q n cp] w R := by
  refine sh138_ok _ _ _ _ _ _ ?_
  unfold sh138
  intro K13 _
  cases sp with
  | none => exact ifB_t rfl (h _ (ext_refl w))
  | some a =>
    have hm : mayR o l = false := by rcases hno with h | h
                                     · cases h
                                     · exact h
    refine ifB_f rfl (do_call Tryz.call25 (c_may hl hn (by omega) hI fun w1 e1 => retS_ret ⟨_, rfl, ?_⟩))
    rw [hm]
    exact ifB_t rfl (h _ e1)
theorem c_bof {c o po : Int} {b : Nat} {p : Option Addr} {D : Option (Nat × Nat × Nat × Nat)} {ds : List Int} {l : List Pr} {q : Option Addr} {n cp : Nat} {w : World} {R : Ending → World → Prop} (ho : isO o = true) (hp : may po = true) (hs : IsSch c b w) (hd : IsD p D ds w) (hN : topD D ≤ w.heap.size)
    (hl : Cs w q (prs l)) (hn : l.length = n) (hB : n ≤ 1000000) (hI : InP l)
    (h : ∀ qt w', Gd (b :: blksD D) w w' → IsSch c b w' → IsD p D (restL c ds (sortL o po l)) w' → IsN w' qt (bldC c (tagL c ds (sortL o po l))) → R (.returned (.tuple #[.pointer qt, .int .i64 0])) w') :
    Calls Tryz.prog 70 #[.pointer (some (blk b)), .int .u8 o, .int .u8 po, .pointer p, .slice q n cp] w R := by
  refine sh70_ok _ _ _ _ _ _ _ ?_
  unfold sh70
  refine do_call Tryz.call137 (c_rsort hl hn hB hI fun q1 n1 c1 w1 h1 e1 => retS_ret ⟨_, _, _, _, rfl, ?_⟩)
  rw [ho, hp] at h1 ⊢
  have h1 : OwnP w1 w.heap.size q1 n1 c1 (sortL o po l) := h1
  refine ifB_f rfl ?_
  have hm := sortL_may ho hp hI
  have hn1 := ownP_len h1
  have hslt := hs.lt
  have hDlt := hd.lt
  have l1 := e1.size
  refine do_call Tryz.call138 (c_brow (hs.ext e1) (hd.ext e1) (by omega) (fun w' g => ownP_cs (row_gd h1 g fun k hk => ?_)) hn1 (by omega) hm.2.1 hm.1 fun qt w2 g2 hs2 hd2 h2 => retS_ret ⟨_, _, rfl, h qt w2 ((gd_of e1).trans g2) hs2 hd2 h2⟩)
  rcases List.mem_cons.1 hk with rfl | hk
  · exact hslt
  · exact (hDlt k hk).1
theorem c_bof_no {o po : Int} {sp p : Option Addr} {l : List Pr} {q : Option Addr} {n cp : Nat} {w : World} {R : Ending → World → Prop} (hl : Cs w q (prs l)) (hn : l.length = n) (hB : n ≤ 1000000) (hI : InP l) (hno : sp = none ∨ (isO o && may po) = false)
    (h : ∀ w', Ext w w' → R (.returned (.tuple #[.pointer none, .int .i64 2])) w') : Calls Tryz.prog 70 #[.pointer sp, .int .u8 o, .int .u8 po, .pointer p, .slice q n cp] w R := by
  refine sh70_ok _ _ _ _ _ _ _ ?_
  unfold sh70
  refine do_call Tryz.call137 (c_rsort hl hn hB hI fun q1 n1 c1 w1 h1 e1 => retS_ret ⟨_, _, _, _, rfl, ?_⟩)
  cases hop : isO o && may po with
  | false => exact ifB_t rfl (h _ e1)
  | true =>
    rw [hop] at h1
    have h1 : OwnP w1 w.heap.size q1 n1 c1 (sortL o po l) := h1
    have hsp : sp = none := by rcases hno with h | h
                               · exact h
                               · rw [hop] at h; cases h
    have ho : isO o = true := by simp at hop; exact hop.1
    have hp : may po = true := by simp at hop; exact hop.2
    have hm := sortL_may ho hp hI
    have hn1 := ownP_len h1
    exact ifB_f rfl (do_call Tryz.call138 (c_brow_no (ownP_cs h1) hn1 (by omega) hm.2.1 (.inl hsp) fun w2 e2 => retS_ret ⟨_, _, rfl, h w2 (e1.trans e2)⟩))
/-! ### Keys -/
/-! ### the document's -/
end Go.Proofs.YtlfjaogbehpleaaGreat

namespace Go.Proofs.YtlfjaogbehpleaaGreat
open Go Go.Sh Go.RowKit

/-! ### what statements share -/
theorem isD_nil (w : World) : IsD none none [] w := ⟨rfl, rfl⟩
end Go.Proofs.YtlfjaogbehpleaaGreat

namespace Go.Proofs.YtlfjaogbehpleaaGreat
open Go Go.Sh Go.RowKit

/-- what the closure holds -/
structure CapsM (w : World) (b14 b16 b18 b36 b : Nat) (o : Int) (F1 : Value) (F2 : Value) (F3 : Value) (T36 : TypeId) : Prop where
  way : Blk w b14 #[F1, F2, F3] 131
  s : Blk w b16 #[.pointer (some (blk b))] 65
  o : Blk w b18 #[.int .u8 o] 5
  on : Blk w b36 #[.func (.func 143) #[] #[.pointer (some (blk b14)), .pointer (some (blk b16)), .pointer (some (blk b18)), .pointer (some (blk b36))]] T36
  ne : b14 ≠ b ∧ b16 ≠ b ∧ b18 ≠ b ∧ b36 ≠ b
theorem CapsM.gs {w w' : World} {b14 b16 b18 b36 b : Nat} {o : Int} {F1 F2 F3 : Value} {T36 : TypeId} (h : CapsM w b14 b16 b18 b36 b o F1 F2 F3 T36) (g : Gs b w w') : CapsM w' b14 b16 b18 b36 b o F1 F2 F3 T36 :=
  ⟨h.way.gs g h.ne.1, h.s.gs g h.ne.2.1, h.o.gs g h.ne.2.2.1, h.on.gs g h.ne.2.2.2, h.ne⟩
abbrev onM (b14 b16 b18 b36 : Nat) : Value := .func (.func 143) #[] #[.pointer (some (blk b14)), .pointer (some (blk b16)), .pointer (some (blk b18)), .pointer (some (blk b36))]
/-- a side of a way -/
def SideW (c : Int) (b : Nat) (F : Value) (f : Tr → Tr) : Prop := ∀ (t : Tr) (p : Option Addr) (w : World) (R : Ending → World → Prop), IsSch c b w → IsN w p t → OkP c t → t.size + 10 ≤ BIG → (∀ q w', Gs b w w' → IsSch c b w' → IsN w' q (f t) → R (.returned (.pointer q)) w') → doCall Tryz.prog F #[.pointer p] w R
def ItemW (b : Nat) (w0 : World) (F : Value) (it : It → It → Bool → It × Bool) : Prop := ∀ (x y : It) (is : Bool) (w : World) (R : Ending → World → Prop), Gs b w0 w → (∀ w', Ext w w' → R (.returned (.tuple #[agI (it x y is).1, .bool (it x y is).2])) w') → doCall Tryz.prog F #[agI x, agI y, .bool is] w R
set_option maxRecDepth 20000 in
set_option maxHeartbeats 1600000 in
theorem c_onM {c o : Int} {b b14 b16 b18 b36 : Nat} {T36 : TypeId} {w0 : World} {A1 A2 A3 : Fn} {X1 X2 X3 C1 C2 C3 : Array Value} {f1 f2 : Tr → Tr} {it : It → It → Bool → It × Bool} (ho : isO o = true) (s1 : Side c f1) (s2 : Side c f2)
    (H1 : SideW c b (.func A1 X1 C1) f1) (H2 : SideW c b (.func A2 X2 C2) f2) (H3 : ItemW b w0 (.func A3 X3 C3) it) :
    ∀ (a : Tr) {u : Tr} {pa pb : Option Addr} {w : World} {R : Ending → World → Prop} (_g0 : Gs b w0 w) (_hc : CapsM w b14 b16 b18 b36 b o (.func A1 X1 C1) (.func A2 X2 C2) (.func A3 X3 C3) T36) (_hs : IsSch c b w)
    (_ha : IsN w pa a) (_hu : IsN w pb u) (_oka : OkP c a) (_oku : OkM c u) (_hka : InK a) (_hku : InK u) (_hau : asc o (itsC c u)) (_hB : a.size + u.size + 10 ≤ BIG)
    (_h : ∀ q w', Gs b w w' → IsSch c b w' → IsN w' q (goC c o f1 f2 it a u) → R (.returned (.pointer q)) w'), doCall Tryz.prog (onM b14 b16 b18 b36) #[.pointer pa, .pointer pb] w R
  | .nil, u, pa, pb, w, R, g0, hc, hs, ha, hu, oka, oku, hka, hku, hau, hB, h => by
    refine do_callc Tryz.call143 (by rfl) (sh143_ok _ _ _ _ _ _ ?_)
    unfold sh143
    have : pa = none := ha
    subst this
    refine ifB_t rfl ⟨_, _, _, hc.way.cell (i := 1) (add_blk _ _) rfl, ?_⟩
    exact H2 u pb w _ hs hu oku.1 (by omega) fun q w1 g1 hs1 h1 => retS_ret ⟨_, rfl, h _ _ g1 hs1 h1⟩
  | .node l k v g r, u, pa, pb, w, R, g0, hc, hs, ha, hu, oka, oku, hka, hku, hau, hB, h => by
    refine do_callc Tryz.call143 (by rfl) (sh143_ok _ _ _ _ _ _ ?_)
    unfold sh143
    obtain ⟨hl, hr⟩ := oka.sides
    obtain ⟨kl, kk, kr⟩ := hka
    have e : (Tr.node l k v g r).size = l.size + 1 + r.size := rfl
    obtain ⟨ba, pal, par, rfl, hba⟩ := id ha
    refine ifB_f rfl ?_
    cases hn : u.nn with
    | false =>
      have hunil : u = .nil := by cases u with
        | nil => rfl
        | node _ _ _ _ _ => cases hn
      subst hunil
      have : pb = none := hu
      subst this
      refine ifB_t rfl ⟨_, _, _, hc.way.cell (i := 0) (add_blk _ _) rfl, ?_⟩
      exact H1 _ _ w _ hs ha oka (by omega) fun q w1 g1 hs1 h1 => retS_ret ⟨_, rfl, h _ _ g1 hs1 h1⟩
    | true =>
      have S := splitC_ok (o := o) (key := k) oku.1 hau
      have sp := splitC_p (o := o) (key := k) oku.1
      have q1 : asc o (itsC c (splitC c o k u).1) := by rw [S.lt]; exact asc_filter hau
      have q2 : asc o (itsC c (splitC c o k u).2.2) := by rw [S.gt]; exact asc_filter hau
      have k1 : InK (splitC c o k u).1 := inK_lt (key := k) hku S.lt hau rfl
      have k2 : InK (splitC c o k u).2.2 := inK_lt (key := k) hku S.gt hau rfl
      have pL := goC_p (o := o) (it := it) s1 s2 hl S.okl
      have pR := goC_p (o := o) (it := it) s1 s2 hr S.okr
      have hU : goC c o f1 f2 it (.node l k v g r) u = if (it (itC c (k, v, g)) (itO (splitC c o k u).2.1) (splitC c o k u).2.1.isSome).2 then
          joinC c (goC c o f1 f2 it l (splitC c o k u).1) (it (itC c (k, v, g)) (itO (splitC c o k u).2.1) (splitC c o k u).2.1.isSome).1 (goC c o f1 f2 it r (splitC c o k u).2.2)
        else join2C c (goC c o f1 f2 it l (splitC c o k u).1) (goC c o f1 f2 it r (splitC c o k u).2.2) := by rw [goC, if_pos hn]
      rw [hU] at h
      have hpb : pb.isNone = false := by
        cases u with
        | nil => cases hn
        | node _ _ _ _ _ => obtain ⟨_, _, _, rfl, _⟩ := hu; rfl
      refine ifB_f hpb ?_
      generalize hY : itO (splitC c o k u).2.1 = Y at *
      generalize hI : (splitC c o k u).2.1.isSome = isY at *
      intro K24
      have hK24 : ∀ w1 bz ql qr, Gs b w w1 → IsSch c b w1 → IsN w1 ql (splitC c o k u).1 → IsN w1 qr (splitC c o k u).2.2 → bz ≠ b →
          Blk w1 bz #[.int .i64 Y.1, .int .i64 Y.2.1, .int .u64 Y.2.2] 133 → K24 ql (blk bz) isY qr w1 := by
        intro w1 bz ql qr g1 hs1 hl1 hr1 nz hz
        have d := gs_of (b := b) (ext_drew w1)
        have g2 := g1.trans d
        have hc2 := hc.gs g2
        have hs2 := hs1.ext (ext_drew w1)
        have ha2 := ha.gs hs g2
        have hz2 := hz.ext (ext_drew w1)
        refine ⟨⟨fun w' => CapsM w' b14 b16 b18 b36 b o (.func A1 X1 C1) (.func A2 X2 C2) (.func A3 X3 C3) T36, hc2, _, _, _, fun w' q => q.on.cell (i := 0) rfl rfl, _, _, _, fun w' q => q.on.cell (i := 0) rfl rfl, ?_⟩⟩
        have hl2 := hl1.ext (ext_drew w1)
        have hr2 := hr1.ext (ext_drew w1)
        refine do_call Tryz.call128 (c_left ha2 fun pl hpl => retS_ret ⟨_, rfl, hc2, ?_⟩)
        refine c_onM ho s1 s2 H1 H2 H3 l (g0.trans g2) hc2 hs2 hpl hl2 hl S.okl kl k1 q1 (by omega) fun q3 w3 g3 hs3 h3 => retS_ret ⟨_, rfl, hc2.gs g3, ?_⟩
        have ha3 := ha2.gs hs2 g3
        have hr3 := hr2.gs hs2 g3
        refine do_call Tryz.call130 (c_right ha3 fun pr hpr => retS_ret ⟨_, rfl, hc2.gs g3, ?_⟩)
        refine c_onM ho s1 s2 H1 H2 H3 r ((g0.trans g2).trans g3) (hc2.gs g3) hs3 hpr hr3 hr S.okr kr k2 q2 (by omega) fun q6 w6 g6 hs6 h6 => retS_ret ⟨_, rfl, (hc2.gs g3).gs g6, ?_⟩
        have G6 := (g2.trans g3).trans g6
        have h36 := h3.gs hs3 g6
        have ha6 := ha3.gs hs3 g6
        have hz6 := (hz2.gs g3 nz).gs g6 nz
        have hc6 := (hc2.gs g3).gs g6
        intro K48
        have hK48 : ∀ w' bx, Gs b w6 w' → IsSch c b w' → IsN w' q3 (goC c o f1 f2 it l (splitC c o k u).1) → IsN w' q6 (goC c o f1 f2 it r (splitC c o k u).2.2) →
            Blk w' bx #[.int .i64 (it (itC c (k, v, g)) Y isY).1.1, .int .i64 (it (itC c (k, v, g)) Y isY).1.2.1, .int .u64 (it (itC c (k, v, g)) Y isY).1.2.2] 133 → K48 (blk bx) (it (itC c (k, v, g)) Y isY).2 w' := by
          intro w' bx gg hs' hl' hr' hx'
          have hc' := hc6.gs gg
          cases hst : (it (itC c (k, v, g)) Y isY).2 with
          | true =>
            rw [hst] at h
            refine ifB_t rfl ⟨_, hc'.s.cell (i := 0) rfl rfl, _, hx'.cell (i := 0) (add_blk _ _) rfl, _, hx'.cell (i := 1) (add_blk _ _) rfl, _, hx'.cell (i := 2) (add_blk _ _) rfl, ?_⟩
            exact do_call Tryz.call145 (c_sjoin hs' hl' hr' pL.1.1 pR.1.1 (by have := pL.2; have := pR.2; omega) fun q7 w7 g7 hs7 h7 => retS_ret ⟨_, rfl, h _ _ ((G6.trans gg).trans g7) hs7 h7⟩)
          | false =>
            rw [hst] at h
            refine ifB_f rfl ⟨_, hc'.s.cell (i := 0) rfl rfl, ?_⟩
            exact do_call Tryz.call146 (c_join2 hs' hl' hr' pL.1.1 pR.1.1 (by have := pL.2; have := pR.2; omega) fun q7 w7 g7 hs7 h7 => retS_ret ⟨_, rfl, h _ _ ((G6.trans gg).trans g7) hs7 h7⟩)
        have dr := ext_drew w6
        have cC : ∀ w', Gs b w6 w' → CapsM w' b14 b16 b18 b36 b o (.func A1 X1 C1) (.func A2 X2 C2) (.func A3 X3 C3) T36 ∧ Blk w' bz #[.int .i64 Y.1, .int .i64 Y.2.1, .int .u64 Y.2.2] 133 := fun w' gg => ⟨hc6.gs gg, hz6.gs gg nz⟩
        refine ⟨⟨fun w' => CapsM w' b14 b16 b18 b36 b o (.func A1 X1 C1) (.func A2 X2 C2) (.func A3 X3 C3) T36 ∧ Blk w' bz #[.int .i64 Y.1, .int .i64 Y.2.1, .int .u64 Y.2.2] 133, cC _ (gs_of dr),
          _, _, _, fun w' q => q.1.way.cell (i := 2) (add_blk _ _) rfl, _, fun w' q => q.1.s.cell (i := 0) rfl rfl, _, fun w' q => q.2.cell (i := 0) (add_blk _ _) rfl, _, fun w' q => q.2.cell (i := 1) (add_blk _ _) rfl, _, fun w' q => q.2.cell (i := 2) (add_blk _ _) rfl, ⟨?_, ?_⟩⟩⟩
        · refine do_call Tryz.call144 (c_sitem (hs6.ext dr) (ha6.ext dr) fun w7 g7 hs7 => retS_ret ⟨_, _, _, rfl, cC _ ((gs_of dr).trans g7), ?_⟩)
          have G7 := (gs_of (b := b) dr).trans g7
          have hl7 := h36.gs hs6 G7
          have hr7 := h6.gs hs6 G7
          constructor
          · refine H3 (rootC c (.node l k v g r)) Y isY w7 _ (((g0.trans G6)).trans G7) fun w8 e8 => retS_ret ⟨_, _, _, _, rfl, cC _ (G7.trans (gs_of e8)), ⟨?_⟩⟩
            have ez := ext_alloc w8 (.cells #[.int .i64 0, .int .i64 0, .int .u64 0] 133)
            refine ⟨cC _ ((G7.trans (gs_of e8)).trans (gs_of ez)), ?_⟩
            refine do_st3 (blk_alloc w8 _ _) fun w9 hx9 g9 => ?_
            have e9 : Ext w8 w9 := ez.st g9 (Nat.le_refl _)
            have e79 := e8.trans e9
            exact hK48 w9 _ (G7.trans (gs_of e79)) (hs7.ext e79) (hl7.ext e79) (hr7.ext e79) hx9
          · refine ⟨?_⟩
            have ez := ext_alloc w7 (.cells #[.int .i64 0, .int .i64 0, .int .u64 0] 133)
            have hzz := blk_alloc w7 #[.int .i64 0, .int .i64 0, .int .u64 0] 133
            have nzz : w7.heap.size ≠ b := by have := hs7.lt; omega
            have Gz := G7.trans (gs_of ez)
            refine ⟨cC _ Gz, ?_⟩
            refine H3 (rootC c (.node l k v g r)) Y isY _ _ ((g0.trans G6).trans Gz) fun w8 e8 => retS_ret ⟨_, _, _, _, rfl, cC _ (Gz.trans (gs_of e8)), ?_⟩
            have e78 := ez.trans e8
            have hzz8 := hzz.ext e8
            refine do_st3 hzz8 fun w9 hx9 g9 => ?_
            exact hK48 w9 _ ((G7.trans (gs_of e78)).st g9 (World.grownBy.size G7)) ((hs7.ext e78).st g9 nzz) ((hl7.ext e78).st g9 hzz8 (by decide)) ((hr7.ext e78).st g9 hzz8 (by decide)) hx9
        · refine ⟨?_⟩
          have ez := ext_alloc w6.drew (.cells #[.int .i64 0, .int .i64 0, .int .u64 0] 133)
          have hzz := blk_alloc w6.drew #[.int .i64 0, .int .i64 0, .int .u64 0] 133
          have nzz : w6.drew.heap.size ≠ b := by have := (hs6.ext dr).lt; omega
          have E1 := dr.trans ez
          refine ⟨cC _ (gs_of E1), ?_⟩
          refine do_call Tryz.call144 (c_sitem (hs6.ext E1) (ha6.ext E1) fun w7 g7 hs7 => retS_ret ⟨_, _, _, rfl, cC _ ((gs_of E1).trans g7), ?_⟩)
          have G7 := (gs_of (b := b) E1).trans g7
          have hl7 := h36.gs hs6 G7
          have hr7 := h6.gs hs6 G7
          have hzz7 := hzz.gs g7 nzz
          refine H3 (rootC c (.node l k v g r)) Y isY w7 _ ((g0.trans G6).trans G7) fun w8 e8 => retS_ret ⟨_, _, _, _, rfl, cC _ (G7.trans (gs_of e8)), ?_⟩
          have hzz8 := hzz7.ext e8
          refine do_st3 hzz8 fun w9 hx9 g9 => ?_
          exact hK48 w9 _ ((G7.trans (gs_of e8)).st g9 dr.size) ((hs7.ext e8).st g9 nzz) ((hl7.ext e8).st g9 hzz8 (by decide)) ((hr7.ext e8).st g9 hzz8 (by decide)) hx9
      have d := ext_drew w
      have hcd := hc.gs (gs_of d)
      have hsd := hs.ext d
      refine ⟨⟨fun w' => CapsM w' b14 b16 b18 b36 b o (.func A1 X1 C1) (.func A2 X2 C2) (.func A3 X3 C3) T36, hcd, _, fun w' q => q.s.cell (i := 0) rfl rfl, _, fun w' q => q.o.cell (i := 0) rfl rfl, ⟨?_, ?_⟩⟩⟩
      · refine do_call Tryz.call131 (c_key (ha.ext d) fun w1 e1 => retS_ret ⟨_, rfl, hcd.gs (gs_of e1), ?_⟩)
        have e01 := d.trans e1
        have hs1 := hs.ext e01
        have hu1 := hu.ext e01
        constructor
        · refine do_call Tryz.call141 (c_split ho kk hs1 hu1 oku.1 hku (by omega) fun ql qr w2 g2 hs2 hl2 hr2 => retS_ret ⟨_, _, _, _, _, _, _, rfl, ⟨?_⟩⟩)
          rw [hY, hI]
          have G2 := (gs_of (b := b) e01).trans g2
          have ez := ext_alloc w2 (.cells #[.int .i64 0, .int .i64 0, .int .u64 0] 133)
          refine ⟨(hc.gs G2).gs (gs_of ez), ?_⟩
          refine do_st3 (blk_alloc w2 _ _) fun w3 hx3 g3 => ?_
          have e3 : Ext w2 w3 := ez.st g3 (Nat.le_refl _)
          have nz : w2.heap.size ≠ b := by have := hs2.lt; omega
          exact hK24 w3 _ ql qr (G2.trans (gs_of e3)) (hs2.ext e3) (hl2.ext e3) (hr2.ext e3) nz hx3
        · refine ⟨?_⟩
          have ez := ext_alloc w1 (.cells #[.int .i64 0, .int .i64 0, .int .u64 0] 133)
          have hz := blk_alloc w1 #[.int .i64 0, .int .i64 0, .int .u64 0] 133
          have nz : w1.heap.size ≠ b := by have := hs1.lt; omega
          have E1 := e01.trans ez
          refine ⟨hc.gs (gs_of E1), ?_⟩
          refine do_call Tryz.call141 (c_split ho kk (hs.ext E1) (hu.ext E1) oku.1 hku (by omega) fun ql qr w2 g2 hs2 hl2 hr2 => retS_ret ⟨_, _, _, _, _, _, _, rfl, ?_⟩)
          rw [hY, hI]
          have G2 := (gs_of (b := b) E1).trans g2
          refine do_st3 (hz.gs g2 nz) fun w3 hx3 g3 => ?_
          exact hK24 w3 _ ql qr (G2.st g3 e01.size) (hs2.st g3 nz) (hl2.st g3 (hz.gs g2 nz) (by decide)) (hr2.st g3 (hz.gs g2 nz) (by decide)) nz hx3
      · refine ⟨?_⟩
        have ez := ext_alloc w.drew (.cells #[.int .i64 0, .int .i64 0, .int .u64 0] 133)
        have hz := blk_alloc w.drew #[.int .i64 0, .int .i64 0, .int .u64 0] 133
        have nz : w.drew.heap.size ≠ b := by have := hsd.lt; omega
        have E1 := d.trans ez
        refine ⟨hc.gs (gs_of E1), ?_⟩
        refine do_call Tryz.call131 (c_key (ha.ext E1) fun w1 e1 => retS_ret ⟨_, rfl, hc.gs (gs_of (E1.trans e1)), ?_⟩)
        have E2 := E1.trans e1
        refine do_call Tryz.call141 (c_split ho kk (hs.ext E2) (hu.ext E2) oku.1 hku (by omega) fun ql qr w2 g2 hs2 hl2 hr2 => retS_ret ⟨_, _, _, _, _, _, _, rfl, ?_⟩)
        rw [hY, hI]
        have G2 := (gs_of (b := b) E2).trans g2
        have hz2 := (hz.ext e1).gs g2 nz
        refine do_st3 hz2 fun w3 hx3 g3 => ?_
        exact hK24 w3 _ ql qr (G2.st g3 d.size) (hs2.st g3 nz) (hl2.st g3 hz2 (by decide)) (hr2.st g3 hz2 (by decide)) nz hx3
end Go.Proofs.YtlfjaogbehpleaaGreat

