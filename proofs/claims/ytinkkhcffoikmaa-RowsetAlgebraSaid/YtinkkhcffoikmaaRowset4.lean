/-
  What Sort of rowset does.
-/
import Derived.Test.YtinkkhcffoikmaaRsLaw
namespace Go.Proofs.Ytinkkhcffoikmaa
open Go Go.Sh Go.RowKit

theorem put_end {o p : Int} {r : List Pr} {x : Pr} (hm : mayR o r = true) (hp : may p = true) (h : ∀ y ∈ r, ltO o y.1 x.1) : putR o p r x = r ++ [x] := by
  have hh : hasR o r x.1 = false := by
    cases hq : hasR o r x.1
    · rfl
    · obtain ⟨i, hi, e⟩ := (hasR_iff hm).1 hq
      exact absurd e (ltO_ne (h _ (List.getElem_mem hi)))
  have hpos : posR o r x.1 = r.length := by
    unfold posR; rw [hm, cond_true]
    exact idxR_eq (Nat.le_refl _) (fun i hi _ => h _ (List.getElem_mem hi)) fun hi => absurd hi (Nat.lt_irrefl _)
  rw [put_miss hm hp hh, hpos, List.take_length, List.drop_length]
theorem put_last {o p : Int} {r : List Pr} {x : Pr} (hm : mayR o r = true) (hp : may p = true) (h0 : 0 < r.length) (h : (r[r.length - 1]).1 = x.1) :
    putR o p r x = r.set (r.length - 1) ((r[r.length - 1]).1, comb p (r[r.length - 1]).2 x.2) := by
  have := pos_at hm (show r.length - 1 < r.length by omega)
  rw [h] at this
  rw [put_hit hm hp this.2.1, this.1, this.2.2, h]
theorem sortL_keys {o p : Int} (ho : isO o = true) (hp : may p = true) {l : List Pr} (hl : InP l) : ∀ y ∈ sortL o p l, ∃ z ∈ l, z.1 = y.1 := fun y hy => by
  have := (lk_iff (sortL_may ho hp hl).1 (k := y.1) (v := y.2)).2 hy
  rw [sortL_lk0 ho hp hl] at this
  cases hf : l.filter (fun x => x.1 == y.1) with
  | nil => rw [hf] at this; cases this
  | cons z t =>
    have hz : z ∈ l.filter (fun x => x.1 == y.1) := by rw [hf]; simp
    have := List.mem_filter.1 hz
    exact ⟨z, this.1, by simpa using this.2⟩
theorem c_srt1 {o : Int} {b : Nat} {w0 : World} (h : Blk w0 b #[.int .u8 o] 5) : Cmp o w0 (.func 105) #[] #[.pointer (some (blk b))] := by
  intro x y hx hy w e R h'
  refine do_callc Try.call105 (by rfl) (sh105_ok _ _ _ _ _ ?_)
  unfold sh105
  refine ⟨⟨?_⟩⟩
  have e1 := ext_alloc w (.cells #[.int .i64 x.1, .int .i64 x.2] 38)
  have h1 := blk_alloc w #[.int .i64 x.1, .int .i64 x.2] 38
  generalize hb1 : w.heap.size = b1 at *
  generalize w.alloc (.cells #[.int .i64 x.1, .int .i64 x.2] 38) = w1 at *
  have e2 := ext_alloc w1 (.cells #[.int .i64 y.1, .int .i64 y.2] 38)
  have h2 := blk_alloc w1 #[.int .i64 y.1, .int .i64 y.2] 38
  generalize hb2 : w1.heap.size = b2 at *
  generalize w1.alloc (.cells #[.int .i64 y.1, .int .i64 y.2] 38) = w2 at *
  refine ⟨_, (h.ext ((e.trans e1).trans e2)).cell (i := 0) rfl rfl, _, (h1.ext e2).cell (i := 0) (add_blk _ _) rfl, _, h2.cell (i := 0) (add_blk _ _) rfl, ?_⟩
  exact do_call Try.call93 (c_compare hx hy fun w3 e3 => retS_ret ⟨_, rfl, h' _ ((e1.trans e2).trans e3)⟩)
set_option maxRecDepth 20000 in
set_option maxHeartbeats 1600000 in
theorem c_rsort {o p : Int} {l : List Pr} {q : Option Addr} {n c : Nat} {w : World} {R : Ending → World → Prop} (hl : Cs w q (prs l)) (hn : l.length = n) (hm : n ≤ 1000000) (hI : InP l)
    (h : ∀ p' n' c' w', OwnP w' w.heap.size p' n' c' (cond (isO o && may p) (sortL o p l) []) → Ext w w' → R (.returned (.tuple #[.slice p' n' c', .int .i64 (cond (isO o && may p) 0 2)])) w') :
    Calls Try.prog 59 #[.int .u8 o, .int .u8 p, .slice q n c] w R := by
  refine sh59_ok _ _ _ _ _ ?_
  unfold sh59
  refine ⟨?_⟩
  have e1 := ext_alloc w (.cells #[.int .u8 o] 5)
  have h1 := blk_alloc w #[.int .u8 o] 5
  generalize w.heap.size = b1 at h1
  generalize w.alloc (.cells #[.int .u8 o] 5) = w1 at *
  refine ⟨_, h1.cell (i := 0) rfl rfl, ?_⟩
  refine do_call Try.call94 (c_name fun w2 e2 => retS_ret ⟨_, rfl, ?_⟩)
  rw [name_empty]
  cases ho : isO o
  · refine ifB_t rfl ?_
    have hr := h none 0 0 w2
    rw [ho, Bool.false_and] at hr
    exact hr (ownP_nil _ _) (e1.trans e2)
  refine ifB_f rfl ?_
  refine do_call Try.call89 (c_fmay fun w3 e3 => retS_ret ⟨_, rfl, ?_⟩)
  cases hp : may p
  · refine ifB_t rfl ?_
    have hr := h none 0 0 w3
    rw [ho, hp, Bool.and_false] at hr
    exact hr (ownP_nil _ _) ((e1.trans e2).trans e3)
  refine ifB_f rfl ?_
  rw [ho, hp] at h
  simp only [Bool.and_self, cond_true] at h
  have E3 := (e1.trans e2).trans e3
  have h3 := (h1.ext e2).ext e3
  clear e1 e2 e3
  refine do_call Try.call87 (c_clone (hl.ext E3) hn (by omega) fun q4 c4 w4 g4 e4 => retS_ret ⟨_, _, _, rfl, ?_⟩)
  refine do_call Try.call104 (c_sortStable (o := o) (w0 := w3) (B := w3.heap.size) (Nat.le_refl _) (by omega) (c_srt1 h3) ho (l := l) ⟨g4, e4, fun x hx => (hI x hx).1⟩ fun w5 S hS hst hw5 => retS_ret ⟨rfl, ?_⟩)
  have E5 := E3.trans hw5.ext
  have hIS : InP S := fun x hx => hI x ((hst.mem x).1 hx)
  have hSn : S.length = n := hw5.len
  have hsrc := ownP_cs hw5.own
  have hsz5 : w.heap.size ≤ w5.heap.size := E5.size
  clear h1 h3 g4 e4 hl
  refine ⟨fun vs w' => ∃ (i nn cc : Nat) (qq : Option Addr), vs = [.slice qq nn cc, .int .i64 i] ∧ i ≤ n ∧ Ext w5 w' ∧ OwnP w' w5.heap.size qq nn cc (sortL o p (S.take i)),
    fun vs _ => n - (intOf (vs.getD 1 undef)).toNat, ⟨0, 0, 0, none, rfl, by omega, ext_refl _, ownP_nil _ _⟩, ?_⟩
  rintro q' n' c' x' _ w6 ⟨i, nn, cc, qq, hv, hi, e6, hrow⟩
  simp only [List.cons.injEq, Value.slice.injEq, Value.int.injEq, true_and, and_true] at hv
  obtain ⟨⟨rfl, rfl, rfl⟩, rfl⟩ := hv
  refine ifB_intro (fun hlt => ?_) fun hge => ?_
  rotate_left
  · have hge : ¬ (i : Int) < n := of_decide_eq_false hge
    rw [List.take_of_length_le (by omega), sortL_stab ho hp hI hst] at hrow
    exact h _ _ _ _ (row_mono hrow hsz5) (E5.trans e6)
  have hlt : i < n := by have := of_decide_eq_true hlt; omega
  have hi' : i < S.length := by omega
  have hinv : ∀ x ∈ S.take i, In x.1 ∧ In x.2 := fun x hx => hIS x (List.mem_of_mem_take hx)
  obtain ⟨m1, m2, m3⟩ := sortL_may (p := p) ho hp hinv
  have hkeys := sortL_keys ho hp hinv
  have hxI := hIS _ (List.getElem_mem hi')
  have hle : ∀ y ∈ sortL o p (S.take i), codeI o y.1 ≤ codeI o S[i].1 := fun y hy => by
    obtain ⟨z, hz, e⟩ := hkeys y hy
    obtain ⟨j, hj, e'⟩ := List.getElem_of_mem hz
    rw [List.length_take] at hj
    rw [← e, ← e', List.getElem_take]
    exact srt_get hS (by omega) hi'
  have hstep : sortL o p (S.take (i + 1)) = putR o p (sortL o p (S.take i)) S[i] := sortL_take hi'
  rw [List.length_take] at m3
  have hrl := ownP_len hrow
  have hcap : n' ≤ n := by omega
  generalize hr0 : sortL o p (S.take i) = r at *
  refine ix_pr (hsrc.ext e6) hSn rfl hlt fun a r1 r2 _ => ⟨_, r1, _, r2, ⟨?_⟩⟩
  have e7 := ext_alloc w6 (.cells #[.int .i64 0, .int .i64 0] 38)
  refine do_st2 (blk_alloc w6 _ _) fun w8 h8 g8 => ?_
  have E8 : Ext w6 w8 := e7.st g8 (Nat.le_refl _)
  generalize hbx : w6.heap.size = bx at *
  have hrow8 := E8.row hrow
  have hnext : IntKind.wrap .i64 ((i : Int) + 1) = ((i + 1 : Nat) : Int) := wrap_succ (n := n) (by omega) (by omega)
  have hmu : n - (intOf ((([.slice q' n' c', .int .i64 ((i + 1 : Nat) : Int)] : List Value)).getD 1 undef)).toNat < n - (intOf ((([.slice q' n' c', .int .i64 (i : Int)] : List Value)).getD 1 undef)).toNat := by
    show n - (((i + 1 : Nat) : Int)).toNat < n - ((i : Nat) : Int).toNat
    omega
  have hbsz : w5.heap.size ≤ bx := by rw [← hbx]; exact e6.size
  -- a new key
  have hnew : ∀ w', Ext w8 w' → (∀ y ∈ r, ltO o y.1 S[i].1) → ∃ (x41 : Int), World.cell? w' ((blk bx).add 0) = some (.int .i64 x41) ∧ (
     ∃ (x42 : Int), World.cell? w' ((blk bx).add 1) = some (.int .i64 x42) ∧ (
     doAl (.cells #[.int .i64 x41, .int .i64 x42] 38) w' (fun b43 w44 =>
     doGo Try.prog (.builtin .append #[33, 33] 33 #[false, false]) #[.slice q' n' c', .slice (some (blk b43)) 1 1] w44 (retS (fun v48 w49 => ∃ (xp45 : Option Addr), ∃ (xn46 : Nat), ∃ (xc47 : Nat), v48 = (.slice xp45 xn46 xc47 : Value) ∧ (
       (∃ (i' nn cc : Nat) (qq : Option Addr), ([.slice xp45 xn46 xc47, .int .i64 (IntKind.wrap .i64 ((i : Int) + 1))] : List Value) = [.slice qq nn cc, .int .i64 i'] ∧ i' ≤ n ∧ Ext w5 w49 ∧ OwnP w49 w5.heap.size qq nn cc (sortL o p (S.take i'))) ∧
       n - (intOf (([.slice xp45 xn46 xc47, .int .i64 (IntKind.wrap .i64 ((i : Int) + 1))] : List Value).getD 1 undef)).toNat < n - (intOf (([.slice q' n' c', .int .i64 (i : Int)] : List Value).getD 1 undef)).toNat)) (fun ch w => Kfn R ch [] w))))) := by
    intro w' e9 hall
    have h9 := h8.ext e9
    refine ⟨_, h9.cell (i := 0) (add_blk _ _) rfl, _, h9.cell (i := 1) (add_blk _ _) rfl, ⟨?_⟩⟩
    have e10 := ext_alloc w' (.cells #[.int .i64 S[i].1, .int .i64 S[i].2] 38)
    have hrow10 := (e9.trans e10).row hrow8
    refine do_app elP hrow10 (m := 1) (cs_alloc w' _ _) (by simp) (by simp [Value.oneCell']) (by simp only [maxLen]; omega) (by omega) (Nat.le_trans e6.size (Nat.le_trans E8.size (e9.trans e10).size)) fun q11 c11 w11 h11 g11 => retS_ret ⟨_, _, _, rfl, ?_⟩
    rw [hnext]
    refine ⟨⟨i + 1, n' + 1, c11, q11, rfl, by omega, ?_, ?_⟩, ?_⟩
    · exact ext_own hrow10 (((e6.trans E8).trans e9).trans e10) g11 (Nat.le_refl _)
    · rw [hstep, put_end m1 hp hall]
      unfold OwnP; rw [prs_append]; exact h11
    · show n - (((i + 1 : Nat) : Int)).toNat < n - ((i : Nat) : Int).toNat
      omega
  refine ⟨⟨fun w' => Ext w8 w', ext_drew _, ?_⟩⟩
  refine ifB_intro (fun h0 => ?_) fun h0 => ?_
  · have h0 : n' = 0 := by simpa using h0
    refine ifB_t rfl (hnew _ (ext_drew _) ?_)
    have : r = [] := List.eq_nil_of_length_eq_zero (by omega)
    subst this; intro y hy; cases hy
  have h0 : 0 < n' := by have : ¬ n' = 0 := by simpa using h0
                         omega
  have hw1 : IntKind.wrap .i64 ((n' : Int) - 1) = ((n' - 1 : Nat) : Int) := by rw [wrap_of (by omega) (by omega)]; omega
  rw [hw1]
  refine ix_prC (fun w' e' => (ownP_cs hrow8).ext e') (ext_refl _) hrl (k := n' - 1) rfl (by omega) fun a s1 _ => ⟨_, s1, _, fun w' e' => (h8.ext e').cell (i := 0) (add_blk _ _) rfl, ?_⟩
  refine ifB_intro (fun hne => ?_) fun heq => ?_
  · have hne : (r[n' - 1]'(by omega)).1 ≠ S[i].1 := by simpa using hne
    refine hnew _ (ext_drew _) fun y hy => ?_
    have hlast : ltO o (r[n' - 1]'(by omega)).1 S[i].1 := by
      have h1 := hle _ (List.getElem_mem (show n' - 1 < r.length by omega))
      show cmpI o _ _ < 0
      rw [cmp_lt ho]
      rcases Int.lt_or_le (codeI o (r[n' - 1]'(by omega)).1) (codeI o S[i].1) with h | h
      · exact h
      · exfalso
        refine hne (cmpI_eq ho (m2 _ (List.getElem_mem _)).1 hxI.1 ?_)
        have k1 : ¬ cmpI o (r[n' - 1]'(by omega)).1 S[i].1 < 0 := by rw [cmp_lt ho]; omega
        have k2 : ¬ 0 < cmpI o (r[n' - 1]'(by omega)).1 S[i].1 := fun k => by
          have := cmpI_pos k
          rw [cmp_lt ho] at this; omega
        omega
    obtain ⟨j, hj, e⟩ := List.getElem_of_mem hy
    rcases Nat.lt_or_ge j (n' - 1) with hjl | hjl
    · rw [← e]; exact cmpI_trans (chain_lt (mayR_chain m1) hjl (by omega)) hlast
    · have : j = n' - 1 := by omega
      subst this; rw [← e]; exact hlast
  have heq : (r[n' - 1]'(by omega)).1 = S[i].1 := by simpa using heq
  refine ⟨⟨fun w' => Ext w8.drew w', ext_drew _, ?_⟩⟩
  have e9 := ext_drew w8
  refine ix_prC (fun w' e' => ((ownP_cs hrow8).ext e9).ext e') (ext_refl _) hrl (k := n' - 1) rfl (by omega) fun a _ s2 => ⟨_, s2, _, fun w' e' => ((h8.ext e9).ext e').cell (i := 1) (add_blk _ _) rfl, ?_⟩
  refine do_call Try.call91 (c_comb fun w11 e11 => retS_ret ⟨_, _, rfl, ?_⟩)
  rw [hp, cond_true]
  have E11 := (e9.trans (ext_drew _)).trans e11
  have hrow11 := E11.row hrow8
  refine ix_pr (ownP_cs hrow11) hrl (k := n' - 1) rfl (by omega) fun a' _ _ ha' => ?_
  refine own_st2 hrow11 (by omega) ha' fun w12 h12 g12 => ?_
  rw [hnext]
  refine ⟨⟨i + 1, n', c', q', rfl, by omega, ext_own hrow11 ((e6.trans E8).trans E11) g12 (Nat.le_refl _), ?_⟩, hmu⟩
  rw [hstep, put_last m1 hp (by omega) (by simpa [hrl] using heq)]
  simp only [hrl]
  exact h12
end Go.Proofs.Ytinkkhcffoikmaa
