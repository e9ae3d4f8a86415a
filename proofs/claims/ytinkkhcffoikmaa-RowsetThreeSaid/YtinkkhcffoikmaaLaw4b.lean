/-
  RowKeeps: the plain laws of rows, and the walk.
-/
import Derived.Test.YtinkkhcffoikmaaLaw4
import Derived.Test.YtinkkhcffoikmaaL6
namespace Go.Proofs.Ytinkkhcffoikmaa
open Go Go.Sh Go.RowKit

theorem wrap_in (x : Int) : In (IntKind.wrap .i64 x) := by
  simp only [IntKind.wrap, IntKind.signed, IntKind.bits, In]
  simp
  omega
abbrev ltO (o : Int) (a b : Int) : Prop := cmpI o a b < 0
theorem chain_pw {o : Int} : ∀ {l : List Pr}, chain o l = true ↔ (l.map (·.1)).Pairwise (ltO o)
  | [] => by simp [chain]
  | [a] => by simp [chain]
  | a :: b :: l => by
    rw [chain_cons, Bool.and_eq_true, decide_eq_true_eq, chain_pw (l := b :: l)]
    simp only [List.map_cons, List.pairwise_cons, List.mem_cons, List.mem_map, forall_eq_or_imp]
    constructor
    · rintro ⟨h1, h2, h3⟩
      exact ⟨⟨h1, fun x hx => cmpI_trans h1 (h2 x hx)⟩, h2, h3⟩
    · rintro ⟨⟨h1, _⟩, h2, h3⟩
      exact ⟨h1, h2, h3⟩
theorem mayR_iff {o : Int} {l : List Pr} : mayR o l = true ↔ isO o = true ∧ (l.map (·.1)).Pairwise (ltO o) := by
  unfold mayR; rw [Bool.and_eq_true, chain_pw]
theorem mem_get {o : Int} {l : List Pr} (hm : mayR o l = true) {key v : Int} (h : (key, v) ∈ l) : hasR o l key = true ∧ getR o l key = v := by
  obtain ⟨i, hi, e⟩ := List.getElem_of_mem h
  have := pos_at hm hi
  rw [e] at this
  exact ⟨this.2.1, this.2.2⟩
theorem has_mem {o : Int} {l : List Pr} {key : Int} (h : hasR o l key = true) : (key, getR o l key) ∈ l := by
  have hlt := hasR_lt h
  have hk := hasR_key h
  have : getR o l key = (l[posR o l key]'hlt).2 := by unfold getR; rw [h, getD_of hlt]; rfl
  rw [this]
  have hm := List.getElem_mem hlt
  rw [show (l[posR o l key]'hlt) = (key, (l[posR o l key]'hlt).2) from Prod.ext hk rfl] at hm
  exact hm
theorem get_none {o : Int} {l : List Pr} {key : Int} (h : hasR o l key = false) : getR o l key = 0 := by unfold getR; rw [h]; rfl
/-- two rows that may be and agree about a key -/
theorem same_at {o : Int} {l r : List Pr} (hl : mayR o l = true) (hr : mayR o r = true) {key : Int} (h : ∀ v, (key, v) ∈ l ↔ (key, v) ∈ r) : hasR o l key = hasR o r key ∧ getR o l key = getR o r key := by
  cases hh : hasR o l key
  · cases hh' : hasR o r key
    · exact ⟨rfl, by rw [get_none hh, get_none hh']⟩
    · have := (mem_get hl ((h _).2 (has_mem hh'))).1
      rw [hh] at this; cases this
  · have := mem_get hr ((h _).1 (has_mem hh))
    exact ⟨this.1.symm, this.2.symm⟩
theorem drop_may {o key : Int} {l : List Pr} (hm : mayR o l = true) : mayR o (dropR o l key) = true := by
  rw [drop_filter hm, mayR_iff]
  have := mayR_iff.1 hm
  exact ⟨this.1, this.2.sublist (List.filter_sublist.map _)⟩
theorem drop_len {o key : Int} {l : List Pr} (hm : mayR o l = true) : (dropR o l key).length = if hasR o l key then l.length - 1 else l.length := by
  unfold dropR
  rw [hm]
  cases hh : hasR o l key
  · rfl
  · have := hasR_lt hh
    simp; omega
theorem drop_has {o key : Int} {l : List Pr} (hm : mayR o l = true) : hasR o (dropR o l key) key = false := by
  cases hh : hasR o (dropR o l key) key
  · rfl
  · have := has_mem hh
    rw [drop_filter hm, List.mem_filter] at this
    simp at this
theorem drop_other {o key key' : Int} {l : List Pr} (hm : mayR o l = true) (hne : key' ≠ key) : hasR o (dropR o l key) key' = hasR o l key' ∧ getR o (dropR o l key) key' = getR o l key' :=
  same_at (drop_may hm) hm fun v => by rw [drop_filter hm, List.mem_filter]; simp [hne]
theorem drop_in {o key : Int} {l : List Pr} (hm : mayR o l = true) (hI : InP l) : InP (dropR o l key) := fun x hx => by
  rw [drop_filter hm, List.mem_filter] at hx
  exact hI x hx.1
theorem put_miss {o p : Int} {l : List Pr} {x : Pr} (hm : mayR o l = true) (hp : may p = true) (hh : hasR o l x.1 = false) : putR o p l x = l.take (posR o l x.1) ++ x :: l.drop (posR o l x.1) := by
  unfold putR; rw [hm, hp, hh]; rfl
theorem put_hit {o p : Int} {l : List Pr} {x : Pr} (hm : mayR o l = true) (hp : may p = true) (hh : hasR o l x.1 = true) : putR o p l x = l.set (posR o l x.1) (x.1, comb p (getR o l x.1) x.2) := by
  unfold putR getR; rw [hm, hp, hh]; rfl
theorem put_may {o p : Int} {l : List Pr} {x : Pr} (hm : mayR o l = true) (hp : may p = true) (hI : InP l) (hx : In x.1) : mayR o (putR o p l x) = true := by
  have hpw := mayR_iff.1 hm
  cases hh : hasR o l x.1
  · rw [put_miss hm hp hh, mayR_iff]
    refine ⟨hpw.1, ?_⟩
    have hpx : posR o l x.1 = idxR o l x.1 := by unfold posR; rw [hm]; rfl
    have hsplit := hpw.2
    rw [← List.take_append_drop (posR o l x.1) l, List.map_append, List.pairwise_append] at hsplit
    rw [List.map_append, List.map_cons, List.pairwise_append, List.pairwise_cons]
    have hlo : ∀ a ∈ (l.take (posR o l x.1)).map (·.1), ltO o a x.1 := fun a ha => by
      simp only [List.mem_map] at ha
      obtain ⟨y, hy, rfl⟩ := ha
      obtain ⟨i, hi, rfl⟩ := List.getElem_of_mem hy
      rw [List.length_take] at hi
      rw [List.getElem_take]
      exact (idxR_lt (o := o) (l := l) (key := x.1) (i := i) (by omega)).2
    have hhi : ∀ b ∈ (l.drop (posR o l x.1)).map (·.1), ltO o x.1 b := fun b hb => by
      simp only [List.mem_map] at hb
      obtain ⟨y, hy, rfl⟩ := hb
      obtain ⟨i, hi, rfl⟩ := List.getElem_of_mem hy
      rw [List.length_drop] at hi
      rw [List.getElem_drop]
      have hlt : idxR o l x.1 < l.length := by omega
      have hge := idxR_ge (o := o) (l := l) (key := x.1) hlt
      have hne : cmpI o l[idxR o l x.1].1 x.1 ≠ 0 := fun h0 => by
        have := (hasR_iff hm).2 ⟨_, hlt, cmpI_eq hpw.1 (hI _ (List.getElem_mem hlt)).1 hx h0⟩
        rw [hh] at this; cases this
      have h1 : cmpI o x.1 l[idxR o l x.1].1 < 0 := cmpI_pos (by omega)
      simp only [hpx]
      rcases Nat.eq_zero_or_pos i with h0 | h0
      · subst h0; exact h1
      · exact cmpI_trans h1 (chain_lt (mayR_chain hm) (i := idxR o l x.1) (j := idxR o l x.1 + i) (by omega) (by omega))
    refine ⟨hsplit.1, ⟨hhi, hsplit.2.1⟩, fun a ha b hb => ?_⟩
    rcases List.mem_cons.1 hb with rfl | hb
    · exact hlo a ha
    · exact hsplit.2.2 a ha b hb
  · rw [put_hit hm hp hh, mayR_iff]
    refine ⟨hpw.1, ?_⟩
    have hlt := hasR_lt hh
    have hk := hasR_key hh
    have : (l.set (posR o l x.1) (x.1, comb p (getR o l x.1) x.2)).map (·.1) = l.map (·.1) := by
      refine List.ext_getElem (by simp) fun i h1 h2 => ?_
      simp only [List.getElem_map, List.getElem_set]
      split
      · rename_i e; subst e; exact hk.symm
      · rfl
    rw [this]; exact hpw.2
theorem put_len {o p : Int} {l : List Pr} {x : Pr} (hm : mayR o l = true) (hp : may p = true) : (putR o p l x).length = if hasR o l x.1 then l.length else l.length + 1 := by
  cases hh : hasR o l x.1
  · rw [put_miss hm hp hh]
    have := posR_le o l x.1
    simp; omega
  · rw [put_hit hm hp hh]; simp
theorem put_mem {o p : Int} {l : List Pr} {x : Pr} (hm : mayR o l = true) (hp : may p = true) (y : Pr) : y ∈ putR o p l x → y = (x.1, if hasR o l x.1 then comb p (getR o l x.1) x.2 else x.2) ∨ y ∈ l := by
  intro hy
  cases hh : hasR o l x.1
  · rw [put_miss hm hp hh] at hy
    rcases List.mem_append.1 hy with h | h
    · exact .inr (List.mem_of_mem_take h)
    · rcases List.mem_cons.1 h with h | h
      · exact .inl h
      · exact .inr (List.mem_of_mem_drop h)
  · rw [put_hit hm hp hh] at hy
    rcases List.mem_or_eq_of_mem_set hy with h | h
    · exact .inr h
    · exact .inl h
theorem put_key {o p : Int} {l : List Pr} {x : Pr} (hm : mayR o l = true) (hp : may p = true) (hI : InP l) (hx : In x.1) :
    hasR o (putR o p l x) x.1 = true ∧ getR o (putR o p l x) x.1 = if hasR o l x.1 then comb p (getR o l x.1) x.2 else x.2 := by
  refine mem_get (put_may hm hp hI hx) ?_
  cases hh : hasR o l x.1
  · rw [put_miss hm hp hh]; simp
  · rw [put_hit hm hp hh]
    have hlt := hasR_lt hh
    exact List.mem_of_getElem (i := posR o l x.1) (h := by simpa using hlt) (by simp)
theorem put_other {o p key : Int} {l : List Pr} {x : Pr} (hm : mayR o l = true) (hp : may p = true) (hI : InP l) (hx : In x.1) (hne : key ≠ x.1) : hasR o (putR o p l x) key = hasR o l key ∧ getR o (putR o p l x) key = getR o l key := by
  refine same_at (put_may hm hp hI hx) hm fun v => ?_
  constructor
  · intro h
    rcases put_mem hm hp _ h with h | h
    · exact absurd (congrArg Prod.fst h) hne
    · exact h
  · intro h
    cases hh : hasR o l x.1
    · rw [put_miss hm hp hh]
      rw [← List.take_append_drop (posR o l x.1) l] at h
      rcases List.mem_append.1 h with h | h
      · exact List.mem_append_left _ h
      · exact List.mem_append_right _ (List.mem_cons_of_mem _ h)
    · rw [put_hit hm hp hh]
      have hlt := hasR_lt hh
      have hk := hasR_key hh
      obtain ⟨i, hi, e⟩ := List.getElem_of_mem h
      have hii : posR o l x.1 ≠ i := fun e' => by
        subst e'
        rw [e] at hk
        exact hne hk
      refine List.mem_of_getElem (i := i) (h := by simpa using hi) ?_
      rw [List.getElem_set_ne hii]; exact e
theorem put_in {o p : Int} {l : List Pr} {x : Pr} (hm : mayR o l = true) (hp : may p = true) (hI : InP l) (hx : In x.1 ∧ In x.2) : InP (putR o p l x) := fun y hy => by
  rcases put_mem hm hp _ hy with rfl | h
  · refine ⟨hx.1, ?_⟩
    show In (if hasR o l x.1 then comb p (getR o l x.1) x.2 else x.2)
    split
    · rename_i hh
      have hg := (hI _ (has_mem hh)).2
      unfold comb
      split
      · exact hg
      · split
        · exact hx.2
        · exact wrap_in _
    · exact hx.2
  · exact hI _ h
/-- a step: a pair, and whether it is dropped -/
def ecS (x : (Int × Int) × Bool) : List Value := [.int .i64 x.1.1, .int .i64 x.1.2, .bool x.2]
theorem ord_of {o : Int} (h0 : 0 ≤ o) : ∃ o', IntKind.wrap .u8 (1 + (Int.tmod o 7)) = o' ∧ isO o' = true := by
  refine ⟨_, rfl, ?_⟩
  have e : Int.tmod o 7 = o % 7 := Int.tmod_eq_emod_of_nonneg h0
  have e2 : IntKind.wrap .u8 (1 + o % 7) = 1 + o % 7 := by
    simp only [IntKind.wrap, IntKind.signed, IntKind.bits]
    simp
    omega
  rw [e, e2]
  simp [isO]
  omega
/-- the state of RowKeeps -/
structure Keeps (o key : Int) (w w' : World) (k : Nat) (p : Option Addr) (n c : Nat) (val : Int) (has : Bool) : Prop where
  ext : Ext w w'
  row : ∃ r, OwnP w' w.heap.size p n c r ∧ mayR o r = true ∧ InP r ∧ hasR o r key = has ∧ (has = true → getR o r key = val)
  len : n ≤ k
theorem Keeps.to {o key : Int} {w w' w'' : World} {k : Nat} {p : Option Addr} {n c : Nat} {val : Int} {has : Bool} (h : Keeps o key w w' k p n c val has) (e : Ext w' w'') : Keeps o key w w'' k p n c val has := by
  obtain ⟨r, h1, h2⟩ := h.row
  exact ⟨h.ext.trans e, ⟨r, row_to h1 e (Nat.le_refl _), h2⟩, h.len⟩
set_option maxRecDepth 100000 in
theorem c_rowKeeps {o : Int} {l : List ((Int × Int) × Bool)} {key : Int} {q : Option Addr} {n c : Nat} {w : World} {R : Ending → World → Prop} (ho : 0 ≤ o ∧ o < 256) (hl : Cs w q (l.flatMap ecS)) (hn : l.length = n) (hI : ∀ x ∈ l, In x.1.1 ∧ In x.1.2) (hx : In key)
    (h : ∀ w', Ext w w' → R (.returned (.bool true)) w') : Calls Try.prog 6 #[.int .u8 o, .slice q n c, .int .i64 key] w R := by
  refine sh6_ok _ _ _ _ _ ?_
  unfold sh6
  have hal : ∀ {w' : World}, Ext w w' → doCall Try.prog (.func (.func 37) #[] #[]) #[] w' (retS (fun v11 w12 => ∃ (x10 : Bool), v11 = (.bool x10 : Value) ∧ (R (.returned (.bool x10)) w12)) (fun ch w => Kfn R ch [] w)) :=
    fun E => do_call Try.call37 (c_alive4 fun w2 e2 => retS_ret ⟨_, rfl, h _ (E.trans e2)⟩)
  refine ifB_intro (fun _ => hal (ext_refl w)) fun hle => ?_
  have hn100 : n ≤ 100 := by have := of_decide_eq_false hle; omega
  refine ⟨by decide, ?_⟩
  obtain ⟨o', ho', hisO⟩ := ord_of ho.1
  rw [ho']
  have hp3 : may 3 = true := by decide
  refine ⟨fun vs w' => ∃ (k n1 c1 : Nat) (p1 : Option Addr) (val : Int) (has : Bool), vs = [.slice p1 n1 c1, .int .i64 val, .bool has, .int .i64 k] ∧ k ≤ n ∧ Keeps o' key w w' k p1 n1 c1 val has,
    fun vs _ => n - (intOf (vs.getD 3 undef)).toNat, ⟨0, 0, 0, none, 0, false, rfl, by omega, ext_refl w, ⟨[], ownP_nil _ _, by simp [mayR, hisO, chain], (by intro x hx; cases hx), ?_, by simp⟩, Nat.le_refl _⟩, ?_⟩
  · simp [hasR]
  rintro p1 n1 c1 val has i _ w1 ⟨k, n1', c1', p1', val', has', hv, hkn, hK⟩
  simp only [List.cons.injEq, Value.slice.injEq, Value.int.injEq, Value.bool.injEq, true_and, and_true] at hv
  obtain ⟨⟨rfl, rfl, rfl⟩, rfl, rfl, rfl⟩ := hv
  refine ifB_intro (fun hlt => ?_) fun hge => ?_
  rotate_left
  · exact hal hK.ext
  have hlt : k < n := by have := of_decide_eq_true hlt; omega
  obtain ⟨E1, ⟨r, hr, hm, hIr, hhas, hval⟩, hlen⟩ := hK
  have hX := hI _ (List.getElem_mem (show k < l.length by omega))
  obtain ⟨x, hxe⟩ : ∃ x, x = (l[k]'(by omega)).1 := ⟨_, rfl⟩
  rw [← hxe] at hX
  have hrn := ownP_len hr
  refine ix_flat (ec := ecS) (fun _ => rfl) (by omega) (hl.ext E1) hn rfl hlt fun a ra _ => ?_
  have ra0 := ra 0 _ rfl
  have ra1 := ra 1 _ rfl
  refine ⟨x.1, by rw [add_zero', hxe]; exact ra0, x.2, by rw [add_zero', hxe]; exact ra1, ⟨?_⟩⟩
  refine do_st2 (blk_alloc w1 _ _) fun w2 hb2 g2 => ?_
  have e2 : Ext w1 w2 := (ext_alloc w1 _).st g2 (Nat.le_refl _)
  have E2 := E1.trans e2
  have hr2 := row_to hr e2 (Nat.le_refl _)
  refine ⟨_, hb2.cell (i := 0) (by rw [add_blk]) rfl, ?_⟩
  refine do_call Try.call28 (c_rowget (ownP_cs hr2) hrn (by omega) hIr hX.1 fun w3 e3 => retS_ret ⟨_, _, rfl, ?_⟩)
  have E3 := E2.trans e3
  have hb3 := hb2.ext e3
  have hr3 := row_to hr2 e3 (Nat.le_refl _)
  -- behind a step
  refine ⟨fun vs w' => ∃ (n2 c2 : Nat) (p2 : Option Addr) (val2 : Int) (has2 : Bool), vs = [.slice p2 n2 c2, .int .i64 val2, .bool has2] ∧ Keeps o' key w w' (k + 1) p2 n2 c2 val2 has2, ?_, ?_⟩
  · rintro p2 n2 c2 val2 has2 _ w4 ⟨n2', c2', p2', val2', has2', hv, hK⟩
    simp only [List.cons.injEq, Value.slice.injEq, Value.int.injEq, Value.bool.injEq, true_and, and_true] at hv
    obtain ⟨⟨rfl, rfl, rfl⟩, rfl, rfl⟩ := hv
    have hK' := hK
    obtain ⟨E4, ⟨r', hr', hm', hIr', hhas', hval'⟩, hlen'⟩ := hK
    have hrn' := ownP_len hr'
    refine do_call Try.call28 (c_rowget (ownP_cs hr') hrn' (by omega) hIr' hx fun w5 e5 => retS_ret ⟨_, _, rfl, ?_⟩)
    refine ⟨fun vs w' => vs = [.bool false] ∧ Ext w4 w', ?_, ?_⟩
    · rintro b _ w6 ⟨hv, e6⟩
      simp only [List.cons.injEq, Value.bool.injEq, and_true] at hv
      subst hv
      refine ifB_f rfl ⟨⟨k + 1, n2, c2, p2, val2, has2, by rw [wrap_succ hlt (by omega)], by omega, hK'.to e6⟩, ?_⟩
      rw [wrap_succ hlt (by omega)]; simp [intOf]; omega
    · rw [hhas']
      refine ifB_f (by simp) ?_
      refine ifB_intro (fun hh => ?_) fun hh => ?_
      · refine ifB_f (by rw [hval' hh]; simp) ?_
        refine do_call Try.call40 (c_may ((ownP_cs hr').ext e5) hrn' (by omega) hIr' fun w6 e6 => retS_ret ⟨_, rfl, ?_⟩)
        rw [hm']
        exact ⟨rfl, e5.trans e6⟩
      · refine do_call Try.call40 (c_may ((ownP_cs hr').ext e5) hrn' (by omega) hIr' fun w6 e6 => retS_ret ⟨_, rfl, ?_⟩)
        rw [hm']
        exact ⟨rfl, e5.trans e6⟩
  refine ix_flat (ec := ecS) (fun _ => rfl) (by omega) (hl.ext E3) hn rfl hlt fun a ra _ => ⟨_, ra 2 _ rfl, ?_⟩
  refine ifB_intro (fun _ => ?_) fun _ => ?_
  · -- drop
    refine ⟨_, hb3.cell (i := 0) (by rw [add_blk]) rfl, ?_⟩
    refine do_call Try.call38 (c_drop (ownP_cs hr3) hrn (by omega) hIr hX.1 fun p4 n4 c4 w4 h4 e4 => retS_ret ⟨_, _, _, _, rfl, ?_⟩)
    have hb4 := hb3.ext e4
    have E4 := E3.trans e4
    have hn4 := ownP_len h4
    rw [drop_len hm, hrn] at hn4
    refine ⟨fun vs w' => vs = [.bool false] ∧ Ext w4 w', ?_, ?_⟩
    · rintro b _ w5 ⟨hv, e5⟩
      simp only [List.cons.injEq, Value.bool.injEq, and_true] at hv
      subst hv
      refine ifB_f rfl ⟨_, (hb4.ext e5).cell (i := 0) (by rw [add_blk]) rfl, ?_⟩
      have h5 : OwnP w5 w.heap.size p4 n4 c4 (dropR o' r x.1) := row_to h4 e5 E3.size
      have hle : n4 ≤ k + 1 := by
        rw [← hn4]; split <;> omega
      refine ifB_intro (fun hk => ?_) fun hk => ?_
      · have hk : x.1 = key := by simpa using hk
        exact ⟨n4, c4, p4, val, false, rfl, E4.trans e5, ⟨_, h5, drop_may hm, drop_in hm hIr, by rw [← hk]; exact drop_has hm, by simp⟩, hle⟩
      · have hk : x.1 ≠ key := by simpa using hk
        have hd := drop_other hm (key := x.1) (key' := key) (Ne.symm hk)
        exact ⟨n4, c4, p4, val, has, rfl, E4.trans e5, ⟨_, h5, drop_may hm, drop_in hm hIr, by rw [hd.1]; exact hhas, fun hh => by rw [hd.2]; exact hval hh⟩, hle⟩
    · refine ifB_f (by simp) ?_
      cases hh : hasR o' r x.1
      · rw [hh] at hn4
        have e : n4 = n1 := by simpa using hn4.symm
        subst e
        exact ifB_f (by simp) (ifB_f rfl ⟨rfl, ext_refl _⟩)
      · rw [hh] at hn4
        have hlt' := hasR_lt hh
        have e : n4 = n1 - 1 := by simpa using hn4.symm
        have hw : (((n4 : Nat) : Int) != (IntKind.wrap .i64 (((n1 : Nat) : Int) - 1))) = false := by
          rw [wrap_of (by omega) (by omega)]
          simp; omega
        refine ifB_intro (fun _ => ifB_f rfl (ifB_t rfl ⟨by rw [hw], ext_refl _⟩)) fun _ => ifB_t rfl ⟨by rw [hw], ext_refl _⟩
  · -- put
    refine ⟨_, hb3.cell (i := 0) (by rw [add_blk]) rfl, _, hb3.cell (i := 1) (by rw [add_blk]) rfl, ?_⟩
    refine do_call Try.call39 (c_put (ownP_cs hr3) hrn (by omega) hIr hX.1 fun p4 n4 c4 w4 h4 e4 => retS_ret ⟨_, _, _, _, rfl, ?_⟩)
    have hb4 := hb3.ext e4
    have E4 := E3.trans e4
    have hn4 := ownP_len h4
    rw [put_len hm hp3, hrn] at hn4
    have hpm := put_may (p := 3) hm hp3 hIr hX.1
    have hpI := put_in (p := 3) hm hp3 hIr hX
    have hpk := put_key (p := 3) hm hp3 hIr hX.1
    have hle : n4 ≤ k + 1 := by
      rw [← hn4]; split <;> omega
    have hpE : putE o' 3 r = 0 := by simp [putE, hm, hp3]
    refine ⟨fun vs w' => vs = [.bool false] ∧ Ext w4 w', ?_, ?_⟩
    · rintro b _ w5 ⟨hv, e5⟩
      simp only [List.cons.injEq, Value.bool.injEq, and_true] at hv
      subst hv
      have h5 : OwnP w5 w.heap.size p4 n4 c4 (putR o' 3 r x) := row_to h4 e5 E3.size
      refine ifB_f rfl ⟨_, (hb4.ext e5).cell (i := 0) (by rw [add_blk]) rfl, ?_⟩
      refine do_call Try.call28 (c_rowget (ownP_cs h5) (ownP_len h5) (by omega) hpI hX.1 fun w6 e6 => retS_ret ⟨_, _, rfl, ?_⟩)
      have hb6 := (hb4.ext e5).ext e6
      refine ⟨fun vs w' => vs = [.bool false] ∧ Ext w6 w', ?_, ?_⟩
      · rintro b _ w7 ⟨hv, e7⟩
        simp only [List.cons.injEq, Value.bool.injEq, and_true] at hv
        subst hv
        have h7 : OwnP w7 w.heap.size p4 n4 c4 (putR o' 3 r x) := row_to h5 (e6.trans e7) (Nat.le_refl _)
        have E7 := (E4.trans e5).trans (e6.trans e7)
        refine ifB_f rfl ⟨_, (hb6.ext e7).cell (i := 0) (by rw [add_blk]) rfl, ?_⟩
        refine ifB_intro (fun hk => ?_) fun hk => ?_
        · have hk : x.1 = key := by simpa using hk
          exact ⟨n4, c4, p4, _, true, rfl, E7, ⟨_, h7, hpm, hpI, by rw [← hk]; exact hpk.1, fun _ => by rw [← hk]⟩, hle⟩
        · have hk : x.1 ≠ key := by simpa using hk
          have hd := put_other (p := 3) (key := key) hm hp3 hIr hX.1 (Ne.symm hk)
          exact ⟨n4, c4, p4, val, has, rfl, E7, ⟨_, h7, hpm, hpI, by rw [hd.1]; exact hhas, fun hh => by rw [hd.2]; exact hval hh⟩, hle⟩
      · rw [hpk.1]
        refine ifB_f rfl ⟨_, hb6.cell (i := 1) (by rw [add_blk]) rfl, ?_, ext_refl _⟩
        rw [hpk.2]
        have : (if hasR o' r x.1 = true then comb 3 (getR o' r x.1) x.2 else x.2) = IntKind.wrap .i64 (getR o' r x.1 + x.2) := by
          split
          · rfl
          · rename_i hh
            rw [get_none (by simpa using hh), Int.zero_add, wrap_of hX.2.1 hX.2.2]
        rw [this]; simp
    · rw [hpE]
      refine ifB_f rfl ?_
      cases hh : hasR o' r x.1
      · rw [hh] at hn4
        have e : n4 = n1 + 1 := by simpa using hn4.symm
        have hw : (((n4 : Nat) : Int) != (IntKind.wrap .i64 (((n1 : Nat) : Int) + 1))) = false := by
          rw [wrap_of (by omega) (by omega)]
          simp; omega
        exact ifB_f rfl (ifB_t rfl ⟨by rw [hw], ext_refl _⟩)
      · rw [hh] at hn4
        have e : n4 = n1 := by simpa using hn4.symm
        subst e
        exact ifB_t rfl (ifB_f (by simp) (ifB_f rfl ⟨rfl, ext_refl _⟩))
end Go.Proofs.Ytinkkhcffoikmaa
