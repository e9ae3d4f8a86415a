/-
  UnionMany.
-/
import Derived.Test.YthgckfeocalbdaaGreatLaw28
import Derived.Test.YthgckfeocalbdaaGreatL9
namespace Go.Proofs.YthgckfeocalbdaaGreat
open Go Go.Sh Go.RowKit

/-! ### rows of one's own, side by side -/
theorem row_kept {w w' : World} {base base' ty1 ty2 s1 s2 n1 n2 : Nat} {v1 v2 : Value} {xs1 xs2 : List Value} (h : w.ownsRow base ty1 s1 v1 n1 xs1) (k : w.ownsRow base' ty2 s2 v2 n2 xs2) (hne : ty1 ≠ ty2) (g : w.grownBy w' v2.ownBlock) : w'.ownsRow base ty1 s1 v1 n1 xs1 := by
  refine World.ownsRow.kept h g ?_
  rcases h.2 with ⟨rfl, _⟩ | ⟨g1, cap1, cur1, rfl, _, hb1, _⟩
  · exact .inl rfl
  · right
    rcases k.2 with ⟨rfl, _⟩ | ⟨g2, cap2, cur2, rfl, _, hb2, _⟩
    · intro e; cases e
    · intro e
      have e : some g1 = some g2 := e
      injection e with e
      subst e
      rw [hb1] at hb2
      injection hb2 with hb2
      injection hb2 with _ h2
      exact hne h2
theorem isT_row {w w' : World} {base' ty2 s2 n2 : Nat} {v2 : Value} {xs2 : List Value} {p : Option Addr} {t : Tr} (h : IsN w p t) (k : w.ownsRow base' ty2 s2 v2 n2 xs2) (hne : ty2 ≠ 110) (g : w.grownBy w' v2.ownBlock) : IsN w' p t := by
  rcases k.2 with ⟨rfl, _⟩ | ⟨g2, cap2, cur2, rfl, _, hb2, _⟩
  · exact h.ext ((ext_refl w).grown g (by rintro _ ⟨⟩))
  · exact h.st g hb2 hne
theorem row_ext {a w w' : World} {base ty s n : Nat} {v : Value} {xs : List Value} (h : w.ownsRow base ty s v n xs) (e : Ext a w) (g : w.grownBy w' v.ownBlock) (hb : a.heap.size ≤ base) : Ext a w' :=
  e.grown g fun k hk => Nat.le_trans hb (World.ownsRow.lt h k hk).1
theorem row_at {w w' : World} {b base ty s n : Nat} {v : Value} {xs : List Value} (h : w.ownsRow base ty s v n xs) (g : Gs b w w') (hb : b < base) : w'.ownsRow base ty s v n xs := by
  refine World.ownsRow.kept h g ?_
  cases hq : v.ownBlock with
  | none => exact .inl rfl
  | some k =>
    have := (World.ownsRow.lt h k hq).1
    exact .inr fun e => by injection e with e; omega
set_option maxRecDepth 100000 in
theorem elPn : ElT Tryz.prog 74 29 (.pointer none) 1 8 := ⟨Tryz.underlying74, ⟨_, Tryz.type29, by kernel_rfl, by kernel_rfl, by kernel_rfl⟩, rfl, by omega⟩
set_option maxRecDepth 100000 in
theorem elS : ElT Tryz.prog 75 37 (.slice none 0 0) 1 24 := ⟨Tryz.underlying75, ⟨_, Tryz.type37, by kernel_rfl, by kernel_rfl, by kernel_rfl⟩, rfl, by omega⟩
/-! ### rows together -/
abbrev Rw := Option Addr × Nat × Nat × List It
abbrev rowsV (L : List Rw) : List Value := L.flatMap fun x => [.slice x.1 x.2.1 x.2.2.1]
def manyL (o p : Int) (l : List (List It)) : List It := l.foldl (foldI o p) []
theorem manyL_all {o p : Int} {P : Int → Int → Prop} {l : List (List It)} (h : ∀ x ∈ l, ∀ y ∈ x, P y.1 y.2.2) : ∀ y ∈ manyL o p l, P y.1 y.2.2 := by
  have key : ∀ (l : List (List It)) (a : List It), (∀ y ∈ a, P y.1 y.2.2) → (∀ x ∈ l, ∀ y ∈ x, P y.1 y.2.2) → ∀ y ∈ l.foldl (foldI o p) a, P y.1 y.2.2 := by
    intro l
    induction l with
    | nil => intro a ha _; exact ha
    | cons x xs ih => intro a ha hl; exact ih _ (foldI_all ha (hl x (.head _))) fun y hy => hl y (.tail _ hy)
  exact key l [] (fun y hy => by cases hy) h
set_option maxRecDepth 20000 in
theorem c_r28many {o p : Int} {Rs : List Rw} {q : Option Addr} {n cp : Nat} {w : World} {R : Ending → World → Prop} (hq : Cs w q (rowsV Rs)) (hn : Rs.length = n) (hn6 : n ≤ 6)
    (hR : ∀ r ∈ Rs, Cs w r.1 (its r.2.2.2) ∧ r.2.2.2.length = r.2.1 ∧ r.2.1 ≤ 400 ∧ InI r.2.2.2)
    (h : ∀ p1 n1 c1 w', OwnI w' w.heap.size p1 n1 c1 (manyL o p (Rs.map (·.2.2.2))) → Ext w w' → R (.returned (.slice p1 n1 c1)) w') :
    Calls Tryz.prog 46 #[.int .u8 o, .int .u8 p, .slice q n cp] w R := by
  refine sh46_ok _ _ _ _ _ ?_
  unfold sh46
  refine ⟨fun vs w' => ∃ (i n1 c1 : Nat) (p1 : Option Addr), vs = [.slice p1 n1 c1, .int .i64 i] ∧ i ≤ n ∧ Ext w w' ∧ OwnI w' w.heap.size p1 n1 c1 (manyL o p ((Rs.map (·.2.2.2)).take i)) ∧ n1 ≤ i * 400, fun vs _ => n - (intOf (vs.getD 1 undef)).toNat,
    ⟨0, 0, 0, none, rfl, by omega, ext_refl _, ownI_nil _ _, by omega⟩, ?_⟩
  rintro op on oc i_ _ w2 ⟨i, n1, c2, p2, hv, hi, E2, h2, hb2⟩
  simp only [List.cons.injEq, Value.slice.injEq, Value.int.injEq, true_and, and_true] at hv
  obtain ⟨⟨rfl, rfl, rfl⟩, rfl⟩ := hv
  refine ifB_intro (fun hlt => ?_) fun hge => ?_
  · have hlt : i < n := by have := of_decide_eq_true hlt; omega
    refine ix_flat (s := 1) (ec := fun x : Rw => [.slice x.1 x.2.1 x.2.2.1]) (fun _ => rfl) (by omega) (hq.ext E2) hn rfl hlt fun a r _ => ⟨(Rs[i]'(by omega)).1, (Rs[i]'(by omega)).2.1, (Rs[i]'(by omega)).2.2.1, by have := r 0 _ rfl; rw [add_zero'] at this; exact this, ?_⟩
    obtain ⟨hx, hxn, hx4, hxi⟩ := hR (Rs[i]'(by omega)) (List.getElem_mem _)
    have hin : InI (manyL o p ((Rs.map (·.2.2.2)).take i)) := manyL_all (P := fun a _ => In a) fun x hx y hy => by
      obtain ⟨r, hr, rfl⟩ := List.mem_map.1 (List.mem_of_mem_take hx)
      exact (hR r hr).2.2.2 y hy
    have hlen := ownI_len h2
    have hstep : manyL o p ((Rs.map (·.2.2.2)).take (i + 1)) = foldI o p (manyL o p ((Rs.map (·.2.2.2)).take i)) (Rs[i]'(by omega)).2.2.2 := by
      unfold manyL
      rw [← List.take_append_getElem (by simp; omega), List.foldl_append]
      simp
    have hfl := foldI_len (o := o) (p := p) (b := (Rs[i]'(by omega)).2.2.2) (l := manyL o p ((Rs.map (·.2.2.2)).take i))
    refine do_call Tryz.call44 (c_r28union (ownI_cs h2) hlen (hx.ext E2) hxn (by omega) hin hxi fun p3 n3 c3 w3 h3 e3 => retS_ret ⟨_, _, _, rfl, ⟨i + 1, n3, c3, p3, ?_, by omega, E2.trans e3, ?_, ?_⟩, ?_⟩)
    · rw [wrap_succ hlt (by omega)]
    · rw [hstep]; exact rowI_to h3 (ext_refl _) E2.size
    · have := ownI_len h3; omega
    · rw [wrap_succ hlt (by omega)]; simp [intOf]; omega
  · have hge : i = n := by have := of_decide_eq_false hge; omega
    rw [List.take_of_length_le (by simp; omega)] at h2
    exact h _ _ _ _ h2 E2
/-! ### how many keys there are -/
theorem nodup_len {l m : List Int} (h : l.Nodup) (hs : ∀ x ∈ l, x ∈ m) : l.length ≤ m.length := by
  induction l generalizing m with
  | nil => simp
  | cons x xs ih =>
    rw [List.nodup_cons] at h
    have hx := hs x (.head _)
    have := ih (m := m.erase x) h.2 fun y hy => (List.mem_erase_of_ne (by rintro rfl; exact h.1 hy)).2 (hs y (.tail _ hy))
    rw [List.length_erase_of_mem hx] at this
    have := List.length_pos_of_mem hx
    rw [List.length_cons]; omega
theorem asc_nodup {o : Int} {l : List It} (h : asc o l) : (l.map (·.1)).Nodup := by
  refine List.Pairwise.imp (fun {a b} hab => ?_) h
  rintro rfl
  have : cmpI o a a < 0 := hab
  have := cmpI_self o a
  omega
theorem its_many {c o p : Int} : ∀ (l : List Tr) (a : Tr), OkU c o a → (∀ x ∈ l, OkU c o x) → itsC c (l.foldl (unionC c o p) a) = (l.map (itsC c)).foldl (foldI o p) (itsC c a)
  | [], _, _, _ => rfl
  | x :: xs, a, ha, hl => by
    have hx := hl x (.head _)
    have e := unionC_ok (p := p) ha.ok.1 hx.ok ha.asc hx.asc
    rw [List.foldl_cons, its_many xs _ (ha.union (p := p) hx).1 fun y hy => hl y (.tail _ hy), List.map_cons, List.foldl_cons, e]
/-! ### the statement -/
theorem fit_nil : ∀ t : BT, ([] : List Bd) = t.beads → FitB t := fun t ht => by
  cases t with
  | nil => exact ⟨fun x hx => by simp [BT.beads] at hx, fun x hx => by simp [BT.beads] at hx, fun x hx => by simp [BT.beads] at hx⟩
  | node x l r => simp [BT.beads] at ht
/-- one of the three -/
structure OkT (w : World) (code o : Int) (x : Option Addr × Nat × Nat × BT) : Prop where
  cs : Cs w x.1 (bds x.2.2.2.beads)
  n : x.2.2.2.size = x.2.1
  c : x.2.1 ≤ x.2.2.1
  n4 : x.2.1 ≤ 400
  wf : x.2.2.2.wf = true
  fit : FitB x.2.2.2
  u : OkU code o x.2.2.2.tr
abbrev slsV (L : List (Option Addr × Nat × Nat × BT)) : List Value := L.flatMap fun x => [.slice x.1 x.2.1 x.2.2.1]
/-- what the loop keeps -/
structure LoopM (code : Int) (Ls : List (Option Addr × Nat × Nat × BT)) (base : Nat) (tp : Option Addr) (tc : Nat) (rp : Option Addr) (rc i : Nat) (L : List (Option Addr × Tr)) (Rs : List Rw) (w : World) : Prop where
  len : L.length = i
  tr : w.ownsRow base 29 1 (.slice tp i tc) i (ptrsV L)
  rr : w.ownsRow base 37 1 (.slice rp i rc) i (rowsV Rs)
  isn : ∀ x ∈ L, IsN w x.1 x.2
  of : ∀ x ∈ L, ∃ y ∈ Ls, x.2 = y.2.2.2.tr
  own : ∀ r ∈ Rs, OwnI w base r.1 r.2.1 r.2.2.1 r.2.2.2
  eq : Rs.map (·.2.2.2) = L.map fun x => itsC code x.2
theorem LoopM.ext {code : Int} {Ls : List (Option Addr × Nat × Nat × BT)} {base : Nat} {tp : Option Addr} {tc : Nat} {rp : Option Addr} {rc i : Nat} {L : List (Option Addr × Tr)} {Rs : List Rw} {w w' : World} (h : LoopM code Ls base tp tc rp rc i L Rs w) (e : Ext w w') :
    LoopM code Ls base tp tc rp rc i L Rs w' := ⟨h.len, e.row h.tr, e.row h.rr, fun x hx => (h.isn x hx).ext e, h.of, fun r hr => e.row (h.own r hr), h.eq⟩
theorem tmod3 {x : Int} (h : 0 ≤ x) : ∃ k : Nat, k < 3 ∧ Int.tmod x 3 = (k : Int) := by
  refine ⟨(Int.tmod x 3).toNat, ?_, ?_⟩
  · have := Int.tmod_nonneg 3 h; have := Int.tmod_lt_of_pos x (show (0 : Int) < 3 by decide); omega
  · have := Int.tmod_nonneg 3 h; omega
theorem one_cell1 {v : Value} (h : v.oneCell' = true) : ∀ u ∈ [v], u.oneCell' = true := fun u hu => by simp at hu; subst hu; exact h
set_option maxRecDepth 20000 in
set_option maxHeartbeats 1600000 in
theorem c_unionMany {code o p : Int} {l m k : List Bd} {q q' q3 : Option Addr} {n c n' c' n3 c3 : Nat} {wh : List Int} {qw : Option Addr} {nw cw : Nat} {w : World} {R : Ending → World → Prop} (hl : Cs w q (bds l)) (hn : l.length = n) (hnc : n ≤ c) (hF : ∀ t : BT, l = t.beads → FitB t)
    (hm : Cs w q' (bds m)) (hn' : m.length = n') (hnc' : n' ≤ c') (hF' : ∀ t : BT, m = t.beads → FitB t)
    (hk : Cs w q3 (bds k)) (hn3 : k.length = n3) (hnc3 : n3 ≤ c3) (hF3 : ∀ t : BT, k = t.beads → FitB t)
    (hw : Cs w qw (u8s wh)) (hnw : wh.length = nw) (hb8 : ∀ x ∈ wh, 0 ≤ x ∧ x < 256)
    (h : ∀ w', Ext w w' → R (.returned (.bool true)) w') : Calls Tryz.prog 9 #[.int .u8 code, .int .u8 o, .int .u8 p, .slice q n c, .slice q' n' c', .slice q3 n3 c3, .slice qw nw cw] w R := by
  refine sh9_ok _ _ _ _ _ _ _ _ _ _ _ _ _ _ _ ?_
  unfold sh9
  have hidle : ∀ w2, Ext w w2 → doCall Tryz.prog (.func (.func 12) #[] #[]) #[.int .u8 code] w2 (retS (fun v18 w19 => ∃ (x17 : Bool), v18 = (.bool x17 : Value) ∧ (
 ifB (isS code == x17) (
 doCall Tryz.prog (.func (.func 41) #[] #[]) #[.int .u8 o, .int .u8 p] w19 (retS (fun v21 w22 => ∃ (x20 : Bool), v21 = (.bool x20 : Value) ∧ (
 ifB x20 (
 doCall Tryz.prog (.func (.func 42) #[] #[]) #[] w22 (retS (fun v24 w25 => ∃ (x23 : Bool), v24 = (.bool x23 : Value) ∧ (
 R (.returned (.bool x23)) w25)) (fun ch w => Kfn R ch [] w))) (
 R (.returned (.bool false)) w22))) (fun ch w => Kfn R ch [] w))) (
 R (.returned (.bool false)) w19))) (fun ch w => Kfn R ch [] w)) := fun w2 e2 =>
    do_call Tryz.call12 (c_r22is (retS_ret ⟨_, rfl, ifB_t (by simp) (do_call Tryz.call41 (c_nothing28 fun w3 e3 => retS_ret ⟨_, rfl, ifB_t rfl (do_call Tryz.call42 (c_alive28 fun w4 e4 => retS_ret ⟨_, rfl, h w4 ((e2.trans e3).trans e4)⟩))⟩))⟩))
  refine do_call Tryz.call10 (c_l22of (fun h0 => retS_ret ⟨_, _, rfl, ?_⟩) fun hs b w1 e1 hbw hs1 => retS_ret ⟨_, _, rfl, ?_⟩)
  · intro K22
    rw [h0] at hidle
    refine do_call Tryz.call40 (c_long28 (code := code) (o := o) hl hn hnc hF hm hn' hnc' hF' fun bb w2 e2 hbb => retS_ret ⟨_, rfl, ?_⟩)
    cases bb with
    | true => exact ifB_t rfl (ifB_t rfl (hidle w2 e2))
    | false =>
      refine ifB_f rfl (do_call Tryz.call40 (c_long28 (code := code) (o := o) (m := []) (hk.ext e2) hn3 hnc3 hF3 (cs_nil _ _) rfl (Nat.le_refl _) fit_nil fun bb w3 e3 hbb => retS_ret ⟨_, rfl, ?_⟩))
      cases bb with
      | true => exact ifB_t rfl (ifB_t rfl (hidle w3 (e2.trans e3)))
      | false => exact ifB_f rfl (ifB_t rfl (ifB_t rfl (hidle w3 (e2.trans e3))))
  · intro K22
    rw [hs] at hidle
    have hb : w.heap.size ≤ b := by omega
    refine do_call Tryz.call40 (c_long28 (code := code) (o := o) (hl.ext e1) hn hnc hF (hm.ext e1) hn' hnc' hF' fun bb w2 e2 hbb => retS_ret ⟨_, rfl, ?_⟩)
    have E2 := e1.trans e2
    rcases hbb with rfl | ⟨rfl, _, ho, t, u, ht, hu⟩
    · exact ifB_t rfl (ifB_t rfl (hidle w2 E2))
    refine ifB_f rfl (do_call Tryz.call40 (c_long28 (code := code) (o := o) (m := []) (hk.ext E2) hn3 hnc3 hF3 (cs_nil _ _) rfl (Nat.le_refl _) fit_nil fun bb w3 e3 hbb => retS_ret ⟨_, rfl, ?_⟩))
    have E3 := E2.trans e3
    rcases hbb with rfl | ⟨rfl, _, _, s, _, hst, _⟩
    · exact ifB_t rfl (ifB_t rfl (hidle w3 E3))
    refine ifB_f rfl (ifB_f rfl (do_call Tryz.call31 (c_rmay (retS_ret ⟨_, rfl, ?_⟩))))
    cases hp : may p with
    | false => exact ifB_t rfl (ifB_t rfl (hidle w3 E3))
    | true =>
      refine ifB_f rfl ?_
      simp -zeta -zetaHave only [K22]
      refine ifB_intro (fun _ => hidle w3 E3) fun hn6 => ⟨?_⟩
      have hn6 : nw ≤ 6 := by have := of_decide_eq_false hn6; omega
      have hs3 := hs1.ext (e2.trans e3)
      have e4 := ext_alloc w3 (.cells #[.slice q n c, .slice q' n' c', .slice q3 n3 c3] 22)
      have h35 := blk_alloc w3 #[.slice q n c, .slice q' n' c', .slice q3 n3 c3] 22
      have hs4 := hs3.ext e4
      have E4 := E3.trans e4
      generalize w3.heap.size = b35 at h35 ⊢
      generalize w3.alloc (.cells #[.slice q n c, .slice q' n' c', .slice q3 n3 c3] 22) = w4 at *
      have nb4 : b < w4.heap.size := hs4.lt
      -- the three
      obtain ⟨Ls, hLs⟩ : ∃ Ls : List (Option Addr × Nat × Nat × BT), Ls = [(q, n, c, t), (q', n', c', u), (q3, n3, c3, s)] := ⟨_, rfl⟩
      have hOk : ∀ x ∈ Ls, OkT w4 code o x := by
        rw [hLs]
        intro x hx
        simp only [List.mem_cons, List.not_mem_nil, or_false] at hx
        rcases hx with rfl | rfl | rfl
        · have := ht.l; subst this; exact ⟨hl.ext E4, hn, hnc, ht.n4, ht.wf, ht.fit, ht.u⟩
        · have := hu.l; subst this; exact ⟨hm.ext E4, hn', hnc', hu.n4, hu.wf, hu.fit, hu.u⟩
        · have := hst.l; subst this; exact ⟨hk.ext E4, hn3, hnc3, hst.n4, hst.wf, hst.fit, hst.u⟩
      have hL3 : Ls.length = 3 := by rw [hLs]; rfl
      have hc35 : Cs w4 (some (blk b35)) (slsV Ls) := by
        rw [hLs]
        intro i v hv
        refine ⟨_, rfl, ?_⟩
        rw [add_blk]
        match i with
        | 0 => simp at hv; subst hv; exact h35.cell (i := 0) rfl rfl
        | 1 => simp at hv; subst hv; exact h35.cell (i := 1) rfl rfl
        | 2 => simp at hv; subst hv; exact h35.cell (i := 2) rfl rfl
        | i + 3 => simp at hv
      refine ⟨fun vs w' => ∃ (i tc rc : Nat) (tp rp : Option Addr) (L : List (Option Addr × Tr)) (Rs : List Rw), vs = [.slice tp i tc, .slice rp i rc, .int .i64 i] ∧ i ≤ nw ∧ Ext w4 w' ∧ LoopM code Ls w4.heap.size tp tc rp rc i L Rs w',
        fun vs _ => nw - (intOf (vs.getD 2 undef)).toNat,
        ⟨0, 0, 0, none, none, [], [], rfl, by omega, ext_refl _, rfl, World.ownsRow_nil _ _ _ _, World.ownsRow_nil _ _ _ _, (fun x hx => by cases hx), (fun x hx => by cases hx), (fun x hx => by cases hx), rfl⟩, ?_⟩
      rintro tp_ tn_ tc_ rp_ rn_ rc_ i_ _ w5 ⟨i, tc, rc, tp, rp, L, Rs, hv, hi, e5, I⟩
      simp only [List.cons.injEq, Value.slice.injEq, Value.int.injEq, true_and, and_true] at hv
      obtain ⟨⟨v1, v2, v3⟩, ⟨v4, v5, v6⟩, v7⟩ := hv
      have v1 := v1.symm; subst v1
      have v2 := v2.symm; subst v2
      have v3 := v3.symm; subst v3
      have v4 := v4.symm; subst v4
      have v5 := v5.symm; subst v5
      have v6 := v6.symm; subst v6
      have v7 := v7.symm; subst v7
      refine ifB_intro (fun hlt => ?_) fun hge => ?_
      · have hlt : i < nw := by have := of_decide_eq_true hlt; omega
        refine ix_flat (s := 1) (ec := fun x : Int => [.int .u8 x]) (fun _ => rfl) (by omega) (hw.ext (E4.trans e5)) hnw rfl hlt fun a r _ => ⟨wh[i]'(by omega), by have := r 0 _ rfl; rw [add_zero'] at this; exact this, by decide, ?_⟩
        obtain ⟨j, hj, ej⟩ := tmod3 (hb8 (wh[i]'(by omega)) (List.getElem_mem _)).1
        rw [ej]
        refine ix_flat (s := 1) (ec := fun x : Option Addr × Nat × Nat × BT => [.slice x.1 x.2.1 x.2.2.1]) (fun _ => rfl) (by omega) (hc35.ext e5) hL3 rfl hj fun a2 r2 _ => ⟨(Ls[j]'(by omega)).1, (Ls[j]'(by omega)).2.1, (Ls[j]'(by omega)).2.2.1, by have := r2 0 _ rfl; rw [add_zero'] at this; exact this, ?_⟩
        have hX : (Ls[j]'(by omega)) ∈ Ls := List.getElem_mem _
        generalize (Ls[j]'(by omega)) = X at hX ⊢
        obtain ⟨hcs, hsz, hcap, h400, hwf, hfit, hou⟩ := hOk X hX
        refine do_call Tryz.call15 (c_make X.2.2.2 (hcs.ext e5) hsz hcap hwf (by omega) fun px w6 e6 hp6 => retS_ret ⟨_, rfl, ⟨?_⟩⟩)
        have e7 := ext_alloc w6 (.cells #[.pointer px] 29)
        have hb7 := blk_alloc w6 #[.pointer px] 29
        have I7 := (I.ext e6).ext e7
        have E7 := (e5.trans e6).trans e7
        have hp7 := hp6.ext e7
        generalize w6.alloc (.cells #[.pointer px] 29) = w7 at *
        refine do_app elPn I7.tr (m := 1) (cs_blk1 hb7) rfl (one_cell1 rfl) (by simp only [maxLen]; omega) (by omega) E7.size fun tp8 tc8 w8 h8 g8 => retS_ret ⟨_, _, _, rfl, ?_⟩
        have E8 := row_ext I7.tr E7 g8 (Nat.le_refl _)
        have rr8 := row_kept I7.rr I7.tr (by decide) g8
        have px8 := isT_row hp7 I7.tr (by decide) g8
        refine do_call Tryz.call18 (c_r22items (cd := code) (hcs.ext E8) hsz hcap hwf (by omega) fun p9 n9 c9 w9 h9 e9 => retS_ret ⟨_, _, _, rfl, ⟨?_⟩⟩)
        have e10 := ext_alloc w9 (.cells #[.slice p9 n9 c9] 37)
        have hb10 := blk_alloc w9 #[.slice p9 n9 c9] 37
        have h10 := rowI_to h9 e10 E8.size
        have e810 := e9.trans e10
        generalize w9.alloc (.cells #[.slice p9 n9 c9] 37) = w10 at *
        have rr10 := e810.row rr8
        have E10 := E8.trans e810
        refine do_app elS rr10 (m := 1) (cs_blk1 hb10) rfl (one_cell1 rfl) (by simp only [maxLen]; omega) (by omega) E10.size fun rp11 rc11 w11 h11 g11 => retS_ret ⟨_, _, _, rfl, ⟨i + 1, tc8, rc11, tp8, rp11, L ++ [(px, X.2.2.2.tr)], Rs ++ [(p9, n9, c9, itsC code X.2.2.2.tr)], ?_, by omega, row_ext rr10 E10 g11 (Nat.le_refl _), ?_⟩, ?_⟩
        · rw [wrap_succ hlt (by omega)]
        · refine ⟨by simp [I.len], ?_, ?_, fun x hx => ?_, fun x hx => ?_, fun r hr => ?_, ?_⟩
          · have := row_kept (e810.row h8) rr10 (by decide) g11
            rw [show ptrsV (L ++ [(px, X.2.2.2.tr)]) = ptrsV L ++ [.pointer px] by simp [ptrsV]]
            exact this
          · rw [show rowsV (Rs ++ [(p9, n9, c9, itsC code X.2.2.2.tr)]) = rowsV Rs ++ [.slice p9 n9 c9] by simp [rowsV]]
            exact h11
          · rcases List.mem_append.1 hx with hx | hx
            · exact isT_row ((isT_row (I7.isn x hx) I7.tr (by decide) g8).ext e810) rr10 (by decide) g11
            · simp at hx; subst hx
              exact isT_row (px8.ext e810) rr10 (by decide) g11
          · rcases List.mem_append.1 hx with hx | hx
            · exact I.of x hx
            · simp at hx; subst hx
              exact ⟨X, hX, rfl⟩
          · rcases List.mem_append.1 hr with hr | hr
            · exact row_kept (e810.row (row_kept (I7.own r hr) I7.tr (by decide) g8)) rr10 (by decide) g11
            · simp at hr; subst hr
              exact row_kept h10 rr10 (by decide) g11
          · rw [List.map_append, List.map_append, I.eq]; rfl
        · rw [wrap_succ hlt (by omega)]; simp [intOf]; omega
      · have hge : i = nw := by have := of_decide_eq_false hge; omega
        subst hge
        have hx : ∀ x ∈ L, OkU code o x.2 ∧ x.2.size ≤ 400 ∧ TagI (itsC code x.2) ∧ InI (itsC code x.2) := fun x hx => by
          obtain ⟨y, hy, e⟩ := I.of x hx
          have k := hOk y hy
          rw [e]
          exact ⟨k.u, by rw [BT.tr_size, k.n]; exact k.n4, k.fit.tagI code, k.fit.inI code⟩
        refine do_call Tryz.call45 (c_many (M := 400) ho hp (hs4.ext e5) (fun w' g => Cs.of_row (row_at I.tr g nb4)) I.len (fun x hx' => ⟨I.isn x hx', (hx x hx').1, (hx x hx').2.1⟩) (by omega) (by simp only [BIG]; omega) fun tq w6 g6 hs6 h6 ok6 => retS_ret ⟨_, _, rfl, ?_⟩)
        have E6 := Ext.gs (E4.trans e5) g6 hb
        intro K82
        refine ifB_t rfl ?_
        have hRl : Rs.length = i := by have := congrArg List.length I.eq; simpa [I.len] using this
        have hr : ∀ r ∈ Rs, ∃ x ∈ L, itsC code x.2 = r.2.2.2 := fun r hr => by
          have : r.2.2.2 ∈ Rs.map (·.2.2.2) := List.mem_map_of_mem hr
          rw [I.eq] at this
          exact List.mem_map.1 this
        refine do_call Tryz.call46 (c_r28many (o := o) (p := p) (Cs.of_row (row_at I.rr g6 nb4)) hRl hn6 (fun r hr' => by
          obtain ⟨x, hx', e⟩ := hr r hr'
          have own := row_at (I.own r hr') g6 nb4
          have len := ownI_len own
          refine ⟨ownI_cs own, len, ?_, ?_⟩
          · rw [← len, ← e, itsC_len]; exact (hx x hx').2.1
          · rw [← e]; exact (hx x hx').2.2.2) fun p7 n7 c7 w7 h7 e7 => retS_ret ⟨_, _, _, rfl, ?_⟩)
        have V := its_many (c := code) (o := o) (p := p) (L.map (·.2)) .nil ⟨OkM.nil hs1.1, List.Pairwise.nil, trivial⟩ (fun y hy => by obtain ⟨x, hx', rfl⟩ := List.mem_map.1 hy; exact (hx x hx').1)
        have V : itsC code (manyC code o p (L.map (·.2))) = manyL o p (Rs.map (·.2.2.2)) := by
          rw [I.eq]
          unfold manyC manyL
          rw [V, List.map_map]; rfl
        have hall : ∀ z ∈ Rs.map (·.2.2.2), ∃ x ∈ L, itsC code x.2 = z := fun z hz => by
          rw [I.eq] at hz
          exact List.mem_map.1 hz
        have htg : TagI (itsC code (manyC code o p (L.map (·.2)))) := by
          rw [V]
          refine manyL_all (P := fun _ g => 0 ≤ g ∧ g < 18446744073709551616) fun z hz => ?_
          obtain ⟨x, hx', rfl⟩ := hall z hz
          exact (hx x hx').2.2.1
        have hfx : (manyL o p (Rs.map (·.2.2.2))).map (itC code) = itsC code (manyC code o p (L.map (·.2))) := by
          rw [← V]
          have : (itsC code (manyC code o p (L.map (·.2)))).map (itC code) = (itsC code (manyC code o p (L.map (·.2)))).map id := List.map_congr_left fun x hx => its_fix hx
          rw [this, List.map_id]
        have hsize : (manyC code o p (L.map (·.2))).size ≤ 1200 := by
          have hnd := asc_nodup ok6.asc
          have hsub : ∀ y ∈ itsC code (manyC code o p (L.map (·.2))), y.1 ∈ (Ls.map fun y => (itsC code y.2.2.2.tr).map (·.1)).flatten := by
            rw [V]
            refine manyL_all (P := fun a _ => a ∈ (Ls.map fun y => (itsC code y.2.2.2.tr).map (·.1)).flatten) fun z hz y hy => ?_
            obtain ⟨x, hx', rfl⟩ := hall z hz
            obtain ⟨y', hy', e⟩ := I.of x hx'
            rw [e] at hy
            exact List.mem_flatten.2 ⟨_, List.mem_map_of_mem (f := fun y : Option Addr × Nat × Nat × BT => (itsC code y.2.2.2.tr).map (·.1)) hy', List.mem_map_of_mem hy⟩
          have := nodup_len hnd fun a ha => by
            obtain ⟨y, hy, rfl⟩ := List.mem_map.1 ha
            exact hsub y hy
          have s1 := ht.n4; have s2 := hu.n4; have s3 := hst.n4
          have k1 : t.size = n := by rw [← hn, ht.l]
          have k2 : u.size = n' := by rw [← hn', hu.l]
          have k3 : s.size = n3 := by rw [← hn3, hst.l]
          rw [List.length_map, itsC_len, hLs] at this
          simp only [List.map_cons, List.map_nil, List.flatten_cons, List.flatten_nil, List.length_append, List.length_map, itsC_len, BT.tr_size, List.length_nil] at this
          omega
        refine do_call Tryz.call19 (c_has ok6.ok htg hfx (h6.ext e7) (by omega) (ownI_cs h7) (ownI_len h7) fun w8 e8 => retS_ret ⟨_, rfl, ifB_t rfl ?_⟩)
        exact do_call Tryz.call42 (c_alive28 fun w9 e9 => retS_ret ⟨_, rfl, h w9 (((E6.trans e7).trans e8).trans e9)⟩)
end Go.Proofs.YthgckfeocalbdaaGreat
