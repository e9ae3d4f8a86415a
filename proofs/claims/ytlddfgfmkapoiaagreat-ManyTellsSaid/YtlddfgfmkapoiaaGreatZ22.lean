/-
  Rows of items: Items, See, Same.
-/
/-
  Has, Is; the document's answers of layers 12, 24.
-/
/-
  The document's answers of layer 24; what a statement parts.
-/
/-
  Layer 24: what a statement parts; the chapter's examples.
-/
import Derived.Test.YtlddfgfmkapoiaaGreatZ21

namespace Go.Proofs.YtlddfgfmkapoiaaGreat
open Go Go.Sh Go.RowKit

set_option maxRecDepth 100000 in
theorem elIt : ElT Tryz.prog 40 114 (.agg #[.int .i64 0, .int .i64 0, .int .u64 0]) 3 24 := ⟨Tryz.underlying40, ⟨_, Tryz.type114, by kernel_rfl, by kernel_rfl, by kernel_rfl⟩, rfl, by omega⟩
abbrev OwnI (w : World) (base : Nat) (p : Option Addr) (n c : Nat) (l : List It) : Prop := w.ownsRow base 114 3 (.slice p n c) n (its l)
theorem ownI_len {w : World} {base n c : Nat} {p : Option Addr} {l : List It} (h : OwnI w base p n c l) : l.length = n := by have := h.1; rw [its_length] at this; omega
theorem ownI_cs {w : World} {base n c : Nat} {p : Option Addr} {l : List It} (h : OwnI w base p n c l) : Cs w p (its l) := Cs.of_row h
theorem ownI_nil (w : World) (base : Nat) : OwnI w base none 0 0 [] := World.ownsRow_nil _ _ _ _
theorem rowI_to {w w' : World} {base base' n c : Nat} {p : Option Addr} {l : List It} (h : OwnI w base p n c l) (e : Ext w w') (hb : base' ≤ base) : OwnI w' base' p n c l := row_mono (e.row h) hb
theorem extI_own {a w w' : World} {base n c : Nat} {p : Option Addr} {l : List It} (h : OwnI w base p n c l) (e : Ext a w) (g : w.grownBy w' (Value.slice p n c).ownBlock) (hb : a.heap.size ≤ base) : Ext a w' :=
  e.grown g fun k hk => Nat.le_trans hb (World.ownsRow.lt h k hk).1
theorem cs_it {w : World} {b : Nat} {x : It} {t : TypeId} (h : Blk w b #[.int .i64 x.1, .int .i64 x.2.1, .int .u64 x.2.2] t) : Cs w (some (blk b)) (its [x]) := fun i v hv => by
  refine ⟨_, rfl, ?_⟩
  rw [add_blk]
  match i, hv with
  | 0, hv => cases hv; exact h.cell rfl rfl
  | 1, hv => cases hv; exact h.cell rfl rfl
  | 2, hv => cases hv; exact h.cell rfl rfl
  | i + 3, hv => simp [ecI] at hv
set_option maxRecDepth 20000 in
theorem c_r20items : ∀ (t : BT) {q : Option Addr} {n c : Nat} {w : World} {R : Ending → World → Prop} (_hl : Cs w q (bds t.beads)) (_hn : t.size = n) (_hnc : n ≤ c) (_hw : t.wf = true) (_hm : n ≤ 5000)
    (_h : ∀ p n' c' w', OwnI w' w.heap.size p n' c' (itT t.tr) → Ext w w' → R (.returned (.slice p n' c')) w'), Calls Tryz.prog 110 #[.slice q n c] w R
  | .nil, q, n, c, w, R, hl, hn, hnc, hw, hm, h => by
    refine sh110_ok _ _ _ ?_
    unfold sh110
    have : n = 0 := by rw [← hn]; rfl
    subst this
    exact ifB_t rfl (h _ _ _ _ (ownI_nil _ _) (ext_refl w))
  | .node x L Rt, q, n, c, w, R, hl, hn, hnc, hw, hm, h => by
    refine sh110_ok _ _ _ ?_
    unfold sh110
    have hsz := BT.size_node x L Rt
    obtain ⟨_, _, w2f, w3f⟩ := BT.wf_node hw
    refine ifB_f (by simp; omega) ?_
    refine do_call Tryz.call109 (c_parts hl hn hnc hw hm fun p1 c1 p2 c2 w1 e1 hp h1 h2 => retS_ret ⟨_, _, _, _, _, _, _, _, _, _, _, _, _, rfl, ⟨?_⟩⟩)
    refine do_st7 (blk_alloc w1 _ _) fun w2 hb2 g2 => ?_
    have e2 : Ext w1 w2 := (ext_alloc w1 _).st g2 (Nat.le_refl _)
    have E2 := e1.trans e2
    have hcs := fun (w'' : World) (e : Ext w2 w'') => hp w'' (hl.ext (E2.trans e))
    refine ⟨⟨fun w' => Ext w2 w', ext_drew _, _, fun w' e => (hb2.ext e).cell (i := 0) (add_blk _ _) rfl, _, fun w' e => (hb2.ext e).cell (i := 1) (add_blk _ _) rfl, _, fun w' e => (hb2.ext e).cell (i := 2) (add_blk _ _) rfl, _, fun w' e => (hb2.ext e).cell (i := 3) (add_blk _ _) rfl, _, fun w' e => (hb2.ext e).cell (i := 4) (add_blk _ _) rfl, _, fun w' e => (hb2.ext e).cell (i := 5) (add_blk _ _) rfl, _, fun w' e => (hb2.ext e).cell (i := 6) (add_blk _ _) rfl, ?_⟩⟩
    have d := ext_drew w2
    have hLl : (itT L.tr).length = L.size := by rw [itT_len, BT.tr_size]
    have hRl : (itT Rt.tr).length = Rt.size := by rw [itT_len, BT.tr_size]
    refine do_call Tryz.call110 (c_r20items L (hcs _ d).1 rfl h1 w2f (by omega) fun p3 n3 c3 w3 h3 e3 => retS_ret ⟨_, _, _, rfl, d.trans e3, ?_⟩)
    have E3 := d.trans e3
    have hn3 := ownI_len h3
    refine do_call Tryz.call190 (c_r20item (x := x) fun w4 e4 => retS_ret ⟨_, _, _, rfl, ⟨?_⟩⟩)
    have E4 := E3.trans e4
    have e5 := ext_alloc w4 (.cells #[.int .i64 x.key, .int .i64 x.val, .int .u64 x.tag] 114)
    have hb5 := blk_alloc w4 #[.int .i64 x.key, .int .i64 x.val, .int .u64 x.tag] 114
    generalize w4.alloc (.cells #[.int .i64 x.key, .int .i64 x.val, .int .u64 x.tag] 114) = w5 at *
    have E5 := E4.trans e5
    have ho5 := rowI_to h3 (e4.trans e5) (Nat.le_refl _)
    have hb5 : Cs w5 (some (blk w4.heap.size)) (its [((x.key, x.val, x.tag) : It)]) := cs_it hb5
    refine ⟨E5, do_app elIt ho5 hb5 (by rw [its_length]; rfl) its_one (by simp only [maxLen]; omega) (by omega) (by have := e3.size; have := e4.size; have := e5.size; omega) fun p6 c6 w6 h6 g6 => retS_ret ⟨_, _, _, rfl, ?_⟩⟩
    have E6 : Ext w2 w6 := extI_own ho5 E5 g6 (Nat.le_refl _)
    have h6 : OwnI w6 w2.heap.size p6 (n3 + 1) c6 (itT L.tr ++ [(x.key, x.val, x.tag)]) := by
      show w6.ownsRow _ _ _ _ _ (its _)
      rw [its_append]
      exact h6
    refine ⟨E6, do_call Tryz.call110 (c_r20items Rt (hcs _ E6).2 rfl h2 w3f (by omega) fun p7 n7 c7 w7 h7 e7 => retS_ret ⟨_, _, _, rfl, ?_⟩)⟩
    have hn7 := ownI_len h7
    have ho7 := rowI_to h6 e7 (Nat.le_refl _)
    refine do_app elIt ho7 (ownI_cs h7) (by rw [its_length, hn7]) its_one (by simp only [maxLen]; omega) (by omega) (Nat.le_trans E6.size e7.size) fun p8 c8 w8 h8 g8 => retS_ret ⟨_, _, _, rfl, ?_⟩
    have E8 : Ext w2 w8 := extI_own ho7 (E6.trans e7) g8 (Nat.le_refl _)
    refine h _ _ _ _ (row_mono ?_ E2.size) (E2.trans E8)
    show w8.ownsRow _ _ _ _ _ (its (itT L.tr ++ (x.key, x.val, x.tag) :: itT Rt.tr))
    rw [show itT L.tr ++ (x.key, x.val, x.tag) :: itT Rt.tr = (itT L.tr ++ [(x.key, x.val, x.tag)]) ++ itT Rt.tr by simp, its_append]
    exact h8
/-- an item without its tag -/
def bare (x : It) : It := (x.1, x.2.1, 0)
theorem its_set : ∀ {l : List It} {k : Nat} (hk : k < l.length), its (l.set k (bare l[k])) = (its l).set (k * 3 + 2) (.int .u64 0)
  | x :: xs, 0, _ => rfl
  | x :: xs, k + 1, hk => by
    have hk' : k < xs.length := by simpa using hk
    have ih := its_set (l := xs) (k := k) hk'
    rw [show (k + 1) * 3 + 2 = (k * 3 + 2) + 1 + 1 + 1 by omega]
    simp only [List.set_cons_succ, List.getElem_cons_succ]
    show ecI x ++ its (xs.set k (bare xs[k])) = _
    rw [ih]; rfl
theorem set_take {l : List It} {k : Nat} (hk : k < l.length) : ((l.take k).map bare ++ l.drop k).set k (bare l[k]) = (l.take (k + 1)).map bare ++ l.drop (k + 1) := by
  rw [← List.take_append_getElem hk, List.drop_eq_getElem_cons hk, List.map_append, List.set_append]
  rw [if_neg (by simp; omega)]
  have : k - ((l.take k).map bare).length = 0 := by simp; omega
  rw [this, List.set_cons_zero]
  simp only [List.map_cons, List.map_nil, List.append_assoc, List.cons_append, List.nil_append]
/-- a write into a row of one's own -/
theorem do_st_own {w : World} {base e s n c : Nat} {p : Option Addr} {xs : List Value} (h : w.ownsRow base e s (.slice p n c) n xs) {i : Nat} (hi : i < xs.length) {a a' : Addr} (ha : p = some a) (ha' : a' = a.add i) (v : Value) {K : World → Prop}
    (k : ∀ w', w'.ownsRow base e s (.slice p n c) n (xs.set i v) → w.grownBy w' (some a.block) → K w') : doSt a' v w K := by
  subst ha
  subst ha'
  obtain ⟨g, rfl⟩ : ∃ g, a = ⟨g, 0, none⟩ := by
    rcases h.2 with ⟨h', _⟩ | ⟨g, cap, cur, h', _⟩
    · cases h'
    · cases h'; exact ⟨g, rfl⟩
  rw [add_blk]
  have hs := h.stored i v
  have h1 := h.1
  exact ⟨⟨_, by rw [h.cellAt i (by omega)]; exact List.getElem?_eq_getElem hi⟩, h.frozenAt i, k _ hs.1 hs.2⟩
set_option maxRecDepth 20000 in
theorem c_r22items {cd : Int} {t : BT} {q : Option Addr} {n c : Nat} {w : World} {R : Ending → World → Prop} (hl : Cs w q (bds t.beads)) (hn : t.size = n) (hnc : n ≤ c) (hw : t.wf = true) (hm : n ≤ 5000)
    (h : ∀ p n' c' w', OwnI w' w.heap.size p n' c' (itsC cd t.tr) → Ext w w' → R (.returned (.slice p n' c')) w') : Calls Tryz.prog 40 #[.int .u8 cd, .slice q n c] w R := by
  refine sh40_ok _ _ _ _ ?_
  unfold sh40
  refine do_call Tryz.call110 (c_r20items t hl hn hnc hw hm fun p n' c' w1 h1 e1 => retS_ret ⟨_, _, _, rfl, ?_⟩)
  have hn1 := ownI_len h1
  have hll : (itT t.tr).length = t.size := by rw [itT_len, BT.tr_size]
  intro K11
  have hit : itsC cd t.tr = (itT t.tr).map (itC cd) := rfl
  rw [hit] at h
  refine ifB_intro (fun h4 => ?_) fun h4 => ?_
  · have h4 : cd ≠ 4 := by simpa using h4
    have hb : itC cd = bare := by funext x; unfold itC bare; rw [if_neg h4]
    rw [hb] at h
    refine ⟨fun vs w' => ∃ k : Nat, vs = [.int .i64 k] ∧ k ≤ n' ∧ Ext w w' ∧ OwnI w' w.heap.size p n' c' (((itT t.tr).take k).map bare ++ (itT t.tr).drop k), fun vs _ => n' - (intOf (vs.getD 0 undef)).toNat, ⟨0, rfl, by omega, e1, by simpa using h1⟩, ?_⟩
    rintro i _ w2 ⟨k, hv, hkn, E, hrow⟩
    simp only [List.cons.injEq, Value.int.injEq, true_and, and_true] at hv
    subst hv
    refine ifB_intro (fun hlt => ?_) fun hge => ?_
    · have hlt : k < n' := by have := of_decide_eq_true hlt; omega
      have hrl := ownI_len hrow
      refine ix_flat ecI_len (by omega) (ownI_cs hrow) hrl rfl hlt fun a r hpa => ?_
      obtain ⟨b, hpb, hab⟩ := hpa
      subst hab
      refine do_st_own hrow (i := k * 3 + 2) (by rw [its_length, hrl]; omega) hpb (by rw [Sh.add_add, Sh.add_add]) _ fun w3 h3 g3 => ⟨⟨k + 1, by rw [wrap_succ hlt (by omega)], by omega, E.st g3 (row_lt hrow hpb).1, ?_⟩, ?_⟩
      · have hk : k < (itT t.tr).length := by omega
        have e := its_set (l := ((itT t.tr).take k).map bare ++ (itT t.tr).drop k) (k := k) (by simp; omega)
        have hg : (((itT t.tr).take k).map bare ++ (itT t.tr).drop k)[k]'(by simp; omega) = (itT t.tr)[k] := by
          rw [List.getElem_append_right (by simp; omega)]
          simp
          congr 1; omega
        rw [hg, set_take hk] at e
        show w3.ownsRow _ _ _ _ _ (its _)
        rw [e]
        exact h3
      · rw [wrap_succ hlt (by omega)]; simp [intOf]; omega
    · have hge : k = n' := by have := of_decide_eq_false hge; omega
      subst hge
      rw [List.take_of_length_le (by omega), List.drop_of_length_le (by omega), List.append_nil] at hrow
      exact h _ _ _ _ hrow E
  · have h4 : cd = 4 := by simpa using h4
    have hb : itC cd = id := by funext x; unfold itC; rw [if_pos h4]; rfl
    rw [hb, List.map_id] at h
    exact h _ _ _ _ h1 e1
/-! ### See, Same, Is -/
set_option maxRecDepth 20000 in
theorem c_see : ∀ (t : Tr) {pt p : Option Addr} {n c d : Nat} {l : List Bd} {w0 w : World} {R : Ending → World → Prop} (_E : Ext w0 w) (_ht : IsN w0 pt t) (_hr : OwnB w w0.heap.size p n c l) (_h1 : n + t.size ≤ 5000) (_h2 : d + htT t ≤ 2000)
    (_h : ∀ p' n' c' w', OwnB w' w0.heap.size p' n' c' (l ++ (btT t).beads) → Ext w0 w' → R (.returned (.tuple #[.slice p' n' c', .bool true])) w'), Calls Tryz.prog 178 #[.pointer pt, .slice p n c, .int .i64 (d : Nat)] w R
  | .nil, pt, p, n, c, d, l, w0, w, R, E, ht, hr, h1, h2, h => by
    refine sh178_ok _ _ _ _ _ ?_
    unfold sh178
    obtain rfl : pt = none := ht
    refine ifB_t rfl (h _ _ _ _ ?_ E)
    simpa [btT, BT.beads] using hr
  | .node L k v g Rt, pt, p, n, c, d, l, w0, w, R, E, ht, hr, h1, h2, h => by
    refine sh178_ok _ _ _ _ _ ?_
    unfold sh178
    refine ifB_f (by rw [ht.isNone]; rfl) ?_
    have hsz : (Tr.node L k v g Rt).size = L.size + 1 + Rt.size := rfl
    have hht : htT (.node L k v g Rt) = 1 + max (htT L) (htT Rt) := rfl
    intro K8
    refine ifB_f (decide_eq_false (by omega)) (ifB_f (decide_eq_false (by omega)) ?_)
    have htw := ht.ext E
    refine do_call Tryz.call108 (c_key htw fun w1 e1 => retS_ret ⟨_, rfl, ?_⟩)
    refine do_call Tryz.call126 (c_val (htw.ext e1) fun w2 e2 => retS_ret ⟨_, rfl, ?_⟩)
    have E2 := e1.trans e2
    refine do_call Tryz.call196 (c_tag (htw.ext E2) fun w3 e3 => retS_ret ⟨_, rfl, ?_⟩)
    have E3 := E2.trans e3
    refine do_call Tryz.call91 (c_tsize (htw.ext E3) fun w4 e4 => retS_ret ⟨_, rfl, ?_⟩)
    have E4 := E3.trans e4
    refine do_call Tryz.call107 (c_tsum (htw.ext E4) fun w5 e5 => retS_ret ⟨_, rfl, ?_⟩)
    have E5 := E4.trans e5
    refine do_call Tryz.call123 (c_left (htw.ext E5) fun ql hql => retS_ret ⟨_, rfl, ?_⟩)
    refine do_call Tryz.call125 (c_right (htw.ext E5) fun qr hqr => retS_ret ⟨_, rfl, ⟨?_⟩⟩)
    have hx : ∃ x : Bd, x = (⟨k, v, (Tr.node L k v g Rt).sum, ((Tr.node L k v g Rt).size : Nat), g, L.nn, Rt.nn⟩ : Bd) := ⟨_, rfl⟩
    obtain ⟨x, hx⟩ := hx
    have hbe : (btT (.node L k v g Rt)).beads = x :: ((btT L).beads ++ (btT Rt).beads) := by rw [hx]; rfl
    rw [hbe] at h
    rw [hql.isNone, hqr.isNone, Bool.not_not, Bool.not_not]
    have e6 := ext_alloc w5 (.cells #[.int .i64 x.key, .int .i64 x.val, .int .i64 x.sum, .int .i64 x.size, .int .u64 x.tag, .bool x.left, .bool x.right] 150)
    have hb6 := blk_alloc w5 #[.int .i64 x.key, .int .i64 x.val, .int .i64 x.sum, .int .i64 x.size, .int .u64 x.tag, .bool x.left, .bool x.right] 150
    have hw6 : w5.alloc (.cells #[.int .i64 x.key, .int .i64 x.val, .int .i64 x.sum, .int .i64 x.size, .int .u64 x.tag, .bool x.left, .bool x.right] 150) = w5.alloc (.cells #[.int .i64 (Tr.node L k v g Rt).key, .int .i64 (Tr.node L k v g Rt).val, .int .i64 (Tr.node L k v g Rt).sum, .int .i64 ((Tr.node L k v g Rt).size : Nat), .int .u64 (Tr.node L k v g Rt).tag, .bool L.nn, .bool Rt.nn] 150) := by rw [hx]; rfl
    show doGo Tryz.prog (.builtin .append #[57, 57] 57 #[false, false]) #[.slice p n c, .slice (some (blk w5.heap.size)) 1 1] (w5.alloc (.cells #[.int .i64 (Tr.node L k v g Rt).key, .int .i64 (Tr.node L k v g Rt).val, .int .i64 (Tr.node L k v g Rt).sum, .int .i64 ((Tr.node L k v g Rt).size : Nat), .int .u64 (Tr.node L k v g Rt).tag, .bool L.nn, .bool Rt.nn] 150)) _
    rw [← hw6]
    generalize w5.alloc (.cells #[.int .i64 x.key, .int .i64 x.val, .int .i64 x.sum, .int .i64 x.size, .int .u64 x.tag, .bool x.left, .bool x.right] 150) = w6 at *
    have E6 := E5.trans e6
    have ho6 := rowB_to hr E6 (Nat.le_refl _)
    have EE6 := E.trans E6
    refine do_app elB ho6 (cs_bd hb6) (by rw [bds_length]; rfl) bds_one (by simp only [maxLen]; omega) (by omega) EE6.size fun p7 c7 w7 h7 g7 => retS_ret ⟨_, _, _, rfl, ?_⟩
    have E7 : Ext w0 w7 := extB_own ho6 EE6 g7 (Nat.le_refl _)
    have h7 : OwnB w7 w0.heap.size p7 (n + 1) c7 (l ++ [x]) := by
      show w7.ownsRow _ _ _ _ _ (bds _)
      rw [bds_append]
      exact h7
    have ew : IntKind.wrap .i64 ((d : Int) + 1) = ((d + 1 : Nat) : Int) := wrap_succ (n := 3000) (by omega) (by omega)
    rw [ew]
    refine do_call Tryz.call123 (c_left0 ht E7 fun q8 h8 => retS_ret ⟨_, rfl, ?_⟩)
    have hLs := btT_size L
    refine do_call Tryz.call178 (c_see L E7 h8 h7 (by omega) (by omega) fun p9 n9 c9 w9 h9 e9 => retS_ret ⟨_, _, _, _, rfl, ifB_f rfl ?_⟩)
    have hn9 := ownB_len h9
    have hlb : (btT L).beads.length = L.size := hLs
    have hln := ownB_len h7
    simp only [List.length_append, List.length_cons, List.length_nil] at hn9 hln
    refine do_call Tryz.call125 (c_right0 ht e9 fun q10 h10 => retS_ret ⟨_, rfl, ?_⟩)
    refine do_call Tryz.call178 (c_see Rt e9 h10 h9 (by omega) (by omega) fun p11 n11 c11 w11 h11 e11 => retS_ret ⟨_, _, _, _, rfl, h _ _ _ _ ?_ e11⟩)
    rw [show l ++ x :: ((btT L).beads ++ (btT Rt).beads) = l ++ [x] ++ (btT L).beads ++ (btT Rt).beads by simp]
    exact h11
theorem c_See {t : Tr} {pt : Option Addr} {w : World} {R : Ending → World → Prop} (ht : IsN w pt t) (h1 : t.size ≤ 2000) (h : ∀ p' n' c' w', OwnB w' w.heap.size p' n' c' (btT t).beads → Ext w w' → R (.returned (.tuple #[.slice p' n' c', .bool true])) w') :
    Calls Tryz.prog 97 #[.pointer pt] w R := by
  refine sh97_ok _ ?_
  unfold sh97
  have := htT_le t
  exact do_call Tryz.call178 (c_see t (d := 0) (l := []) (ext_refl w) ht (ownB_nil _ _) (by omega) (by omega) fun p n c w1 hr e1 => retS_ret ⟨_, _, _, _, rfl, h _ _ _ _ hr e1⟩)
end Go.Proofs.YtlddfgfmkapoiaaGreat

namespace Go.Proofs.YtlddfgfmkapoiaaGreat
open Go Go.Sh Go.RowKit

theorem bd_eq {x y : Bd} : (((x.key : Int) == y.key) && (((x.val : Int) == y.val) && (((x.sum : Int) == y.sum) && (((x.size : Int) == y.size) && (((x.tag : Int) == y.tag) && ((x.left == y.left) && ((x.right == y.right) && true))))))) = decide (x = y) := by
  obtain ⟨a1, a2, a3, a4, a5, a6, a7⟩ := x
  obtain ⟨b1, b2, b3, b4, b5, b6, b7⟩ := y
  rw [Bool.eq_iff_iff]
  simp only [Bool.and_eq_true, beq_iff_eq, Bool.and_true, decide_eq_true_eq, Bd.mk.injEq]
set_option maxRecDepth 20000 in
theorem c_r9sameB {l : List Bd} {q q' : Option Addr} {n c n' c' : Nat} {w : World} {R : Ending → World → Prop} (hl : Cs w q (bds l)) (hn : l.length = n) (hr : Cs w q' (bds l)) (hn' : l.length = n') (hm : n ≤ 1000000000000)
    (h : ∀ w', Ext w w' → R (.returned (.bool true)) w') : Calls Tryz.prog 53 #[.slice q n c, .slice q' n' c'] w R := by
  refine sh53_ok _ _ _ _ _ _ ?_
  unfold sh53
  refine ifB_f (by simp; omega) ?_
  refine ⟨fun vs w' => ∃ k : Nat, vs = [.int .i64 k] ∧ k ≤ n ∧ Ext w w', fun vs _ => n - (intOf (vs.getD 0 undef)).toNat, ⟨0, rfl, by omega, ext_refl w⟩, ?_⟩
  rintro i _ w2 ⟨k, hv, hkn, E⟩
  simp only [List.cons.injEq, Value.int.injEq, true_and, and_true] at hv
  subst hv
  refine ifB_intro (fun hlt => ?_) fun hge => h w2 E
  have hlt : k < n := by have := of_decide_eq_true hlt; omega
  refine ⟨⟨fun w' => Ext w2 w', ext_drew _, ?_⟩⟩
  refine ix_flatC ecB_len (by omega) (C := fun w' => Ext w2 w') (fun w' e => (hl.ext E).ext e) (ext_refl _) hn rfl hlt fun a r => ?_
  refine ⟨_, fun w' e => r w' e 0 _ rfl, _, fun w' e => r w' e 1 _ rfl, _, fun w' e => r w' e 2 _ rfl, _, fun w' e => r w' e 3 _ rfl, _, fun w' e => r w' e 4 _ rfl, _, fun w' e => r w' e 5 _ rfl, _, fun w' e => r w' e 6 _ rfl, ?_⟩
  refine ix_flatC ecB_len (by omega) (C := fun w' => Ext w2 w') (fun w' e => (hr.ext E).ext e) (ext_refl _) hn' rfl (by omega) fun a' r' => ?_
  refine ⟨_, fun w' e => r' w' e 0 _ rfl, _, fun w' e => r' w' e 1 _ rfl, _, fun w' e => r' w' e 2 _ rfl, _, fun w' e => r' w' e 3 _ rfl, _, fun w' e => r' w' e 4 _ rfl, _, fun w' e => r' w' e 5 _ rfl, _, fun w' e => r' w' e 6 _ rfl, ?_⟩
  rw [bd_eq]
  refine ifB_f (by simp) ⟨⟨k + 1, by rw [wrap_succ hlt (by omega)], by omega, E.drew⟩, ?_⟩
  rw [wrap_succ hlt (by omega)]; simp [intOf]; omega
/-! ### tags that fit -/
abbrev TagI (l : List It) : Prop := ∀ x ∈ l, 0 ≤ x.2.2 ∧ x.2.2 < 18446744073709551616
theorem tagB_of {c : Int} : ∀ {t : Tr}, OkP c t → t.size ≤ 5000 → TagI (itsC c t) → TagB (btT t)
  | .nil, _, _, _ => fun x hx => by simp [btT, BT.beads] at hx
  | .node l k v g r, h, hs, hT => by
    have hsz : (Tr.node l k v g r).size = l.size + 1 + r.size := rfl
    rw [itsC_node] at hT
    have IL := tagB_of h.sides.1 (by omega) fun x hx => hT x (List.mem_append_left _ hx)
    have IR := tagB_of h.sides.2 (by omega) fun x hx => hT x (List.mem_append_right _ (List.mem_cons_of_mem _ hx))
    have hg : 0 ≤ g ∧ g < 18446744073709551616 := by
      rcases h with ⟨e, h⟩ | ⟨e, h⟩ | ⟨e, h⟩ | ⟨e, h⟩
      · have := h.tag; simp only [Tr.tag] at this; omega
      · have := h.tg (by simp only [BIG]; omega); simp only [TgR, Tr.tag] at this; omega
      · have := h.2.2.1; omega
      · have := hT (itC c (k, v, g)) (by simp)
        unfold itC at this
        rw [if_pos e] at this
        exact this
    intro x hx
    simp only [btT, BT.beads, List.mem_cons, List.mem_append] at hx
    rcases hx with rfl | hx | hx
    · exact hg
    · exact IL x hx
    · exact IR x hx
set_option maxRecDepth 20000 in
/-- may a tree be, and has it just these items? -/
theorem c_r22has {cd : Int} {t : Tr} {L : List It} {q q' : Option Addr} {n c n' c' : Nat} {w : World} {R : Ending → World → Prop} (hok : OkM cd t) (hT : TagI (itsC cd t)) (hL : L.map (itC cd) = itsC cd t)
    (hl : Cs w q (bds (btT t).beads)) (hn : t.size = n) (hnc : n ≤ c) (hm : n ≤ 5000) (hq : Cs w q' (its L)) (hn' : L.length = n') (h : ∀ w', Ext w w' → R (.returned (.bool true)) w') : Calls Tryz.prog 98 #[.int .u8 cd, .slice q n c, .slice q' n' c'] w R := by
  refine sh98_ok _ _ _ _ _ _ _ ?_
  unfold sh98
  have hTB := tagB_of hok.1 (by omega) hT
  have hbn : (btT t).size = n := by rw [btT_size]; exact hn
  intro K10
  refine do_call Tryz.call179 (c_r22may hok.1.s hl hbn hnc (btT_wf t) hm hTB fun b w1 e1 hb => retS_ret ⟨_, rfl, ?_⟩)
  rw [btT_tr] at hb
  obtain rfl : b = true := hb.2 hok
  refine ifB_f rfl (do_call Tryz.call47 (c_r9of (btT t) (hl.ext e1) hbn hnc (btT_wf t) hm fun p2 n2 c2 w2 h2 e2 => retS_ret ⟨_, _, _, rfl, ?_⟩))
  rw [btT_of] at h2
  have hn2 := ownB_len h2
  have E2 := e1.trans e2
  refine do_call Tryz.call53 (c_r9sameB (hl.ext E2) hbn (ownB_cs h2) hn2 (by omega) fun w3 e3 => retS_ret ⟨_, rfl, ?_⟩)
  have E3 := E2.trans e3
  refine ifB_f rfl (do_call Tryz.call40 (c_r22items (cd := cd) (hl.ext E3) hbn hnc (btT_wf t) hm fun p4 n4 c4 w4 h4 e4 => retS_ret ⟨_, _, _, rfl, ?_⟩))
  rw [btT_tr] at h4
  have E4 := E3.trans e4
  have hn4 := ownI_len h4
  have hlen : (itsC cd t).length = L.length := by rw [← hL]; simp
  have h4c := ownI_cs h4
  have hqc := hq.ext E4
  refine ifB_f (by simp; omega) ?_
  refine ⟨fun vs w' => ∃ k : Nat, vs = [.int .i64 k] ∧ k ≤ n' ∧ Ext w4 w', fun vs _ => n' - (intOf (vs.getD 0 undef)).toNat, ⟨0, rfl, by omega, ext_refl _⟩, ?_⟩
  rintro i _ w5 ⟨k, hv, hkn, E⟩
  simp only [List.cons.injEq, Value.int.injEq, true_and, and_true] at hv
  subst hv
  refine ifB_intro (fun hlt => ?_) fun hge => h w5 (E4.trans E)
  have hlt : k < n' := by have := of_decide_eq_true hlt; omega
  intro K22 K25
  have d := ext_drew w5
  have hK22 : K22 w5.drew := by
    refine ⟨⟨k + 1, by rw [wrap_succ hlt (by have := ownI_len h4; have := itsC_len cd t; omega)], by omega, E.drew⟩, ?_⟩
    rw [wrap_succ hlt (by have := ownI_len h4; have := itsC_len cd t; omega)]; simp [intOf]; omega
  have hx : (itsC cd t)[k]'(by omega) = itC cd (L[k]'(by omega)) := by
    have : (itsC cd t)[k]'(by omega) = (L.map (itC cd))[k]'(by simp; omega) := by simp only [hL]
    rw [this, List.getElem_map]
  have kx : ((itsC cd t)[k]'(by omega)).1 = (L[k]'(by omega)).1 := by rw [hx, itC_key]
  have vx : ((itsC cd t)[k]'(by omega)).2.1 = (L[k]'(by omega)).2.1 := by rw [hx, itC_val]
  refine ⟨⟨fun w' => Ext w5 w', d, ?_⟩⟩
  have h4' : ∀ w', Ext w5 w' → Cs w' p4 (its (itsC cd t)) := fun w' e => (h4c.ext E).ext e
  have hq' : ∀ w', Ext w5 w' → Cs w' q' (its L) := fun w' e => (hqc.ext E).ext e
  refine ix_flatC ecI_len (by omega) (C := fun w' => Ext w5 w') h4' (ext_refl _) hn4 rfl (by omega) fun a1 r1 => ⟨_, fun w' e => r1 w' e 0 _ rfl, ?_⟩
  refine ix_flatC ecI_len (by omega) (C := fun w' => Ext w5 w') hq' (ext_refl _) hn' rfl hlt fun a2 r2 => ⟨_, fun w' e => r2 w' e 0 _ rfl, ifB_f (by simp [kx]) ?_⟩
  refine ix_flatC ecI_len (by omega) (C := fun w' => Ext w5 w') h4' (ext_refl _) hn4 rfl (by omega) fun a3 r3 => ⟨_, fun w' e => r3 w' e 1 _ rfl, ?_⟩
  refine ix_flatC ecI_len (by omega) (C := fun w' => Ext w5 w') hq' (ext_refl _) hn' rfl hlt fun a4 r4 => ⟨_, fun w' e => r4 w' e 1 _ rfl, ifB_f (by simp [vx]) ?_⟩
  refine ifB_intro (fun h4c => ?_) fun _ => hK22
  have h4c : cd = 4 := by simpa using h4c
  have gx : ((itsC cd t)[k]'(by omega)).2.2 = (L[k]'(by omega)).2.2 := by rw [hx]; unfold itC; rw [if_pos h4c]
  refine ix_flatC ecI_len (by omega) (C := fun w' => Ext w5 w') h4' (ext_refl _) hn4 rfl (by omega) fun a5 r5 => ⟨_, fun w' e => r5 w' e 2 _ rfl, ?_⟩
  refine ix_flatC ecI_len (by omega) (C := fun w' => Ext w5 w') hq' (ext_refl _) hn' rfl hlt fun a6 r6 => ⟨_, fun w' e => r6 w' e 2 _ rfl, ifB_f (by simp [gx]) hK22⟩
theorem c_has {cd : Int} {t : Tr} {L : List It} {pt q' : Option Addr} {n' c' : Nat} {w : World} {R : Ending → World → Prop} (hok : OkM cd t) (hT : TagI (itsC cd t)) (hL : L.map (itC cd) = itsC cd t) (ht : IsN w pt t) (hs : t.size ≤ 2000)
    (hq : Cs w q' (its L)) (hn' : L.length = n') (h : ∀ w', Ext w w' → R (.returned (.bool true)) w') : Calls Tryz.prog 27 #[.int .u8 cd, .pointer pt, .slice q' n' c'] w R := by
  refine sh27_ok _ _ _ _ _ ?_
  unfold sh27
  refine do_call Tryz.call97 (c_See ht hs fun p n c w1 h1 e1 => retS_ret ⟨_, _, _, _, rfl, ?_⟩)
  intro K14
  have hn := ownB_len h1
  have hz := btT_size t
  exact ifB_t rfl (do_call Tryz.call98 (c_r22has hok hT hL (ownB_cs h1) (by rw [← hz]; exact hn) (row_cap h1) (by rw [← hn]; show (btT t).size ≤ _; omega) (hq.ext e1) hn' fun w2 e2 => retS_ret ⟨_, rfl, h _ (e1.trans e2)⟩))
theorem c_is {t : Tr} {pt q' : Option Addr} {n' c' : Nat} {w : World} {R : Ending → World → Prop} (ht : IsN w pt t) (hs : t.size ≤ 2000) (hq : Cs w q' (bds (btT t).beads)) (hn' : t.size = n')
    (h : ∀ w', Ext w w' → R (.returned (.bool true)) w') : Calls Tryz.prog 46 #[.pointer pt, .slice q' n' c'] w R := by
  refine sh46_ok _ _ _ _ ?_
  unfold sh46
  refine do_call Tryz.call97 (c_See ht hs fun p n c w1 h1 e1 => retS_ret ⟨_, _, _, _, rfl, ?_⟩)
  intro K13
  have hn := ownB_len h1
  have hz := btT_size t
  exact ifB_t rfl (do_call Tryz.call53 (c_r9sameB (ownB_cs h1) hn (hq.ext e1) (by rw [← hn']; exact hz) (by rw [← hn]; show (btT t).size ≤ _; omega) fun w2 e2 => retS_ret ⟨_, rfl, h _ (e1.trans e2)⟩))
/-! ### layer 12 -/
theorem c_rises {o : Int} {l : List Pr} {q : Option Addr} {n c : Nat} {w : World} {R : Ending → World → Prop} (hl : Cs w q (prs l)) (hn : l.length = n) (hm : n ≤ 1000000000000) (hI : InP l) (h : ∀ w', Ext w w' → R (.returned (.bool (chain o l))) w') :
    Calls Tryz.prog 199 #[.int .u8 o, .slice q n c] w R := by
  refine sh199_ok _ _ _ _ ?_
  unfold sh199
  refine ⟨fun vs w' => ∃ k : Nat, vs = [.int .i64 k] ∧ 1 ≤ k ∧ Ext w w' ∧ ∀ i (hi : i + 1 < l.length), i + 1 < k → cmpI o l[i].1 l[i + 1].1 < 0, fun vs _ => n - (intOf (vs.getD 0 undef)).toNat, ⟨1, rfl, by omega, ext_refl w, fun i _ hi => by omega⟩, ?_⟩
  rintro i _ w2 ⟨k, hv, hk1, E, hlo⟩
  simp only [List.cons.injEq, Value.int.injEq, true_and, and_true] at hv
  subst hv
  refine ifB_intro (fun hlt => ?_) fun hge => ?_
  · have hlt : k < n := by have := of_decide_eq_true hlt; omega
    have ek : IntKind.wrap .i64 ((k : Int) - 1) = ((k - 1 : Nat) : Int) := by rw [wrap_of (by omega) (by omega)]; omega
    rw [ek]
    refine ⟨⟨fun w' => Ext w2 w', ext_drew _, ?_⟩⟩
    refine ix_prC (fun w' e => (hl.ext E).ext e) (ext_refl _) hn rfl (by omega) fun a r1 _ => ⟨_, r1, ?_⟩
    refine ix_prC (fun w' e => (hl.ext E).ext e) (ext_refl _) hn rfl hlt fun a' r2 _ => ⟨_, r2, ?_⟩
    have i1 := hI (l[k - 1]'(by omega)) (List.getElem_mem _)
    have i2 := hI (l[k]'(by omega)) (List.getElem_mem _)
    refine do_call Tryz.call79 (c_rcompare i1.1 i2.1 (retS_ret ⟨_, rfl, ifB_intro (fun hc => ?_) fun hc => ?_⟩))
    · have hc := of_decide_eq_true hc
      have : chain o l = false := by
        cases hch : chain o l with
        | false => rfl
        | true =>
          have := chain_get hch (k - 1) (by omega)
          have e : l[k - 1 + 1]'(by omega) = l[k]'(by omega) := by congr 1; omega
          rw [e] at this
          omega
      rw [this] at h
      exact h _ E.drew
    · have hc := of_decide_eq_false hc
      refine ⟨⟨k + 1, by rw [wrap_succ hlt (by omega)], by omega, E.drew, fun i hi hik => ?_⟩, ?_⟩
      · by_cases hik' : i + 1 < k
        · exact hlo i hi hik'
        · obtain rfl : i = k - 1 := by omega
          have e : l[k - 1 + 1]'(by omega) = l[k]'(by omega) := by congr 1; omega
          rw [e]; omega
      · rw [wrap_succ hlt (by omega)]; simp [intOf]; omega
  · have hge := of_decide_eq_false hge
    have : chain o l = true := chain_of fun i hi => hlo i hi (by omega)
    rw [this] at h
    exact h _ E
end Go.Proofs.YtlddfgfmkapoiaaGreat

namespace Go.Proofs.YtlddfgfmkapoiaaGreat
open Go Go.Sh Go.RowKit

/-- append, and where the row then lies -/
theorem do_appI {base : Nat} {v : Value} {n : Nat} {xs : List Value} {w : World}
    (hown : w.ownsRow base 114 3 v n xs) {ad : Addr} {m c : Nat} {news : List Value} (hnews : Cs w (some ad) news) (hl : news.length = m * 3) (h1 : ∀ u ∈ news, u.oneCell' = true) (hm0 : 0 < m)
    (h63 : n + m ≤ maxLen) (hbytes : (n + m) * 24 ≤ 140737488355328) (hbase : base ≤ w.heap.size) {bs : Array Bool} {R : Ending → World → Prop}
    (h : ∀ p c w', w'.ownsRow base 114 3 (.slice p (n + m) c) (n + m) (xs ++ news) → w.grownBy w' v.ownBlock → ((Value.slice p (n + m) c).ownBlock = v.ownBlock ∨ (Value.slice p (n + m) c).ownBlock = some w.heap.size) → R (.returned (.slice p (n + m) c)) w') :
    doGo Tryz.prog (.builtin .append #[40, 40] 40 bs) #[v, .slice (some ad) m c] w R := by
  obtain ⟨i, hi, hz, hsz, hby⟩ := elIt.hi
  have hnews' : ∀ j u, news[j]? = some u → w.cell? (ad.add j) = some u := fun j u hu => by obtain ⟨a, ha, hc⟩ := hnews j u hu; cases ha; exact hc
  obtain ⟨v', w', hr, h2, h3, _⟩ := run_append_own (P := Tryz.prog) w base _ _ _ i _ 3 24 elIt.ht hi hz hsz hby elIt.hz elIt.hs v n xs hown ad m c news hl hnews' h1 h63 hbytes hbase
  obtain ⟨p, c', rfl⟩ := row_slice h2
  refine goV_append hr (h p c' w' h2 h3 ?_)
  have hmax : n + m ≤ 9223372036854775807 := by simp only [maxLen] at h63; omega
  rcases hown.2 with ⟨rfl, rfl⟩ | ⟨g, cap, cur, rfl, hbg, hg, hnc, hcm, hcs, htake⟩
  · have := run_append_nil (P := Tryz.prog) w 40 40 114 i _ elIt.ht hi hz ad m c news (by rw [hsz]; exact hl) hnews' hm0 (by omega) (by rw [hby]; omega)
    rw [this] at hr
    injection hr with hr1 _
    right; rw [← hr1]; rfl
  · by_cases hroom : n + m ≤ cap
    · have := run_append_room (P := Tryz.prog) w 40 40 114 i elIt.ht hi g n cap cur hg ad m c news (by rw [hsz]; exact hl) hnews' h1 hroom (by rw [hl, hcs, hsz, ← Nat.add_mul]; exact Nat.mul_le_mul_right _ hroom)
      rw [this] at hr
      injection hr with hr1 _
      left; rw [← hr1]; rfl
    · have := run_append_grow (P := Tryz.prog) w 40 40 114 i _ elIt.ht hi hz ⟨g, 0, none⟩ n cap xs (by rw [hsz]; exact hown.1) (hown.cells (g := g) rfl) ad m c news (by rw [hsz]; exact hl) hnews' (by omega) (by omega) (growslice_fits (by omega) (by rw [hby]; exact hbytes))
      rw [this] at hr
      injection hr with hr1 _
      right; rw [← hr1]; rfl
/-- one item more to a row of one's own -/
theorem do_app1I {q : Option Addr} {n c base : Nat} {r : List It} {w : World} (hrow : OwnI w base q n c r) (hn : n ≤ 1000000000000) (hb : base ≤ w.heap.size) {x : It} {Kf : Value → World → Prop} {F : List PanicEntry → World → Prop}
    (k : ∀ q' c' w', OwnI w' base q' (n + 1) c' (r ++ [x]) → (∀ w0, Ext w0 w → w0.heap.size ≤ base → Ext w0 w') → w.grownBy w' (Value.slice q n c).ownBlock →
      ((Value.slice q' (n + 1) c').ownBlock = (Value.slice q n c).ownBlock ∨ ∀ k, (Value.slice q' (n + 1) c').ownBlock = some k → w.heap.size ≤ k) → Kf (.slice q' (n + 1) c') w') :
    doAl (.cells #[.int .i64 x.1, .int .i64 x.2.1, .int .u64 x.2.2] 114) w (fun b w2 => doGo Tryz.prog (.builtin .append #[40, 40] 40 #[false, false]) #[.slice q n c, .slice (some (blk b)) 1 1] w2 (retS Kf F)) := by
  refine ⟨?_⟩
  have e1 := ext_alloc w (.cells #[.int .i64 x.1, .int .i64 x.2.1, .int .u64 x.2.2] 114)
  have hrow1 := e1.row hrow
  have hcs : Cs (w.alloc (.cells #[.int .i64 x.1, .int .i64 x.2.1, .int .u64 x.2.2] 114)) (some (blk w.heap.size)) (its [x]) := cs_it (blk_alloc w _ _)
  refine do_appI hrow1 (m := 1) hcs (by rw [its_length]; rfl) its_one (by omega) (by simp only [maxLen]; omega) (by omega) (Nat.le_trans hb e1.size) fun p' c' w' h2 g2 hor => retS_ret (k p' c' w' ?_ ?_ ?_ ?_)
  · show w'.ownsRow _ _ _ _ _ (its _); rw [its_append]; exact h2
  · intro w0 e0 hb0
    exact extI_own hrow1 (e0.trans e1) g2 hb0
  · have ga : w.grownBy (w.alloc (.cells #[.int .i64 x.1, .int .i64 x.2.1, .int .u64 x.2.2] 114)) (Value.slice q n c).ownBlock := World.grownBy_alloc _ _ _
    exact grown_trans ga g2
  · rcases hor with h | h
    · exact .inl h
    · right; intro k hk; rw [h] at hk; cases hk; exact e1.size
/-- two rows of one's own, apart -/
def TwoI (w : World) (base : Nat) (p : Option Addr) (n c : Nat) (l : List It) (p' : Option Addr) (n' c' : Nat) (l' : List It) : Prop :=
  OwnI w base p n c l ∧ OwnI w base p' n' c' l' ∧ ((Value.slice p' n' c').ownBlock = none ∨ (Value.slice p' n' c').ownBlock ≠ (Value.slice p n c).ownBlock)
theorem TwoI.swap {w : World} {base : Nat} {p : Option Addr} {n c : Nat} {l : List It} {p' : Option Addr} {n' c' : Nat} {l' : List It} (h : TwoI w base p n c l p' n' c' l') : TwoI w base p' n' c' l' p n c l := by
  refine ⟨h.2.1, h.1, ?_⟩
  rcases h.2.2 with g | g
  · cases hq : (Value.slice p n c).ownBlock with
    | none => exact .inl rfl
    | some k => rw [g]; exact .inr (by simp)
  · exact .inr (Ne.symm g)
theorem TwoI.grow {w w' : World} {base : Nat} {p : Option Addr} {n c : Nat} {l : List It} {p' : Option Addr} {n' c' : Nat} {l' : List It} (h : TwoI w base p n c l p' n' c' l') {p2 : Option Addr} {n2 c2 : Nat} {l2 : List It}
    (h2 : OwnI w' base p2 n2 c2 l2) (g : w.grownBy w' (Value.slice p n c).ownBlock) (hor : (Value.slice p2 n2 c2).ownBlock = (Value.slice p n c).ownBlock ∨ ∀ k, (Value.slice p2 n2 c2).ownBlock = some k → w.heap.size ≤ k) : TwoI w' base p2 n2 c2 l2 p' n' c' l' := by
  refine ⟨h2, World.ownsRow.kept h.2.1 g h.2.2, ?_⟩
  rcases hor with e | e
  · rw [e]; exact h.2.2
  · cases hq : (Value.slice p' n' c').ownBlock with
    | none => exact .inl rfl
    | some k =>
      right
      intro e'
      have := (World.ownsRow.lt h.2.1 k hq).2
      have := e k e'.symm
      omega
theorem TwoI.ext {w w' : World} {base : Nat} {p : Option Addr} {n c : Nat} {l : List It} {p' : Option Addr} {n' c' : Nat} {l' : List It} (h : TwoI w base p n c l p' n' c' l') (e : Ext w w') : TwoI w' base p n c l p' n' c' l' :=
  ⟨e.row h.1, e.row h.2.1, h.2.2⟩
abbrev InI (l : List It) : Prop := ∀ x ∈ l, In x.1
/-- the last item of a key -/
def lastE (o key : Int) (l : List It) : It := ((eqF o key l).getLast?).getD (0, 0, 0)
def anyE (o key : Int) (l : List It) : Bool := !(eqF o key l).isEmpty
theorem take_filt {p : It → Bool} {l : List It} {k : Nat} (hk : k < l.length) : (l.take (k + 1)).filter p = (l.take k).filter p ++ (if p l[k] then [l[k]] else []) := by
  rw [← List.take_append_getElem hk, List.filter_append]
  congr 1
  rw [List.filter_cons, List.filter_nil]
theorem lastE_take {o key : Int} {l : List It} {k : Nat} (hk : k < l.length) : lastE o key (l.take (k + 1)) = if cmpI o l[k].1 key = 0 then l[k] else lastE o key (l.take k) := by
  unfold lastE eqF
  rw [take_filt hk]
  by_cases h : cmpI o l[k].1 key = 0
  · simp [h]
  · simp [h]
theorem anyE_take {o key : Int} {l : List It} {k : Nat} (hk : k < l.length) : anyE o key (l.take (k + 1)) = if cmpI o l[k].1 key = 0 then true else anyE o key (l.take k) := by
  unfold anyE eqF
  rw [take_filt hk]
  by_cases h : cmpI o l[k].1 key = 0
  · simp [h]
  · simp [h]
set_option maxHeartbeats 800000 in
set_option maxRecDepth 20000 in
theorem c_r24split {o key : Int} {l : List It} {q : Option Addr} {n c : Nat} (hk : In key) {w : World} {R : Ending → World → Prop} (hl : Cs w q (its l)) (hn : l.length = n) (hm : n ≤ 1000000) (hI : InI l)
    (h : ∀ p1 n1 c1 p2 n2 c2 w', TwoI w' w.heap.size p1 n1 c1 (ltF o key l) p2 n2 c2 (gtF o key l) → Ext w w' → R (.returned (.tuple #[.slice p1 n1 c1, agI (lastE o key l), .bool (anyE o key l), .slice p2 n2 c2])) w') :
    Calls Tryz.prog 246 #[.int .u8 o, .slice q n c, .int .i64 key] w R := by
  refine sh246_ok _ _ _ _ _ ?_
  unfold sh246
  refine ⟨⟨?_⟩⟩
  have e0 := ext_alloc w (.cells #[.int .i64 0, .int .i64 0, .int .u64 0] 114)
  have hb6 := blk_alloc w #[.int .i64 0, .int .i64 0, .int .u64 0] 114
  generalize hb : w.heap.size = b6 at *
  generalize w.alloc (.cells #[.int .i64 0, .int .i64 0, .int .u64 0] 114) = w1 at *
  have e1 := ext_alloc w1 (.cells #[.int .i64 0, .int .i64 0, .int .u64 0] 114)
  have hb8 := blk_alloc w1 #[.int .i64 0, .int .i64 0, .int .u64 0] 114
  have l6 := hb6.lt
  generalize hb8e : w1.heap.size = b8 at *
  generalize w1.alloc (.cells #[.int .i64 0, .int .i64 0, .int .u64 0] 114) = w2 at *
  refine do_st3 hb8 fun w3 h3 g3 => ?_
  have hb6 := (hb6.ext e1).grown g3 (ne_some (by omega))
  have E3 : Ext w w3 := (e0.trans e1).st g3 (by omega)
  have l8 := h3.lt
  have hs3 : b8 < w3.heap.size := h3.lt
  -- the blocks of the rows lie above
  refine ⟨fun vs w' => ∃ (k n1 c1 n2 c2 : Nat) (p1 p2 : Option Addr), vs = [.slice p1 n1 c1, .slice p2 n2 c2, .bool (anyE o key (l.take k)), .int .i64 k] ∧ k ≤ n ∧ Ext w w' ∧ w3.heap.size ≤ w'.heap.size ∧
      Blk w' b8 #[.int .i64 (lastE o key (l.take k)).1, .int .i64 (lastE o key (l.take k)).2.1, .int .u64 (lastE o key (l.take k)).2.2] 114 ∧ Blk w' b6 #[.int .i64 0, .int .i64 0, .int .u64 0] 114 ∧
      TwoI w' w3.heap.size p1 n1 c1 (ltF o key (l.take k)) p2 n2 c2 (gtF o key (l.take k)), fun vs _ => n - (intOf (vs.getD 3 undef)).toNat,
      ⟨0, 0, 0, 0, 0, none, none, by simp [anyE, eqF], by omega, E3, Nat.le_refl _, h3, hb6, ownI_nil _ _, ownI_nil _ _, .inl rfl⟩, ?_⟩
  rintro a_p a_n a_c b_p b_n b_c is_ i _ w4 ⟨k, n1, c1, n2, c2, p1, p2, hv, hkn, E, hsz, hx, hx6, hT⟩
  simp only [List.cons.injEq, Value.slice.injEq, Value.bool.injEq, Value.int.injEq, true_and, and_true] at hv
  obtain ⟨⟨rfl, rfl, rfl⟩, ⟨rfl, rfl, rfl⟩, rfl, rfl⟩ := hv
  refine ifB_intro (fun hlt => ?_) fun hge => ?_
  · have hlt : k < n := by have := of_decide_eq_true hlt; omega
    have hkl : k < l.length := by omega
    intro K33
    have hlen1 := ownI_len hT.1
    have hlen2 := ownI_len hT.2.1
    have hle1 : (ltF o key (l.take k)).length ≤ n := Nat.le_trans (List.length_filter_le _ _) (by rw [List.length_take]; omega)
    have hle2 : (gtF o key (l.take k)).length ≤ n := Nat.le_trans (List.length_filter_le _ _) (by rw [List.length_take]; omega)
    have hK33 : ∀ p3 n3 c3 p4 n4 c4 w5, Ext w w5 → w3.heap.size ≤ w5.heap.size → Blk w5 b8 #[.int .i64 (lastE o key (l.take (k + 1))).1, .int .i64 (lastE o key (l.take (k + 1))).2.1, .int .u64 (lastE o key (l.take (k + 1))).2.2] 114 → Blk w5 b6 #[.int .i64 0, .int .i64 0, .int .u64 0] 114 →
        TwoI w5 w3.heap.size p3 n3 c3 (ltF o key (l.take (k + 1))) p4 n4 c4 (gtF o key (l.take (k + 1))) → K33 p3 n3 c3 p4 n4 c4 (anyE o key (l.take (k + 1))) w5 := by
      intro p3 n3 c3 p4 n4 c4 w5 E5 hs5 hx5 hx65 hT5
      refine ⟨⟨k + 1, n3, c3, n4, c4, p3, p4, by rw [wrap_succ hlt (by omega)], by omega, E5, hs5, hx5, hx65, hT5⟩, ?_⟩
      rw [wrap_succ hlt (by omega)]; simp [intOf]; omega
    have hlw := hl.ext E
    have ixk : ∀ {w'} (e : Ext w w') {K : Addr → Prop}, (∀ a, (∀ j v, j < 3 → (ecI l[k])[j]? = some v → w'.cell? (a.add j) = some v) → K a) → doIx q n 3 ((k : Nat) : Int) K := fun {w'} e {K} kk =>
      ix_flat ecI_len (by omega) (hl.ext e) hn rfl hlt fun a r _ => kk a fun j v _ hv => r j v hv
    refine ixk E fun a r => ⟨_, r 0 _ (by omega) rfl, ?_⟩
    have ix := hI l[k] (List.getElem_mem _)
    refine do_call Tryz.call79 (c_rcompare ix hk (retS_ret ⟨_, rfl, ?_⟩))
    intro K43
    have elt : ltF o key (l.take (k + 1)) = ltF o key (l.take k) ++ (if cmpI o l[k].1 key < 0 then [l[k]] else []) := by unfold ltF; rw [take_filt hkl]; simp
    have egt : gtF o key (l.take (k + 1)) = gtF o key (l.take k) ++ (if 0 < cmpI o l[k].1 key then [l[k]] else []) := by unfold gtF; rw [take_filt hkl]; simp
    have ela := lastE_take (o := o) (key := key) hkl
    have ean := anyE_take (o := o) (key := key) hkl
    rcases cmpI_vals o l[k].1 key with hc | hc | hc <;> rw [hc] at elt egt ela ean ⊢
    · -- ahead
      refine ifB_t (by decide) (ixk E fun a2 r2 => ⟨_, r2 0 _ (by omega) rfl, _, r2 1 _ (by omega) rfl, _, r2 2 _ (by omega) rfl, ?_⟩)
      refine do_app1I hT.1 (by omega) hsz (x := l[k]) fun q' c' w5 h5 e5 g5 hor => ⟨_, _, _, rfl, ?_⟩
      simp -zeta -zetaHave only [K43]
      intro K46
      refine ifB_f (by rw [hc]; decide) (ifB_f (by rw [hc]; decide) ?_)
      have hne : ∀ j, j < w3.heap.size → some j ≠ (Value.slice a_p a_n a_c).ownBlock := fun j hj e => by have := (World.ownsRow.lt hT.1 j e.symm).1; omega
      rw [if_neg (by decide)] at ela ean egt
      rw [if_pos (by decide)] at elt
      have := hK33 q' (a_n + 1) c' b_p b_n b_c w5 (e5 w E (by omega)) (Nat.le_trans hsz (World.grownBy.size g5)) (by rw [ela]; exact hx.grown g5 (hne _ (by omega))) (hx6.grown g5 (hne _ (by omega))) (by rw [elt, egt, List.append_nil]; exact hT.grow h5 g5 hor)
      rw [ean] at this
      exact this
    · refine ifB_f (by decide) ?_
      simp -zeta -zetaHave only [K43]
      intro K46
      rw [if_pos (by decide)] at ela ean
      rw [if_neg (by decide)] at elt egt
      refine ifB_t (by rw [hc]; decide) (ixk E fun a2 r2 => ⟨_, r2 0 _ (by omega) rfl, _, r2 1 _ (by omega) rfl, _, r2 2 _ (by omega) rfl, ?_⟩)
      refine do_st3 hx fun w5 hx5 g5 => ifB_f (by rw [hc]; decide) ?_
      have hb1 : (Value.slice a_p a_n a_c).ownBlock = none ∨ (Value.slice a_p a_n a_c).ownBlock ≠ some b8 := .inr fun e => by have := (World.ownsRow.lt hT.1 b8 e).1; omega
      have hb2 : (Value.slice b_p b_n b_c).ownBlock = none ∨ (Value.slice b_p b_n b_c).ownBlock ≠ some b8 := .inr fun e => by have := (World.ownsRow.lt hT.2.1 b8 e).1; omega
      have := hK33 a_p a_n a_c b_p b_n b_c w5 (E.st g5 (by omega)) (Nat.le_trans hsz (World.grownBy.size g5)) (by rw [ela]; exact hx5) (hx6.grown g5 (ne_some (by omega))) (by rw [elt, egt, List.append_nil, List.append_nil]; exact ⟨World.ownsRow.kept hT.1 g5 hb1, World.ownsRow.kept hT.2.1 g5 hb2, hT.2.2⟩)
      rw [ean] at this
      exact this
    · refine ifB_f (by decide) ?_
      simp -zeta -zetaHave only [K43]
      intro K46
      rw [if_neg (by decide)] at ela ean elt
      rw [if_pos (by decide)] at egt
      refine ifB_f (by rw [hc]; decide) (ifB_t (by rw [hc]; decide) (ixk E fun a2 r2 => ⟨_, r2 0 _ (by omega) rfl, _, r2 1 _ (by omega) rfl, _, r2 2 _ (by omega) rfl, ?_⟩))
      refine do_app1I hT.2.1 (by omega) hsz (x := l[k]) fun q' c' w5 h5 e5 g5 hor => ⟨_, _, _, rfl, ?_⟩
      have hne : ∀ j, j < w3.heap.size → some j ≠ (Value.slice b_p b_n b_c).ownBlock := fun j hj e => by have := (World.ownsRow.lt hT.2.1 j e.symm).1; omega
      have := hK33 a_p a_n a_c q' (b_n + 1) c' w5 (e5 w E (by omega)) (Nat.le_trans hsz (World.grownBy.size g5)) (by rw [ela]; exact hx.grown g5 (hne _ (by omega))) (hx6.grown g5 (hne _ (by omega))) (by rw [elt, egt, List.append_nil]; exact (hT.swap.grow h5 g5 hor).swap)
      rw [ean] at this
      exact this
  · have hge : k = n := by have := of_decide_eq_false hge; omega
    subst hge
    rw [List.take_of_length_le (by omega)] at *
    have d := ext_drew w4
    refine ⟨⟨fun w' => Ext w4 w', d, _, fun w' e => (hx.ext e).cell (i := 0) (add_blk _ _) rfl, _, fun w' e => (hx.ext e).cell (i := 1) (add_blk _ _) rfl, _, fun w' e => (hx.ext e).cell (i := 2) (add_blk _ _) rfl, ?_⟩⟩
    refine do_st3 (hx6.ext d) fun w5 hx5 g5 => ?_
    have hT4 := hT.ext d
    have hb1 : (Value.slice a_p a_n a_c).ownBlock = none ∨ (Value.slice a_p a_n a_c).ownBlock ≠ some b6 := .inr fun e => by have := (World.ownsRow.lt hT.1 b6 e).1; omega
    have hb2 : (Value.slice b_p b_n b_c).ownBlock = none ∨ (Value.slice b_p b_n b_c).ownBlock ≠ some b6 := .inr fun e => by have := (World.ownsRow.lt hT.2.1 b6 e).1; omega
    refine ⟨_, hx5.cell (i := 0) (add_blk _ _) rfl, _, hx5.cell (i := 1) (add_blk _ _) rfl, _, hx5.cell (i := 2) (add_blk _ _) rfl, ?_⟩
    exact h _ _ _ _ _ _ _ ⟨row_mono (World.ownsRow.kept hT4.1 g5 hb1) (by omega), row_mono (World.ownsRow.kept hT4.2.1 g5 hb2) (by omega), hT4.2.2⟩ ((E.trans d).st g5 (by omega))
end Go.Proofs.YtlddfgfmkapoiaaGreat

namespace Go.Proofs.YtlddfgfmkapoiaaGreat
open Go Go.Sh Go.RowKit

theorem Ext.gs {b : Nat} {w w1 w2 : World} (e : Ext w w1) (g : Gs b w1 w2) (hb : w.heap.size ≤ b) : Ext w w2 := Go.Sh.Ext.st e g hb
theorem c_r22is {c : Int} {w : World} {R : Ending → World → Prop} (h : R (.returned (.bool (isS c))) w) : Calls Tryz.prog 18 #[.int .u8 c] w R := by
  refine sh18_ok _ ?_
  unfold sh18
  intro K4
  unfold isS at h
  refine ifB_intro (fun h1 => ?_) fun h1 => ?_
  · have h1 := of_decide_eq_true h1
    have : decide (1 ≤ c ∧ c ≤ 4) = decide (c ≤ 4) := decide_eq_decide.2 (by omega)
    rw [this] at h
    exact h
  · have h1 := of_decide_eq_false h1
    have : decide (1 ≤ c ∧ c ≤ 4) = false := decide_eq_false (by omega)
    rw [this] at h
    exact h
theorem c_r2may {o : Int} {w : World} {R : Ending → World → Prop} (h : R (.returned (.bool (isO o))) w) : Calls Tryz.prog 127 #[.int .u8 o] w R := by
  refine sh127_ok _ ?_
  unfold sh127
  exact do_call Tryz.call16 (c_ris (retS_ret ⟨_, rfl, h⟩))
/-! ### plain -/
theorem inK_all {t : Tr} (h : ∀ x ∈ t.pairs, In x.1) : InK t := by
  induction t with
  | nil => trivial
  | node l k v g r ihl ihr => exact ⟨ihl fun x hx => h x (by simp [Tr.pairs, hx]), h (k, v) (by simp [Tr.pairs]), ihr fun x hx => h x (by simp [Tr.pairs, hx])⟩
/-- numbers of beads that fit -/
structure FitB (t : BT) : Prop where
  key : ∀ x ∈ t.beads, In x.key
  val : ∀ x ∈ t.beads, In x.val
  tag : TagB t
theorem FitB.inK {t : BT} (h : FitB t) : InK t.tr := inK_all fun x hx => by
  obtain ⟨b, hb, rfl⟩ := BT.tr_mem hx
  exact h.key b hb
theorem FitB.inP {t : BT} (h : FitB t) : InP t.tr.pairs := fun x hx => by
  obtain ⟨b, hb, rfl⟩ := BT.tr_mem hx
  exact ⟨h.key b hb, h.val b hb⟩
theorem itT_mem {t : BT} {x : It} (h : x ∈ itT t.tr) : ∃ b ∈ t.beads, x = (b.key, b.val, b.tag) := by
  induction t with
  | nil => simp [BT.tr, itT] at h
  | node y l r ihl ihr =>
    simp only [BT.tr, itT, List.mem_append, List.mem_cons] at h
    simp only [BT.beads, List.mem_cons, List.mem_append]
    rcases h with h | h | h
    · obtain ⟨b, hb, e⟩ := ihl h; exact ⟨b, .inr (.inl hb), e⟩
    · exact ⟨y, .inl rfl, h⟩
    · obtain ⟨b, hb, e⟩ := ihr h; exact ⟨b, .inr (.inr hb), e⟩
theorem tagI_itC {c : Int} {x : It} (h : 0 ≤ x.2.2 ∧ x.2.2 < 18446744073709551616) : 0 ≤ (itC c x).2.2 ∧ (itC c x).2.2 < 18446744073709551616 := by
  unfold itC; split
  · exact h
  · refine ⟨Int.le_refl _, ?_⟩
    show (0 : Int) < _
    decide
theorem FitB.tagI {t : BT} (h : FitB t) (c : Int) : TagI (itsC c t.tr) := fun x hx => by
  obtain ⟨y, hy, rfl⟩ := List.mem_map.1 hx
  obtain ⟨b, hb, rfl⟩ := itT_mem hy
  exact tagI_itC (h.tag b hb)
theorem FitB.inI {t : BT} (h : FitB t) (c : Int) : InI (itsC c t.tr) := fun x hx => inK_its.1 h.inK x hx
theorem its_fix {c : Int} {t : Tr} {x : It} (h : x ∈ itsC c t) : itC c x = x := by
  obtain ⟨y, _, rfl⟩ := List.mem_map.1 h
  exact itC_itC c y
theorem filt_fix {c : Int} {t : Tr} (p : It → Bool) : ((itsC c t).filter p).map (itC c) = (itsC c t).filter p := by
  have : ((itsC c t).filter p).map (itC c) = ((itsC c t).filter p).map id := List.map_congr_left fun x hx => its_fix (List.mem_filter.1 hx).1
  rw [this, List.map_id]
theorem asc_of {o c : Int} {t : Tr} (h : chain o t.pairs = true) : asc o (itsC c t) := by
  unfold asc
  rw [← pairs_its]
  exact chain_pw.1 h
/-- what a statement parts -/
theorem c_long24 {code o : Int} {l : List Bd} {q : Option Addr} {n c : Nat} {w : World} {R : Ending → World → Prop} (hl : Cs w q (bds l)) (hn : l.length = n) (hnc : n ≤ c) (hF : ∀ t : BT, l = t.beads → FitB t)
    (h : ∀ b w', Ext w w' → (b = true ∨ (b = false ∧ isS code = true ∧ isO o = true ∧ n ≤ 400 ∧ ∃ t : BT, t.wf = true ∧ l = t.beads ∧ FitB t ∧ OkM code t.tr ∧ chain o t.tr.pairs = true)) → R (.returned (.bool b)) w') :
    Calls Tryz.prog 36 #[.int .u8 code, .int .u8 o, .slice q n c] w R := by
  refine sh36_ok _ _ _ _ _ ?_
  unfold sh36
  intro K8
  refine do_call Tryz.call52 (c_long hl hn fun b hb => retS_ret ⟨_, rfl, ?_⟩)
  rcases hb with rfl | ⟨rfl, hn4, t, hw, ht⟩
  · exact ifB_t rfl (h _ _ (ext_refl w) (.inl rfl))
  · have hfit := hF t ht
    subst ht
    have hts : t.size = n := hn
    refine ifB_f rfl (do_call Tryz.call104 (sh104_ok _ _ _ _ _ ?_))
    unfold sh104
    intro K8'
    refine do_call Tryz.call18 (c_r22is (retS_ret ⟨_, rfl, ?_⟩))
    cases hs : isS code with
    | false => exact ifB_f rfl (retS_ret ⟨_, rfl, h _ _ (ext_refl w) (.inl rfl)⟩)
    | true =>
      refine ifB_t rfl (do_call Tryz.call127 (c_r2may (retS_ret ⟨_, rfl, ?_⟩)))
      cases ho : isO o with
      | false => exact ifB_f rfl (retS_ret ⟨_, rfl, h _ _ (ext_refl w) (.inl rfl)⟩)
      | true =>
        refine ifB_t rfl (do_call Tryz.call179 (c_r22may hs hl hts hnc hw (by omega) hfit.tag fun b w1 e1 hb => retS_ret ⟨_, rfl, ?_⟩))
        cases b with
        | false => exact ifB_f rfl (retS_ret ⟨_, rfl, h _ _ e1 (.inl rfl)⟩)
        | true =>
          refine ifB_t rfl (do_call Tryz.call128 (sh128_ok _ _ _ _ ?_))
          unfold sh128
          refine do_call Tryz.call60 (c_pairs t (hl.ext e1) hts hnc hw (by omega) fun p2 n2 c2 w2 h2 e2 => retS_ret ⟨_, _, _, rfl, ?_⟩)
          have hn2 := ownP_len h2
          have hpl := t.tr.pairs_length
          have htr := BT.tr_size t
          refine do_call Tryz.call199 (c_rises (ownP_cs h2) hn2 (by omega) hfit.inP fun w3 e3 => retS_ret ⟨_, rfl, retS_ret ⟨_, rfl, retS_ret ⟨_, rfl, ?_⟩⟩⟩)
          have E3 := (e1.trans e2).trans e3
          cases hch : chain o t.tr.pairs with
          | false => exact h _ _ E3 (.inl rfl)
          | true => exact h _ _ E3 (.inr ⟨rfl, hs, ho, hn4, t, hw, rfl, hfit, hb.1 rfl, hch⟩)
/-! ### the chapter's examples -/
end Go.Proofs.YtlddfgfmkapoiaaGreat

