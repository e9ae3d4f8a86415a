/-
  Rows of items: Items, See, Same.
-/
/-
  Has, Is; the document's answers of layers 12, 24.
-/
/-
  The document's answers of layer 24; what a statement parts.
-/
/-
  Layer 24: what a statement parts; the chapter's examples.
-/
/-
  Trees made of rows, in plain; the frame of what is changed: a scheme, and draws.
-/
/-
  draw, mix: numbers that are drawn; the document's.
-/
import Derived.Test.YtlddfgfmkapoiaaGreatZ19

namespace Go.Proofs.YtlddfgfmkapoiaaGreat
open Go Go.Sh Go.RowKit

set_option maxRecDepth 100000 in
theorem elIt : ElT Tryz.prog 40 114 (.agg #[.int .i64 0, .int .i64 0, .int .u64 0]) 3 24 := ⟨Tryz.underlying40, ⟨_, Tryz.type114, by kernel_rfl, by kernel_rfl, by kernel_rfl⟩, rfl, by omega⟩
abbrev OwnI (w : World) (base : Nat) (p : Option Addr) (n c : Nat) (l : List It) : Prop := w.ownsRow base 114 3 (.slice p n c) n (its l)
theorem ownI_len {w : World} {base n c : Nat} {p : Option Addr} {l : List It} (h : OwnI w base p n c l) : l.length = n := by have := h.1; rw [its_length] at this; omega
theorem ownI_cs {w : World} {base n c : Nat} {p : Option Addr} {l : List It} (h : OwnI w base p n c l) : Cs w p (its l) := Cs.of_row h
theorem ownI_nil (w : World) (base : Nat) : OwnI w base none 0 0 [] := World.ownsRow_nil _ _ _ _
theorem rowI_to {w w' : World} {base base' n c : Nat} {p : Option Addr} {l : List It} (h : OwnI w base p n c l) (e : Ext w w') (hb : base' ≤ base) : OwnI w' base' p n c l := row_mono (e.row h) hb
theorem extI_own {a w w' : World} {base n c : Nat} {p : Option Addr} {l : List It} (h : OwnI w base p n c l) (e : Ext a w) (g : w.grownBy w' (Value.slice p n c).ownBlock) (hb : a.heap.size ≤ base) : Ext a w' :=
  e.grown g fun k hk => Nat.le_trans hb (World.ownsRow.lt h k hk).1
theorem cs_it {w : World} {b : Nat} {x : It} {t : TypeId} (h : Blk w b #[.int .i64 x.1, .int .i64 x.2.1, .int .u64 x.2.2] t) : Cs w (some (blk b)) (its [x]) := fun i v hv => by
  refine ⟨_, rfl, ?_⟩
  rw [add_blk]
  match i, hv with
  | 0, hv => cases hv; exact h.cell rfl rfl
  | 1, hv => cases hv; exact h.cell rfl rfl
  | 2, hv => cases hv; exact h.cell rfl rfl
  | i + 3, hv => simp [ecI] at hv
set_option maxRecDepth 20000 in
theorem c_r20items : ∀ (t : BT) {q : Option Addr} {n c : Nat} {w : World} {R : Ending → World → Prop} (_hl : Cs w q (bds t.beads)) (_hn : t.size = n) (_hnc : n ≤ c) (_hw : t.wf = true) (_hm : n ≤ 5000)
    (_h : ∀ p n' c' w', OwnI w' w.heap.size p n' c' (itT t.tr) → Ext w w' → R (.returned (.slice p n' c')) w'), Calls Tryz.prog 110 #[.slice q n c] w R
  | .nil, q, n, c, w, R, hl, hn, hnc, hw, hm, h => by
    refine sh110_ok _ _ _ ?_
    unfold sh110
    have : n = 0 := by rw [← hn]; rfl
    subst this
    exact ifB_t rfl (h _ _ _ _ (ownI_nil _ _) (ext_refl w))
  | .node x L Rt, q, n, c, w, R, hl, hn, hnc, hw, hm, h => by
    refine sh110_ok _ _ _ ?_
    unfold sh110
    have hsz := BT.size_node x L Rt
    obtain ⟨_, _, w2f, w3f⟩ := BT.wf_node hw
    refine ifB_f (by simp; omega) ?_
    refine do_call Tryz.call109 (c_parts hl hn hnc hw hm fun p1 c1 p2 c2 w1 e1 hp h1 h2 => retS_ret ⟨_, _, _, _, _, _, _, _, _, _, _, _, _, rfl, ⟨?_⟩⟩)
    refine do_st7 (blk_alloc w1 _ _) fun w2 hb2 g2 => ?_
    have e2 : Ext w1 w2 := (ext_alloc w1 _).st g2 (Nat.le_refl _)
    have E2 := e1.trans e2
    have hcs := fun (w'' : World) (e : Ext w2 w'') => hp w'' (hl.ext (E2.trans e))
    refine ⟨⟨fun w' => Ext w2 w', ext_drew _, _, fun w' e => (hb2.ext e).cell (i := 0) (add_blk _ _) rfl, _, fun w' e => (hb2.ext e).cell (i := 1) (add_blk _ _) rfl, _, fun w' e => (hb2.ext e).cell (i := 2) (add_blk _ _) rfl, _, fun w' e => (hb2.ext e).cell (i := 3) (add_blk _ _) rfl, _, fun w' e => (hb2.ext e).cell (i := 4) (add_blk _ _) rfl, _, fun w' e => (hb2.ext e).cell (i := 5) (add_blk _ _) rfl, _, fun w' e => (hb2.ext e).cell (i := 6) (add_blk _ _) rfl, ?_⟩⟩
    have d := ext_drew w2
    have hLl : (itT L.tr).length = L.size := by rw [itT_len, BT.tr_size]
    have hRl : (itT Rt.tr).length = Rt.size := by rw [itT_len, BT.tr_size]
    refine do_call Tryz.call110 (c_r20items L (hcs _ d).1 rfl h1 w2f (by omega) fun p3 n3 c3 w3 h3 e3 => retS_ret ⟨_, _, _, rfl, d.trans e3, ?_⟩)
    have E3 := d.trans e3
    have hn3 := ownI_len h3
    refine do_call Tryz.call190 (c_r20item (x := x) fun w4 e4 => retS_ret ⟨_, _, _, rfl, ⟨?_⟩⟩)
    have E4 := E3.trans e4
    have e5 := ext_alloc w4 (.cells #[.int .i64 x.key, .int .i64 x.val, .int .u64 x.tag] 114)
    have hb5 := blk_alloc w4 #[.int .i64 x.key, .int .i64 x.val, .int .u64 x.tag] 114
    generalize w4.alloc (.cells #[.int .i64 x.key, .int .i64 x.val, .int .u64 x.tag] 114) = w5 at *
    have E5 := E4.trans e5
    have ho5 := rowI_to h3 (e4.trans e5) (Nat.le_refl _)
    have hb5 : Cs w5 (some (blk w4.heap.size)) (its [((x.key, x.val, x.tag) : It)]) := cs_it hb5
    refine ⟨E5, do_app elIt ho5 hb5 (by rw [its_length]; rfl) its_one (by simp only [maxLen]; omega) (by omega) (by have := e3.size; have := e4.size; have := e5.size; omega) fun p6 c6 w6 h6 g6 => retS_ret ⟨_, _, _, rfl, ?_⟩⟩
    have E6 : Ext w2 w6 := extI_own ho5 E5 g6 (Nat.le_refl _)
    have h6 : OwnI w6 w2.heap.size p6 (n3 + 1) c6 (itT L.tr ++ [(x.key, x.val, x.tag)]) := by
      show w6.ownsRow _ _ _ _ _ (its _)
      rw [its_append]
      exact h6
    refine ⟨E6, do_call Tryz.call110 (c_r20items Rt (hcs _ E6).2 rfl h2 w3f (by omega) fun p7 n7 c7 w7 h7 e7 => retS_ret ⟨_, _, _, rfl, ?_⟩)⟩
    have hn7 := ownI_len h7
    have ho7 := rowI_to h6 e7 (Nat.le_refl _)
    refine do_app elIt ho7 (ownI_cs h7) (by rw [its_length, hn7]) its_one (by simp only [maxLen]; omega) (by omega) (Nat.le_trans E6.size e7.size) fun p8 c8 w8 h8 g8 => retS_ret ⟨_, _, _, rfl, ?_⟩
    have E8 : Ext w2 w8 := extI_own ho7 (E6.trans e7) g8 (Nat.le_refl _)
    refine h _ _ _ _ (row_mono ?_ E2.size) (E2.trans E8)
    show w8.ownsRow _ _ _ _ _ (its (itT L.tr ++ (x.key, x.val, x.tag) :: itT Rt.tr))
    rw [show itT L.tr ++ (x.key, x.val, x.tag) :: itT Rt.tr = (itT L.tr ++ [(x.key, x.val, x.tag)]) ++ itT Rt.tr by simp, its_append]
    exact h8
/-- an item without its tag -/
def bare (x : It) : It := (x.1, x.2.1, 0)
theorem its_set : ∀ {l : List It} {k : Nat} (hk : k < l.length), its (l.set k (bare l[k])) = (its l).set (k * 3 + 2) (.int .u64 0)
  | x :: xs, 0, _ => rfl
  | x :: xs, k + 1, hk => by
    have hk' : k < xs.length := by simpa using hk
    have ih := its_set (l := xs) (k := k) hk'
    rw [show (k + 1) * 3 + 2 = (k * 3 + 2) + 1 + 1 + 1 by omega]
    simp only [List.set_cons_succ, List.getElem_cons_succ]
    show ecI x ++ its (xs.set k (bare xs[k])) = _
    rw [ih]; rfl
theorem set_take {l : List It} {k : Nat} (hk : k < l.length) : ((l.take k).map bare ++ l.drop k).set k (bare l[k]) = (l.take (k + 1)).map bare ++ l.drop (k + 1) := by
  rw [← List.take_append_getElem hk, List.drop_eq_getElem_cons hk, List.map_append, List.set_append]
  rw [if_neg (by simp; omega)]
  have : k - ((l.take k).map bare).length = 0 := by simp; omega
  rw [this, List.set_cons_zero]
  simp only [List.map_cons, List.map_nil, List.append_assoc, List.cons_append, List.nil_append]
/-- a write into a row of one's own -/
theorem do_st_own {w : World} {base e s n c : Nat} {p : Option Addr} {xs : List Value} (h : w.ownsRow base e s (.slice p n c) n xs) {i : Nat} (hi : i < xs.length) {a a' : Addr} (ha : p = some a) (ha' : a' = a.add i) (v : Value) {K : World → Prop}
    (k : ∀ w', w'.ownsRow base e s (.slice p n c) n (xs.set i v) → w.grownBy w' (some a.block) → K w') : doSt a' v w K := by
  subst ha
  subst ha'
  obtain ⟨g, rfl⟩ : ∃ g, a = ⟨g, 0, none⟩ := by
    rcases h.2 with ⟨h', _⟩ | ⟨g, cap, cur, h', _⟩
    · cases h'
    · cases h'; exact ⟨g, rfl⟩
  rw [add_blk]
  have hs := h.stored i v
  have h1 := h.1
  exact ⟨⟨_, by rw [h.cellAt i (by omega)]; exact List.getElem?_eq_getElem hi⟩, h.frozenAt i, k _ hs.1 hs.2⟩
set_option maxRecDepth 20000 in
theorem c_r22items {cd : Int} {t : BT} {q : Option Addr} {n c : Nat} {w : World} {R : Ending → World → Prop} (hl : Cs w q (bds t.beads)) (hn : t.size = n) (hnc : n ≤ c) (hw : t.wf = true) (hm : n ≤ 5000)
    (h : ∀ p n' c' w', OwnI w' w.heap.size p n' c' (itsC cd t.tr) → Ext w w' → R (.returned (.slice p n' c')) w') : Calls Tryz.prog 40 #[.int .u8 cd, .slice q n c] w R := by
  refine sh40_ok _ _ _ _ ?_
  unfold sh40
  refine do_call Tryz.call110 (c_r20items t hl hn hnc hw hm fun p n' c' w1 h1 e1 => retS_ret ⟨_, _, _, rfl, ?_⟩)
  have hn1 := ownI_len h1
  have hll : (itT t.tr).length = t.size := by rw [itT_len, BT.tr_size]
  intro K11
  have hit : itsC cd t.tr = (itT t.tr).map (itC cd) := rfl
  rw [hit] at h
  refine ifB_intro (fun h4 => ?_) fun h4 => ?_
  · have h4 : cd ≠ 4 := by simpa using h4
    have hb : itC cd = bare := by funext x; unfold itC bare; rw [if_neg h4]
    rw [hb] at h
    refine ⟨fun vs w' => ∃ k : Nat, vs = [.int .i64 k] ∧ k ≤ n' ∧ Ext w w' ∧ OwnI w' w.heap.size p n' c' (((itT t.tr).take k).map bare ++ (itT t.tr).drop k), fun vs _ => n' - (intOf (vs.getD 0 undef)).toNat, ⟨0, rfl, by omega, e1, by simpa using h1⟩, ?_⟩
    rintro i _ w2 ⟨k, hv, hkn, E, hrow⟩
    simp only [List.cons.injEq, Value.int.injEq, true_and, and_true] at hv
    subst hv
    refine ifB_intro (fun hlt => ?_) fun hge => ?_
    · have hlt : k < n' := by have := of_decide_eq_true hlt; omega
      have hrl := ownI_len hrow
      refine ix_flat ecI_len (by omega) (ownI_cs hrow) hrl rfl hlt fun a r hpa => ?_
      obtain ⟨b, hpb, hab⟩ := hpa
      subst hab
      refine do_st_own hrow (i := k * 3 + 2) (by rw [its_length, hrl]; omega) hpb (by rw [Sh.add_add, Sh.add_add]) _ fun w3 h3 g3 => ⟨⟨k + 1, by rw [wrap_succ hlt (by omega)], by omega, E.st g3 (row_lt hrow hpb).1, ?_⟩, ?_⟩
      · have hk : k < (itT t.tr).length := by omega
        have e := its_set (l := ((itT t.tr).take k).map bare ++ (itT t.tr).drop k) (k := k) (by simp; omega)
        have hg : (((itT t.tr).take k).map bare ++ (itT t.tr).drop k)[k]'(by simp; omega) = (itT t.tr)[k] := by
          rw [List.getElem_append_right (by simp; omega)]
          simp
          congr 1; omega
        rw [hg, set_take hk] at e
        show w3.ownsRow _ _ _ _ _ (its _)
        rw [e]
        exact h3
      · rw [wrap_succ hlt (by omega)]; simp [intOf]; omega
    · have hge : k = n' := by have := of_decide_eq_false hge; omega
      subst hge
      rw [List.take_of_length_le (by omega), List.drop_of_length_le (by omega), List.append_nil] at hrow
      exact h _ _ _ _ hrow E
  · have h4 : cd = 4 := by simpa using h4
    have hb : itC cd = id := by funext x; unfold itC; rw [if_pos h4]; rfl
    rw [hb, List.map_id] at h
    exact h _ _ _ _ h1 e1
/-! ### See, Same, Is -/
set_option maxRecDepth 20000 in
theorem c_see : ∀ (t : Tr) {pt p : Option Addr} {n c d : Nat} {l : List Bd} {w0 w : World} {R : Ending → World → Prop} (_E : Ext w0 w) (_ht : IsN w0 pt t) (_hr : OwnB w w0.heap.size p n c l) (_h1 : n + t.size ≤ 5000) (_h2 : d + htT t ≤ 2000)
    (_h : ∀ p' n' c' w', OwnB w' w0.heap.size p' n' c' (l ++ (btT t).beads) → Ext w0 w' → R (.returned (.tuple #[.slice p' n' c', .bool true])) w'), Calls Tryz.prog 178 #[.pointer pt, .slice p n c, .int .i64 (d : Nat)] w R
  | .nil, pt, p, n, c, d, l, w0, w, R, E, ht, hr, h1, h2, h => by
    refine sh178_ok _ _ _ _ _ ?_
    unfold sh178
    obtain rfl : pt = none := ht
    refine ifB_t rfl (h _ _ _ _ ?_ E)
    simpa [btT, BT.beads] using hr
  | .node L k v g Rt, pt, p, n, c, d, l, w0, w, R, E, ht, hr, h1, h2, h => by
    refine sh178_ok _ _ _ _ _ ?_
    unfold sh178
    refine ifB_f (by rw [ht.isNone]; rfl) ?_
    have hsz : (Tr.node L k v g Rt).size = L.size + 1 + Rt.size := rfl
    have hht : htT (.node L k v g Rt) = 1 + max (htT L) (htT Rt) := rfl
    intro K8
    refine ifB_f (decide_eq_false (by omega)) (ifB_f (decide_eq_false (by omega)) ?_)
    have htw := ht.ext E
    refine do_call Tryz.call108 (c_key htw fun w1 e1 => retS_ret ⟨_, rfl, ?_⟩)
    refine do_call Tryz.call126 (c_val (htw.ext e1) fun w2 e2 => retS_ret ⟨_, rfl, ?_⟩)
    have E2 := e1.trans e2
    refine do_call Tryz.call196 (c_tag (htw.ext E2) fun w3 e3 => retS_ret ⟨_, rfl, ?_⟩)
    have E3 := E2.trans e3
    refine do_call Tryz.call91 (c_tsize (htw.ext E3) fun w4 e4 => retS_ret ⟨_, rfl, ?_⟩)
    have E4 := E3.trans e4
    refine do_call Tryz.call107 (c_tsum (htw.ext E4) fun w5 e5 => retS_ret ⟨_, rfl, ?_⟩)
    have E5 := E4.trans e5
    refine do_call Tryz.call123 (c_left (htw.ext E5) fun ql hql => retS_ret ⟨_, rfl, ?_⟩)
    refine do_call Tryz.call125 (c_right (htw.ext E5) fun qr hqr => retS_ret ⟨_, rfl, ⟨?_⟩⟩)
    have hx : ∃ x : Bd, x = (⟨k, v, (Tr.node L k v g Rt).sum, ((Tr.node L k v g Rt).size : Nat), g, L.nn, Rt.nn⟩ : Bd) := ⟨_, rfl⟩
    obtain ⟨x, hx⟩ := hx
    have hbe : (btT (.node L k v g Rt)).beads = x :: ((btT L).beads ++ (btT Rt).beads) := by rw [hx]; rfl
    rw [hbe] at h
    rw [hql.isNone, hqr.isNone, Bool.not_not, Bool.not_not]
    have e6 := ext_alloc w5 (.cells #[.int .i64 x.key, .int .i64 x.val, .int .i64 x.sum, .int .i64 x.size, .int .u64 x.tag, .bool x.left, .bool x.right] 150)
    have hb6 := blk_alloc w5 #[.int .i64 x.key, .int .i64 x.val, .int .i64 x.sum, .int .i64 x.size, .int .u64 x.tag, .bool x.left, .bool x.right] 150
    have hw6 : w5.alloc (.cells #[.int .i64 x.key, .int .i64 x.val, .int .i64 x.sum, .int .i64 x.size, .int .u64 x.tag, .bool x.left, .bool x.right] 150) = w5.alloc (.cells #[.int .i64 (Tr.node L k v g Rt).key, .int .i64 (Tr.node L k v g Rt).val, .int .i64 (Tr.node L k v g Rt).sum, .int .i64 ((Tr.node L k v g Rt).size : Nat), .int .u64 (Tr.node L k v g Rt).tag, .bool L.nn, .bool Rt.nn] 150) := by rw [hx]; rfl
    show doGo Tryz.prog (.builtin .append #[57, 57] 57 #[false, false]) #[.slice p n c, .slice (some (blk w5.heap.size)) 1 1] (w5.alloc (.cells #[.int .i64 (Tr.node L k v g Rt).key, .int .i64 (Tr.node L k v g Rt).val, .int .i64 (Tr.node L k v g Rt).sum, .int .i64 ((Tr.node L k v g Rt).size : Nat), .int .u64 (Tr.node L k v g Rt).tag, .bool L.nn, .bool Rt.nn] 150)) _
    rw [← hw6]
    generalize w5.alloc (.cells #[.int .i64 x.key, .int .i64 x.val, .int .i64 x.sum, .int .i64 x.size, .int .u64 x.tag, .bool x.left, .bool x.right] 150) = w6 at *
    have E6 := E5.trans e6
    have ho6 := rowB_to hr E6 (Nat.le_refl _)
    have EE6 := E.trans E6
    refine do_app elB ho6 (cs_bd hb6) (by rw [bds_length]; rfl) bds_one (by simp only [maxLen]; omega) (by omega) EE6.size fun p7 c7 w7 h7 g7 => retS_ret ⟨_, _, _, rfl, ?_⟩
    have E7 : Ext w0 w7 := extB_own ho6 EE6 g7 (Nat.le_refl _)
    have h7 : OwnB w7 w0.heap.size p7 (n + 1) c7 (l ++ [x]) := by
      show w7.ownsRow _ _ _ _ _ (bds _)
      rw [bds_append]
      exact h7
    have ew : IntKind.wrap .i64 ((d : Int) + 1) = ((d + 1 : Nat) : Int) := wrap_succ (n := 3000) (by omega) (by omega)
    rw [ew]
    refine do_call Tryz.call123 (c_left0 ht E7 fun q8 h8 => retS_ret ⟨_, rfl, ?_⟩)
    have hLs := btT_size L
    refine do_call Tryz.call178 (c_see L E7 h8 h7 (by omega) (by omega) fun p9 n9 c9 w9 h9 e9 => retS_ret ⟨_, _, _, _, rfl, ifB_f rfl ?_⟩)
    have hn9 := ownB_len h9
    have hlb : (btT L).beads.length = L.size := hLs
    have hln := ownB_len h7
    simp only [List.length_append, List.length_cons, List.length_nil] at hn9 hln
    refine do_call Tryz.call125 (c_right0 ht e9 fun q10 h10 => retS_ret ⟨_, rfl, ?_⟩)
    refine do_call Tryz.call178 (c_see Rt e9 h10 h9 (by omega) (by omega) fun p11 n11 c11 w11 h11 e11 => retS_ret ⟨_, _, _, _, rfl, h _ _ _ _ ?_ e11⟩)
    rw [show l ++ x :: ((btT L).beads ++ (btT Rt).beads) = l ++ [x] ++ (btT L).beads ++ (btT Rt).beads by simp]
    exact h11
theorem c_See {t : Tr} {pt : Option Addr} {w : World} {R : Ending → World → Prop} (ht : IsN w pt t) (h1 : t.size ≤ 2000) (h : ∀ p' n' c' w', OwnB w' w.heap.size p' n' c' (btT t).beads → Ext w w' → R (.returned (.tuple #[.slice p' n' c', .bool true])) w') :
    Calls Tryz.prog 97 #[.pointer pt] w R := by
  refine sh97_ok _ ?_
  unfold sh97
  have := htT_le t
  exact do_call Tryz.call178 (c_see t (d := 0) (l := []) (ext_refl w) ht (ownB_nil _ _) (by omega) (by omega) fun p n c w1 hr e1 => retS_ret ⟨_, _, _, _, rfl, h _ _ _ _ hr e1⟩)
end Go.Proofs.YtlddfgfmkapoiaaGreat

namespace Go.Proofs.YtlddfgfmkapoiaaGreat
open Go Go.Sh Go.RowKit

theorem bd_eq {x y : Bd} : (((x.key : Int) == y.key) && (((x.val : Int) == y.val) && (((x.sum : Int) == y.sum) && (((x.size : Int) == y.size) && (((x.tag : Int) == y.tag) && ((x.left == y.left) && ((x.right == y.right) && true))))))) = decide (x = y) := by
  obtain ⟨a1, a2, a3, a4, a5, a6, a7⟩ := x
  obtain ⟨b1, b2, b3, b4, b5, b6, b7⟩ := y
  rw [Bool.eq_iff_iff]
  simp only [Bool.and_eq_true, beq_iff_eq, Bool.and_true, decide_eq_true_eq, Bd.mk.injEq]
set_option maxRecDepth 20000 in
theorem c_r9sameB {l : List Bd} {q q' : Option Addr} {n c n' c' : Nat} {w : World} {R : Ending → World → Prop} (hl : Cs w q (bds l)) (hn : l.length = n) (hr : Cs w q' (bds l)) (hn' : l.length = n') (hm : n ≤ 1000000000000)
    (h : ∀ w', Ext w w' → R (.returned (.bool true)) w') : Calls Tryz.prog 53 #[.slice q n c, .slice q' n' c'] w R := by
  refine sh53_ok _ _ _ _ _ _ ?_
  unfold sh53
  refine ifB_f (by simp; omega) ?_
  refine ⟨fun vs w' => ∃ k : Nat, vs = [.int .i64 k] ∧ k ≤ n ∧ Ext w w', fun vs _ => n - (intOf (vs.getD 0 undef)).toNat, ⟨0, rfl, by omega, ext_refl w⟩, ?_⟩
  rintro i _ w2 ⟨k, hv, hkn, E⟩
  simp only [List.cons.injEq, Value.int.injEq, true_and, and_true] at hv
  subst hv
  refine ifB_intro (fun hlt => ?_) fun hge => h w2 E
  have hlt : k < n := by have := of_decide_eq_true hlt; omega
  refine ⟨⟨fun w' => Ext w2 w', ext_drew _, ?_⟩⟩
  refine ix_flatC ecB_len (by omega) (C := fun w' => Ext w2 w') (fun w' e => (hl.ext E).ext e) (ext_refl _) hn rfl hlt fun a r => ?_
  refine ⟨_, fun w' e => r w' e 0 _ rfl, _, fun w' e => r w' e 1 _ rfl, _, fun w' e => r w' e 2 _ rfl, _, fun w' e => r w' e 3 _ rfl, _, fun w' e => r w' e 4 _ rfl, _, fun w' e => r w' e 5 _ rfl, _, fun w' e => r w' e 6 _ rfl, ?_⟩
  refine ix_flatC ecB_len (by omega) (C := fun w' => Ext w2 w') (fun w' e => (hr.ext E).ext e) (ext_refl _) hn' rfl (by omega) fun a' r' => ?_
  refine ⟨_, fun w' e => r' w' e 0 _ rfl, _, fun w' e => r' w' e 1 _ rfl, _, fun w' e => r' w' e 2 _ rfl, _, fun w' e => r' w' e 3 _ rfl, _, fun w' e => r' w' e 4 _ rfl, _, fun w' e => r' w' e 5 _ rfl, _, fun w' e => r' w' e 6 _ rfl, ?_⟩
  rw [bd_eq]
  refine ifB_f (by simp) ⟨⟨k + 1, by rw [wrap_succ hlt (by omega)], by omega, E.drew⟩, ?_⟩
  rw [wrap_succ hlt (by omega)]; simp [intOf]; omega
/-! ### tags that fit -/
abbrev TagI (l : List It) : Prop := ∀ x ∈ l, 0 ≤ x.2.2 ∧ x.2.2 < 18446744073709551616
theorem tagB_of {c : Int} : ∀ {t : Tr}, OkP c t → t.size ≤ 5000 → TagI (itsC c t) → TagB (btT t)
  | .nil, _, _, _ => fun x hx => by simp [btT, BT.beads] at hx
  | .node l k v g r, h, hs, hT => by
    have hsz : (Tr.node l k v g r).size = l.size + 1 + r.size := rfl
    rw [itsC_node] at hT
    have IL := tagB_of h.sides.1 (by omega) fun x hx => hT x (List.mem_append_left _ hx)
    have IR := tagB_of h.sides.2 (by omega) fun x hx => hT x (List.mem_append_right _ (List.mem_cons_of_mem _ hx))
    have hg : 0 ≤ g ∧ g < 18446744073709551616 := by
      rcases h with ⟨e, h⟩ | ⟨e, h⟩ | ⟨e, h⟩ | ⟨e, h⟩
      · have := h.tag; simp only [Tr.tag] at this; omega
      · have := h.tg (by simp only [BIG]; omega); simp only [TgR, Tr.tag] at this; omega
      · have := h.2.2.1; omega
      · have := hT (itC c (k, v, g)) (by simp)
        unfold itC at this
        rw [if_pos e] at this
        exact this
    intro x hx
    simp only [btT, BT.beads, List.mem_cons, List.mem_append] at hx
    rcases hx with rfl | hx | hx
    · exact hg
    · exact IL x hx
    · exact IR x hx
set_option maxRecDepth 20000 in
/-- may a tree be, and has it just these items? -/
theorem c_r22has {cd : Int} {t : Tr} {L : List It} {q q' : Option Addr} {n c n' c' : Nat} {w : World} {R : Ending → World → Prop} (hok : OkM cd t) (hT : TagI (itsC cd t)) (hL : L.map (itC cd) = itsC cd t)
    (hl : Cs w q (bds (btT t).beads)) (hn : t.size = n) (hnc : n ≤ c) (hm : n ≤ 5000) (hq : Cs w q' (its L)) (hn' : L.length = n') (h : ∀ w', Ext w w' → R (.returned (.bool true)) w') : Calls Tryz.prog 98 #[.int .u8 cd, .slice q n c, .slice q' n' c'] w R := by
  refine sh98_ok _ _ _ _ _ _ _ ?_
  unfold sh98
  have hTB := tagB_of hok.1 (by omega) hT
  have hbn : (btT t).size = n := by rw [btT_size]; exact hn
  intro K10
  refine do_call Tryz.call179 (c_r22may hok.1.s hl hbn hnc (btT_wf t) hm hTB fun b w1 e1 hb => retS_ret ⟨_, rfl, ?_⟩)
  rw [btT_tr] at hb
  obtain rfl : b = true := hb.2 hok
  refine ifB_f rfl (do_call Tryz.call47 (c_r9of (btT t) (hl.ext e1) hbn hnc (btT_wf t) hm fun p2 n2 c2 w2 h2 e2 => retS_ret ⟨_, _, _, rfl, ?_⟩))
  rw [btT_of] at h2
  have hn2 := ownB_len h2
  have E2 := e1.trans e2
  refine do_call Tryz.call53 (c_r9sameB (hl.ext E2) hbn (ownB_cs h2) hn2 (by omega) fun w3 e3 => retS_ret ⟨_, rfl, ?_⟩)
  have E3 := E2.trans e3
  refine ifB_f rfl (do_call Tryz.call40 (c_r22items (cd := cd) (hl.ext E3) hbn hnc (btT_wf t) hm fun p4 n4 c4 w4 h4 e4 => retS_ret ⟨_, _, _, rfl, ?_⟩))
  rw [btT_tr] at h4
  have E4 := E3.trans e4
  have hn4 := ownI_len h4
  have hlen : (itsC cd t).length = L.length := by rw [← hL]; simp
  have h4c := ownI_cs h4
  have hqc := hq.ext E4
  refine ifB_f (by simp; omega) ?_
  refine ⟨fun vs w' => ∃ k : Nat, vs = [.int .i64 k] ∧ k ≤ n' ∧ Ext w4 w', fun vs _ => n' - (intOf (vs.getD 0 undef)).toNat, ⟨0, rfl, by omega, ext_refl _⟩, ?_⟩
  rintro i _ w5 ⟨k, hv, hkn, E⟩
  simp only [List.cons.injEq, Value.int.injEq, true_and, and_true] at hv
  subst hv
  refine ifB_intro (fun hlt => ?_) fun hge => h w5 (E4.trans E)
  have hlt : k < n' := by have := of_decide_eq_true hlt; omega
  intro K22 K25
  have d := ext_drew w5
  have hK22 : K22 w5.drew := by
    refine ⟨⟨k + 1, by rw [wrap_succ hlt (by have := ownI_len h4; have := itsC_len cd t; omega)], by omega, E.drew⟩, ?_⟩
    rw [wrap_succ hlt (by have := ownI_len h4; have := itsC_len cd t; omega)]; simp [intOf]; omega
  have hx : (itsC cd t)[k]'(by omega) = itC cd (L[k]'(by omega)) := by
    have : (itsC cd t)[k]'(by omega) = (L.map (itC cd))[k]'(by simp; omega) := by simp only [hL]
    rw [this, List.getElem_map]
  have kx : ((itsC cd t)[k]'(by omega)).1 = (L[k]'(by omega)).1 := by rw [hx, itC_key]
  have vx : ((itsC cd t)[k]'(by omega)).2.1 = (L[k]'(by omega)).2.1 := by rw [hx, itC_val]
  refine ⟨⟨fun w' => Ext w5 w', d, ?_⟩⟩
  have h4' : ∀ w', Ext w5 w' → Cs w' p4 (its (itsC cd t)) := fun w' e => (h4c.ext E).ext e
  have hq' : ∀ w', Ext w5 w' → Cs w' q' (its L) := fun w' e => (hqc.ext E).ext e
  refine ix_flatC ecI_len (by omega) (C := fun w' => Ext w5 w') h4' (ext_refl _) hn4 rfl (by omega) fun a1 r1 => ⟨_, fun w' e => r1 w' e 0 _ rfl, ?_⟩
  refine ix_flatC ecI_len (by omega) (C := fun w' => Ext w5 w') hq' (ext_refl _) hn' rfl hlt fun a2 r2 => ⟨_, fun w' e => r2 w' e 0 _ rfl, ifB_f (by simp [kx]) ?_⟩
  refine ix_flatC ecI_len (by omega) (C := fun w' => Ext w5 w') h4' (ext_refl _) hn4 rfl (by omega) fun a3 r3 => ⟨_, fun w' e => r3 w' e 1 _ rfl, ?_⟩
  refine ix_flatC ecI_len (by omega) (C := fun w' => Ext w5 w') hq' (ext_refl _) hn' rfl hlt fun a4 r4 => ⟨_, fun w' e => r4 w' e 1 _ rfl, ifB_f (by simp [vx]) ?_⟩
  refine ifB_intro (fun h4c => ?_) fun _ => hK22
  have h4c : cd = 4 := by simpa using h4c
  have gx : ((itsC cd t)[k]'(by omega)).2.2 = (L[k]'(by omega)).2.2 := by rw [hx]; unfold itC; rw [if_pos h4c]
  refine ix_flatC ecI_len (by omega) (C := fun w' => Ext w5 w') h4' (ext_refl _) hn4 rfl (by omega) fun a5 r5 => ⟨_, fun w' e => r5 w' e 2 _ rfl, ?_⟩
  refine ix_flatC ecI_len (by omega) (C := fun w' => Ext w5 w') hq' (ext_refl _) hn' rfl hlt fun a6 r6 => ⟨_, fun w' e => r6 w' e 2 _ rfl, ifB_f (by simp [gx]) hK22⟩
theorem c_has {cd : Int} {t : Tr} {L : List It} {pt q' : Option Addr} {n' c' : Nat} {w : World} {R : Ending → World → Prop} (hok : OkM cd t) (hT : TagI (itsC cd t)) (hL : L.map (itC cd) = itsC cd t) (ht : IsN w pt t) (hs : t.size ≤ 2000)
    (hq : Cs w q' (its L)) (hn' : L.length = n') (h : ∀ w', Ext w w' → R (.returned (.bool true)) w') : Calls Tryz.prog 27 #[.int .u8 cd, .pointer pt, .slice q' n' c'] w R := by
  refine sh27_ok _ _ _ _ _ ?_
  unfold sh27
  refine do_call Tryz.call97 (c_See ht hs fun p n c w1 h1 e1 => retS_ret ⟨_, _, _, _, rfl, ?_⟩)
  intro K14
  have hn := ownB_len h1
  have hz := btT_size t
  exact ifB_t rfl (do_call Tryz.call98 (c_r22has hok hT hL (ownB_cs h1) (by rw [← hz]; exact hn) (row_cap h1) (by rw [← hn]; show (btT t).size ≤ _; omega) (hq.ext e1) hn' fun w2 e2 => retS_ret ⟨_, rfl, h _ (e1.trans e2)⟩))
theorem c_is {t : Tr} {pt q' : Option Addr} {n' c' : Nat} {w : World} {R : Ending → World → Prop} (ht : IsN w pt t) (hs : t.size ≤ 2000) (hq : Cs w q' (bds (btT t).beads)) (hn' : t.size = n')
    (h : ∀ w', Ext w w' → R (.returned (.bool true)) w') : Calls Tryz.prog 46 #[.pointer pt, .slice q' n' c'] w R := by
  refine sh46_ok _ _ _ _ ?_
  unfold sh46
  refine do_call Tryz.call97 (c_See ht hs fun p n c w1 h1 e1 => retS_ret ⟨_, _, _, _, rfl, ?_⟩)
  intro K13
  have hn := ownB_len h1
  have hz := btT_size t
  exact ifB_t rfl (do_call Tryz.call53 (c_r9sameB (ownB_cs h1) hn (hq.ext e1) (by rw [← hn']; exact hz) (by rw [← hn]; show (btT t).size ≤ _; omega) fun w2 e2 => retS_ret ⟨_, rfl, h _ (e1.trans e2)⟩))
/-! ### layer 12 -/
end Go.Proofs.YtlddfgfmkapoiaaGreat

namespace Go.Proofs.YtlddfgfmkapoiaaGreat
open Go Go.Sh Go.RowKit

/-- append, and where the row then lies -/
theorem do_appI {base : Nat} {v : Value} {n : Nat} {xs : List Value} {w : World}
    (hown : w.ownsRow base 114 3 v n xs) {ad : Addr} {m c : Nat} {news : List Value} (hnews : Cs w (some ad) news) (hl : news.length = m * 3) (h1 : ∀ u ∈ news, u.oneCell' = true) (hm0 : 0 < m)
    (h63 : n + m ≤ maxLen) (hbytes : (n + m) * 24 ≤ 140737488355328) (hbase : base ≤ w.heap.size) {bs : Array Bool} {R : Ending → World → Prop}
    (h : ∀ p c w', w'.ownsRow base 114 3 (.slice p (n + m) c) (n + m) (xs ++ news) → w.grownBy w' v.ownBlock → ((Value.slice p (n + m) c).ownBlock = v.ownBlock ∨ (Value.slice p (n + m) c).ownBlock = some w.heap.size) → R (.returned (.slice p (n + m) c)) w') :
    doGo Tryz.prog (.builtin .append #[40, 40] 40 bs) #[v, .slice (some ad) m c] w R := by
  obtain ⟨i, hi, hz, hsz, hby⟩ := elIt.hi
  have hnews' : ∀ j u, news[j]? = some u → w.cell? (ad.add j) = some u := fun j u hu => by obtain ⟨a, ha, hc⟩ := hnews j u hu; cases ha; exact hc
  obtain ⟨v', w', hr, h2, h3, _⟩ := run_append_own (P := Tryz.prog) w base _ _ _ i _ 3 24 elIt.ht hi hz hsz hby elIt.hz elIt.hs v n xs hown ad m c news hl hnews' h1 h63 hbytes hbase
  obtain ⟨p, c', rfl⟩ := row_slice h2
  refine goV_append hr (h p c' w' h2 h3 ?_)
  have hmax : n + m ≤ 9223372036854775807 := by simp only [maxLen] at h63; omega
  rcases hown.2 with ⟨rfl, rfl⟩ | ⟨g, cap, cur, rfl, hbg, hg, hnc, hcm, hcs, htake⟩
  · have := run_append_nil (P := Tryz.prog) w 40 40 114 i _ elIt.ht hi hz ad m c news (by rw [hsz]; exact hl) hnews' hm0 (by omega) (by rw [hby]; omega)
    rw [this] at hr
    injection hr with hr1 _
    right; rw [← hr1]; rfl
  · by_cases hroom : n + m ≤ cap
    · have := run_append_room (P := Tryz.prog) w 40 40 114 i elIt.ht hi g n cap cur hg ad m c news (by rw [hsz]; exact hl) hnews' h1 hroom (by rw [hl, hcs, hsz, ← Nat.add_mul]; exact Nat.mul_le_mul_right _ hroom)
      rw [this] at hr
      injection hr with hr1 _
      left; rw [← hr1]; rfl
    · have := run_append_grow (P := Tryz.prog) w 40 40 114 i _ elIt.ht hi hz ⟨g, 0, none⟩ n cap xs (by rw [hsz]; exact hown.1) (hown.cells (g := g) rfl) ad m c news (by rw [hsz]; exact hl) hnews' (by omega) (by omega) (growslice_fits (by omega) (by rw [hby]; exact hbytes))
      rw [this] at hr
      injection hr with hr1 _
      right; rw [← hr1]; rfl
/-- one item more to a row of one's own -/
theorem do_app1I {q : Option Addr} {n c base : Nat} {r : List It} {w : World} (hrow : OwnI w base q n c r) (hn : n ≤ 1000000000000) (hb : base ≤ w.heap.size) {x : It} {Kf : Value → World → Prop} {F : List PanicEntry → World → Prop}
    (k : ∀ q' c' w', OwnI w' base q' (n + 1) c' (r ++ [x]) → (∀ w0, Ext w0 w → w0.heap.size ≤ base → Ext w0 w') → w.grownBy w' (Value.slice q n c).ownBlock →
      ((Value.slice q' (n + 1) c').ownBlock = (Value.slice q n c).ownBlock ∨ ∀ k, (Value.slice q' (n + 1) c').ownBlock = some k → w.heap.size ≤ k) → Kf (.slice q' (n + 1) c') w') :
    doAl (.cells #[.int .i64 x.1, .int .i64 x.2.1, .int .u64 x.2.2] 114) w (fun b w2 => doGo Tryz.prog (.builtin .append #[40, 40] 40 #[false, false]) #[.slice q n c, .slice (some (blk b)) 1 1] w2 (retS Kf F)) := by
  refine ⟨?_⟩
  have e1 := ext_alloc w (.cells #[.int .i64 x.1, .int .i64 x.2.1, .int .u64 x.2.2] 114)
  have hrow1 := e1.row hrow
  have hcs : Cs (w.alloc (.cells #[.int .i64 x.1, .int .i64 x.2.1, .int .u64 x.2.2] 114)) (some (blk w.heap.size)) (its [x]) := cs_it (blk_alloc w _ _)
  refine do_appI hrow1 (m := 1) hcs (by rw [its_length]; rfl) its_one (by omega) (by simp only [maxLen]; omega) (by omega) (Nat.le_trans hb e1.size) fun p' c' w' h2 g2 hor => retS_ret (k p' c' w' ?_ ?_ ?_ ?_)
  · show w'.ownsRow _ _ _ _ _ (its _); rw [its_append]; exact h2
  · intro w0 e0 hb0
    exact extI_own hrow1 (e0.trans e1) g2 hb0
  · have ga : w.grownBy (w.alloc (.cells #[.int .i64 x.1, .int .i64 x.2.1, .int .u64 x.2.2] 114)) (Value.slice q n c).ownBlock := World.grownBy_alloc _ _ _
    exact grown_trans ga g2
  · rcases hor with h | h
    · exact .inl h
    · right; intro k hk; rw [h] at hk; cases hk; exact e1.size
/-- two rows of one's own, apart -/
def TwoI (w : World) (base : Nat) (p : Option Addr) (n c : Nat) (l : List It) (p' : Option Addr) (n' c' : Nat) (l' : List It) : Prop :=
  OwnI w base p n c l ∧ OwnI w base p' n' c' l' ∧ ((Value.slice p' n' c').ownBlock = none ∨ (Value.slice p' n' c').ownBlock ≠ (Value.slice p n c).ownBlock)
theorem TwoI.ext {w w' : World} {base : Nat} {p : Option Addr} {n c : Nat} {l : List It} {p' : Option Addr} {n' c' : Nat} {l' : List It} (h : TwoI w base p n c l p' n' c' l') (e : Ext w w') : TwoI w' base p n c l p' n' c' l' :=
  ⟨e.row h.1, e.row h.2.1, h.2.2⟩
abbrev InI (l : List It) : Prop := ∀ x ∈ l, In x.1
end Go.Proofs.YtlddfgfmkapoiaaGreat

namespace Go.Proofs.YtlddfgfmkapoiaaGreat
open Go Go.Sh Go.RowKit

theorem Ext.gs {b : Nat} {w w1 w2 : World} (e : Ext w w1) (g : Gs b w1 w2) (hb : w.heap.size ≤ b) : Ext w w2 := Go.Sh.Ext.st e g hb
theorem c_r22is {c : Int} {w : World} {R : Ending → World → Prop} (h : R (.returned (.bool (isS c))) w) : Calls Tryz.prog 18 #[.int .u8 c] w R := by
  refine sh18_ok _ ?_
  unfold sh18
  intro K4
  unfold isS at h
  refine ifB_intro (fun h1 => ?_) fun h1 => ?_
  · have h1 := of_decide_eq_true h1
    have : decide (1 ≤ c ∧ c ≤ 4) = decide (c ≤ 4) := decide_eq_decide.2 (by omega)
    rw [this] at h
    exact h
  · have h1 := of_decide_eq_false h1
    have : decide (1 ≤ c ∧ c ≤ 4) = false := decide_eq_false (by omega)
    rw [this] at h
    exact h
/-! ### plain -/
theorem inK_all {t : Tr} (h : ∀ x ∈ t.pairs, In x.1) : InK t := by
  induction t with
  | nil => trivial
  | node l k v g r ihl ihr => exact ⟨ihl fun x hx => h x (by simp [Tr.pairs, hx]), h (k, v) (by simp [Tr.pairs]), ihr fun x hx => h x (by simp [Tr.pairs, hx])⟩
/-- numbers of beads that fit -/
structure FitB (t : BT) : Prop where
  key : ∀ x ∈ t.beads, In x.key
  val : ∀ x ∈ t.beads, In x.val
  tag : TagB t
theorem FitB.inK {t : BT} (h : FitB t) : InK t.tr := inK_all fun x hx => by
  obtain ⟨b, hb, rfl⟩ := BT.tr_mem hx
  exact h.key b hb
/-! ### the chapter's examples -/
end Go.Proofs.YtlddfgfmkapoiaaGreat

namespace Go.Proofs.YtlddfgfmkapoiaaGreat
open Go Go.Sh Go.RowKit

/-! ### trees of rows -/
def bldC (c : Int) (l : List It) : Tr :=
  if h : 0 < l.length then joinC c (bldC c (l.take (l.length / 2))) (l[l.length / 2]'(by omega)) (bldC c (l.drop (l.length / 2 + 1))) else .nil
termination_by l.length
decreasing_by
  · simp only [List.length_take]; omega
  · simp only [List.length_drop]; omega
theorem bldC_nil (c : Int) : bldC c [] = .nil := by rw [bldC]; rfl
theorem bldC_eq {c : Int} {l : List It} (h : 0 < l.length) : bldC c l = joinC c (bldC c (l.take (l.length / 2))) (l[l.length / 2]'(by omega)) (bldC c (l.drop (l.length / 2 + 1))) := by
  rw [bldC, dif_pos h]
theorem bldC_okn {c : Int} (hs : isS c = true) : ∀ (n : Nat) (l : List It), l.length ≤ n → OkM c (bldC c l) ∧ itsC c (bldC c l) = l.map (itC c)
  | 0, l, h => by
    have : l = [] := List.eq_nil_of_length_eq_zero (by omega)
    subst this
    rw [bldC_nil]
    exact ⟨OkM.nil hs, rfl⟩
  | n + 1, l, h => by
    by_cases h0 : 0 < l.length
    · rw [bldC_eq h0]
      have a := bldC_okn hs n (l.take (l.length / 2)) (by simp only [List.length_take]; omega)
      have b := bldC_okn hs n (l.drop (l.length / 2 + 1)) (by simp only [List.length_drop]; omega)
      have j := joinC_ok a.1.1 b.1.1 (l[l.length / 2]'(by omega))
      refine ⟨j.1, ?_⟩
      rw [j.2, a.2, b.2, ← List.map_cons, ← List.map_append, ← List.drop_eq_getElem_cons, List.take_append_drop]
    · have : l = [] := List.eq_nil_of_length_eq_zero (by omega)
      subst this
      rw [bldC_nil]
      exact ⟨OkM.nil hs, rfl⟩
theorem bldC_ok {c : Int} (hs : isS c = true) (l : List It) : OkM c (bldC c l) ∧ itsC c (bldC c l) = l.map (itC c) := bldC_okn hs l.length l (Nat.le_refl _)
theorem bldC_size {c : Int} (hs : isS c = true) (l : List It) : (bldC c l).size = l.length := by rw [← itsC_len c, (bldC_ok hs l).2, List.length_map]
/-! ### numbers that are drawn -/
/-- what a key is drawn, of numbers -/
def mixK (key : Int) : Int := U (mixB (BitVec.ofInt 64 key + 0x9e3779b97f4a7c15#64))
def headD (ds : List Int) (key : Int) : Int := ds.headD (mixK key)
def drawL : List Int → List Pr → List It
  | _, [] => []
  | ds, x :: t => (x.1, x.2, headD ds x.1) :: drawL ds.tail t
theorem drawL_len : ∀ (ds : List Int) (l : List Pr), (drawL ds l).length = l.length
  | _, [] => rfl
  | ds, x :: t => by simp [drawL, drawL_len ds.tail t]
theorem drawL_snoc : ∀ (ds : List Int) (l : List Pr) (x : Pr), drawL ds (l ++ [x]) = drawL ds l ++ [(x.1, x.2, headD (ds.drop l.length) x.1)]
  | ds, [], x => by simp [drawL]
  | ds, y :: t, x => by
    show _ :: drawL ds.tail (t ++ [x]) = _
    rw [drawL_snoc]
    simp only [drawL, List.cons_append, List.length_cons]
    cases ds with
    | nil => simp
    | cons d ds => simp
def zeroL (l : List Pr) : List It := l.map fun x => (x.1, x.2, 0)
def tagL (c : Int) (ds : List Int) (l : List Pr) : List It := if c = 4 then drawL ds l else zeroL l
def restL (c : Int) (ds : List Int) (l : List Pr) : List Int := if c = 4 then ds.drop l.length else ds
theorem tagL_len (c : Int) (ds : List Int) (l : List Pr) : (tagL c ds l).length = l.length := by
  unfold tagL; split
  · exact drawL_len _ _
  · simp [zeroL]
theorem tagL_nil (c : Int) (ds : List Int) : tagL c ds [] = [] := by unfold tagL; split <;> rfl
theorem tagL_snoc (c : Int) (ds : List Int) (l : List Pr) (x : Pr) : tagL c ds (l ++ [x]) = tagL c ds l ++ [(x.1, x.2, if c = 4 then headD (restL c ds l) x.1 else 0)] := by
  unfold tagL restL; split
  · exact drawL_snoc _ _ _
  · simp [zeroL]
theorem tagL_take {c : Int} {ds : List Int} {l : List Pr} {i : Nat} (hi : i < l.length) : tagL c ds (l.take (i + 1)) = tagL c ds (l.take i) ++ [(l[i].1, l[i].2, if c = 4 then headD (restL c ds (l.take i)) l[i].1 else 0)] := by
  rw [show l.take (i + 1) = l.take i ++ [l[i]] from (List.take_append_getElem hi).symm, tagL_snoc]
theorem restL_take {c : Int} {ds : List Int} {l : List Pr} {i : Nat} (hi : i < l.length) : restL c ds (l.take (i + 1)) = if c = 4 then (restL c ds (l.take i)).tail else restL c ds (l.take i) := by
  unfold restL; split
  · rw [List.length_take, List.length_take, Nat.min_eq_left (by omega), Nat.min_eq_left (by omega), List.tail_drop]
  · rfl
abbrev InU (l : List Int) : Prop := ∀ x ∈ l, 0 ≤ x ∧ x < 18446744073709551616
theorem InU.tail {ds : List Int} (h : InU ds) : InU ds.tail := fun x hx => h x (List.mem_of_mem_tail hx)
theorem InU.drop {ds : List Int} (h : InU ds) (k : Nat) : InU (ds.drop k) := fun x hx => h x (List.mem_of_mem_drop hx)
theorem drawL_prs : ∀ (ds : List Int) (l : List Pr), (drawL ds l).map (fun x => (x.1, x.2.1)) = l
  | _, [] => rfl
  | ds, x :: t => by simp [drawL, drawL_prs ds.tail t]
theorem tagL_prs (c : Int) (ds : List Int) (l : List Pr) : (tagL c ds l).map (fun x => (x.1, x.2.1)) = l := by
  unfold tagL; split
  · exact drawL_prs ds l
  · unfold zeroL
    rw [List.map_map]
    have : l.map ((fun x : It => (x.1, x.2.1)) ∘ fun x : Pr => (x.1, x.2, 0)) = l.map id := List.map_congr_left fun x _ => rfl
    rw [this, List.map_id]
theorem tagL_fix {c : Int} {ds : List Int} {l : List Pr} : (tagL c ds l).map (itC c) = tagL c ds l := by
  unfold tagL; split
  · have : (drawL ds l).map (itC c) = (drawL ds l).map id := List.map_congr_left fun x _ => by unfold itC; rw [if_pos (by assumption)]; rfl
    rw [this, List.map_id]
  · have : (zeroL l).map (itC c) = (zeroL l).map id := List.map_congr_left fun x hx => by
      obtain ⟨y, _, rfl⟩ := List.mem_map.1 hx
      unfold itC; rw [if_neg (by assumption)]; rfl
    rw [this, List.map_id]
theorem bldC_its {c : Int} {ds : List Int} {l : List Pr} (hs : isS c = true) : itsC c (bldC c (tagL c ds l)) = tagL c ds l := by rw [(bldC_ok hs _).2, tagL_fix]
/-! ### the frame -/
/-- all blocks that were there are as they were, but for some -/
def Gd (S : List Nat) (w w' : World) : Prop := w'.os = w.os ∧ w'.tape = w.tape ∧ w'.output = w.output ∧ w.heap.size ≤ w'.heap.size ∧ ∀ k, k < w.heap.size → k ∉ S → w'.heap[k]? = w.heap[k]?
theorem gd_of {S : List Nat} {w w' : World} (e : Ext w w') : Gd S w w' := ⟨e.os, e.tape, e.output, e.size, fun k hk _ => e.block k hk⟩
theorem gd_gs {S : List Nat} {b : Nat} {w w' : World} (g : Gs b w w') (hb : b ∈ S) : Gd S w w' := ⟨g.os, g.tape, g.output, World.grownBy.size g, fun k hk hn => g.block k hk (ne_some fun e => hn (by rw [e]; exact hb))⟩
theorem gd_refl (S : List Nat) (w : World) : Gd S w w := ⟨rfl, rfl, rfl, Nat.le_refl _, fun _ _ _ => rfl⟩
theorem Gd.size {S : List Nat} {w w' : World} (g : Gd S w w') : w.heap.size ≤ w'.heap.size := g.2.2.2.1
theorem Gd.trans {S : List Nat} {x y z : World} (g : Gd S x y) (k : Gd S y z) : Gd S x z :=
  ⟨k.1.trans g.1, k.2.1.trans g.2.1, k.2.2.1.trans g.2.2.1, Nat.le_trans g.size k.size, fun i hi hn => (k.2.2.2.2 i (Nat.lt_of_lt_of_le hi g.size) hn).trans (g.2.2.2.2 i hi hn)⟩
theorem Gd.mono {S T : List Nat} {x y : World} (g : Gd S x y) (h : ∀ k ∈ S, k ∈ T) : Gd T x y := ⟨g.1, g.2.1, g.2.2.1, g.2.2.2.1, fun i hi hn => g.2.2.2.2 i hi fun q => hn (h i q)⟩
theorem Gd.st {S : List Nat} {k : Nat} {w0 w1 w2 : World} (g : Gd S w0 w1) (q : w1.grownBy w2 (some k)) (hk : w0.heap.size ≤ k ∨ k ∈ S) : Gd S w0 w2 :=
  ⟨q.os.trans g.1, q.tape.trans g.2.1, q.output.trans g.2.2.1, Nat.le_trans g.size (World.grownBy.size q), fun i hi hn => (q.block i (Nat.lt_of_lt_of_le hi g.size) (ne_some fun e => by
    rcases hk with hk | hk
    · omega
    · exact hn (by rw [e]; exact hk))).trans (g.2.2.2.2 i hi hn)⟩
theorem Ext.gd {S : List Nat} {w w1 w2 : World} (e : Ext w w1) (g : Gd S w1 w2) (h : ∀ k ∈ S, w.heap.size ≤ k) : Ext w w2 :=
  ⟨g.1.trans e.os, g.2.1.trans e.tape, g.2.2.1.trans e.output, Nat.le_trans e.size g.size, fun i hi => (g.2.2.2.2 i (Nat.lt_of_lt_of_le hi e.size) fun q => by have := h i q; omega).trans (e.block i hi)⟩
theorem _root_.Go.Sh.Blk.gd {S : List Nat} {k : Nat} {w w' : World} {cs : Array Value} {ty : TypeId} (h : Blk w k cs ty) (g : Gd S w w') (hk : k ∉ S) : Blk w' k cs ty := by
  have := g.2.2.2.2 k h.lt hk
  unfold Blk at h ⊢
  rw [this]; exact h
theorem IsSch.gd {S : List Nat} {c : Int} {b : Nat} {w w' : World} (h : IsSch c b w) (g : Gd S w w') (hb : b ∉ S) : IsSch c b w' := by
  obtain ⟨hss, ⟨j, h⟩ | ⟨j, h⟩⟩ := h
  · exact ⟨hss, .inl ⟨j, h.gd g hb⟩⟩
  · exact ⟨hss, .inr ⟨j, h.gd g hb⟩⟩
/-- what is changed is no node -/
def Oth (S : List Nat) (w : World) : Prop := ∀ k ∈ S, ∀ cs, ¬ Blk w k cs 249
theorem oth_blk {w : World} {k : Nat} {cs : Array Value} {t : TypeId} (h : Blk w k cs t) (ht : t ≠ 249) : ∀ cs', ¬ Blk w k cs' 249 := fun _ h' => ht (blk_fun h h')
theorem _root_.Go.Sh.IsT.gd {S : List Nat} {w w' : World} {p : Option Addr} {t : Tr} (h : IsN w p t) (o : Oth S w) (g : Gd S w w') : IsN w' p t := by
  induction t generalizing p with
  | nil => exact h
  | node l k v gg r ihl ihr =>
    obtain ⟨b', pl, pr, hp, hb, hl, hr⟩ := h
    exact ⟨b', pl, pr, hp, hb.gd g (fun hm => o b' hm _ hb), ihl hl, ihr hr⟩
theorem IsSch.oth {c : Int} {b : Nat} {w : World} (h : IsSch c b w) : ∀ cs, ¬ Blk w b cs 249 := by
  rcases h.2 with ⟨j, h⟩ | ⟨j, h⟩
  · exact oth_blk h (by decide)
  · exact oth_blk h (by decide)
theorem heap_gd {S : List Nat} {k : Nat} {w w' : World} {o : Obj} (h : w.heap[k]? = some o) (g : Gd S w w') (hk : k ∉ S) : w'.heap[k]? = some o := by
  rw [g.2.2.2.2 k (Array.getElem?_eq_some_iff.1 h).1 hk]; exact h
theorem cell_gd {S : List Nat} {p : Addr} {v : Value} {w w' : World} (h : w.cell? p = some v) (g : Gd S w w') (hk : p.block ∉ S) : w'.cell? p = some v := by
  have := g.2.2.2.2 p.block (World.block_lt_of_cell? w p h) hk
  have e : w'.cell? p = w.cell? p := by unfold World.cell?; rw [this]
  rw [e]; exact h
theorem cs_gd {S : List Nat} {q : Option Addr} {vs : List Value} {w w' : World} (h : Cs w q vs) (g : Gd S w w') (hk : ∀ a, q = some a → a.block ∉ S) : Cs w' q vs := fun i v hv => by
  obtain ⟨a, ha, hc⟩ := h i v hv
  exact ⟨a, ha, cell_gd hc g (by rw [add_block]; exact hk a ha)⟩
/-- a row of one's own, that is none of what is changed -/
theorem row_gd {S : List Nat} {w w' : World} {base ty s n : Nat} {v : Value} {xs : List Value} (h : w.ownsRow base ty s v n xs) (g : Gd S w w') (hb : ∀ k ∈ S, k < base) : w'.ownsRow base ty s v n xs := by
  refine ⟨h.1, ?_⟩
  rcases h.2 with q | ⟨b, cap, cur, hv, hbb, hblk, rest⟩
  · exact .inl q
  · refine .inr ⟨b, cap, cur, hv, hbb, ?_, rest⟩
    have hlt : b < w.heap.size := (World.ownsRow.lt h b (by rw [hv]; rfl)).2
    rw [g.2.2.2.2 b hlt fun hm => by have := hb b hm; omega]
    exact hblk
end Go.Proofs.YtlddfgfmkapoiaaGreat

namespace Go.Proofs.YtlddfgfmkapoiaaGreat
open Go Go.Sh Go.RowKit

abbrev u64s (l : List Int) : List Value := l.flatMap fun x => [.int .u64 x]
theorem u64_len (x : Int) : ([.int .u64 x] : List Value).length = 1 := rfl
theorem u64s_length (l : List Int) : (u64s l).length = l.length := by rw [flat_length u64_len]; omega
theorem u64s_one {l : List Int} : ∀ u ∈ u64s l, u.oneCell' = true := fun u hu => by
  obtain ⟨x, _, hx⟩ := List.mem_flatMap.1 hu
  simp only [List.mem_singleton] at hx
  subst hx; rfl
set_option maxRecDepth 100000 in
theorem elU : ElT Tryz.prog 23 75 (.int .u64 0) 1 8 := ⟨Tryz.underlying23, ⟨_, Tryz.type75, by kernel_rfl, by kernel_rfl, by kernel_rfl⟩, rfl, by omega⟩
theorem cs_u64_nil {w : World} {q : Option Addr} {l : List Int} (h : Cs w q (u64s l)) (hq : q = none) : l = [] := by
  cases l with
  | nil => rfl
  | cons x xs => obtain ⟨a, ha, _⟩ := h 0 (.int .u64 x) rfl; rw [hq] at ha; cases ha
theorem mixOf_eq (key : Int) : IntKind.wrap .u64 (IntKind.wrap .u64 key + 11400714819323198485) = U (BitVec.ofInt 64 key + 0x9e3779b97f4a7c15#64) := by
  rw [wrap_U key, show (11400714819323198485 : Int) = U 0x9e3779b97f4a7c15#64 from rfl, add_U]
theorem c_mixof {key : Int} {w : World} {R : Ending → World → Prop} (h : ∀ w', Ext w w' → R (.returned (.int .u64 (mixK key))) w') : Calls Tryz.prog 83 #[.int .i64 key] w R := by
  refine sh83_ok _ ?_
  unfold sh83
  rw [mixOf_eq]
  exact do_call Tryz.call122 (c_mix fun w1 e1 => retS_ret ⟨_, rfl, h _ e1⟩)
theorem c_r1of {key : Int} {w : World} {R : Ending → World → Prop} (h : R (.returned (.int .u64 (mixK key))) w) : Calls Tryz.prog 186 #[.int .i64 key] w R := by
  refine sh186_ok _ ?_
  unfold sh186
  rw [mixOf_eq]
  exact do_call Tryz.call131 (c_rmix (retS_ret ⟨_, rfl, h⟩))
theorem c_scode {c : Int} {b : Nat} {w : World} {R : Ending → World → Prop} (hs : IsSch c b w) (h : R (.returned (.int .u8 c)) w) : Calls Tryz.prog 184 #[.pointer (some (blk b))] w R := by
  refine sh184_ok _ ?_
  unfold sh184
  refine ifB_f rfl ⟨_, rfl, ?_⟩
  rcases hs.2 with ⟨j, hb⟩ | ⟨j, hb⟩
  · exact ⟨_, hb.cell (i := 0) (add_blk _ _) rfl, h⟩
  · exact ⟨_, hb.cell (i := 0) (add_blk _ _) rfl, h⟩
/-- all but the first number -/
theorem sl_tail {w : World} {q : Option Addr} {n c : Nat} {l : List Int} {K : Option Addr → Nat → Nat → Prop} (hl : Cs w q (u64s l)) (hn : l.length = n) (hnc : n ≤ c) (h0 : 0 < n)
    (k : ∀ p, (∀ w', Cs w' q (u64s l) → Cs w' p (u64s l.tail)) → (∀ a, p = some a → ∃ a0, q = some a0 ∧ a.block = a0.block) → K p (n - 1) (c - 1)) : doSl q c 1 1 (n : Int) K := by
  refine ⟨by omega, by omega, by omega, ?_⟩
  have e : (n : Int).toNat - (1 : Int).toNat = n - 1 := by omega
  rw [e]
  refine k _ (fun w' hl' => ?_) fun a ha => ?_
  · have ht : u64s l.tail = (u64s l).drop 1 := by
      cases l with
      | nil => rfl
      | cons x t => rfl
    rw [ht]
    split
    · rename_i hc
      have hc : c = 1 := hc
      rw [List.drop_of_length_le (by rw [u64s_length]; omega)]; exact cs_nil _ _
    · cases q with
      | none =>
        have := cs_u64_nil hl rfl
        subst this; exact cs_nil _ _
      | some ad => exact hl'.drop _
  · split at ha
    · exact ⟨a, ha, rfl⟩
    · cases q with
      | none => cases ha
      | some ad =>
        simp only [Option.map_some, Option.some.injEq] at ha
        exact ⟨ad, rfl, by rw [← ha, add_block]⟩
/-! ### draws -/
abbrev drN (bp br : Nat) : Value := .func (.func 171) #[] #[.pointer (some (blk br)), .pointer (some (blk bp))]
abbrev drL (br : Nat) : Value := .func (.func 170) #[] #[.pointer (some (blk br))]
/-- draws in memory; all of it lies ahead of N -/
structure IsDr (bd bp br N : Nat) (ds : List Int) (w : World) : Prop where
  ex : ∃ q n c, ds.length = n ∧ n ≤ c ∧ Cs w q (u64s ds) ∧ (∀ a, q = some a → a.block < N ∧ a.block ≠ bd ∧ a.block ≠ br ∧ ∃ cs, Blk w a.block cs 75) ∧ Blk w bd #[.slice q n c, drN bp br, drL br] 145 ∧ Blk w br #[.slice q n c] 23
  p : Blk w bp #[.pointer (some (blk bd))] 31
  lt : bd < N ∧ bp < N ∧ br < N
  ne : bp ≠ bd ∧ bp ≠ br ∧ bd ≠ br
theorem IsDr.gd {bd bp br N : Nat} {ds : List Int} {S : List Nat} {w w' : World} (h : IsDr bd bp br N ds w) (g : Gd S w w') (hS : ∀ k ∈ S, N ≤ k) : IsDr bd bp br N ds w' := by
  obtain ⟨⟨q, n, c, h1, h2, h3, h4, h5, h6⟩, h7, h8, h9⟩ := h
  have no {k : Nat} (hk : k < N) : k ∉ S := fun hm => by have := hS k hm; omega
  exact ⟨⟨q, n, c, h1, h2, cs_gd h3 g fun a ha => no (h4 a ha).1, fun a ha => ⟨(h4 a ha).1, (h4 a ha).2.1, (h4 a ha).2.2.1, (h4 a ha).2.2.2.imp fun _ hb => hb.gd g (no (h4 a ha).1)⟩, h5.gd g (no h8.1), h6.gd g (no h8.2.2)⟩, h7.gd g (no h8.2.1), h8, h9⟩
theorem IsDr.gs {bd bp br N b : Nat} {c : Int} {ds : List Int} {w w' : World} (h : IsDr bd bp br N ds w) (hs : IsSch c b w) (g : Gs b w w') : IsDr bd bp br N ds w' := by
  obtain ⟨⟨q, n, c, h1, h2, h3, h4, h5, h6⟩, h7, h8, h9⟩ := h
  have G := gd_gs (S := [b]) g (by simp)
  have n5 := hs.ne h5 (by decide)
  have n6 := hs.ne h6 (by decide)
  have n7 := hs.ne h7 (by decide)
  have n4 {a : Addr} (ha : q = some a) : a.block ≠ b := by
    obtain ⟨cs, hb⟩ := (h4 a ha).2.2.2
    exact hs.ne hb (by decide)
  exact ⟨⟨q, n, c, h1, h2, cs_gd h3 G fun a ha => by simp [n4 ha], fun a ha => ⟨(h4 a ha).1, (h4 a ha).2.1, (h4 a ha).2.2.1, (h4 a ha).2.2.2.imp fun _ hb => hb.gs g (n4 ha)⟩, h5.gs g n5, h6.gs g n6⟩, h7.gs g n7, h8, h9⟩
/-- draws, or none -/
def IsD (p : Option Addr) : Option (Nat × Nat × Nat × Nat) → List Int → World → Prop
  | none, ds, _ => p = none ∧ ds = []
  | some (bd, bp, br, N), ds, w => p = some (blk bd) ∧ IsDr bd bp br N ds w
def blksD : Option (Nat × Nat × Nat × Nat) → List Nat
  | none => []
  | some (bd, _, br, _) => [bd, br]
def topD : Option (Nat × Nat × Nat × Nat) → Nat
  | none => 0
  | some (_, _, _, N) => N
theorem IsD.gd {p : Option Addr} {D : Option (Nat × Nat × Nat × Nat)} {ds : List Int} {S : List Nat} {w w' : World} (h : IsD p D ds w) (g : Gd S w w') (hS : ∀ k ∈ S, topD D ≤ k) : IsD p D ds w' := by
  cases D with
  | none => exact h
  | some D => exact ⟨h.1, h.2.gd g hS⟩
theorem IsD.ext {p : Option Addr} {D : Option (Nat × Nat × Nat × Nat)} {ds : List Int} {w w' : World} (h : IsD p D ds w) (e : Ext w w') : IsD p D ds w' := h.gd (gd_of (S := []) e) fun k hk => by cases hk
theorem IsD.gs {p : Option Addr} {D : Option (Nat × Nat × Nat × Nat)} {ds : List Int} {b : Nat} {c : Int} {w w' : World} (h : IsD p D ds w) (hs : IsSch c b w) (g : Gs b w w') : IsD p D ds w' := by
  cases D with
  | none => exact h
  | some D => exact ⟨h.1, h.2.gs hs g⟩
theorem IsD.lt {p : Option Addr} {D : Option (Nat × Nat × Nat × Nat)} {ds : List Int} {w : World} (h : IsD p D ds w) : ∀ k ∈ blksD D, k < w.heap.size ∧ k < topD D := by
  cases D with
  | none => intro k hk; cases hk
  | some D =>
    obtain ⟨⟨q, n, c, h1, h2, h3, h4, h5, h6⟩, h7, h8, h9⟩ := h.2
    intro k hk
    simp only [blksD, List.mem_cons, List.not_mem_nil, or_false] at hk
    rcases hk with rfl | rfl
    · exact ⟨h5.lt, h8.1⟩
    · exact ⟨h6.lt, h8.2.2⟩
theorem IsD.oth {p : Option Addr} {D : Option (Nat × Nat × Nat × Nat)} {ds : List Int} {w : World} (h : IsD p D ds w) : Oth (blksD D) w := by
  cases D with
  | none => intro k hk; cases hk
  | some D =>
    obtain ⟨⟨q, n, c, h1, h2, h3, h4, h5, h6⟩, h7, h8, h9⟩ := h.2
    intro k hk
    simp only [blksD, List.mem_cons, List.not_mem_nil, or_false] at hk
    rcases hk with rfl | rfl
    · exact oth_blk h5 (by decide)
    · exact oth_blk h6 (by decide)
theorem IsD.sch {p : Option Addr} {D : Option (Nat × Nat × Nat × Nat)} {ds : List Int} {c : Int} {b : Nat} {w : World} (h : IsD p D ds w) (hs : IsSch c b w) : b ∉ blksD D := by
  cases D with
  | none => intro hk; cases hk
  | some D =>
    obtain ⟨⟨q, n, c, h1, h2, h3, h4, h5, h6⟩, h7, h8, h9⟩ := h.2
    intro hk
    simp only [blksD, List.mem_cons, List.not_mem_nil, or_false] at hk
    rcases hk with e | e
    · exact hs.ne h5 (by decide) e.symm
    · exact hs.ne h6 (by decide) e.symm
/-- the next number -/
theorem do_dnext {bd bp br N : Nat} {ds : List Int} {w : World} {R : Ending → World → Prop} (hd : IsDr bd bp br N ds w) (h0 : ds = [] → R (.returned (.tuple #[.int .u64 0, .bool false])) w)
    (h1 : ∀ x t w', ds = x :: t → Gd [bd, br] w w' → IsDr bd bp br N t w' → R (.returned (.tuple #[.int .u64 x, .bool true])) w') : doCall Tryz.prog (drN bp br) #[] w R := by
  refine do_callc Tryz.call171 (by rfl) (sh171_ok _ _ ?_)
  unfold sh171
  obtain ⟨⟨q, n, c, e1, e2, e3, e4, e5, e6⟩, e7, e8, e9⟩ := hd
  refine ⟨_, _, _, e6.cell (i := 0) rfl rfl, ?_⟩
  cases ds with
  | nil =>
    have : n = 0 := e1.symm
    subst this
    exact ifB_t rfl (h0 rfl)
  | cons x t =>
    have hn : 0 < n := by rw [← e1]; simp
    refine ifB_f (by simp; omega) ⟨_, _, _, e6.cell (i := 0) rfl rfl, ?_⟩
    refine ix_flat u64_len (by omega) e3 e1 (k := 0) rfl hn fun a r _ => ⟨x, by have := r 0 (.int .u64 x) rfl; rwa [add_zero'] at this, _, _, _, e6.cell (i := 0) rfl rfl, ?_⟩
    refine sl_tail e3 e1 e2 hn fun p hp hpb => ?_
    refine do_st e6 (i := 0) (add_blk _ _) (by simp) fun w1 k1 g1 => ?_
    have k1 : Blk w1 br #[.slice p (n - 1) (c - 1)] 23 := k1
    refine ⟨_, (e7.grown g1 (ne_some e9.2.1)).cell (i := 0) rfl rfl, _, _, _, k1.cell (i := 0) rfl rfl, _, rfl, ?_⟩
    refine do_st (e5.grown g1 (ne_some e9.2.2)) (i := 0) (by rw [Sh.add_add, add_blk]) (by simp) fun w2 k2 g2 => ?_
    have k2 : Blk w2 bd #[.slice p (n - 1) (c - 1), drN bp br, drL br] 145 := k2
    have G : Gd [bd, br] w w2 := ((gd_refl _ w).st g1 (.inr (by simp))).st g2 (.inr (by simp))
    have hpb' : ∀ a, p = some a → a.block < N ∧ a.block ≠ bd ∧ a.block ≠ br ∧ ∃ cs, Blk w2 a.block cs 75 := fun a ha => by
      obtain ⟨a0, h0, hb⟩ := hpb a ha
      have k := e4 a0 h0
      rw [hb]
      exact ⟨k.1, k.2.1, k.2.2.1, k.2.2.2.imp fun _ hx => hx.gd G (by simp [k.2.1, k.2.2.1])⟩
    refine h1 x t w2 rfl G ⟨⟨p, n - 1, c - 1, by simp at e1 ⊢; omega, by omega, ?_, hpb', k2, k1.grown g2 (ne_some (Ne.symm e9.2.2))⟩, (e7.grown g1 (ne_some e9.2.1)).grown g2 (ne_some e9.1), e8, e9⟩
    refine hp w2 (cs_gd e3 G fun a ha => ?_)
    have := e4 a ha
    simp only [List.mem_cons, List.not_mem_nil, or_false]
    omega
theorem c_dnext {p : Option Addr} {D : Option (Nat × Nat × Nat × Nat)} {ds : List Int} {key : Int} {w : World} {R : Ending → World → Prop} (hd : IsD p D ds w)
    (h : ∀ w', Gd (blksD D) w w' → IsD p D ds.tail w' → R (.returned (.int .u64 (headD ds key))) w') : Calls Tryz.prog 185 #[.pointer p, .int .i64 key] w R := by
  refine sh185_ok _ _ ?_
  unfold sh185
  intro K4
  have hK : ds = [] → K4 w := fun e => do_call Tryz.call83 (c_mixof fun w1 e1 => retS_ret ⟨_, rfl, by
    have := h w1 (gd_of e1) (by rw [e]; rw [e] at hd; exact hd.ext e1)
    rw [e] at this; exact this⟩)
  cases D with
  | none =>
    obtain ⟨rfl, e⟩ := hd
    exact ifB_f rfl (hK e)
  | some D =>
    obtain ⟨bd, bp, br, N⟩ := D
    obtain ⟨rfl, hd⟩ := hd
    obtain ⟨q, n, c, e1, e2, e3, e4, e5, e6⟩ := hd.ex
    refine ifB_t rfl ⟨_, rfl, _, _, _, e5.cell (i := 1) (add_blk _ _) rfl, ?_⟩
    refine do_dnext hd (fun e => retS_ret ⟨_, _, rfl, ifB_f rfl (hK e)⟩) fun x t w1 e g h1 => retS_ret ⟨_, _, rfl, ifB_t rfl ?_⟩
    subst e
    exact h w1 g ⟨rfl, h1⟩
/-! ### the document's -/
structure IsRd (b M N : Nat) (ds : List Int) (w : World) : Prop where
  ex : ∃ q n c, ds.length = n ∧ n ≤ c ∧ Cs w q (u64s ds) ∧ (∀ a, q = some a → M ≤ a.block ∧ a.block < N ∧ a.block ≠ b) ∧ Blk w b #[.slice q n c] 128
  lt : M ≤ b ∧ b < N
theorem IsRd.gd {b M N : Nat} {ds : List Int} {S : List Nat} {w w' : World} (h : IsRd b M N ds w) (g : Gd S w w') (hS : ∀ k ∈ S, N ≤ k ∨ k < M) : IsRd b M N ds w' := by
  obtain ⟨⟨q, n, c, h1, h2, h3, h4, h5⟩, h6⟩ := h
  refine ⟨⟨q, n, c, h1, h2, cs_gd h3 g fun a ha hm => ?_, h4, h5.gd g fun hm => ?_⟩, h6⟩
  · have := h4 a ha
    have := hS _ hm
    omega
  · have := hS _ hm
    omega
theorem IsRd.ext {b M N : Nat} {ds : List Int} {w w' : World} (h : IsRd b M N ds w) (e : Ext w w') : IsRd b M N ds w' := h.gd (gd_of (S := []) e) fun k hk => by cases hk
theorem c_r8next {b M N : Nat} {ds : List Int} {key : Int} {w : World} {R : Ending → World → Prop} (hd : IsRd b M N ds w)
    (h : ∀ w', Gs b w w' → IsRd b M N ds.tail w' → R (.returned (.int .u64 (headD ds key))) w') : Calls Tryz.prog 103 #[.pointer (some (blk b)), .int .i64 key] w R := by
  refine sh103_ok _ _ ?_
  unfold sh103
  obtain ⟨⟨q, n, c, e1, e2, e3, e4, e5⟩, e6⟩ := id hd
  refine ⟨_, rfl, _, _, _, e5.cell (i := 0) (add_blk _ _) rfl, ?_⟩
  cases ds with
  | nil =>
    have : n = 0 := e1.symm
    subst this
    exact ifB_t rfl (do_call Tryz.call186 (c_r1of (retS_ret ⟨_, rfl, h w (gs_refl _ _) hd⟩)))
  | cons x t =>
    have hn : 0 < n := by rw [← e1]; simp
    refine ifB_f (by simp; omega) ⟨_, rfl, _, _, _, e5.cell (i := 0) (add_blk _ _) rfl, ?_⟩
    refine ix_flat u64_len (by omega) e3 e1 (k := 0) rfl hn fun a r _ => ⟨x, by have := r 0 (.int .u64 x) rfl; rwa [add_zero'] at this, _, rfl, _, _, _, e5.cell (i := 0) (add_blk _ _) rfl, ?_⟩
    refine sl_tail e3 e1 e2 hn fun p hp hpb => ⟨_, rfl, ?_⟩
    refine do_st e5 (i := 0) (by rw [Sh.add_add, add_blk]) (by simp) fun w1 k1 g1 => ?_
    have k1 : Blk w1 b #[.slice p (n - 1) (c - 1)] 128 := k1
    have hpb' : ∀ a, p = some a → M ≤ a.block ∧ a.block < N ∧ a.block ≠ b := fun a ha => by
      obtain ⟨a0, h0, hb⟩ := hpb a ha
      rw [hb]; exact e4 a0 h0
    refine h w1 g1 ⟨⟨p, n - 1, c - 1, by simp at e1 ⊢; omega, by omega, ?_, hpb', k1⟩, e6⟩
    refine hp w1 (cs_gd (S := [b]) e3 (gd_gs g1 (by simp)) fun a ha => ?_)
    simp only [List.mem_cons, List.not_mem_nil, or_false]
    exact (e4 a ha).2.2
theorem c_r8new {ds : List Int} {q : Option Addr} {n c : Nat} {w : World} {R : Ending → World → Prop} (hl : Cs w q (u64s ds)) (hn : ds.length = n) (hm : n ≤ 17592186044416)
    (h : ∀ b w', Ext w w' → IsRd b w.heap.size w'.heap.size ds w' → R (.returned (.pointer (some (blk b)))) w') : Calls Tryz.prog 22 #[.slice q n c] w R := by
  refine sh22_ok _ _ _ ?_
  unfold sh22
  refine do_app elU (World.ownsRow_nil w w.heap.size 75 1) (m := n) hl (by rw [u64s_length]; omega) u64s_one (by simp only [maxLen]; omega) (by omega) (Nat.le_refl _) fun p c' w1 h1 g1 => retS_ret ⟨_, _, _, rfl, ⟨?_⟩⟩
  simp only [Nat.zero_add, List.nil_append] at h1 ⊢
  have e1 : Ext w w1 := (ext_refl w).grown g1 (by intro k hk; cases hk)
  have e2 := ext_alloc w1 (.cells #[.slice p n c'] 128)
  have hb := blk_alloc w1 #[.slice p n c'] 128
  refine h _ _ (e1.trans e2) ⟨⟨p, n, c', hn, row_cap h1, (Cs.of_row h1).ext e2, fun a ha => ?_, hb⟩, e1.size, hb.lt⟩
  have := row_lt h1 ha
  have := e2.size
  omega
end Go.Proofs.YtlddfgfmkapoiaaGreat

