/-
  The document's answers of layer 26; the chapter's examples.
-/
import Derived.Test.YtbaoihmffobneaaGreatEdit
namespace Go.Proofs.YtbaoihmffobneaaGreat
open Go Go.Sh Go.RowKit

set_option maxRecDepth 20000 in
set_option maxHeartbeats 800000 in
theorem c_r26insert {o p : Int} {x : It} {l : List It} {q : Option Addr} {n c : Nat} (hk : In x.1) {w : World} {R : Ending → World → Prop} (hl : Cs w q (its l)) (hn : l.length = n) (hm : n ≤ 1000000) (hI : InI l)
    (h : ∀ p1 n1 c1 w', OwnI w' w.heap.size p1 n1 c1 (editL o x.1 (insI p x (lastE o x.1 l) (anyE o x.1 l)) l) → Ext w w' → R (.returned (.tuple #[.slice p1 n1 c1, .int .i64 (lastE o x.1 l).2.1, .bool (anyE o x.1 l)])) w') :
    Calls Tryz.prog 76 #[.int .u8 o, .int .u8 p, .slice q n c, agI x] w R := by
  refine sh76_ok _ _ _ _ _ _ _ _ ?_
  unfold sh76
  refine ⟨?_⟩
  have e0 := ext_alloc w (.cells #[.int .i64 x.1, .int .i64 x.2.1, .int .u64 x.2.2] 93)
  have hx := blk_alloc w #[.int .i64 x.1, .int .i64 x.2.1, .int .u64 x.2.2] 93
  generalize hb9 : w.heap.size = b9 at *
  generalize w.alloc (.cells #[.int .i64 x.1, .int .i64 x.2.1, .int .u64 x.2.2] 93) = w1 at *
  have hlt1 : b9 < w1.heap.size := hx.lt
  have ha1 : (ltF o x.1 l).length ≤ n := by rw [← hn]; exact List.length_filter_le _ _
  have ha2 : (gtF o x.1 l).length ≤ n := by rw [← hn]; exact List.length_filter_le _ _
  refine ⟨_, hx.cell (i := 0) (add_blk _ _) rfl, ?_⟩
  refine do_call Tryz.call113 (c_r24split hk (hl.ext e0) hn hm hI fun p1 n1 c1 p2 n2 c2 w2 T2 e2 => retS_ret ⟨_, _, _, _, _, _, _, _, _, _, rfl, ⟨?_⟩⟩)
  refine do_st3 (blk_alloc w2 _ _) fun w3 h3 g3 => ?_
  have e3 : Ext w2 w3 := (ext_alloc w2 _).st g3 (Nat.le_refl _)
  have E3 := (e0.trans e2).trans e3
  have hx3 := hx.ext (e2.trans e3)
  have T3 := T2.ext e3
  have hn1 := ownI_len T3.1
  have hn2 := ownI_len T3.2.1
  have hne : b9 ≠ w2.heap.size := by have := e2.size; omega
  intro K30
  have hK30 : ∀ w29, Ext w w29 → Cs w29 p1 (its (ltF o x.1 l)) → Cs w29 p2 (its (gtF o x.1 l)) →
      Blk w29 b9 #[.int .i64 (insI p x (lastE o x.1 l) (anyE o x.1 l)).1.1, .int .i64 (insI p x (lastE o x.1 l) (anyE o x.1 l)).1.2.1, .int .u64 (insI p x (lastE o x.1 l) (anyE o x.1 l)).1.2.2] 93 →
      Blk w29 w2.heap.size #[.int .i64 (lastE o x.1 l).1, .int .i64 (lastE o x.1 l).2.1, .int .u64 (lastE o x.1 l).2.2] 93 → K30 w29 := by
    intro w29 E29 hc1 hc2 hy hl29
    refine do_appL (ownI_nil w29 w29.heap.size) hc1 hn1 (by omega) (Nat.le_refl _) fun pa ca w30 h30 e30 => retS_ret ⟨_, _, _, rfl, ?_⟩
    have E30 := e30 w29 (ext_refl _) (Nat.le_refl _)
    refine ⟨_, (hy.ext E30).cell (i := 0) (add_blk _ _) rfl, _, (hy.ext E30).cell (i := 1) (add_blk _ _) rfl, _, (hy.ext E30).cell (i := 2) (add_blk _ _) rfl, ?_⟩
    refine do_app1I h30 (by omega) E30.size fun pb cb w31 h31 e31 _ _ => ⟨_, _, _, rfl, ?_⟩
    have E31 := e31 w29 E30 (Nat.le_refl _)
    have d := ext_drew w31
    have E31' := E31.trans d
    refine ⟨⟨fun w' => Ext w29 w', E31', _, fun w' e => (hl29.ext e).cell (i := 1) (add_blk _ _) rfl, ?_⟩⟩
    refine do_appL (d.row h31) (hc2.ext E31') hn2 (by omega) E31'.size fun pc cc w32 h32 e32 => retS_ret ⟨_, _, _, rfl, ?_⟩
    have E32 := e32 w29 E31' (Nat.le_refl _)
    have h32 : OwnI w32 w29.heap.size pc _ cc (editL o x.1 (insI p x (lastE o x.1 l) (anyE o x.1 l)) l) := h32
    refine ⟨E32, h _ _ _ _ (rowI_to h32 (ext_refl _) ?_) (E29.trans E32)⟩
    have := E29.size
    omega
  cases ha : anyE o x.1 l with
  | false =>
    rw [ha] at hK30
    exact ifB_f rfl (hK30 w3 E3 (ownI_cs T3.1) (ownI_cs T3.2.1) hx3 h3)
  | true =>
    rw [ha] at hK30
    have d := ext_drew w3
    refine ifB_t rfl ⟨⟨fun w' => Blk w' w2.heap.size _ _ ∧ Blk w' b9 _ _, ⟨h3.ext d, hx3.ext d⟩, _, fun w' e => e.1.cell (i := 0) (add_blk _ _) rfl, _, fun w' e => e.1.cell (i := 1) (add_blk _ _) rfl, _, fun w' e => e.2.cell (i := 1) (add_blk _ _) rfl, _, fun w' e => e.1.cell (i := 2) (add_blk _ _) rfl, ?_⟩⟩
    refine do_call Tryz.call75 (c_rcomb (retS_ret ⟨_, rfl, ⟨h3.ext d, hx3.ext d⟩, ?_⟩))
    refine do_st3 (hx3.ext d) fun w4 h4 g4 => ?_
    have T4 := T3.ext d
    exact hK30 w4 ((E3.trans d).st g4 (by omega)) (ownI_cs (ownI_at T4.1 g4 hlt1)) (ownI_cs (ownI_at T4.2.1 g4 hlt1)) h4 ((h3.ext d).grown g4 (ne_some (Ne.symm hne)))
/-! ### the chapter's examples -/
theorem tot_its (c : Int) : ∀ t : Tr, totT t = ((itsC c t).map (·.2.1)).sum
  | .nil => rfl
  | .node l k v g r => by
    rw [itsC_node, List.map_append, List.map_cons, List.sum_append, List.sum_cons, ← tot_its c l, ← tot_its c r, itC_val]
    show totT l + v + totT r = totT l + (v + totT r)
    omega
end Go.Proofs.YtbaoihmffobneaaGreat
