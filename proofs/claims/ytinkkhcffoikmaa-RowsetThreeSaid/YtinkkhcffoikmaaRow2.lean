/-
  What the functions of row do, part 2: at, Find, Get, Floor, Ceil, Sum.
-/
import Derived.Test.YtinkkhcffoikmaaRow
import Derived.Test.YtinkkhcffoikmaaAp
namespace Go.Proofs.Ytinkkhcffoikmaa
open Go Go.Sh Go.RowKit

theorem getD_of {l : List Pr} {k : Nat} (h : k < l.length) : l.getD k (0, 0) = l[k] := by simp [h]
set_option maxRecDepth 20000 in
theorem c_at {o key : Int} {l : List Pr} {q : Option Addr} {n c : Nat} {w : World} {R : Ending → World → Prop} (hl : Cs w q (prs l)) (hn : l.length = n) (h63 : n ≤ 4611686018427387903) (hI : InP l) (hk : In key) (hc : chain o l = true)
    (h : ∀ w', Ext w w' → R (.returned (.int .i64 (idxR o l key : Nat))) w') : Calls Try.prog 82 #[.int .u8 o, .slice q n c, .int .i64 key] w R := by
  refine sh82_ok _ _ _ _ _ ?_
  unfold sh82
  refine ⟨⟨⟨?_⟩⟩⟩
  have e1 := ext_alloc w (.cells #[.int .u8 o] 5)
  have h1 := blk_alloc w #[.int .u8 o] 5
  generalize w.heap.size = b1 at *
  generalize w.alloc (.cells #[.int .u8 o] 5) = w1 at *
  have e2 := ext_alloc w1 (.cells #[.slice q n c] 33)
  have h2 := blk_alloc w1 #[.slice q n c] 33
  have h1 := h1.ext e2
  generalize w1.heap.size = b2 at *
  generalize w1.alloc (.cells #[.slice q n c] 33) = w2 at *
  have e3 := ext_alloc w2 (.cells #[.int .i64 key] 2)
  have h3 := blk_alloc w2 #[.int .i64 key] 2
  have h1 := h1.ext e3
  have h2 := h2.ext e3
  generalize w2.heap.size = b3 at *
  generalize w2.alloc (.cells #[.int .i64 key] 2) = w3 at *
  have E := (e1.trans e2).trans e3
  clear e1 e2 e3
  refine ⟨_, _, _, h2.cell (i := 0) rfl rfl, ?_⟩
  refine do_call Try.call115 (c_search (n := n) (p := fun k => decide (0 ≤ cmpI o (l.getD k (0, 0)).1 key)) (Inv := fun w' => Ext w3 w') h63 ?_ ?_ (ext_refl _) ?_)
  · intro i j hij hj hp
    have hp := of_decide_eq_true hp
    refine decide_eq_true ?_
    rw [getD_of (by omega)] at hp ⊢
    rcases Nat.lt_or_ge i j with h | h
    · exact cmpI_ge (chain_lt hc h (by omega)) hp
    · have : i = j := by omega
      subst this; exact hp
  · intro k hk' w4 e4 R' hR
    refine do_callc Try.call116 (by rfl) (sh116_ok _ _ _ _ ?_)
    unfold sh116
    have E4 := E.trans e4
    refine ⟨⟨fun w' => Ext w3 w', e4.drew, _, fun w' e => (h1.ext e).cell (i := 0) rfl rfl, _, _, _, fun w' e => (h2.ext e).cell (i := 0) rfl rfl, ?_⟩⟩
    refine ix_prC (fun w' e => (hl.ext E).ext e) (ext_refl _) hn rfl hk' fun a r1 _ => ⟨_, r1, _, fun w' e => (h3.ext e).cell (i := 0) rfl rfl, ?_⟩
    refine do_call Try.call93 (c_compare (hI _ (List.getElem_mem _)).1 hk fun w5 e5 => retS_ret ⟨_, rfl, e4.drew.trans e5, ?_⟩)
    have := hR w5 (e4.drew.trans e5)
    simp only [getD_of (show k < l.length by omega)] at this
    exact this
  · intro r w4 e4 hr hlo hhi
    refine retS_ret ⟨_, rfl, ?_⟩
    have : idxR o l key = r := by
      refine idxR_eq (by omega) (fun i hi hir => ?_) fun hr' => ?_
      · have := of_decide_eq_false (hlo i hir)
        rw [getD_of hi] at this; omega
      · have := of_decide_eq_true (hhi r (Nat.le_refl _) (by omega))
        rw [getD_of hr'] at this; exact this
    rw [← this]
    exact h _ (E.trans e4)

/-- does the key stand at its place? -/
def hasR (o : Int) (l : List Pr) (key : Int) : Bool := mayR o l && (match l[idxR o l key]? with | some x => x.1 == key | none => false)
/-- where the key stands, or would -/
def posR (o : Int) (l : List Pr) (key : Int) : Nat := cond (mayR o l) (idxR o l key) 0
theorem posR_le (o : Int) (l : List Pr) (key : Int) : posR o l key ≤ l.length := by
  unfold posR; cases mayR o l
  · simp
  · exact idxR_le _ _ _
theorem mayR_chain {o : Int} {l : List Pr} (h : mayR o l = true) : chain o l = true := by simp [mayR] at h; exact h.2
theorem hasR_may {o : Int} {l : List Pr} {key : Int} (h : hasR o l key = true) : mayR o l = true := by simp [hasR] at h; exact h.1
theorem hasR_lt {o : Int} {l : List Pr} {key : Int} (h : hasR o l key = true) : posR o l key < l.length := by
  have hm := hasR_may h
  simp only [hasR, hm, Bool.true_and] at h
  unfold posR; rw [hm]
  rcases Nat.lt_or_ge (idxR o l key) l.length with h' | h'
  · exact h'
  · rw [List.getElem?_eq_none h'] at h; cases h
theorem hasR_key {o : Int} {l : List Pr} {key : Int} (h : hasR o l key = true) : (l[posR o l key]'(hasR_lt h)).1 = key := by
  have hlt := hasR_lt h
  have hm := hasR_may h
  have hp : posR o l key = idxR o l key := by unfold posR; rw [hm]; rfl
  simp only [hasR, hm, Bool.true_and] at h
  simp only [hp] at hlt ⊢
  rw [List.getElem?_eq_getElem hlt] at h
  simpa using h
theorem c_rowfind {o key : Int} {l : List Pr} {q : Option Addr} {n c : Nat} {w : World} {R : Ending → World → Prop} (hl : Cs w q (prs l)) (hn : l.length = n) (h63 : n ≤ 4611686018427387903) (hI : InP l) (hk : In key)
    (h : ∀ w', Ext w w' → R (.returned (.tuple #[.int .i64 (posR o l key : Nat), .bool (hasR o l key)])) w') : Calls Try.prog 25 #[.int .u8 o, .slice q n c, .int .i64 key] w R := by
  refine sh25_ok _ _ _ _ _ ?_
  unfold sh25
  refine do_call Try.call40 (c_may hl hn (by omega) hI fun w1 e1 => retS_ret ⟨_, rfl, ?_⟩)
  cases hm : mayR o l
  · refine ifB_t rfl ?_
    have := h w1 e1
    simp only [posR, hasR, hm] at this
    exact this
  · refine ifB_f rfl ?_
    refine do_call Try.call82 (c_at (hl.ext e1) hn h63 hI hk (mayR_chain hm) fun w2 e2 => retS_ret ⟨_, rfl, ?_⟩)
    have E := (e1.trans e2).drew
    have hr := h w2.drew E
    simp only [posR, hasR, hm, cond_true, Bool.true_and] at hr
    refine ⟨⟨fun w' => Ext w w', E, ?_⟩⟩
    refine ifB_intro (fun hlt => ?_) fun hge => ?_
    · have hlt : idxR o l key < n := by have := of_decide_eq_true hlt; omega
      refine ix_prC (fun w' e => hl.ext e) E hn rfl hlt fun a r1 _ => ⟨_, r1, ?_⟩
      rw [List.getElem?_eq_getElem (by omega)] at hr
      exact hr
    · have hge : n ≤ idxR o l key := by have := of_decide_eq_false hge; omega
      rw [List.getElem?_eq_none (by omega)] at hr
      exact hr
def getR (o : Int) (l : List Pr) (key : Int) : Int := cond (hasR o l key) (l.getD (posR o l key) (0, 0)).2 0
theorem c_rowget {o key : Int} {l : List Pr} {q : Option Addr} {n c : Nat} {w : World} {R : Ending → World → Prop} (hl : Cs w q (prs l)) (hn : l.length = n) (h63 : n ≤ 4611686018427387903) (hI : InP l) (hk : In key)
    (h : ∀ w', Ext w w' → R (.returned (.tuple #[.int .i64 (getR o l key), .bool (hasR o l key)])) w') : Calls Try.prog 28 #[.int .u8 o, .slice q n c, .int .i64 key] w R := by
  refine sh28_ok _ _ _ _ _ ?_
  unfold sh28
  refine do_call Try.call25 (c_rowfind hl hn h63 hI hk fun w1 e1 => retS_ret ⟨_, _, rfl, ?_⟩)
  have hr := h w1 e1
  unfold getR at hr
  cases hm : hasR o l key
  · refine ifB_t rfl ?_
    rw [hm] at hr
    exact hr
  · refine ifB_f rfl ?_
    have hlt := hasR_lt hm
    rw [hm, getD_of hlt] at hr
    exact ix_pr (hl.ext e1) hn rfl (by omega) fun a _ r2 _ => ⟨_, r2, hr⟩
def floorR (o : Int) (l : List Pr) (key : Int) : Pr := cond (hasR o l key) (l.getD (posR o l key) (0, 0)) (if posR o l key = 0 then (0, 0) else l.getD (posR o l key - 1) (0, 0))
def isFloorR (o : Int) (l : List Pr) (key : Int) : Bool := hasR o l key || decide (0 < posR o l key)
def ceilR (o : Int) (l : List Pr) (key : Int) : Pr := cond (mayR o l) (l.getD (posR o l key) (0, 0)) (0, 0)
def isCeilR (o : Int) (l : List Pr) (key : Int) : Bool := mayR o l && decide (posR o l key < l.length)
theorem do_st2 {w : World} {b : Nat} {u v x y : Value} {t : TypeId} (h : Blk w b #[u, v] t) {K : World → Prop} (k : ∀ w', Blk w' b #[x, y] t → w.grownBy w' (some b) → K w') :
    doSt ((blk b).add 0) x w fun w1 => doSt ((blk b).add 1) y w1 K :=
  do_st h (i := 0) rfl (by simp) fun _ h1 g1 => do_st h1 (i := 1) rfl (by simp) fun _ h2 g2 => k _ h2 (grown_trans g1 g2)
theorem c_rowfloor {o key : Int} {l : List Pr} {q : Option Addr} {n c : Nat} {w : World} {R : Ending → World → Prop} (hl : Cs w q (prs l)) (hn : l.length = n) (h63 : n ≤ 4611686018427387903) (hI : InP l) (hk : In key)
    (h : ∀ w', Ext w w' → R (.returned (.tuple #[agP (floorR o l key), .bool (isFloorR o l key)])) w') : Calls Try.prog 30 #[.int .u8 o, .slice q n c, .int .i64 key] w R := by
  refine sh30_ok _ _ _ _ _ ?_
  unfold sh30
  refine ⟨?_⟩
  have e0 := ext_alloc w (.cells #[.int .i64 0, .int .i64 0] 38)
  have hb := blk_alloc w #[.int .i64 0, .int .i64 0] 38
  generalize hb0 : w.heap.size = b at *
  generalize w.alloc (.cells #[.int .i64 0, .int .i64 0] 38) = w0 at *
  refine do_call Try.call25 (c_rowfind (hl.ext e0) hn h63 hI hk fun w1 e1 => retS_ret ⟨_, _, rfl, ?_⟩)
  have E := e0.trans e1
  have hb := hb.ext e1
  refine ifB_intro (fun hm => ?_) fun hm => ?_
  · have hlt := hasR_lt hm
    refine ix_pr (hl.ext E) hn rfl (by omega) fun a r1 r2 _ => ⟨_, r1, _, r2, ?_⟩
    refine do_st2 hb fun w2 h2 g2 => ⟨_, h2.cell (i := 0) rfl rfl, _, h2.cell (i := 1) rfl rfl, ?_⟩
    have hr := h w2 (E.st g2 (by omega))
    simp only [floorR, isFloorR, hm, getD_of hlt] at hr
    exact hr
  · refine ifB_intro (fun hp => ?_) fun hp => ?_
    · have hp : 0 < posR o l key := by have := of_decide_eq_true hp; omega
      have hle := posR_le o l key
      have e : IntKind.wrap .i64 ((posR o l key : Nat) - 1 : Int) = ((posR o l key - 1 : Nat) : Int) := by rw [wrap_of (by omega) (by omega)]; omega
      refine ix_pr (hl.ext E) hn e (by omega) fun a r1 r2 _ => ⟨_, r1, _, r2, ?_⟩
      refine do_st2 hb fun w2 h2 g2 => ⟨_, h2.cell (i := 0) rfl rfl, _, h2.cell (i := 1) rfl rfl, ?_⟩
      have hr := h w2 (E.st g2 (by omega))
      simp only [floorR, isFloorR, hm, cond_false, if_neg (show ¬ posR o l key = 0 by omega), decide_eq_true hp, Bool.false_or, getD_of (show posR o l key - 1 < l.length by omega)] at hr
      exact hr
    · have hp : posR o l key = 0 := by have := of_decide_eq_false hp; omega
      refine do_st2 hb fun w2 h2 g2 => ⟨_, h2.cell (i := 0) rfl rfl, _, h2.cell (i := 1) rfl rfl, ?_⟩
      have hr := h w2 (E.st g2 (by omega))
      simp only [floorR, isFloorR, hm, cond_false, hp, Bool.false_or] at hr
      exact hr
theorem c_rowceil {o key : Int} {l : List Pr} {q : Option Addr} {n c : Nat} {w : World} {R : Ending → World → Prop} (hl : Cs w q (prs l)) (hn : l.length = n) (h63 : n ≤ 4611686018427387903) (hI : InP l) (hk : In key)
    (h : ∀ w', Ext w w' → R (.returned (.tuple #[agP (ceilR o l key), .bool (isCeilR o l key)])) w') : Calls Try.prog 32 #[.int .u8 o, .slice q n c, .int .i64 key] w R := by
  refine sh32_ok _ _ _ _ _ ?_
  unfold sh32
  refine ⟨?_⟩
  have e0 := ext_alloc w (.cells #[.int .i64 0, .int .i64 0] 38)
  have hb := blk_alloc w #[.int .i64 0, .int .i64 0] 38
  generalize hb0 : w.heap.size = b at *
  generalize w.alloc (.cells #[.int .i64 0, .int .i64 0] 38) = w0 at *
  have hno : ∀ {w' : World}, Ext w w' → Blk w' b #[.int .i64 0, .int .i64 0] 38 → isCeilR o l key = false → ceilR o l key = (0, 0) →
      doSt ((blk b).add 0) (.int .i64 0) w' (fun w10 => doSt ((blk b).add 1) (.int .i64 0) w10 (fun w11 => ∃ (x12 : Int), World.cell? w11 ((blk b).add 0) = some (.int .i64 x12) ∧ (
        ∃ (x13 : Int), World.cell? w11 ((blk b).add 1) = some (.int .i64 x13) ∧ (R (.returned (.tuple #[.agg #[.int .i64 x12, .int .i64 x13], .bool false])) w11)))) := by
    intro w' e' hb' hi hc
    refine do_st2 hb' fun w2 h2 g2 => ⟨_, h2.cell (i := 0) rfl rfl, _, h2.cell (i := 1) rfl rfl, ?_⟩
    have hr := h w2 (e'.st g2 (by omega))
    rw [hi, hc] at hr
    exact hr
  refine do_call Try.call25 (c_rowfind (hl.ext e0) hn h63 hI hk fun w1 e1 => retS_ret ⟨_, _, rfl, ?_⟩)
  have E := e0.trans e1
  have hb := hb.ext e1
  refine ifB_intro (fun hp => ?_) fun hp => ?_
  · have hp : posR o l key < n := by have := of_decide_eq_true hp; omega
    refine do_call Try.call40 (c_may (hl.ext E) hn (by omega) hI fun w2 e2 => retS_ret ⟨_, rfl, ?_⟩)
    have E := E.trans e2
    have hb := hb.ext e2
    refine ifB_intro (fun hm => ?_) fun hm => ?_
    · refine ix_pr (hl.ext E) hn rfl (by omega) fun a r1 r2 _ => ⟨_, r1, _, r2, ?_⟩
      refine do_st2 hb fun w2 h2 g2 => ⟨_, h2.cell (i := 0) rfl rfl, _, h2.cell (i := 1) rfl rfl, ?_⟩
      have hr := h w2 (E.st g2 (by omega))
      simp only [ceilR, isCeilR, hm, cond_true, getD_of (show posR o l key < l.length by omega), Bool.true_and, decide_eq_true (show posR o l key < l.length by omega)] at hr
      exact hr
    · exact hno E hb (by simp [isCeilR, hm]) (by simp [ceilR, hm])
  · have hp : ¬ posR o l key < l.length := by have := of_decide_eq_false hp; omega
    refine hno E hb (by simp [isCeilR, hp]) ?_
    unfold ceilR
    cases mayR o l
    · rfl
    · simp [List.getElem?_eq_none (show l.length ≤ posR o l key by omega)]
end Go.Proofs.Ytinkkhcffoikmaa
