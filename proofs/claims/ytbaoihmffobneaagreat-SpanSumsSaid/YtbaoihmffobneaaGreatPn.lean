/-
  avl, avljoin: what a join makes.
-/
/-
  avljoin: hang, Join.
-/
import Derived.Test.YtbaoihmffobneaaGreatPl
import Derived.Test.YtbaoihmffobneaaGreatPm

namespace Go.Proofs.YtbaoihmffobneaaGreat
open Go Go.Sh Go.RowKit

theorem do_maxk {P : Program} {ts : Array TypeId} {ty : TypeId} {bs : Array Bool} {kk : IntKind} {a b : Int} {w : World} {R : Ending → World → Prop} (h : R (.returned (.int kk (max a b))) w) :
    doGo P (.builtin .max ts ty bs) #[.int kk a, .int kk b] w R := by
  refine ⟨?_⟩
  unfold goV
  have e : max a b = (if b > a then b else a) := by omega
  have hr : (Builtin.max_ ts ty #[.int kk a, .int kk b]).run P w = .ok (.int kk (max a b)) w := by rw [e]; simp [Builtin.max_, Builtin.max2]
  simp only [invoke, builtin, Sem.run_bind, hr, Result.andThen_ok, Sem.run_pure]
  exact h
theorem do_mink {P : Program} {ts : Array TypeId} {ty : TypeId} {bs : Array Bool} {kk : IntKind} {a b : Int} {w : World} {R : Ending → World → Prop} (h : R (.returned (.int kk (min a b))) w) :
    doGo P (.builtin .min ts ty bs) #[.int kk a, .int kk b] w R := by
  refine ⟨?_⟩
  unfold goV
  have e : min a b = (if b < a then b else a) := by omega
  have hr : (Builtin.min_ ts ty #[.int kk a, .int kk b]).run P w = .ok (.int kk (min a b)) w := by rw [e]; simp [Builtin.min_, Builtin.min2]
  simp only [invoke, builtin, Sem.run_bind, hr, Result.andThen_ok, Sem.run_pure]
  exact h
theorem wrapU_of {x : Int} (h1 : 0 ≤ x) (h2 : x < 18446744073709551616) : IntKind.wrap .u64 x = x := by
  simp only [IntKind.wrap, IntKind.signed, IntKind.bits]
  simp
  omega
abbrev BIG : Nat := 1000000000000
theorem c_arank {p : Option Addr} {t : Tr} {w : World} {R : Ending → World → Prop} (ht : IsN w p t) (h1 : 0 ≤ t.tag) (h2 : t.tag ≤ BIG) (h : ∀ w', Ext w w' → R (.returned (.int .i64 t.tag)) w') : Calls Tryz.prog 141 #[.pointer p] w R := by
  refine sh141_ok _ ?_
  unfold sh141
  refine do_call Tryz.call166 (c_tag ht fun w1 e1 => retS_ret ⟨_, rfl, ?_⟩)
  rw [wrap_of (by omega) (by simp only [BIG] at h2; omega)]
  exact h _ e1
theorem c_amake {pl pr : Option Addr} {l r : Tr} {k v : Int} {w : World} {R : Ending → World → Prop} (hl : IsN w pl l) (hr : IsN w pr r) (hs : l.size + 1 + r.size ≤ BIG) (t1 : 0 ≤ l.tag ∧ l.tag ≤ BIG) (t2 : 0 ≤ r.tag ∧ r.tag ≤ BIG)
    (h : ∀ q w', Ext w w' → IsN w' q (mkA l k v r) → R (.returned (.pointer q)) w') : Calls Tryz.prog 181 #[.pointer pl, .int .i64 k, .int .i64 v, .pointer pr] w R := by
  refine sh181_ok _ _ _ _ ?_
  unfold sh181
  simp only [BIG] at hs t1 t2
  refine do_call Tryz.call166 (c_tag hl fun w1 e1 => retS_ret ⟨_, rfl, ?_⟩)
  refine do_call Tryz.call166 (c_tag (hr.ext e1) fun w2 e2 => retS_ret ⟨_, rfl, ?_⟩)
  have E2 := e1.trans e2
  refine do_maxk (retS_ret ⟨_, rfl, ?_⟩)
  rw [wrapU_of (by omega) (by omega)]
  exact do_call Tryz.call60 (c_new (hl.ext E2) (hr.ext E2) (by omega) fun b w3 e3 h3 _ => retS_ret ⟨_, rfl, h _ _ (E2.trans e3) h3⟩)
/-! ### sides -/
def inF (s : Bool) : Nat := cond s 108 109
def outF (s : Bool) : Nat := cond s 109 108
def mkFA (s : Bool) : Nat := cond s 227 230
theorem do_in (s : Bool) {p : Option Addr} {t : Tr} {w : World} {R : Ending → World → Prop} (ht : IsN w p t) (h : ∀ q, IsN w q (inS s t) → R (.returned (.pointer q)) w) : doCall Tryz.prog (.func (.func (inF s)) #[] #[]) #[.pointer p] w R := by
  cases s
  · exact do_call Tryz.call109 (c_right ht h)
  · exact do_call Tryz.call108 (c_left ht h)
theorem do_out (s : Bool) {p : Option Addr} {t : Tr} {w : World} {R : Ending → World → Prop} (ht : IsN w p t) (h : ∀ q, IsN w q (outS s t) → R (.returned (.pointer q)) w) : doCall Tryz.prog (.func (.func (outF s)) #[] #[]) #[.pointer p] w R := by
  cases s
  · exact do_call Tryz.call108 (c_left ht h)
  · exact do_call Tryz.call109 (c_right ht h)
theorem do_mkA (s : Bool) {pi pp po : Option Addr} {i o pr : Tr} {w : World} {R : Ending → World → Prop} (hi : IsN w pi i) (hp : IsN w pp pr) (ho : IsN w po o) (hs : i.size + 1 + o.size ≤ BIG) (t1 : 0 ≤ i.tag ∧ i.tag ≤ BIG) (t2 : 0 ≤ o.tag ∧ o.tag ≤ BIG)
    (h : ∀ q w', Ext w w' → IsN w' q (mkAS s i pr.key pr.val o) → R (.returned (.pointer q)) w') : doCall Tryz.prog (.func (.func (mkFA s)) #[] #[]) #[.pointer pi, .pointer pp, .pointer po] w R := by
  cases s
  · refine do_call Tryz.call230 (sh230_ok _ _ _ ?_)
    unfold sh230
    refine do_call Tryz.call107 (c_key hp fun w1 e1 => retS_ret ⟨_, rfl, ?_⟩)
    refine do_call Tryz.call165 (c_val (hp.ext e1) fun w2 e2 => retS_ret ⟨_, rfl, ?_⟩)
    have E2 := e1.trans e2
    exact do_call Tryz.call181 (c_amake (ho.ext E2) (hi.ext E2) (by omega) t2 t1 fun q w3 e3 h3 => retS_ret ⟨_, rfl, h _ _ (E2.trans e3) h3⟩)
  · refine do_call Tryz.call227 (sh227_ok _ _ _ ?_)
    unfold sh227
    refine do_call Tryz.call107 (c_key hp fun w1 e1 => retS_ret ⟨_, rfl, ?_⟩)
    refine do_call Tryz.call165 (c_val (hp.ext e1) fun w2 e2 => retS_ret ⟨_, rfl, ?_⟩)
    have E2 := e1.trans e2
    exact do_call Tryz.call181 (c_amake (hi.ext E2) (ho.ext E2) hs t1 t2 fun q w3 e3 h3 => retS_ret ⟨_, rfl, h _ _ (E2.trans e3) h3⟩)
abbrev sideA (s : Bool) : Value := .agg #[.func (.func (inF s)) #[] #[], .func (.func (outF s)) #[] #[], .func (.func (mkFA s)) #[] #[]]
abbrev sideAc (s : Bool) : Array Value := #[.func (.func (inF s)) #[] #[], .func (.func (outF s)) #[] #[], .func (.func (mkFA s)) #[] #[]]
theorem do_st3 {w : World} {b : Nat} {v0 v1 v2 x0 x1 x2 : Value} {t : TypeId} (h : Blk w b #[v0, v1, v2] t) {K : World → Prop} (k : ∀ w', Blk w' b #[x0, x1, x2] t → w.grownBy w' (some b) → K w') :
    doSt ((blk b).add 0) x0 w fun w1 => doSt ((blk b).add 1) x1 w1 fun w2 => doSt ((blk b).add 2) x2 w2 K := by
  refine do_st h (i := 0) (add_blk b 0) (by simp) fun w1 h1 g1 => ?_
  have k1 : Blk w1 b #[x0, v1, v2] t := h1
  refine do_st k1 (i := 1) (add_blk b 1) (by simp) fun w2 h2 g2 => ?_
  have k2 : Blk w2 b #[x0, x1, v2] t := h2
  refine do_st k2 (i := 2) (add_blk b 2) (by simp) fun w3 h3 g3 => ?_
  exact k _ h3 (grown_trans (grown_trans g1 g2) g3)
theorem c_aside (s : Bool) {w : World} {R : Ending → World → Prop} (h : ∀ w', Ext w w' → R (.returned (sideA s)) w') : doCall Tryz.prog (.func (.func (cond s 182 184)) #[] #[]) #[] w R := by
  cases s
  · refine do_call Tryz.call184 (sh184_ok ?_)
    unfold sh184
    refine ⟨do_st3 (blk_alloc w _ _) fun w1 h1 g1 => ?_⟩
    exact ⟨_, _, _, h1.cell (i := 0) (add_blk _ _) rfl, _, _, _, h1.cell (i := 1) (add_blk _ _) rfl, _, _, _, h1.cell (i := 2) (add_blk _ _) rfl, h _ ((ext_alloc w _).st g1 (Nat.le_refl _))⟩
  · refine do_call Tryz.call182 (sh182_ok ?_)
    unfold sh182
    refine ⟨do_st3 (blk_alloc w _ _) fun w1 h1 g1 => ?_⟩
    exact ⟨_, _, _, h1.cell (i := 0) (add_blk _ _) rfl, _, _, _, h1.cell (i := 1) (add_blk _ _) rfl, _, _, _, h1.cell (i := 2) (add_blk _ _) rfl, h _ ((ext_alloc w _).st g1 (Nat.le_refl _))⟩
/-- heights that are not too large -/
abbrev Tg (t : Tr) : Prop := 0 ≤ t.tag ∧ t.tag ≤ BIG
theorem mkAS_size (s : Bool) (i o : Tr) (k v : Int) : (mkAS s i k v o).size = i.size + 1 + o.size := by cases s <;> simp [mkAS, mkA, Tr.size] <;> omega
theorem c_inward (s : Bool) {p : Option Addr} {t : Tr} {w : World} {R : Ending → World → Prop} (ht : IsN w p t) (hs : (inS s t).size + 1 + ((inS s (outS s t)).size + 1 + (outS s (outS s t)).size) + 1 ≤ BIG)
    (t1 : Tg (inS s t)) (t2 : Tg (inS s (outS s t))) (t3 : Tg (outS s (outS s t))) (t4 : max (inS s t).tag (inS s (outS s t)).tag + 1 ≤ BIG)
    (h : ∀ q w', Ext w w' → IsN w' q (inwardA s t) → R (.returned (.pointer q)) w') : Calls Tryz.prog 228 #[sideA s, .pointer p] w R := by
  refine sh228_ok _ _ _ _ _ _ _ _ _ _ ?_
  unfold sh228
  refine ⟨?_⟩
  have e1 := ext_alloc w (.cells (sideAc s) 251)
  have hb := blk_alloc w (sideAc s) 251
  generalize w.alloc (.cells (sideAc s) 251) = w1 at *
  refine ⟨_, _, _, hb.cell (i := 1) (add_blk _ _) rfl, do_out s (ht.ext e1) fun qu hu => retS_ret ⟨_, rfl, ?_⟩⟩
  refine ⟨⟨fun w' => Ext w1 w', ext_drew _, _, _, _, fun w' e => (hb.ext e).cell (i := 2) (add_blk _ _) rfl, _, _, _, fun w' e => (hb.ext e).cell (i := 2) (add_blk _ _) rfl, _, _, _, fun w' e => (hb.ext e).cell (i := 0) (add_blk _ _) rfl, _, _, _, fun w' e => (hb.ext e).cell (i := 0) (add_blk _ _) rfl, _, _, _, fun w' e => (hb.ext e).cell (i := 1) (add_blk _ _) rfl, ?_⟩⟩
  have d := ext_drew w1
  refine do_in s ((ht.ext e1).ext d) fun q1 h1 => retS_ret ⟨_, rfl, d, ?_⟩
  refine do_in s (hu.ext d) fun q2 h2 => retS_ret ⟨_, rfl, d, ?_⟩
  refine do_mkA s h1 ((ht.ext e1).ext d) h2 (by omega) t1 t2 fun q3 w3 e3 h3 => retS_ret ⟨_, rfl, d.trans e3, ?_⟩
  have E3 := d.trans e3
  refine do_out s (hu.ext E3) fun q4 h4 => retS_ret ⟨_, rfl, E3, ?_⟩
  refine do_mkA s h3 (hu.ext E3) h4 (by rw [mkAS_size]; omega) (by rw [mkAS_tag]; have := t1.1; omega) t3 fun q5 w5 e5 h5 => retS_ret ⟨_, rfl, E3.trans e5, h _ _ ((e1.trans E3).trans e5) h5⟩
theorem c_outward (s : Bool) {p : Option Addr} {t : Tr} {w : World} {R : Ending → World → Prop} (ht : IsN w p t) (hs : (outS s t).size + 1 + ((outS s (inS s t)).size + 1 + (inS s (inS s t)).size) + 1 ≤ BIG)
    (t1 : Tg (outS s t)) (t2 : Tg (outS s (inS s t))) (t3 : Tg (inS s (inS s t))) (t4 : max (outS s (inS s t)).tag (outS s t).tag + 1 ≤ BIG)
    (h : ∀ q w', Ext w w' → IsN w' q (outwardA s t) → R (.returned (.pointer q)) w') : Calls Tryz.prog 229 #[sideA s, .pointer p] w R := by
  refine sh229_ok _ _ _ _ _ _ _ _ _ _ ?_
  unfold sh229
  refine ⟨?_⟩
  have e1 := ext_alloc w (.cells (sideAc s) 251)
  have hb := blk_alloc w (sideAc s) 251
  generalize w.alloc (.cells (sideAc s) 251) = w1 at *
  refine ⟨_, _, _, hb.cell (i := 0) (add_blk _ _) rfl, do_in s (ht.ext e1) fun qu hu => retS_ret ⟨_, rfl, ?_⟩⟩
  refine ⟨⟨fun w' => Ext w1 w', ext_drew _, _, _, _, fun w' e => (hb.ext e).cell (i := 2) (add_blk _ _) rfl, _, _, _, fun w' e => (hb.ext e).cell (i := 0) (add_blk _ _) rfl, _, _, _, fun w' e => (hb.ext e).cell (i := 2) (add_blk _ _) rfl, _, _, _, fun w' e => (hb.ext e).cell (i := 1) (add_blk _ _) rfl, _, _, _, fun w' e => (hb.ext e).cell (i := 1) (add_blk _ _) rfl, ?_⟩⟩
  have d := ext_drew w1
  refine do_in s (hu.ext d) fun q1 h1 => retS_ret ⟨_, rfl, d, ?_⟩
  refine do_out s (hu.ext d) fun q2 h2 => retS_ret ⟨_, rfl, d, ?_⟩
  refine do_out s ((ht.ext e1).ext d) fun q3 h3 => retS_ret ⟨_, rfl, d, ?_⟩
  refine do_mkA s h2 ((ht.ext e1).ext d) h3 (by omega) t2 t1 fun q4 w4 e4 h4 => retS_ret ⟨_, rfl, d.trans e4, ?_⟩
  have E4 := d.trans e4
  refine do_mkA s (h1.ext e4) (hu.ext E4) h4 (by rw [mkAS_size]; omega) t3 (by rw [mkAS_tag]; have := t1.1; omega) fun q5 w5 e5 h5 => retS_ret ⟨_, rfl, E4.trans e5, h _ _ ((e1.trans E4).trans e5) h5⟩
end Go.Proofs.YtbaoihmffobneaaGreat

namespace Go.Proofs.YtbaoihmffobneaaGreat
open Go Go.Sh Go.RowKit

theorem Avl.two (s : Bool) {t : Tr} (h : Avl t) : Avl (inS s t) ∧ Avl (outS s t) := by
  cases hn : t.nn with
  | true => exact ⟨(h.sides s hn).1, (h.sides s hn).2.1⟩
  | false => rw [Tr.size0 hn]; cases s <;> exact ⟨trivial, trivial⟩
theorem size_two (s : Bool) (t : Tr) : (inS s t).size + (outS s t).size ≤ t.size := by
  cases t with
  | nil => cases s <;> exact Nat.le_refl _
  | node l k v g r => cases s <;> simp only [inS, outS, cond_true, cond_false, Tr.left, Tr.right, Tr.size] <;> omega
theorem Avl.tg {t : Tr} (h : Avl t) (hs : t.size ≤ BIG) : Tg t := by
  have := h.tag
  exact ⟨this.1, by omega⟩
theorem size_nn2 (s : Bool) {t : Tr} (h : t.nn = true) : t.size = (inS s t).size + 1 + (outS s t).size := by
  cases t with
  | nil => cases h
  | node l k v g r => cases s <;> simp only [inS, outS, cond_true, cond_false, Tr.left, Tr.right, Tr.size] <;> omega
set_option maxRecDepth 20000 in
theorem c_hangA (s : Bool) {k v : Int} {low pair : Tr} (hlow : Avl low) (hpk : pair.key = k) (hpv : pair.val = v) : ∀ (n : Nat) (t : Tr) {p pp pl : Option Addr} {w : World} {R : Ending → World → Prop} (_hn : t.size ≤ n) (_ht : IsN w p t) (_hp : IsN w pp pair) (_hl : IsN w pl low)
    (_ha : Avl t) (_hg : low.tag + 1 < t.tag) (_hs : t.size + low.size + 5 ≤ BIG) (_h : ∀ q w', Ext w w' → IsN w' q (hangA s k v low t) → R (.returned (.pointer q)) w'),
    Calls Tryz.prog 183 #[sideA s, .pointer p, .pointer pp, .pointer pl] w R := fun n => by
  induction n with
  | zero =>
    intro t p pp pl w R hn ht hp hl ha hg hs h
    have := ha.tag.2.1
    have := hlow.tag.1
    omega
  | succ n ih =>
    intro t p pp pl w R hn ht hp hl ha hg hs h
    have hl0 := hlow.tag
    have hnn : t.nn = true := by
      cases h : t.nn with
      | true => rfl
      | false => rw [Tr.size0 h] at hg; have e0 : Tr.nil.tag = 0 := rfl; rw [e0] at hg; omega
    obtain ⟨hi, ho, htag, h1, h2⟩ := ha.sides s hnn
    have hsz := size_nn2 s hnn
    have hok := hangA_ok s k v low hlow (n + 1) t hn ha hg
    rw [hangA_eq s k v low hnn] at h
    have hi0 := hi.tag
    have ho0 := ho.tag
    refine sh183_ok _ _ _ _ _ _ _ _ _ _ _ _ ?_
    unfold sh183
    refine ⟨?_⟩
    have e1 := ext_alloc w (.cells (sideAc s) 251)
    have hb := blk_alloc w (sideAc s) 251
    generalize hwb : w.heap.size = b at *
    generalize w.alloc (.cells (sideAc s) 251) = w1 at *
    have d := ext_drew w1
    refine ⟨⟨fun w' => Ext w1 w', d, _, _, _, fun w' e => (hb.ext e).cell (i := 0) (add_blk _ _) rfl, _, _, _, fun w' e => (hb.ext e).cell (i := 1) (add_blk _ _) rfl, ?_⟩⟩
    have ed := e1.trans d
    refine do_in s (ht.ext ed) fun qi hqi => retS_ret ⟨_, rfl, d, ?_⟩
    refine do_out s (ht.ext ed) fun qo hqo => retS_ret ⟨_, rfl, d, ?_⟩
    intro K31
    generalize hI : inS s t = i at *
    generalize hO : outS s t = o at *
    obtain ⟨base, hbase⟩ : ∃ base, base = (!o.nn || decide (o.tag ≤ low.tag + 1)) := ⟨_, rfl⟩
    simp only [← hbase] at h
    have hK : ∀ w', Ext w1.drew w' → K31 base w' := by
      intro w2 e2
      simp -zeta -zetaHave only [K31]
      intro K34
      have E2 := ed.trans e2
      have hb2 := (hb.ext d).ext e2
      have hK34 : ∀ (x : Tr) (q : Option Addr) w', x = cond base (mkAS s o k v low) (hangA s k v low o) → Avl x → x.nn = true → x.size ≤ o.size + 1 + low.size → Ext w2 w' → IsN w' q x → K34 q w' := by
        intro x q w3 hx hxa hxn hxs e3 hq
        have hxt := hxa.tag
        have E3 := E2.trans e3
        have hb3 := hb2.ext e3
        rw [← hx] at h
        refine do_call Tryz.call141 (c_arank hq hxt.1 (by omega) fun w4 e4 => retS_ret ⟨_, rfl, ?_⟩)
        refine do_call Tryz.call141 (c_arank ((hqi.ext (e2.trans e3)).ext e4) hi0.1 (by omega) fun w5 e5 => retS_ret ⟨_, rfl, ?_⟩)
        have E5 := (E3.trans e4).trans e5
        have e35 := e4.trans e5
        have e25 := (e2.trans e3).trans e35
        rw [wrap_of (by omega) (by simp only [BIG] at hs; omega)]
        refine ifB_intro (fun hc => ?_) fun hc => ?_
        · have hc := of_decide_eq_true hc
          rw [if_pos hc] at h
          refine ⟨_, _, _, (hb3.ext e35).cell (i := 2) (add_blk _ _) rfl, do_mkA s (hqi.ext e25) (ht.ext E5) (hq.ext e35) (by omega) (hi.tg (by omega)) (hxa.tg (by omega)) fun q6 w6 e6 h6 => retS_ret ⟨_, rfl, h _ _ (E5.trans e6) h6⟩⟩
        · have hc := of_decide_eq_false hc
          rw [if_neg hc] at h
          have hb5 := hb3.ext e35
          have d5 := ext_drew w5
          refine ifB_intro (fun hbt => ?_) fun hbf => ?_
          · rw [hbt, if_pos rfl] at h
            rw [hbt, cond_true] at hx
            have ho2 := ho.two s
            have hoz := size_two s o
            refine ⟨⟨fun w' => Ext w5 w', d5, _, _, _, fun w' e => (hb5.ext e).cell (i := 0) (add_blk _ _) rfl, _, _, _, fun w' e => (hb5.ext e).cell (i := 1) (add_blk _ _) rfl, _, _, _, fun w' e => (hb5.ext e).cell (i := 2) (add_blk _ _) rfl, _, _, _, fun w' e => (hb5.ext e).cell (i := 2) (add_blk _ _) rfl, _, _, _, fun w' e => (hb5.ext e).cell (i := 0) (add_blk _ _) rfl, _, _, _, fun w' e => (hb5.ext e).cell (i := 1) (add_blk _ _) rfl, _, _, _, fun w' e => (hb5.ext e).cell (i := 2) (add_blk _ _) rfl, ?_⟩⟩
            have hox : inS s x = o := by rw [hx, mkAS_in]
            have hlx : outS s x = low := by rw [hx, mkAS_out]
            have g1 := ho2.1.tag
            have g2 := ho2.2.tag
            have hlt : o.tag ≤ low.tag + 1 := by
              rw [hbt] at hbase
              cases hq : o.nn with
              | false =>
                have : o.tag = 0 := by rw [Tr.size0 hq]; rfl
                omega
              | true => rw [hq] at hbase; simpa using hbase.symm
            have hxt' : x.tag = max o.tag low.tag + 1 := by rw [hx, mkAS_tag]
            have hon : o.nn = true := by
              cases hq : o.nn with
              | true => rfl
              | false =>
                have : o.tag = 0 := by rw [Tr.size0 hq]; rfl
                omega
            obtain ⟨_, _, hot, ho1, ho3⟩ := ho.sides s hon
            refine do_call Tryz.call229 (c_outward s ((hq.ext e35).ext d5) (by rw [hox, hlx]; omega) (by rw [hlx]; exact hlow.tg (by omega)) (by rw [hox]; exact ho2.2.tg (by omega)) (by rw [hox]; exact ho2.1.tg (by omega)) (by rw [hox, hlx]; omega) fun q6 w6 e6 h6 => retS_ret ⟨_, rfl, d5.trans e6, ?_⟩)
            have e56 := d5.trans e6
            have hos : (outwardA s x).size = (inS s o).size + 1 + ((outS s o).size + 1 + low.size) := by
              unfold outwardA; rw [mkAS_size, mkAS_size, hox, hlx]
            have hot : (outwardA s x).tag = max (inS s o).tag (max (outS s o).tag low.tag + 1) + 1 := by
              unfold outwardA; rw [mkAS_tag, mkAS_tag, hox, hlx]
            refine do_mkA s ((hqi.ext e25).ext e56) ((ht.ext E5).ext e56) h6 (by rw [hos]; omega) (hi.tg (by omega)) (by show 0 ≤ _ ∧ _ ≤ _; rw [hot]; omega) fun q7 w7 e7 h7 => retS_ret ⟨_, rfl, e56.trans e7, ?_⟩
            have e57 := e56.trans e7
            have hio : outS s (outwardA s x) = mkAS s (outS s o) x.key x.val low := by unfold outwardA; rw [mkAS_out, hox, hlx]
            have hii : inS s (outwardA s x) = inS s o := by unfold outwardA; rw [mkAS_in, hox]
            refine do_call Tryz.call228 (c_inward s h7 ?_ ?_ ?_ ?_ ?_ fun q8 w8 e8 h8 => retS_ret ⟨_, rfl, e57.trans e8, h _ _ ((E5.trans e57).trans e8) h8⟩)
            · rw [mkAS_in, mkAS_out, hio, hii, mkAS_size]; omega
            · rw [mkAS_in]; exact hi.tg (by omega)
            · rw [mkAS_out, hii]; exact ho2.1.tg (by omega)
            · rw [mkAS_out, hio]; show 0 ≤ _ ∧ _ ≤ _; rw [mkAS_tag]; omega
            · rw [mkAS_in, mkAS_out, hii]; omega
          · rw [hbf, if_neg (by simp)] at h
            refine ⟨⟨fun w' => Ext w5 w', d5, _, _, _, fun w' e => (hb5.ext e).cell (i := 0) (add_blk _ _) rfl, _, _, _, fun w' e => (hb5.ext e).cell (i := 1) (add_blk _ _) rfl, _, _, _, fun w' e => (hb5.ext e).cell (i := 2) (add_blk _ _) rfl, _, _, _, fun w' e => (hb5.ext e).cell (i := 2) (add_blk _ _) rfl, ?_⟩⟩
            refine do_mkA s ((hqi.ext e25).ext d5) ((ht.ext E5).ext d5) ((hq.ext e35).ext d5) (by omega) (hi.tg (by omega)) (hxa.tg (by omega)) fun q7 w7 e7 h7 => retS_ret ⟨_, rfl, d5.trans e7, ?_⟩
            have e57 := d5.trans e7
            have hx2 := hxa.two s
            have hxz := size_nn2 s hxn
            have g1 := hx2.1.tag
            have g2 := hx2.2.tag
            refine do_call Tryz.call228 (c_inward s h7 ?_ ?_ ?_ ?_ ?_ fun q8 w8 e8 h8 => retS_ret ⟨_, rfl, e57.trans e8, h _ _ ((E5.trans e57).trans e8) h8⟩)
            · rw [mkAS_in, mkAS_out]; omega
            · rw [mkAS_in]; exact hi.tg (by omega)
            · rw [mkAS_out]; exact hx2.1.tg (by omega)
            · rw [mkAS_out]; exact hx2.2.tg (by omega)
            · rw [mkAS_in, mkAS_out]; omega
      refine ifB_intro (fun hbt => ?_) fun hbf => ?_
      · have hlt : o.tag ≤ low.tag + 1 := by
          rw [hbt] at hbase
          cases hq : o.nn with
          | false =>
            have : o.tag = 0 := by rw [Tr.size0 hq]; rfl
            omega
          | true => rw [hq] at hbase; simpa using hbase.symm
        refine ⟨_, _, _, hb2.cell (i := 2) (add_blk _ _) rfl, do_mkA s (hqo.ext e2) (hp.ext E2) (hl.ext E2) (by omega) (ho.tg (by omega)) (hlow.tg (by omega)) fun q6 w6 e6 h6 => retS_ret ⟨_, rfl, ?_⟩⟩
        rw [hpk, hpv] at h6
        exact hK34 _ _ _ (by rw [hbt]; rfl) (mkAS_avl ho hlow (by omega) (by omega)) (mkAS_nn _ _ _ _ _) (by rw [mkAS_size]; omega) e6 h6
      · have hon : o.nn = true ∧ low.tag + 1 < o.tag := by
          rw [hbf] at hbase
          cases hq : o.nn with
          | false => rw [hq] at hbase; simp at hbase
          | true => rw [hq] at hbase; simp at hbase; exact ⟨rfl, by omega⟩
        have hok2 := hangA_ok s k v low hlow n o (by omega) ho hon.2
        refine ⟨_, _, _, hb2.cell (i := 0) (add_blk _ _) rfl, _, _, _, hb2.cell (i := 1) (add_blk _ _) rfl, _, _, _, hb2.cell (i := 2) (add_blk _ _) rfl, ?_⟩
        refine do_call Tryz.call183 (ih o (by omega) (hqo.ext e2) (hp.ext E2) (hl.ext E2) ho hon.2 (by omega) fun q6 w6 e6 h6 => retS_ret ⟨_, rfl, ?_⟩)
        refine hK34 _ _ _ (by rw [hbf]; rfl) hok2.avl hok2.nn ?_ e6 h6
        rw [← Tr.pairs_length, hok2.pairs, fl_len, Tr.pairs_length, Tr.pairs_length]; omega
    refine ifB_intro (fun hno => ?_) fun hno => ?_
    · have hon : o.nn = false := by rw [hqo.isNone] at hno; simpa using hno
      have : base = true := by rw [hbase, hon]; rfl
      have := hK w1.drew (ext_refl _)
      rwa [‹base = true›] at this
    · have hon : o.nn = true := by rw [hqo.isNone] at hno; simpa using hno
      refine do_call Tryz.call141 (c_arank hqo ho0.1 (by omega) fun w4 e4 => retS_ret ⟨_, rfl, ?_⟩)
      refine do_call Tryz.call141 (c_arank (hl.ext (ed.trans e4)) hl0.1 (by omega) fun w5 e5 => retS_ret ⟨_, rfl, ?_⟩)
      rw [wrap_of (by omega) (by simp only [BIG] at hs; omega)]
      have : decide (o.tag ≤ low.tag + 1) = base := by rw [hbase, hon]; rfl
      rw [this]
      exact hK _ (e4.trans e5)
theorem c_ajoin {k v : Int} {l r : Tr} {pl pr : Option Addr} {w : World} {R : Ending → World → Prop} (hl : IsN w pl l) (hr : IsN w pr r) (al : Avl l) (ar : Avl r) (hs : l.size + r.size + 5 ≤ BIG)
    (h : ∀ q w', Ext w w' → IsN w' q (joinA l k v r) → R (.returned (.pointer q)) w') : Calls Tryz.prog 138 #[.pointer pl, .int .i64 k, .int .i64 v, .pointer pr] w R := by
  refine sh138_ok _ _ _ _ ?_
  unfold sh138
  have tl := al.tag
  have tr := ar.tag
  refine do_call Tryz.call181 (c_amake (l := .nil) (r := .nil) rfl rfl (by decide) ⟨Int.le_refl _, by decide⟩ ⟨Int.le_refl _, by decide⟩ fun qp w1 e1 hp => retS_ret ⟨_, rfl, ?_⟩)
  refine do_call Tryz.call141 (c_arank (hl.ext e1) tl.1 (by omega) fun w2 e2 => retS_ret ⟨_, rfl, ?_⟩)
  refine do_call Tryz.call141 (c_arank (hr.ext (e1.trans e2)) tr.1 (by omega) fun w3 e3 => retS_ret ⟨_, rfl, ?_⟩)
  have E3 := (e1.trans e2).trans e3
  have hp3 := hp.ext (e2.trans e3)
  simp only [BIG] at hs
  rw [wrap_of (x := r.tag + 1) (by omega) (by omega), wrap_of (x := l.tag + 1) (by omega) (by omega)]
  unfold joinA at h
  refine ifB_intro (fun hc => ?_) fun hc => ?_
  · have hc : r.tag + 1 < l.tag := of_decide_eq_true hc
    rw [if_pos hc] at h
    refine c_aside true fun w4 e4 => retS_ret ⟨_, _, _, _, _, _, _, _, _, rfl, ?_⟩
    have E4 := E3.trans e4
    exact do_call Tryz.call183 (c_hangA true ar rfl rfl l.size l (Nat.le_refl _) (hl.ext E4) (hp3.ext e4) (hr.ext E4) al hc (by simp only [BIG]; omega) fun q w5 e5 h5 => retS_ret ⟨_, rfl, h _ _ (E4.trans e5) h5⟩)
  · have hc : ¬ r.tag + 1 < l.tag := of_decide_eq_false hc
    rw [if_neg hc] at h
    refine ifB_intro (fun hc2 => ?_) fun hc2 => ?_
    · have hc2 : l.tag + 1 < r.tag := of_decide_eq_true hc2
      rw [if_pos hc2] at h
      refine c_aside false fun w4 e4 => retS_ret ⟨_, _, _, _, _, _, _, _, _, rfl, ?_⟩
      have E4 := E3.trans e4
      exact do_call Tryz.call183 (c_hangA false al rfl rfl r.size r (Nat.le_refl _) (hr.ext E4) (hp3.ext e4) (hl.ext E4) ar hc2 (by simp only [BIG]; omega) fun q w5 e5 h5 => retS_ret ⟨_, rfl, h _ _ (E4.trans e5) h5⟩)
    · have hc2 : ¬ l.tag + 1 < r.tag := of_decide_eq_false hc2
      rw [if_neg hc2] at h
      exact do_call Tryz.call181 (c_amake (hl.ext E3) (hr.ext E3) (by simp only [BIG]; omega) (al.tg (by simp only [BIG]; omega)) (ar.tg (by simp only [BIG]; omega)) fun q w5 e5 h5 => retS_ret ⟨_, rfl, h _ _ (E3.trans e5) h5⟩)
end Go.Proofs.YtbaoihmffobneaaGreat
