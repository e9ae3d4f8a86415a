/-
  sync.Once: doSlow, Do. After the kit's worked example (Lazy).
-/
/-
  avljoin: hang, Join.
-/
/-
  rb, rbjoin: what a join makes. The sides are methods of an interface.
-/
/-
  rb, rbjoin: make, hang, Join.
-/
/-
  rbjoin: hang, Join.
-/
import Derived.Test.YtlfjaogbehpleaaGreatZ17
import Derived.Laws.NewBlocks
import Derived.Test.YtlfjaogbehpleaaGreatZ16
import Derived.Tactics
import Derived.Tactics2
import Derived.Laws.Pointers

namespace Go.Proofs.YtlfjaogbehpleaaGreat
open Go Go.Sh

/-- what the function that is done once finds, and leaves -/
structure OnceQ (b off : Nat) (w : World) : Prop where
  c0 : w.cell? ⟨b, off, none⟩ = some (.int .u32 0)
  c1 : w.cell? ⟨b, off + 1, none⟩ = some (.int .i32 1)
  f0 : w.frozen? ⟨b, off, none⟩ = false
  f1 : w.frozen? ⟨b, off + 1, none⟩ = false
set_option maxRecDepth 100000 in
set_option maxHeartbeats 1600000 in
theorem o_slow (b off : Nat) (pl : Addr) (w : World) (Q : World → Prop)
    (h0 : w.cell? ⟨b, off, none⟩ = some (.int .u32 0)) (h1 : w.cell? ⟨b, off + 1, none⟩ = some (.int .i32 0)) (_f0 : w.frozen? ⟨b, off, none⟩ = false) (f1 : w.frozen? ⟨b, off + 1, none⟩ = false)
    (hf : Calls Tryz.prog 224 #[.pointer (some pl)] (w.setCell ⟨b, off + 1, none⟩ (.int .i32 1)) fun e w2 => e = .returned (.tuple #[]) ∧ Q w2) (hQ : ∀ w2, Q w2 → OnceQ b off w2) :
    Calls Tryz.prog 282 #[.pointer (some ⟨b, off, none⟩), .func (.func 224) #[] #[.pointer (some pl)]] w fun e w' => e = .returned (.tuple #[]) ∧
      ∃ w2, Q w2 ∧ w' = (w2.drew.setCell ⟨b, off, none⟩ (.int .u32 1)).setCell ⟨b, off + 1, none⟩ (.int .i32 0) := by
  have hl := run_call_load (P := Tryz.prog) Tryz.func331 (by kernel_rfl) (by kernel_rfl) (by kernel_rfl) .u32 (by kernel_rfl) (w := w.setCell ⟨b, off + 1, none⟩ (.int .i32 1)) (a := ⟨b, off, none⟩) (x := 0) ((World.cell?_setCell_other _ ⟨b, off + 1, none⟩ ⟨b, off, none⟩ _ (by simp)).trans h0)
  have hnot : ∀ (x : Bool) (w : World), (Op.unary .not (.bool x)).run Tryz.prog w = .ok (.bool (!x)) w := fun _ _ => rfl
  go_enter_defers Tryz.func282, Tryz.ntmps282
  go_wp2_with (first | (go_at_call 332; refine (o_lock ⟨b, off + 1, none⟩ _ (by go_simp) (by go_simp)).mono ?_; rintro e w' ⟨rfl, rfl⟩) | (go_at_call 224; refine hf.mono ?_; rintro e w2 ⟨rfl, hw2⟩) | (go_at_call 281; go_in))
  obtain ⟨q0, q1, g0, g1⟩ := hQ w2 hw2
  show Leaves _ _ _ _ _ _ _
  refine leaves_cons (f := 334) (args := #[.pointer (some ⟨b, off, none⟩), .bool true]) (by simp) (by simp [go_sem]) ?_
  refine (o_store ⟨b, off, none⟩ (.int .u32 0) .returning _ q0 g0).mono ?_
  rintro e u' w'' ⟨rfl, rfl, rfl⟩
  refine leaves_cons (f := 333) (args := #[.pointer (some ⟨b, off + 1, none⟩)]) (by simp [settle]) (by simp [go_sem]) ?_
  refine (o_unlock ⟨b, off + 1, none⟩ _ _ ?_ (by simp [g1])).mono ?_
  · refine (World.cell?_setCell_other _ ⟨b, off, none⟩ ⟨b, off + 1, none⟩ _ (by simp)).trans ?_
    rw [World.cell?_drew]
    exact q1
  rintro e u' w'' ⟨rfl, rfl, rfl⟩
  simp [Leaves, settle, results, Tryz.results282]
  exact ⟨w2, hw2, rfl⟩
set_option maxRecDepth 100000 in
set_option maxHeartbeats 1600000 in
/-- not yet done -/
theorem o_first (b off : Nat) (pl : Addr) (w : World) (Q : World → Prop)
    (h0 : w.cell? ⟨b, off, none⟩ = some (.int .u32 0)) (h1 : w.cell? ⟨b, off + 1, none⟩ = some (.int .i32 0)) (f0 : w.frozen? ⟨b, off, none⟩ = false) (f1 : w.frozen? ⟨b, off + 1, none⟩ = false)
    (hf : Calls Tryz.prog 224 #[.pointer (some pl)] (w.setCell ⟨b, off + 1, none⟩ (.int .i32 1)) fun e w2 => e = .returned (.tuple #[]) ∧ Q w2) (hQ : ∀ w2, Q w2 → OnceQ b off w2) :
    Calls Tryz.prog 223 #[.pointer (some ⟨b, off, none⟩), .func (.func 224) #[] #[.pointer (some pl)]] w fun e w' => e = .returned (.tuple #[]) ∧
      ∃ w2, Q w2 ∧ w' = (w2.drew.setCell ⟨b, off, none⟩ (.int .u32 1)).setCell ⟨b, off + 1, none⟩ (.int .i32 0) := by
  have hl := run_call_load (P := Tryz.prog) Tryz.func331 (by kernel_rfl) (by kernel_rfl) (by kernel_rfl) .u32 (by kernel_rfl) h0
  have hnot : ∀ (x : Bool) (w : World), (Op.unary .not (.bool x)).run Tryz.prog w = .ok (.bool (!x)) w := fun _ _ => rfl
  go_enter Tryz.func223, Tryz.ntmps223
  go_wp2_with (first | (go_at_call 282; refine (o_slow b off pl _ Q h0 h1 f0 f1 hf hQ).mono ?_; rintro e w' ⟨rfl, w2, hw2, rfl⟩) | (go_at_call 281; go_in))
  go_end0
  exact ⟨rfl, w2, hw2, rfl⟩
set_option maxRecDepth 100000 in
set_option maxHeartbeats 1600000 in
/-- done already -/
theorem o_done (a : Addr) (fv : Value) (w : World) (h0 : w.cell? a = some (.int .u32 1)) :
    Calls Tryz.prog 223 #[.pointer (some a), fv] w fun e w' => e = .returned (.tuple #[]) ∧ w' = w := by
  have hl := run_call_load (P := Tryz.prog) Tryz.func331 (by kernel_rfl) (by kernel_rfl) (by kernel_rfl) .u32 (by kernel_rfl) h0
  have hnot : ∀ (x : Bool) (w : World), (Op.unary .not (.bool x)).run Tryz.prog w = .ok (.bool (!x)) w := fun _ _ => rfl
  go_enter Tryz.func223, Tryz.ntmps223
  go_wp2
  go_end0
  exact ⟨rfl, rfl⟩
/-- the count of joins -/
theorem o_add {a : Addr} {x : Int} {w : World} {R : Ending → World → Prop} (hc : w.cell? a = some (.int .u64 x)) (hz : w.frozen? a = false) (h : R (.returned (.int .u64 (IntKind.wrap .u64 (x + 1)))) (w.setCell a (.int .u64 (IntKind.wrap .u64 (x + 1))))) :
    doCall Tryz.prog (.func (.func 283) #[] #[]) #[.pointer (some a), .int .u64 1] w R := by
  refine ⟨?_⟩
  have hadd := run_call_add (P := Tryz.prog) Tryz.func283 (by kernel_rfl) (by kernel_rfl) (by kernel_rfl) .u64 (by kernel_rfl) (y := 1) (s := IntKind.wrap .u64 (x + 1)) hc hz (by simp [go_sem])
  have e : (invoke (.fn (.func 283) #[]) (#[] ++ #[.pointer (some a), .int .u64 1])).run Tryz.prog w = .ok (.value (.int .u64 (IntKind.wrap .u64 (x + 1)))) (w.setCell a (.int .u64 (IntKind.wrap .u64 (x + 1)))) := by
    simp only [invoke]
    simpa using hadd
  unfold callV goV
  simp only [e]
  exact h
end Go.Proofs.YtlfjaogbehpleaaGreat

namespace Go.Proofs.YtlfjaogbehpleaaGreat
open Go Go.Sh Go.RowKit

theorem Avl.two (s : Bool) {t : Tr} (h : Avl t) : Avl (inS s t) ∧ Avl (outS s t) := by
  cases hn : t.nn with
  | true => exact ⟨(h.sides s hn).1, (h.sides s hn).2.1⟩
  | false => rw [Tr.size0 hn]; cases s <;> exact ⟨trivial, trivial⟩
theorem size_two (s : Bool) (t : Tr) : (inS s t).size + (outS s t).size ≤ t.size := by
  cases t with
  | nil => cases s <;> exact Nat.le_refl _
  | node l k v g r => cases s <;> simp only [inS, outS, cond_true, cond_false, Tr.left, Tr.right, Tr.size] <;> omega
theorem Avl.tg {t : Tr} (h : Avl t) (hs : t.size ≤ BIG) : Tg t := by
  have := h.tag
  exact ⟨this.1, by omega⟩
theorem size_nn2 (s : Bool) {t : Tr} (h : t.nn = true) : t.size = (inS s t).size + 1 + (outS s t).size := by
  cases t with
  | nil => cases h
  | node l k v g r => cases s <;> simp only [inS, outS, cond_true, cond_false, Tr.left, Tr.right, Tr.size] <;> omega
set_option maxRecDepth 20000 in
theorem c_hangA (s : Bool) {k v : Int} {low pair : Tr} (hlow : Avl low) (hpk : pair.key = k) (hpv : pair.val = v) : ∀ (n : Nat) (t : Tr) {p pp pl : Option Addr} {w : World} {R : Ending → World → Prop} (_hn : t.size ≤ n) (_ht : IsN w p t) (_hp : IsN w pp pair) (_hl : IsN w pl low)
    (_ha : Avl t) (_hg : low.tag + 1 < t.tag) (_hs : t.size + low.size + 5 ≤ BIG) (_h : ∀ q w', Ext w w' → IsN w' q (hangA s k v low t) → R (.returned (.pointer q)) w'),
    Calls Tryz.prog 252 #[sideA s, .pointer p, .pointer pp, .pointer pl] w R := fun n => by
  induction n with
  | zero =>
    intro t p pp pl w R hn ht hp hl ha hg hs h
    have := ha.tag.2.1
    have := hlow.tag.1
    omega
  | succ n ih =>
    intro t p pp pl w R hn ht hp hl ha hg hs h
    have hl0 := hlow.tag
    have hnn : t.nn = true := by
      cases h : t.nn with
      | true => rfl
      | false => rw [Tr.size0 h] at hg; have e0 : Tr.nil.tag = 0 := rfl; rw [e0] at hg; omega
    obtain ⟨hi, ho, htag, h1, h2⟩ := ha.sides s hnn
    have hsz := size_nn2 s hnn
    have hok := hangA_ok s k v low hlow (n + 1) t hn ha hg
    rw [hangA_eq s k v low hnn] at h
    have hi0 := hi.tag
    have ho0 := ho.tag
    refine sh252_ok _ _ _ _ _ _ _ _ _ _ _ _ ?_
    unfold sh252
    refine ⟨?_⟩
    have e1 := ext_alloc w (.cells (sideAc s) 299)
    have hb := blk_alloc w (sideAc s) 299
    generalize hwb : w.heap.size = b at *
    generalize w.alloc (.cells (sideAc s) 299) = w1 at *
    have d := ext_drew w1
    refine ⟨⟨fun w' => Ext w1 w', d, _, _, _, fun w' e => (hb.ext e).cell (i := 0) (add_blk _ _) rfl, _, _, _, fun w' e => (hb.ext e).cell (i := 1) (add_blk _ _) rfl, ?_⟩⟩
    have ed := e1.trans d
    refine do_in s (ht.ext ed) fun qi hqi => retS_ret ⟨_, rfl, d, ?_⟩
    refine do_out s (ht.ext ed) fun qo hqo => retS_ret ⟨_, rfl, d, ?_⟩
    intro K31
    generalize hI : inS s t = i at *
    generalize hO : outS s t = o at *
    obtain ⟨base, hbase⟩ : ∃ base, base = (!o.nn || decide (o.tag ≤ low.tag + 1)) := ⟨_, rfl⟩
    simp only [← hbase] at h
    have hK : ∀ w', Ext w1.drew w' → K31 base w' := by
      intro w2 e2
      simp -zeta -zetaHave only [K31]
      intro K34
      have E2 := ed.trans e2
      have hb2 := (hb.ext d).ext e2
      have hK34 : ∀ (x : Tr) (q : Option Addr) w', x = cond base (mkAS s o k v low) (hangA s k v low o) → Avl x → x.nn = true → x.size ≤ o.size + 1 + low.size → Ext w2 w' → IsN w' q x → K34 q w' := by
        intro x q w3 hx hxa hxn hxs e3 hq
        have hxt := hxa.tag
        have E3 := E2.trans e3
        have hb3 := hb2.ext e3
        rw [← hx] at h
        refine do_call Tryz.call196 (c_arank hq hxt.1 (by omega) fun w4 e4 => retS_ret ⟨_, rfl, ?_⟩)
        refine do_call Tryz.call196 (c_arank ((hqi.ext (e2.trans e3)).ext e4) hi0.1 (by omega) fun w5 e5 => retS_ret ⟨_, rfl, ?_⟩)
        have E5 := (E3.trans e4).trans e5
        have e35 := e4.trans e5
        have e25 := (e2.trans e3).trans e35
        rw [wrap_of (by omega) (by simp only [BIG] at hs; omega)]
        refine ifB_intro (fun hc => ?_) fun hc => ?_
        · have hc := of_decide_eq_true hc
          rw [if_pos hc] at h
          refine ⟨_, _, _, (hb3.ext e35).cell (i := 2) (add_blk _ _) rfl, do_mkA s (hqi.ext e25) (ht.ext E5) (hq.ext e35) (by omega) (hi.tg (by omega)) (hxa.tg (by omega)) fun q6 w6 e6 h6 => retS_ret ⟨_, rfl, h _ _ (E5.trans e6) h6⟩⟩
        · have hc := of_decide_eq_false hc
          rw [if_neg hc] at h
          have hb5 := hb3.ext e35
          have d5 := ext_drew w5
          refine ifB_intro (fun hbt => ?_) fun hbf => ?_
          · rw [hbt, if_pos rfl] at h
            rw [hbt, cond_true] at hx
            have ho2 := ho.two s
            have hoz := size_two s o
            refine ⟨⟨fun w' => Ext w5 w', d5, _, _, _, fun w' e => (hb5.ext e).cell (i := 0) (add_blk _ _) rfl, _, _, _, fun w' e => (hb5.ext e).cell (i := 1) (add_blk _ _) rfl, _, _, _, fun w' e => (hb5.ext e).cell (i := 2) (add_blk _ _) rfl, _, _, _, fun w' e => (hb5.ext e).cell (i := 2) (add_blk _ _) rfl, _, _, _, fun w' e => (hb5.ext e).cell (i := 0) (add_blk _ _) rfl, _, _, _, fun w' e => (hb5.ext e).cell (i := 1) (add_blk _ _) rfl, _, _, _, fun w' e => (hb5.ext e).cell (i := 2) (add_blk _ _) rfl, ?_⟩⟩
            have hox : inS s x = o := by rw [hx, mkAS_in]
            have hlx : outS s x = low := by rw [hx, mkAS_out]
            have g1 := ho2.1.tag
            have g2 := ho2.2.tag
            have hlt : o.tag ≤ low.tag + 1 := by
              rw [hbt] at hbase
              cases hq : o.nn with
              | false =>
                have : o.tag = 0 := by rw [Tr.size0 hq]; rfl
                omega
              | true => rw [hq] at hbase; simpa using hbase.symm
            have hxt' : x.tag = max o.tag low.tag + 1 := by rw [hx, mkAS_tag]
            have hon : o.nn = true := by
              cases hq : o.nn with
              | true => rfl
              | false =>
                have : o.tag = 0 := by rw [Tr.size0 hq]; rfl
                omega
            obtain ⟨_, _, hot, ho1, ho3⟩ := ho.sides s hon
            refine do_call Tryz.call310 (c_outward s ((hq.ext e35).ext d5) (by rw [hox, hlx]; omega) (by rw [hlx]; exact hlow.tg (by omega)) (by rw [hox]; exact ho2.2.tg (by omega)) (by rw [hox]; exact ho2.1.tg (by omega)) (by rw [hox, hlx]; omega) fun q6 w6 e6 h6 => retS_ret ⟨_, rfl, d5.trans e6, ?_⟩)
            have e56 := d5.trans e6
            have hos : (outwardA s x).size = (inS s o).size + 1 + ((outS s o).size + 1 + low.size) := by
              unfold outwardA; rw [mkAS_size, mkAS_size, hox, hlx]
            have hot : (outwardA s x).tag = max (inS s o).tag (max (outS s o).tag low.tag + 1) + 1 := by
              unfold outwardA; rw [mkAS_tag, mkAS_tag, hox, hlx]
            refine do_mkA s ((hqi.ext e25).ext e56) ((ht.ext E5).ext e56) h6 (by rw [hos]; omega) (hi.tg (by omega)) (by show 0 ≤ _ ∧ _ ≤ _; rw [hot]; omega) fun q7 w7 e7 h7 => retS_ret ⟨_, rfl, e56.trans e7, ?_⟩
            have e57 := e56.trans e7
            have hio : outS s (outwardA s x) = mkAS s (outS s o) x.key x.val low := by unfold outwardA; rw [mkAS_out, hox, hlx]
            have hii : inS s (outwardA s x) = inS s o := by unfold outwardA; rw [mkAS_in, hox]
            refine do_call Tryz.call309 (c_inward s h7 ?_ ?_ ?_ ?_ ?_ fun q8 w8 e8 h8 => retS_ret ⟨_, rfl, e57.trans e8, h _ _ ((E5.trans e57).trans e8) h8⟩)
            · rw [mkAS_in, mkAS_out, hio, hii, mkAS_size]; omega
            · rw [mkAS_in]; exact hi.tg (by omega)
            · rw [mkAS_out, hii]; exact ho2.1.tg (by omega)
            · rw [mkAS_out, hio]; show 0 ≤ _ ∧ _ ≤ _; rw [mkAS_tag]; omega
            · rw [mkAS_in, mkAS_out, hii]; omega
          · rw [hbf, if_neg (by simp)] at h
            refine ⟨⟨fun w' => Ext w5 w', d5, _, _, _, fun w' e => (hb5.ext e).cell (i := 0) (add_blk _ _) rfl, _, _, _, fun w' e => (hb5.ext e).cell (i := 1) (add_blk _ _) rfl, _, _, _, fun w' e => (hb5.ext e).cell (i := 2) (add_blk _ _) rfl, _, _, _, fun w' e => (hb5.ext e).cell (i := 2) (add_blk _ _) rfl, ?_⟩⟩
            refine do_mkA s ((hqi.ext e25).ext d5) ((ht.ext E5).ext d5) ((hq.ext e35).ext d5) (by omega) (hi.tg (by omega)) (hxa.tg (by omega)) fun q7 w7 e7 h7 => retS_ret ⟨_, rfl, d5.trans e7, ?_⟩
            have e57 := d5.trans e7
            have hx2 := hxa.two s
            have hxz := size_nn2 s hxn
            have g1 := hx2.1.tag
            have g2 := hx2.2.tag
            refine do_call Tryz.call309 (c_inward s h7 ?_ ?_ ?_ ?_ ?_ fun q8 w8 e8 h8 => retS_ret ⟨_, rfl, e57.trans e8, h _ _ ((E5.trans e57).trans e8) h8⟩)
            · rw [mkAS_in, mkAS_out]; omega
            · rw [mkAS_in]; exact hi.tg (by omega)
            · rw [mkAS_out]; exact hx2.1.tg (by omega)
            · rw [mkAS_out]; exact hx2.2.tg (by omega)
            · rw [mkAS_in, mkAS_out]; omega
      refine ifB_intro (fun hbt => ?_) fun hbf => ?_
      · have hlt : o.tag ≤ low.tag + 1 := by
          rw [hbt] at hbase
          cases hq : o.nn with
          | false =>
            have : o.tag = 0 := by rw [Tr.size0 hq]; rfl
            omega
          | true => rw [hq] at hbase; simpa using hbase.symm
        refine ⟨_, _, _, hb2.cell (i := 2) (add_blk _ _) rfl, do_mkA s (hqo.ext e2) (hp.ext E2) (hl.ext E2) (by omega) (ho.tg (by omega)) (hlow.tg (by omega)) fun q6 w6 e6 h6 => retS_ret ⟨_, rfl, ?_⟩⟩
        rw [hpk, hpv] at h6
        exact hK34 _ _ _ (by rw [hbt]; rfl) (mkAS_avl ho hlow (by omega) (by omega)) (mkAS_nn _ _ _ _ _) (by rw [mkAS_size]; omega) e6 h6
      · have hon : o.nn = true ∧ low.tag + 1 < o.tag := by
          rw [hbf] at hbase
          cases hq : o.nn with
          | false => rw [hq] at hbase; simp at hbase
          | true => rw [hq] at hbase; simp at hbase; exact ⟨rfl, by omega⟩
        have hok2 := hangA_ok s k v low hlow n o (by omega) ho hon.2
        refine ⟨_, _, _, hb2.cell (i := 0) (add_blk _ _) rfl, _, _, _, hb2.cell (i := 1) (add_blk _ _) rfl, _, _, _, hb2.cell (i := 2) (add_blk _ _) rfl, ?_⟩
        refine do_call Tryz.call252 (ih o (by omega) (hqo.ext e2) (hp.ext E2) (hl.ext E2) ho hon.2 (by omega) fun q6 w6 e6 h6 => retS_ret ⟨_, rfl, ?_⟩)
        refine hK34 _ _ _ (by rw [hbf]; rfl) hok2.avl hok2.nn ?_ e6 h6
        rw [← Tr.pairs_length, hok2.pairs, fl_len, Tr.pairs_length, Tr.pairs_length]; omega
    refine ifB_intro (fun hno => ?_) fun hno => ?_
    · have hon : o.nn = false := by rw [hqo.isNone] at hno; simpa using hno
      have : base = true := by rw [hbase, hon]; rfl
      have := hK w1.drew (ext_refl _)
      rwa [‹base = true›] at this
    · have hon : o.nn = true := by rw [hqo.isNone] at hno; simpa using hno
      refine do_call Tryz.call196 (c_arank hqo ho0.1 (by omega) fun w4 e4 => retS_ret ⟨_, rfl, ?_⟩)
      refine do_call Tryz.call196 (c_arank (hl.ext (ed.trans e4)) hl0.1 (by omega) fun w5 e5 => retS_ret ⟨_, rfl, ?_⟩)
      rw [wrap_of (by omega) (by simp only [BIG] at hs; omega)]
      have : decide (o.tag ≤ low.tag + 1) = base := by rw [hbase, hon]; rfl
      rw [this]
      exact hK _ (e4.trans e5)
theorem c_ajoin {k v : Int} {l r : Tr} {pl pr : Option Addr} {w : World} {R : Ending → World → Prop} (hl : IsN w pl l) (hr : IsN w pr r) (al : Avl l) (ar : Avl r) (hs : l.size + r.size + 5 ≤ BIG)
    (h : ∀ q w', Ext w w' → IsN w' q (joinA l k v r) → R (.returned (.pointer q)) w') : Calls Tryz.prog 193 #[.pointer pl, .int .i64 k, .int .i64 v, .pointer pr] w R := by
  refine sh193_ok _ _ _ _ ?_
  unfold sh193
  have tl := al.tag
  have tr := ar.tag
  refine do_call Tryz.call250 (c_amake (l := .nil) (r := .nil) rfl rfl (by decide) ⟨Int.le_refl _, by decide⟩ ⟨Int.le_refl _, by decide⟩ fun qp w1 e1 hp => retS_ret ⟨_, rfl, ?_⟩)
  refine do_call Tryz.call196 (c_arank (hl.ext e1) tl.1 (by omega) fun w2 e2 => retS_ret ⟨_, rfl, ?_⟩)
  refine do_call Tryz.call196 (c_arank (hr.ext (e1.trans e2)) tr.1 (by omega) fun w3 e3 => retS_ret ⟨_, rfl, ?_⟩)
  have E3 := (e1.trans e2).trans e3
  have hp3 := hp.ext (e2.trans e3)
  simp only [BIG] at hs
  rw [wrap_of (x := r.tag + 1) (by omega) (by omega), wrap_of (x := l.tag + 1) (by omega) (by omega)]
  unfold joinA at h
  refine ifB_intro (fun hc => ?_) fun hc => ?_
  · have hc : r.tag + 1 < l.tag := of_decide_eq_true hc
    rw [if_pos hc] at h
    refine c_aside true fun w4 e4 => retS_ret ⟨_, _, _, _, _, _, _, _, _, rfl, ?_⟩
    have E4 := E3.trans e4
    exact do_call Tryz.call252 (c_hangA true ar rfl rfl l.size l (Nat.le_refl _) (hl.ext E4) (hp3.ext e4) (hr.ext E4) al hc (by simp only [BIG]; omega) fun q w5 e5 h5 => retS_ret ⟨_, rfl, h _ _ (E4.trans e5) h5⟩)
  · have hc : ¬ r.tag + 1 < l.tag := of_decide_eq_false hc
    rw [if_neg hc] at h
    refine ifB_intro (fun hc2 => ?_) fun hc2 => ?_
    · have hc2 : l.tag + 1 < r.tag := of_decide_eq_true hc2
      rw [if_pos hc2] at h
      refine c_aside false fun w4 e4 => retS_ret ⟨_, _, _, _, _, _, _, _, _, rfl, ?_⟩
      have E4 := E3.trans e4
      exact do_call Tryz.call252 (c_hangA false al rfl rfl r.size r (Nat.le_refl _) (hr.ext E4) (hp3.ext e4) (hl.ext E4) ar hc2 (by simp only [BIG]; omega) fun q w5 e5 h5 => retS_ret ⟨_, rfl, h _ _ (E4.trans e5) h5⟩)
    · have hc2 : ¬ l.tag + 1 < r.tag := of_decide_eq_false hc2
      rw [if_neg hc2] at h
      exact do_call Tryz.call250 (c_amake (hl.ext E3) (hr.ext E3) (by simp only [BIG]; omega) (al.tg (by simp only [BIG]; omega)) (ar.tg (by simp only [BIG]; omega)) fun q w5 e5 h5 => retS_ret ⟨_, rfl, h _ _ (E3.trans e5) h5⟩)
end Go.Proofs.YtlfjaogbehpleaaGreat

namespace Go.Proofs.YtlfjaogbehpleaaGreat
open Go Go.Sh Go.RowKit

theorem do_meth {P : Program} {m : String} {xs bs : Array Value} {f : Nat} {w : World} {R : Ending → World → Prop} (he : ∀ w, (invoke (.fn (.method m) #[]) xs).run P w = .ok (.enter f bs) w) (h : Calls P f bs w R) :
    doGo P (.fn (.method m) #[]) xs w R := by
  refine ⟨?_⟩
  unfold goV
  rw [he w]
  exact h
abbrev sdR (s : Bool) : Value := .iface (cond s 309 310) (.agg #[])
theorem m_out_r (p : Option Addr) : ∀ w, (invoke (.fn (.method "joinery/rbjoin.out") #[]) #[sdR true, .pointer p]).run Tryz.prog w = .ok (.enter 418 #[.agg #[], .pointer p]) w := fun w => by kernel_rfl
theorem m_out_l (p : Option Addr) : ∀ w, (invoke (.fn (.method "joinery/rbjoin.out") #[]) #[sdR false, .pointer p]).run Tryz.prog w = .ok (.enter 421 #[.agg #[], .pointer p]) w := fun w => by kernel_rfl
theorem m_in_r (p : Option Addr) : ∀ w, (invoke (.fn (.method "joinery/rbjoin.in") #[]) #[sdR true, .pointer p]).run Tryz.prog w = .ok (.enter 416 #[.agg #[], .pointer p]) w := fun w => by kernel_rfl
theorem m_in_l (p : Option Addr) : ∀ w, (invoke (.fn (.method "joinery/rbjoin.in") #[]) #[sdR false, .pointer p]).run Tryz.prog w = .ok (.enter 419 #[.agg #[], .pointer p]) w := fun w => by kernel_rfl
theorem m_make_r (i p o : Option Addr) (c : Bool) : ∀ w, (invoke (.fn (.method "joinery/rbjoin.make") #[]) #[sdR true, .pointer i, .pointer p, .bool c, .pointer o]).run Tryz.prog w = .ok (.enter 417 #[.agg #[], .pointer i, .pointer p, .bool c, .pointer o]) w := fun w => by kernel_rfl
theorem m_make_l (i p o : Option Addr) (c : Bool) : ∀ w, (invoke (.fn (.method "joinery/rbjoin.make") #[]) #[sdR false, .pointer i, .pointer p, .bool c, .pointer o]).run Tryz.prog w = .ok (.enter 420 #[.agg #[], .pointer i, .pointer p, .bool c, .pointer o]) w := fun w => by kernel_rfl
theorem nc_r : ∀ w, (execOp (fun _ => .func (.method "joinery/rbjoin.make") #[sdR true] #[]) ⟨none, .nilCheck (.tmp 0), 0, "", #[], none⟩).run Tryz.prog w = .ok (.value (.func (.method "joinery/rbjoin.make") #[sdR true] #[])) w := fun w => by kernel_rfl
theorem nc_l : ∀ w, (execOp (fun _ => .func (.method "joinery/rbjoin.make") #[sdR false] #[]) ⟨none, .nilCheck (.tmp 0), 0, "", #[], none⟩).run Tryz.prog w = .ok (.value (.func (.method "joinery/rbjoin.make") #[sdR false] #[])) w := fun w => by kernel_rfl
theorem nc_make (s : Bool) {K : Prop} (h : K) : doNC Tryz.prog (.func (.method "joinery/rbjoin.make") #[sdR s] #[]) K := by
  refine ⟨fun ρ o x w ho hx => ?_, h⟩
  obtain ⟨dst, op, ty, pos, after, guard⟩ := o
  simp only at ho
  subst ho
  have e : (execOp ρ ⟨dst, .nilCheck x, ty, pos, after, guard⟩).run Tryz.prog w = (execOp (fun _ => .func (.method "joinery/rbjoin.make") #[sdR s] #[]) ⟨none, .nilCheck (.tmp 0), 0, "", #[], none⟩).run Tryz.prog w := by
    simp only [execOp, hx]
  rw [e]
  cases s
  · exact nc_l w
  · exact nc_r w
set_option maxRecDepth 100000 in
set_option maxHeartbeats 1600000 in
theorem c_make_r {i p o : Option Addr} {c : Bool} {w : World} {Q : Option Addr → World → Prop} (h : ∀ w', Ext w w' → Calls Tryz.prog 415 #[.agg #[], .pointer i, .pointer p, .bool c, .pointer o] w' fun e w2 => ∃ q, e = .returned (.pointer q) ∧ Q q w2) :
    Calls Tryz.prog 417 #[.agg #[], .pointer i, .pointer p, .bool c, .pointer o] w fun e w2 => ∃ q, e = .returned (.pointer q) ∧ Q q w2 := by
  have hbo : (byteOf ⟨w.heap.size, 0, none⟩).run Tryz.prog (w.alloc (.cells #[] 309)) = .ok 0 (w.alloc (.cells #[] 309)) := by
    have hn := heap_alloc_new w (.cells #[] 309)
    have hsh : (w.alloc (.cells #[] 309)).shape? w.heap.size = some (309, 0) := by unfold World.shape?; rw [hn]; rfl
    have hc : Tryz.prog.cellsOf 309 = 0 := by kernel_rfl
    have hv : (viewAt w.heap.size).run Tryz.prog (w.alloc (.cells #[] 309)) = .ok none (w.alloc (.cells #[] 309)) := by
      simp [viewAt, hsh]
    simp [byteOf, noView, hv, hsh, hc]
  have hpa : (partAt ⟨w.heap.size, 0, none⟩ 0 0).run Tryz.prog (w.alloc (.cells #[] 309)) = .ok ⟨w.heap.size, 0, none⟩ (w.alloc (.cells #[] 309)) := by
    simp [partAt, hbo]
  go_enter Tryz.func417, Tryz.ntmps417
  go_wp2_with (go_at_call 415; refine (h _ (ext_alloc w _)).mono ?_; rintro e w' ⟨q, rfl, hq⟩)
  go_ret
  exact ⟨q, rfl, hq⟩
set_option maxRecDepth 100000 in
set_option maxHeartbeats 1600000 in
theorem c_make_l {i p o : Option Addr} {c : Bool} {w : World} {Q : Option Addr → World → Prop} (h : ∀ w', Ext w w' → Calls Tryz.prog 415 #[.agg #[], .pointer o, .pointer p, .bool c, .pointer i] w' fun e w2 => ∃ q, e = .returned (.pointer q) ∧ Q q w2) :
    Calls Tryz.prog 420 #[.agg #[], .pointer i, .pointer p, .bool c, .pointer o] w fun e w2 => ∃ q, e = .returned (.pointer q) ∧ Q q w2 := by
  have hbo : (byteOf ⟨w.heap.size, 0, none⟩).run Tryz.prog (w.alloc (.cells #[] 310)) = .ok 0 (w.alloc (.cells #[] 310)) := by
    have hn := heap_alloc_new w (.cells #[] 310)
    have hsh : (w.alloc (.cells #[] 310)).shape? w.heap.size = some (310, 0) := by unfold World.shape?; rw [hn]; rfl
    have hc : Tryz.prog.cellsOf 310 = 0 := by kernel_rfl
    have hv : (viewAt w.heap.size).run Tryz.prog (w.alloc (.cells #[] 310)) = .ok none (w.alloc (.cells #[] 310)) := by
      simp [viewAt, hsh]
    simp [byteOf, noView, hv, hsh, hc]
  have hpa : (partAt ⟨w.heap.size, 0, none⟩ 0 0).run Tryz.prog (w.alloc (.cells #[] 310)) = .ok ⟨w.heap.size, 0, none⟩ (w.alloc (.cells #[] 310)) := by
    simp [partAt, hbo]
  go_enter Tryz.func420, Tryz.ntmps420
  go_wp2_with (go_at_call 415; refine (h _ (ext_alloc w _)).mono ?_; rintro e w' ⟨q, rfl, hq⟩)
  go_ret
  exact ⟨q, rfl, hq⟩
end Go.Proofs.YtlfjaogbehpleaaGreat

namespace Go.Proofs.YtlfjaogbehpleaaGreat
open Go Go.Sh Go.RowKit

abbrev TgR (t : Tr) : Prop := 0 ≤ t.tag ∧ t.tag ≤ 4000000000000
theorem TgR.hi {t : Tr} (h : TgR t) : 0 ≤ hiR t ∧ hiR t ≤ 2000000000000 := by unfold hiR; have := h.1; have := h.2; omega
theorem Rb.tg {t : Tr} (h : Rb t) (hs : t.size ≤ BIG) : TgR t := by
  have := h.tag
  unfold hiR at this
  simp only [BIG] at hs
  exact ⟨this.1, by omega⟩
theorem c_rof {p : Option Addr} {t : Tr} {w : World} {R : Ending → World → Prop} (ht : IsN w p t) (hg : TgR t) (h : ∀ w', Ext w w' → R (.returned (.agg #[.int .u64 (t.tag % 2), .int .u64 (hiR t)])) w') : Calls Tryz.prog 318 #[.pointer p] w R := by
  refine sh318_ok _ ?_
  unfold sh318
  refine ⟨?_⟩
  have e1 := ext_alloc w (.cells #[.int .u64 0, .int .u64 0] 356)
  have hb := blk_alloc w #[.int .u64 0, .int .u64 0] 356
  refine do_call Tryz.call214 (c_tag (ht.ext e1) fun w2 e2 => retS_ret ⟨_, rfl, (by decide), ?_⟩)
  have E2 := e1.trans e2
  refine do_call Tryz.call214 (c_tag (ht.ext E2) fun w3 e3 => retS_ret ⟨_, rfl, (by decide), ?_⟩)
  refine do_st2 (hb.ext (e2.trans e3)) fun w4 h4 g4 => ⟨_, h4.cell (i := 0) (add_blk _ _) rfl, _, h4.cell (i := 1) (add_blk _ _) rfl, ?_⟩
  have hd : IntKind.wrap .u64 (Int.tdiv t.tag 2) = hiR t := by
    rw [Int.tdiv_eq_ediv_of_nonneg hg.1]
    have := hg.hi
    exact wrapU_of this.1 (by have := this.2; omega)
  rw [Int.tmod_eq_emod_of_nonneg hg.1, hd]
  exact h _ ((E2.trans e3).st g4 (Nat.le_refl _))
theorem c_rover {hi : Int} {c : Bool} {w : World} {R : Ending → World → Prop} (h1 : 0 ≤ hi) (h2 : hi ≤ 2000000000000) (h : ∀ w', Ext w w' → R (.returned (.agg #[.int .u64 (if c then 1 else 0), .int .u64 (if c then hi else hi + 1)])) w') : Calls Tryz.prog 317 #[.int .u64 hi, .bool c] w R := by
  refine sh317_ok _ _ ?_
  unfold sh317
  refine ⟨?_⟩
  have hb := blk_alloc w #[.int .u64 0, .int .u64 0] 356
  cases c
  · refine ifB_f rfl (do_st2 hb fun w4 h4 g4 => ⟨_, h4.cell (i := 0) (add_blk _ _) rfl, _, h4.cell (i := 1) (add_blk _ _) rfl, ?_⟩)
    rw [wrapU_of (by omega) (by omega)]
    exact h _ ((ext_alloc w _).st g4 (Nat.le_refl _))
  · exact ifB_t rfl (do_st2 hb fun w4 h4 g4 => ⟨_, h4.cell (i := 0) (add_blk _ _) rfl, _, h4.cell (i := 1) (add_blk _ _) rfl, h _ ((ext_alloc w _).st g4 (Nat.le_refl _))⟩)
theorem c_rwtag {a b : Int} {w : World} {R : Ending → World → Prop} (h1 : 0 ≤ a ∧ a ≤ 1) (h2 : 0 ≤ b ∧ b ≤ 2000000000001) (h : ∀ w', Ext w w' → R (.returned (.int .u64 (2 * b + a))) w') : Calls Tryz.prog 319 #[.agg #[.int .u64 a, .int .u64 b]] w R := by
  refine sh319_ok _ _ ?_
  unfold sh319
  refine ⟨?_⟩
  have hb := blk_alloc w #[.int .u64 a, .int .u64 b] 356
  refine ⟨_, hb.cell (i := 1) (add_blk _ _) rfl, _, hb.cell (i := 0) (add_blk _ _) rfl, ?_⟩
  rw [wrapU_of (x := 2 * b) (by omega) (by omega), wrapU_of (by omega) (by omega)]
  exact h _ (ext_alloc w _)
theorem c_rmk {pl pr : Option Addr} {l r : Tr} {k v : Int} {c : Bool} {w : World} {R : Ending → World → Prop} (hl : IsN w pl l) (hr : IsN w pr r) (hs : l.size + 1 + r.size ≤ BIG) (hg : TgR l)
    (h : ∀ q w', Ext w w' → IsN w' q (mkR l k v c r) → R (.returned (.pointer q)) w') : Calls Tryz.prog 256 #[.pointer pl, .int .i64 k, .int .i64 v, .bool c, .pointer pr] w R := by
  refine sh256_ok _ _ _ _ _ ?_
  unfold sh256
  have hh := hg.hi
  simp only [BIG] at hs
  refine do_call Tryz.call318 (c_rof hl hg fun w1 e1 => retS_ret ⟨_, _, rfl, ?_⟩)
  refine do_call Tryz.call317 (c_rover hh.1 hh.2 fun w2 e2 => retS_ret ⟨_, _, rfl, ?_⟩)
  refine do_call Tryz.call319 (c_rwtag (by cases c <;> simp) (by cases c <;> simp <;> omega) fun w3 e3 => retS_ret ⟨_, rfl, ?_⟩)
  have E3 := (e1.trans e2).trans e3
  refine do_call Tryz.call261 (c_new (hl.ext E3) (hr.ext E3) (by omega) fun b w4 e4 h4 _ => retS_ret ⟨_, rfl, h _ _ (E3.trans e4) ?_⟩)
  have e : (2 * (if c = true then hiR l else hiR l + 1) + if c = true then 1 else 0) = (if c then 2 * hiR l + 1 else 2 * (hiR l + 1)) := by cases c <;> simp
  rw [e] at h4
  exact h4
theorem c_rred {p : Option Addr} {t : Tr} {w : World} {R : Ending → World → Prop} (ht : IsN w p t) (hg : TgR t) (h : ∀ w', Ext w w' → R (.returned (.bool (redR t))) w') : Calls Tryz.prog 260 #[.pointer p] w R := by
  refine sh260_ok _ ?_
  unfold sh260
  exact do_call Tryz.call318 (c_rof ht hg fun w1 e1 => retS_ret ⟨_, _, rfl, h _ e1⟩)
theorem c_rhigh {p : Option Addr} {t : Tr} {w : World} {R : Ending → World → Prop} (ht : IsN w p t) (hg : TgR t) (h : ∀ w', Ext w w' → R (.returned (.int .i64 (hiR t))) w') : Calls Tryz.prog 257 #[.pointer p] w R := by
  refine sh257_ok _ ?_
  unfold sh257
  refine do_call Tryz.call318 (c_rof ht hg fun w1 e1 => retS_ret ⟨_, _, rfl, ?_⟩)
  have := hg.hi
  rw [wrap_of (by omega) (by omega)]
  exact h _ e1
theorem c_rblk {p : Option Addr} {t : Tr} {w : World} {R : Ending → World → Prop} (ht : IsN w p t) (hg : TgR t) (hs : t.size ≤ BIG) (h : ∀ q w', Ext w w' → IsN w' q (blkR t) → (redR t = false → q = p) → R (.returned (.pointer q)) w') : Calls Tryz.prog 204 #[.pointer p] w R := by
  refine sh204_ok _ ?_
  unfold sh204
  refine do_call Tryz.call260 (c_rred ht hg fun w1 e1 => retS_ret ⟨_, rfl, ?_⟩)
  unfold blkR at h
  cases hr : redR t with
  | false =>
    rw [hr, if_neg (by simp)] at h
    exact ifB_t rfl (h _ _ e1 (ht.ext e1) fun _ => rfl)
  | true =>
    rw [hr, if_pos rfl] at h
    have hn := red_nn hr
    have hsz := size_nn hn
    refine ifB_f rfl ?_
    refine do_call Tryz.call128 (c_left (ht.ext e1) fun ql hl => retS_ret ⟨_, rfl, ?_⟩)
    refine do_call Tryz.call131 (c_key (ht.ext e1) fun w2 e2 => retS_ret ⟨_, rfl, ?_⟩)
    refine do_call Tryz.call132 (c_val (ht.ext (e1.trans e2)) fun w3 e3 => retS_ret ⟨_, rfl, ?_⟩)
    have E3 := (e1.trans e2).trans e3
    refine do_call Tryz.call214 (c_tag (ht.ext E3) fun w4 e4 => retS_ret ⟨_, rfl, ?_⟩)
    have E4 := E3.trans e4
    refine do_call Tryz.call130 (c_right (ht.ext E4) fun qr hr' => retS_ret ⟨_, rfl, ?_⟩)
    simp only [BIG] at hs
    rw [wrapU_of (by have := hg.1; omega) (by have := hg.2; omega)]
    exact do_call Tryz.call261 (c_new (hl.ext ((e2.trans e3).trans e4)) hr' (by omega) fun b w5 e5 h5 _ => retS_ret ⟨_, rfl, h _ _ (E4.trans e5) h5 (by simp)⟩)
/-! ### sides -/
theorem do_outR (s : Bool) {p : Option Addr} {t : Tr} {w : World} {R : Ending → World → Prop} (ht : IsN w p t) (h : ∀ q w', Ext w w' → IsN w' q (outS s t) → R (.returned (.pointer q)) w') : doGo Tryz.prog (.fn (.method "joinery/rbjoin.out") #[]) #[sdR s, .pointer p] w R := by
  cases s
  · refine do_meth (m_out_l p) (sh421_ok _ ?_)
    unfold sh421
    exact ⟨do_call Tryz.call128 (c_left (ht.ext (ext_alloc w _)) fun q hq => retS_ret ⟨_, rfl, h _ _ (ext_alloc w _) hq⟩)⟩
  · refine do_meth (m_out_r p) (sh418_ok _ ?_)
    unfold sh418
    exact ⟨do_call Tryz.call130 (c_right (ht.ext (ext_alloc w _)) fun q hq => retS_ret ⟨_, rfl, h _ _ (ext_alloc w _) hq⟩)⟩
theorem do_inR (s : Bool) {p : Option Addr} {t : Tr} {w : World} {R : Ending → World → Prop} (ht : IsN w p t) (h : ∀ q w', Ext w w' → IsN w' q (inS s t) → R (.returned (.pointer q)) w') : doGo Tryz.prog (.fn (.method "joinery/rbjoin.in") #[]) #[sdR s, .pointer p] w R := by
  cases s
  · refine do_meth (m_in_l p) (sh419_ok _ ?_)
    unfold sh419
    exact ⟨do_call Tryz.call130 (c_right (ht.ext (ext_alloc w _)) fun q hq => retS_ret ⟨_, rfl, h _ _ (ext_alloc w _) hq⟩)⟩
  · refine do_meth (m_in_r p) (sh416_ok _ ?_)
    unfold sh416
    exact ⟨do_call Tryz.call128 (c_left (ht.ext (ext_alloc w _)) fun q hq => retS_ret ⟨_, rfl, h _ _ (ext_alloc w _) hq⟩)⟩
theorem c_mkof {pl pp pr : Option Addr} {l r pr' : Tr} {c : Bool} {w : World} (hl : IsN w pl l) (hp : IsN w pp pr') (hr : IsN w pr r) (hs : l.size + 1 + r.size ≤ BIG) (hg : TgR l) :
    Calls Tryz.prog 415 #[.agg #[], .pointer pl, .pointer pp, .bool c, .pointer pr] w fun e w' => ∃ q, e = .returned (.pointer q) ∧ Ext w w' ∧ IsN w' q (mkR l pr'.key pr'.val c r) := by
  refine sh415_ok _ _ _ _ ?_
  unfold sh415
  have e1 := ext_alloc w (.cells #[] 307)
  refine ⟨do_call Tryz.call131 (c_key (hp.ext e1) fun w2 e2 => retS_ret ⟨_, rfl, ?_⟩)⟩
  refine do_call Tryz.call132 (c_val (hp.ext (e1.trans e2)) fun w3 e3 => retS_ret ⟨_, rfl, ?_⟩)
  have E3 := (e1.trans e2).trans e3
  exact do_call Tryz.call256 (c_rmk (hl.ext E3) (hr.ext E3) hs hg fun q w4 e4 h4 => retS_ret ⟨_, rfl, _, rfl, E3.trans e4, h4⟩)
theorem do_mkR (s : Bool) {pi pp po : Option Addr} {i o pr : Tr} {c : Bool} {w : World} {R : Ending → World → Prop} (hi : IsN w pi i) (hp : IsN w pp pr) (ho : IsN w po o) (hs : i.size + 1 + o.size ≤ BIG) (t1 : TgR i) (t2 : TgR o)
    (h : ∀ q w', Ext w w' → IsN w' q (mkRS s i pr.key pr.val c o) → R (.returned (.pointer q)) w') : doGo Tryz.prog (.fn (.method "joinery/rbjoin.make") #[]) #[sdR s, .pointer pi, .pointer pp, .bool c, .pointer po] w R := by
  cases s
  · refine do_meth (m_make_l pi pp po c) ?_
    refine (c_make_l (Q := fun q w' => Ext w w' ∧ IsN w' q (mkR o pr.key pr.val c i)) fun w' e => (c_mkof (ho.ext e) (hp.ext e) (hi.ext e) (by omega) t2).mono ?_).mono ?_
    · rintro _ w2 ⟨q, rfl, e2, h2⟩; exact ⟨q, rfl, e.trans e2, h2⟩
    · rintro _ w2 ⟨q, rfl, e2, h2⟩; exact h _ _ e2 h2
  · refine do_meth (m_make_r pi pp po c) ?_
    refine (c_make_r (Q := fun q w' => Ext w w' ∧ IsN w' q (mkR i pr.key pr.val c o)) fun w' e => (c_mkof (hi.ext e) (hp.ext e) (ho.ext e) hs t1).mono ?_).mono ?_
    · rintro _ w2 ⟨q, rfl, e2, h2⟩; exact ⟨q, rfl, e.trans e2, h2⟩
    · rintro _ w2 ⟨q, rfl, e2, h2⟩; exact h _ _ e2 h2
theorem mkRS_size (s : Bool) (i o : Tr) (k v : Int) (c : Bool) : (mkRS s i k v c o).size = i.size + 1 + o.size := by cases s <;> simp [mkRS, mkR, Tr.size] <;> omega
theorem Rb.two (s : Bool) {t : Tr} (h : Rb t) : Rb (inS s t) ∧ Rb (outS s t) := by
  cases hn : t.nn with
  | true => exact ⟨(h.sides s hn).1, (h.sides s hn).2.1⟩
  | false => rw [Tr.size0 hn]; cases s <;> exact ⟨trivial, trivial⟩
theorem HangR.tg {s : Bool} {k v : Int} {low t x : Tr} (h : HangR s k v low t x) (ht : Rb t) (hs : t.size ≤ BIG) : TgR x := by
  have h1 := h.hi
  have h2 := (ht.tg hs)
  have := ht.tag
  have h3 := h2.1
  simp only [BIG] at hs
  unfold hiR at h1 this
  exact ⟨by omega, by omega⟩
theorem HangR.sidesTg {s : Bool} {k v : Int} {low t x : Tr} (h : HangR s k v low t x) (hs : t.size + 1 + low.size ≤ BIG) : TgR (inS s x) ∧ TgR (outS s x) := by
  have hxs : x.size = t.size + low.size + 1 := by rw [← Tr.pairs_length, h.pairs, fl_len, Tr.pairs_length, Tr.pairs_length]
  have h2 := size_two s x
  cases hr : redR t with
  | false =>
    have := (h.rb hr).two s
    exact ⟨this.1.tg (by omega), this.2.tg (by omega)⟩
  | true =>
    have := h.weak hr
    exact ⟨this.2.1.tg (by omega), this.2.2.1.tg (by omega)⟩
end Go.Proofs.YtlfjaogbehpleaaGreat

namespace Go.Proofs.YtlfjaogbehpleaaGreat
open Go Go.Sh Go.RowKit

set_option maxRecDepth 20000 in
theorem c_hangR (s : Bool) {k v : Int} {low pair : Tr} (hlow : Rb low) (hlb : redR low = false) (hpk : pair.key = k) (hpv : pair.val = v) : ∀ (n : Nat) (t : Tr) {p pp pl : Option Addr} {w : World} {R : Ending → World → Prop} (_hn : t.size ≤ n) (_ht : IsN w p t) (_hp : IsN w pp pair) (_hl : IsN w pl low)
    (_ha : Rb t) (_hg : hiR low ≤ hiR t) (_hs : t.size + low.size + 5 ≤ BIG) (_h : ∀ q w', Ext w w' → IsN w' q (hangR s k v low t) → R (.returned (.pointer q)) w'),
    Calls Tryz.prog 258 #[sdR s, .pointer p, .pointer pp, .pointer pl] w R := fun n => by
  induction n with
  | zero =>
    intro t p pp pl w R hn ht hp hl ha hg hs h
    have : t = .nil := by
      cases t with
      | nil => rfl
      | node l a b c r => simp [Tr.size] at hn
    subst this
    obtain rfl : p = none := ht
    apply sh258_ok
    unfold sh258
    intro K6 K61
    refine ifB_t rfl (do_mkR s (i := .nil) rfl hp hl (by simp only [Tr.size]; omega) ⟨Int.le_refl _, by decide⟩ (hlow.tg (by omega)) fun q w1 e1 h1 => retS_ret ⟨_, rfl, h _ _ e1 ?_⟩)
    rw [hpk, hpv] at h1
    exact h1
  | succ n ih =>
    intro t p pp pl w R hn ht hp hl ha hg hs h
    apply sh258_ok
    unfold sh258
    intro K6 K61
    cases hnn : t.nn with
    | false =>
      have := Tr.size0 hnn
      subst this
      obtain rfl : p = none := ht
      refine ifB_t rfl (do_mkR s (i := .nil) rfl hp hl (by simp only [Tr.size]; omega) ⟨Int.le_refl _, by decide⟩ (hlow.tg (by omega)) fun q w1 e1 h1 => retS_ret ⟨_, rfl, h _ _ e1 ?_⟩)
      rw [hpk, hpv] at h1
      exact h1
    | true =>
    obtain ⟨hi, ho, hio, hside⟩ := ha.sides s hnn
    have hsz := size_nn2 s hnn
    have tgt := ha.tg (by omega)
    have tgl := hlow.tg (by omega)
    rw [hangR_eq s k v low hnn] at h
    refine ifB_f (by rw [ht.isNone, hnn]; rfl) ?_
    have hK6 : (!redR t && decide (hiR t ≤ hiR low)) = false → ∀ w', Ext w w' → K6 w' := by
      intro hb w1 e1
      rw [hb, if_neg (by simp)] at h
      have hlo : hiR low ≤ hiR (outS s t) := by
        rcases hside with ⟨a, b, c, d⟩ | ⟨a, b⟩
        · omega
        · rw [a] at hb; simp at hb; omega
      have hok := hangR_ok s k v low hlow hlb n (outS s t) (by omega) ho hlo
      have tgx := hok.tg ho (by omega)
      have tgs := hok.sidesTg (by omega)
      have hxs : (hangR s k v low (outS s t)).size = (outS s t).size + low.size + 1 := by rw [← Tr.pairs_length, hok.pairs, fl_len, Tr.pairs_length, Tr.pairs_length]
      have hxn := hok.nn
      refine do_outR s (ht.ext e1) fun qo w2 e2 h2 => retS_ret ⟨_, rfl, ?_⟩
      have E2 := e1.trans e2
      refine do_call Tryz.call258 (ih (outS s t) (by omega) h2 (hp.ext E2) (hl.ext E2) ho hlo (by omega) fun qx w3 e3 h3 => retS_ret ⟨_, rfl, ?_⟩)
      have E3 := E2.trans e3
      intro K14 K27
      generalize hX : hangR s k v low (outS s t) = x at *
      simp only at h
      have hxz := size_nn2 s hxn
      have hK14 : (!redR t && redR x && redR (outS s x)) = false → ∀ w', Ext w3 w' → K14 w' := by
        intro hc w4 e4
        rw [hc, if_neg (by simp)] at h
        refine ⟨nc_make s ?_⟩
        have d := ext_drew w4
        have E4 := (E3.trans e4).trans d
        refine do_inR s (ht.ext E4) fun qi w5 e5 h5 => retS_ret ⟨_, rfl, ?_⟩
        refine do_call Tryz.call260 (c_rred (ht.ext (E4.trans e5)) tgt fun w6 e6 => retS_ret ⟨_, rfl, ?_⟩)
        have E6 := (E4.trans e5).trans e6
        exact do_mkR s (h5.ext e6) (ht.ext E6) (h3.ext (((e4.trans d).trans e5).trans e6)) (by omega) (hi.tg (by omega)) tgx fun q7 w7 e7 h7 => retS_ret ⟨_, rfl, h _ _ (E6.trans e7) h7⟩
      have hK27 : redR t = false → redR x = true → ∀ w', Ext w3 w' → K27 (redR (outS s x)) w' := by
        intro hrt hrx w4 e4
        refine ifB_intro (fun hro => ?_) fun hro => hK14 (by rw [hrt, hrx, hro]; rfl) w4 e4
        rw [hrt, hrx, hro, if_pos (by rfl)] at h
        refine ⟨nc_make s (nc_make s ?_)⟩
        have d := ext_drew w4
        have E4 := (E3.trans e4).trans d
        have e34 := e4.trans d
        refine do_inR s (ht.ext E4) fun qi w5 e5 h5 => retS_ret ⟨_, rfl, ?_⟩
        refine do_inR s ((h3.ext e34).ext e5) fun qxi w6 e6 h6 => retS_ret ⟨_, rfl, ?_⟩
        have E6 := (E4.trans e5).trans e6
        have e36 := (e34.trans e5).trans e6
        refine do_mkR s (h5.ext e6) (ht.ext E6) h6 (by omega) (hi.tg (by omega)) tgs.1 fun qm w7 e7 h7 => retS_ret ⟨_, rfl, ?_⟩
        have e37 := e36.trans e7
        refine do_outR s (h3.ext e37) fun qxo w8 e8 h8 => retS_ret ⟨_, rfl, ?_⟩
        refine do_call Tryz.call204 (c_rblk h8 tgs.2 (by omega) fun qb w9 e9 h9 _ => retS_ret ⟨_, rfl, ?_⟩)
        have e39 := (e37.trans e8).trans e9
        have hor : redR (outS s t) = true := by
          cases hq : redR (outS s t) with
          | true => rfl
          | false =>
            obtain ⟨_, _, _, h5⟩ := (hok.rb hq).sides s hxn
            rcases h5 with ⟨a, b, c, d⟩ | ⟨a, b⟩
            · rw [hro] at d; cases d
            · rw [hrx] at a; cases a
        obtain ⟨_, rbi, rbo, hii, _, _⟩ := hok.weak hor
        have tm : TgR (mkRS s (inS s t) t.key t.val false (inS s x)) := by
          have e : hiR (inS s t) = hiR (inS s x) := by rw [hii, hok.hi]; exact hio
          have := hi.tag
          have g1 := (hi.tg (by omega)).hi
          show 0 ≤ (mkRS s (inS s t) t.key t.val false (inS s x)).tag ∧ (mkRS s (inS s t) t.key t.val false (inS s x)).tag ≤ _
          rw [mkRS_tag e, if_neg (by simp)]
          simp only [BIG] at hs
          exact ⟨by omega, by omega⟩
        have tb : TgR (blkR (outS s x)) := (blkR_ok rbo).1.tg (by rw [blkR_size]; omega)
        refine do_mkR s (h7.ext (e8.trans e9)) (h3.ext e39) h9 ?_ tm tb fun q10 w10 e10 h10 => retS_ret ⟨_, rfl, h _ _ ((E3.trans e39).trans e10) h10⟩
        rw [mkRS_size, blkR_size]; omega
      refine do_call Tryz.call260 (c_rred (ht.ext E3) tgt fun w4 e4 => retS_ret ⟨_, rfl, ?_⟩)
      cases hrt : redR t with
      | true => exact ifB_f rfl (hK14 (by rw [hrt]; rfl) w4 e4)
      | false =>
        refine ifB_t rfl ?_
        refine do_call Tryz.call260 (c_rred (h3.ext e4) tgx fun w5 e5 => retS_ret ⟨_, rfl, ?_⟩)
        have e35 := e4.trans e5
        cases hrx : redR x with
        | false => exact ifB_f rfl (hK14 (by rw [hrx]; simp) w5 e35)
        | true =>
          refine ifB_t rfl ?_
          refine do_outR s (h3.ext e35) fun qxo w6 e6 h6 => retS_ret ⟨_, rfl, ?_⟩
          refine do_call Tryz.call260 (c_rred h6 tgs.2 fun w7 e7 => retS_ret ⟨_, rfl, ?_⟩)
          exact hK27 hrt hrx w7 ((e35.trans e6).trans e7)
    refine do_call Tryz.call260 (c_rred ht tgt fun w1 e1 => retS_ret ⟨_, rfl, ?_⟩)
    cases hrt : redR t with
    | true => exact ifB_f rfl (hK6 (by rw [hrt]; rfl) w1 e1)
    | false =>
      refine ifB_t rfl ?_
      refine do_call Tryz.call257 (c_rhigh (ht.ext e1) tgt fun w2 e2 => retS_ret ⟨_, rfl, ?_⟩)
      refine do_call Tryz.call257 (c_rhigh (hl.ext (e1.trans e2)) tgl fun w3 e3 => retS_ret ⟨_, rfl, ?_⟩)
      have E3 := (e1.trans e2).trans e3
      refine ifB_intro (fun hc => ?_) fun hc => hK6 (by rw [hrt, hc]; rfl) w3 E3
      rw [hrt, hc, if_pos (by rfl)] at h
      refine do_mkR s (ht.ext E3) (hp.ext E3) (hl.ext E3) (by omega) tgt tgl fun q w4 e4 h4 => retS_ret ⟨_, rfl, h _ _ (E3.trans e4) ?_⟩
      rw [hpk, hpv] at h4
      exact h4
theorem c_rjoin {k v : Int} {l r : Tr} {pl pr : Option Addr} {w : World} {R : Ending → World → Prop} (hl : IsN w pl l) (hr : IsN w pr r) (al : Rb l) (ar : Rb r) (hs : l.size + r.size + 5 ≤ BIG)
    (h : ∀ q w', Ext w w' → IsN w' q (joinR l k v r) → R (.returned (.pointer q)) w') : Calls Tryz.prog 199 #[.pointer pl, .int .i64 k, .int .i64 v, .pointer pr] w R := by
  refine sh199_ok _ _ _ _ ?_
  unfold sh199
  have bl := blkR_ok al
  have br := blkR_ok ar
  have sl := blkR_size l
  have sr := blkR_size r
  refine do_call Tryz.call204 (c_rblk hl (al.tg (by omega)) (by omega) fun ql w1 e1 h1 _ => retS_ret ⟨_, rfl, ?_⟩)
  refine do_call Tryz.call204 (c_rblk (hr.ext e1) (ar.tg (by omega)) (by omega) fun qr w2 e2 h2 _ => retS_ret ⟨_, rfl, ?_⟩)
  have E2 := e1.trans e2
  have h1 := h1.ext e2
  unfold joinR at h
  generalize blkR l = l' at *
  generalize blkR r = r' at *
  refine do_call Tryz.call256 (c_rmk (l := .nil) (r := .nil) rfl rfl (by decide) ⟨Int.le_refl _, by decide⟩ fun qp w3 e3 h3 => retS_ret ⟨_, rfl, ?_⟩)
  have tl := bl.1.tg (by omega)
  have tr := br.1.tg (by omega)
  refine do_call Tryz.call257 (c_rhigh (h1.ext e3) tl fun w4 e4 => retS_ret ⟨_, rfl, ?_⟩)
  refine do_call Tryz.call257 (c_rhigh (h2.ext (e3.trans e4)) tr fun w5 e5 => retS_ret ⟨_, rfl, ?_⟩)
  have e25 := (e3.trans e4).trans e5
  have E5 := E2.trans e25
  have h1 := h1.ext e25
  have h2 := h2.ext e25
  have h3 := h3.ext (e4.trans e5)
  refine ifB_intro (fun hc => ?_) fun hc => ?_
  · have hc : hiR r' < hiR l' := of_decide_eq_true hc
    rw [if_pos hc] at h
    have hok := hangR_ok true k v r' br.1 br.2.1 l'.size l' (Nat.le_refl _) bl.1 (by omega)
    refine do_call Tryz.call258 (c_hangR true br.1 br.2.1 rfl rfl l'.size l' (Nat.le_refl _) h1 h3 h2 bl.1 (by omega) (by omega) fun q w6 e6 h6 => retS_ret ⟨_, rfl, ?_⟩)
    have hxs : (hangR true k v r' l').size = l'.size + r'.size + 1 := by rw [← Tr.pairs_length, hok.pairs, fl_len, Tr.pairs_length, Tr.pairs_length]
    exact do_call Tryz.call204 (c_rblk h6 (hok.tg bl.1 (by omega)) (Nat.le_trans (Nat.le_of_eq hxs) (by omega)) fun qb w7 e7 h7 _ => retS_ret ⟨_, rfl, h _ _ ((E5.trans e6).trans e7) h7⟩)
  · have hc : ¬ hiR r' < hiR l' := of_decide_eq_false hc
    rw [if_neg hc] at h
    refine ifB_intro (fun hc2 => ?_) fun hc2 => ?_
    · have hc2 : hiR l' < hiR r' := of_decide_eq_true hc2
      rw [if_pos hc2] at h
      have hok := hangR_ok false k v l' bl.1 bl.2.1 r'.size r' (Nat.le_refl _) br.1 (by omega)
      refine do_call Tryz.call258 (c_hangR false bl.1 bl.2.1 rfl rfl r'.size r' (Nat.le_refl _) h2 h3 h1 br.1 (by omega) (by omega) fun q w6 e6 h6 => retS_ret ⟨_, rfl, ?_⟩)
      have hxs : (hangR false k v l' r').size = r'.size + l'.size + 1 := by rw [← Tr.pairs_length, hok.pairs, fl_len, Tr.pairs_length, Tr.pairs_length]
      exact do_call Tryz.call204 (c_rblk h6 (hok.tg br.1 (by omega)) (Nat.le_trans (Nat.le_of_eq hxs) (by omega)) fun qb w7 e7 h7 _ => retS_ret ⟨_, rfl, h _ _ ((E5.trans e6).trans e7) h7⟩)
    · have hc2 : ¬ hiR l' < hiR r' := of_decide_eq_false hc2
      rw [if_neg hc2] at h
      exact do_call Tryz.call256 (c_rmk h1 h2 (by omega) tl fun q w6 e6 h6 => retS_ret ⟨_, rfl, h _ _ (E5.trans e6) h6⟩)
end Go.Proofs.YtlfjaogbehpleaaGreat

