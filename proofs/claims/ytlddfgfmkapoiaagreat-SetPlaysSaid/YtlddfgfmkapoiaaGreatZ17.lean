/-
  rb, rbjoin: make, hang, Join.
-/
/-
  rbjoin: hang, Join.
-/
/-
  wb, wbjoin: what a join makes.
-/
import Derived.Test.YtlddfgfmkapoiaaGreatZ16
import Derived.Test.YtlddfgfmkapoiaaGreatZ15

namespace Go.Proofs.YtlddfgfmkapoiaaGreat
open Go Go.Sh Go.RowKit

abbrev TgR (t : Tr) : Prop := 0 ≤ t.tag ∧ t.tag ≤ 4000000000000
theorem TgR.hi {t : Tr} (h : TgR t) : 0 ≤ hiR t ∧ hiR t ≤ 2000000000000 := by unfold hiR; have := h.1; have := h.2; omega
theorem Rb.tg {t : Tr} (h : Rb t) (hs : t.size ≤ BIG) : TgR t := by
  have := h.tag
  unfold hiR at this
  simp only [BIG] at hs
  exact ⟨this.1, by omega⟩
theorem c_rof {p : Option Addr} {t : Tr} {w : World} {R : Ending → World → Prop} (ht : IsN w p t) (hg : TgR t) (h : ∀ w', Ext w w' → R (.returned (.agg #[.int .u64 (t.tag % 2), .int .u64 (hiR t)])) w') : Calls Tryz.prog 319 #[.pointer p] w R := by
  refine sh319_ok _ ?_
  unfold sh319
  refine ⟨?_⟩
  have e1 := ext_alloc w (.cells #[.int .u64 0, .int .u64 0] 357)
  have hb := blk_alloc w #[.int .u64 0, .int .u64 0] 357
  refine do_call Tryz.call196 (c_tag (ht.ext e1) fun w2 e2 => retS_ret ⟨_, rfl, (by decide), ?_⟩)
  have E2 := e1.trans e2
  refine do_call Tryz.call196 (c_tag (ht.ext E2) fun w3 e3 => retS_ret ⟨_, rfl, (by decide), ?_⟩)
  refine do_st2 (hb.ext (e2.trans e3)) fun w4 h4 g4 => ⟨_, h4.cell (i := 0) (add_blk _ _) rfl, _, h4.cell (i := 1) (add_blk _ _) rfl, ?_⟩
  have hd : IntKind.wrap .u64 (Int.tdiv t.tag 2) = hiR t := by
    rw [Int.tdiv_eq_ediv_of_nonneg hg.1]
    have := hg.hi
    exact wrapU_of this.1 (by have := this.2; omega)
  rw [Int.tmod_eq_emod_of_nonneg hg.1, hd]
  exact h _ ((E2.trans e3).st g4 (Nat.le_refl _))
theorem c_rover {hi : Int} {c : Bool} {w : World} {R : Ending → World → Prop} (h1 : 0 ≤ hi) (h2 : hi ≤ 2000000000000) (h : ∀ w', Ext w w' → R (.returned (.agg #[.int .u64 (if c then 1 else 0), .int .u64 (if c then hi else hi + 1)])) w') : Calls Tryz.prog 318 #[.int .u64 hi, .bool c] w R := by
  refine sh318_ok _ _ ?_
  unfold sh318
  refine ⟨?_⟩
  have hb := blk_alloc w #[.int .u64 0, .int .u64 0] 357
  cases c
  · refine ifB_f rfl (do_st2 hb fun w4 h4 g4 => ⟨_, h4.cell (i := 0) (add_blk _ _) rfl, _, h4.cell (i := 1) (add_blk _ _) rfl, ?_⟩)
    rw [wrapU_of (by omega) (by omega)]
    exact h _ ((ext_alloc w _).st g4 (Nat.le_refl _))
  · exact ifB_t rfl (do_st2 hb fun w4 h4 g4 => ⟨_, h4.cell (i := 0) (add_blk _ _) rfl, _, h4.cell (i := 1) (add_blk _ _) rfl, h _ ((ext_alloc w _).st g4 (Nat.le_refl _))⟩)
theorem c_rwtag {a b : Int} {w : World} {R : Ending → World → Prop} (h1 : 0 ≤ a ∧ a ≤ 1) (h2 : 0 ≤ b ∧ b ≤ 2000000000001) (h : ∀ w', Ext w w' → R (.returned (.int .u64 (2 * b + a))) w') : Calls Tryz.prog 320 #[.agg #[.int .u64 a, .int .u64 b]] w R := by
  refine sh320_ok _ _ ?_
  unfold sh320
  refine ⟨?_⟩
  have hb := blk_alloc w #[.int .u64 a, .int .u64 b] 357
  refine ⟨_, hb.cell (i := 1) (add_blk _ _) rfl, _, hb.cell (i := 0) (add_blk _ _) rfl, ?_⟩
  rw [wrapU_of (x := 2 * b) (by omega) (by omega), wrapU_of (by omega) (by omega)]
  exact h _ (ext_alloc w _)
theorem c_rmk {pl pr : Option Addr} {l r : Tr} {k v : Int} {c : Bool} {w : World} {R : Ending → World → Prop} (hl : IsN w pl l) (hr : IsN w pr r) (hs : l.size + 1 + r.size ≤ BIG) (hg : TgR l)
    (h : ∀ q w', Ext w w' → IsN w' q (mkR l k v c r) → R (.returned (.pointer q)) w') : Calls Tryz.prog 271 #[.pointer pl, .int .i64 k, .int .i64 v, .bool c, .pointer pr] w R := by
  refine sh271_ok _ _ _ _ _ ?_
  unfold sh271
  have hh := hg.hi
  simp only [BIG] at hs
  refine do_call Tryz.call319 (c_rof hl hg fun w1 e1 => retS_ret ⟨_, _, rfl, ?_⟩)
  refine do_call Tryz.call318 (c_rover hh.1 hh.2 fun w2 e2 => retS_ret ⟨_, _, rfl, ?_⟩)
  refine do_call Tryz.call320 (c_rwtag (by cases c <;> simp) (by cases c <;> simp <;> omega) fun w3 e3 => retS_ret ⟨_, rfl, ?_⟩)
  have E3 := (e1.trans e2).trans e3
  refine do_call Tryz.call105 (c_new (hl.ext E3) (hr.ext E3) (by omega) fun b w4 e4 h4 _ => retS_ret ⟨_, rfl, h _ _ (E3.trans e4) ?_⟩)
  have e : (2 * (if c = true then hiR l else hiR l + 1) + if c = true then 1 else 0) = (if c then 2 * hiR l + 1 else 2 * (hiR l + 1)) := by cases c <;> simp
  rw [e] at h4
  exact h4
theorem c_rred {p : Option Addr} {t : Tr} {w : World} {R : Ending → World → Prop} (ht : IsN w p t) (hg : TgR t) (h : ∀ w', Ext w w' → R (.returned (.bool (redR t))) w') : Calls Tryz.prog 275 #[.pointer p] w R := by
  refine sh275_ok _ ?_
  unfold sh275
  exact do_call Tryz.call319 (c_rof ht hg fun w1 e1 => retS_ret ⟨_, _, rfl, h _ e1⟩)
theorem c_rhigh {p : Option Addr} {t : Tr} {w : World} {R : Ending → World → Prop} (ht : IsN w p t) (hg : TgR t) (h : ∀ w', Ext w w' → R (.returned (.int .i64 (hiR t))) w') : Calls Tryz.prog 272 #[.pointer p] w R := by
  refine sh272_ok _ ?_
  unfold sh272
  refine do_call Tryz.call319 (c_rof ht hg fun w1 e1 => retS_ret ⟨_, _, rfl, ?_⟩)
  have := hg.hi
  rw [wrap_of (by omega) (by omega)]
  exact h _ e1
theorem c_rblk {p : Option Addr} {t : Tr} {w : World} {R : Ending → World → Prop} (ht : IsN w p t) (hg : TgR t) (hs : t.size ≤ BIG) (h : ∀ q w', Ext w w' → IsN w' q (blkR t) → (redR t = false → q = p) → R (.returned (.pointer q)) w') : Calls Tryz.prog 229 #[.pointer p] w R := by
  refine sh229_ok _ ?_
  unfold sh229
  refine do_call Tryz.call275 (c_rred ht hg fun w1 e1 => retS_ret ⟨_, rfl, ?_⟩)
  unfold blkR at h
  cases hr : redR t with
  | false =>
    rw [hr, if_neg (by simp)] at h
    exact ifB_t rfl (h _ _ e1 (ht.ext e1) fun _ => rfl)
  | true =>
    rw [hr, if_pos rfl] at h
    have hn := red_nn hr
    have hsz := size_nn hn
    refine ifB_f rfl ?_
    refine do_call Tryz.call123 (c_left (ht.ext e1) fun ql hl => retS_ret ⟨_, rfl, ?_⟩)
    refine do_call Tryz.call108 (c_key (ht.ext e1) fun w2 e2 => retS_ret ⟨_, rfl, ?_⟩)
    refine do_call Tryz.call126 (c_val (ht.ext (e1.trans e2)) fun w3 e3 => retS_ret ⟨_, rfl, ?_⟩)
    have E3 := (e1.trans e2).trans e3
    refine do_call Tryz.call196 (c_tag (ht.ext E3) fun w4 e4 => retS_ret ⟨_, rfl, ?_⟩)
    have E4 := E3.trans e4
    refine do_call Tryz.call125 (c_right (ht.ext E4) fun qr hr' => retS_ret ⟨_, rfl, ?_⟩)
    simp only [BIG] at hs
    rw [wrapU_of (by have := hg.1; omega) (by have := hg.2; omega)]
    exact do_call Tryz.call105 (c_new (hl.ext ((e2.trans e3).trans e4)) hr' (by omega) fun b w5 e5 h5 _ => retS_ret ⟨_, rfl, h _ _ (E4.trans e5) h5 (by simp)⟩)
/-! ### sides -/
theorem do_outR (s : Bool) {p : Option Addr} {t : Tr} {w : World} {R : Ending → World → Prop} (ht : IsN w p t) (h : ∀ q w', Ext w w' → IsN w' q (outS s t) → R (.returned (.pointer q)) w') : doGo Tryz.prog (.fn (.method "joinery/rbjoin.out") #[]) #[sdR s, .pointer p] w R := by
  cases s
  · refine do_meth (m_out_l p) (sh400_ok _ ?_)
    unfold sh400
    exact ⟨do_call Tryz.call123 (c_left (ht.ext (ext_alloc w _)) fun q hq => retS_ret ⟨_, rfl, h _ _ (ext_alloc w _) hq⟩)⟩
  · refine do_meth (m_out_r p) (sh397_ok _ ?_)
    unfold sh397
    exact ⟨do_call Tryz.call125 (c_right (ht.ext (ext_alloc w _)) fun q hq => retS_ret ⟨_, rfl, h _ _ (ext_alloc w _) hq⟩)⟩
theorem do_inR (s : Bool) {p : Option Addr} {t : Tr} {w : World} {R : Ending → World → Prop} (ht : IsN w p t) (h : ∀ q w', Ext w w' → IsN w' q (inS s t) → R (.returned (.pointer q)) w') : doGo Tryz.prog (.fn (.method "joinery/rbjoin.in") #[]) #[sdR s, .pointer p] w R := by
  cases s
  · refine do_meth (m_in_l p) (sh398_ok _ ?_)
    unfold sh398
    exact ⟨do_call Tryz.call125 (c_right (ht.ext (ext_alloc w _)) fun q hq => retS_ret ⟨_, rfl, h _ _ (ext_alloc w _) hq⟩)⟩
  · refine do_meth (m_in_r p) (sh395_ok _ ?_)
    unfold sh395
    exact ⟨do_call Tryz.call123 (c_left (ht.ext (ext_alloc w _)) fun q hq => retS_ret ⟨_, rfl, h _ _ (ext_alloc w _) hq⟩)⟩
theorem c_mkof {pl pp pr : Option Addr} {l r pr' : Tr} {c : Bool} {w : World} (hl : IsN w pl l) (hp : IsN w pp pr') (hr : IsN w pr r) (hs : l.size + 1 + r.size ≤ BIG) (hg : TgR l) :
    Calls Tryz.prog 394 #[.agg #[], .pointer pl, .pointer pp, .bool c, .pointer pr] w fun e w' => ∃ q, e = .returned (.pointer q) ∧ Ext w w' ∧ IsN w' q (mkR l pr'.key pr'.val c r) := by
  refine sh394_ok _ _ _ _ ?_
  unfold sh394
  have e1 := ext_alloc w (.cells #[] 339)
  refine ⟨do_call Tryz.call108 (c_key (hp.ext e1) fun w2 e2 => retS_ret ⟨_, rfl, ?_⟩)⟩
  refine do_call Tryz.call126 (c_val (hp.ext (e1.trans e2)) fun w3 e3 => retS_ret ⟨_, rfl, ?_⟩)
  have E3 := (e1.trans e2).trans e3
  exact do_call Tryz.call271 (c_rmk (hl.ext E3) (hr.ext E3) hs hg fun q w4 e4 h4 => retS_ret ⟨_, rfl, _, rfl, E3.trans e4, h4⟩)
theorem do_mkR (s : Bool) {pi pp po : Option Addr} {i o pr : Tr} {c : Bool} {w : World} {R : Ending → World → Prop} (hi : IsN w pi i) (hp : IsN w pp pr) (ho : IsN w po o) (hs : i.size + 1 + o.size ≤ BIG) (t1 : TgR i) (t2 : TgR o)
    (h : ∀ q w', Ext w w' → IsN w' q (mkRS s i pr.key pr.val c o) → R (.returned (.pointer q)) w') : doGo Tryz.prog (.fn (.method "joinery/rbjoin.make") #[]) #[sdR s, .pointer pi, .pointer pp, .bool c, .pointer po] w R := by
  cases s
  · refine do_meth (m_make_l pi pp po c) ?_
    refine (c_make_l (Q := fun q w' => Ext w w' ∧ IsN w' q (mkR o pr.key pr.val c i)) fun w' e => (c_mkof (ho.ext e) (hp.ext e) (hi.ext e) (by omega) t2).mono ?_).mono ?_
    · rintro _ w2 ⟨q, rfl, e2, h2⟩; exact ⟨q, rfl, e.trans e2, h2⟩
    · rintro _ w2 ⟨q, rfl, e2, h2⟩; exact h _ _ e2 h2
  · refine do_meth (m_make_r pi pp po c) ?_
    refine (c_make_r (Q := fun q w' => Ext w w' ∧ IsN w' q (mkR i pr.key pr.val c o)) fun w' e => (c_mkof (hi.ext e) (hp.ext e) (ho.ext e) hs t1).mono ?_).mono ?_
    · rintro _ w2 ⟨q, rfl, e2, h2⟩; exact ⟨q, rfl, e.trans e2, h2⟩
    · rintro _ w2 ⟨q, rfl, e2, h2⟩; exact h _ _ e2 h2
theorem mkRS_size (s : Bool) (i o : Tr) (k v : Int) (c : Bool) : (mkRS s i k v c o).size = i.size + 1 + o.size := by cases s <;> simp [mkRS, mkR, Tr.size] <;> omega
theorem Rb.two (s : Bool) {t : Tr} (h : Rb t) : Rb (inS s t) ∧ Rb (outS s t) := by
  cases hn : t.nn with
  | true => exact ⟨(h.sides s hn).1, (h.sides s hn).2.1⟩
  | false => rw [Tr.size0 hn]; cases s <;> exact ⟨trivial, trivial⟩
theorem HangR.tg {s : Bool} {k v : Int} {low t x : Tr} (h : HangR s k v low t x) (ht : Rb t) (hs : t.size ≤ BIG) : TgR x := by
  have h1 := h.hi
  have h2 := (ht.tg hs)
  have := ht.tag
  have h3 := h2.1
  simp only [BIG] at hs
  unfold hiR at h1 this
  exact ⟨by omega, by omega⟩
theorem HangR.sidesTg {s : Bool} {k v : Int} {low t x : Tr} (h : HangR s k v low t x) (hs : t.size + 1 + low.size ≤ BIG) : TgR (inS s x) ∧ TgR (outS s x) := by
  have hxs : x.size = t.size + low.size + 1 := by rw [← Tr.pairs_length, h.pairs, fl_len, Tr.pairs_length, Tr.pairs_length]
  have h2 := size_two s x
  cases hr : redR t with
  | false =>
    have := (h.rb hr).two s
    exact ⟨this.1.tg (by omega), this.2.tg (by omega)⟩
  | true =>
    have := h.weak hr
    exact ⟨this.2.1.tg (by omega), this.2.2.1.tg (by omega)⟩
end Go.Proofs.YtlddfgfmkapoiaaGreat

namespace Go.Proofs.YtlddfgfmkapoiaaGreat
open Go Go.Sh Go.RowKit

set_option maxRecDepth 20000 in
theorem c_hangR (s : Bool) {k v : Int} {low pair : Tr} (hlow : Rb low) (hlb : redR low = false) (hpk : pair.key = k) (hpv : pair.val = v) : ∀ (n : Nat) (t : Tr) {p pp pl : Option Addr} {w : World} {R : Ending → World → Prop} (_hn : t.size ≤ n) (_ht : IsN w p t) (_hp : IsN w pp pair) (_hl : IsN w pl low)
    (_ha : Rb t) (_hg : hiR low ≤ hiR t) (_hs : t.size + low.size + 5 ≤ BIG) (_h : ∀ q w', Ext w w' → IsN w' q (hangR s k v low t) → R (.returned (.pointer q)) w'),
    Calls Tryz.prog 273 #[sdR s, .pointer p, .pointer pp, .pointer pl] w R := fun n => by
  induction n with
  | zero =>
    intro t p pp pl w R hn ht hp hl ha hg hs h
    have : t = .nil := by
      cases t with
      | nil => rfl
      | node l a b c r => simp [Tr.size] at hn
    subst this
    obtain rfl : p = none := ht
    refine sh273_ok _ _ _ _ ?_
    unfold sh273
    intro K6 K61
    refine ifB_t rfl (do_mkR s (i := .nil) rfl hp hl (by simp only [Tr.size]; omega) ⟨Int.le_refl _, by decide⟩ (hlow.tg (by omega)) fun q w1 e1 h1 => retS_ret ⟨_, rfl, h _ _ e1 ?_⟩)
    rw [hpk, hpv] at h1
    exact h1
  | succ n ih =>
    intro t p pp pl w R hn ht hp hl ha hg hs h
    refine sh273_ok _ _ _ _ ?_
    unfold sh273
    intro K6 K61
    cases hnn : t.nn with
    | false =>
      have := Tr.size0 hnn
      subst this
      obtain rfl : p = none := ht
      refine ifB_t rfl (do_mkR s (i := .nil) rfl hp hl (by simp only [Tr.size]; omega) ⟨Int.le_refl _, by decide⟩ (hlow.tg (by omega)) fun q w1 e1 h1 => retS_ret ⟨_, rfl, h _ _ e1 ?_⟩)
      rw [hpk, hpv] at h1
      exact h1
    | true =>
    obtain ⟨hi, ho, hio, hside⟩ := ha.sides s hnn
    have hsz := size_nn2 s hnn
    have tgt := ha.tg (by omega)
    have tgl := hlow.tg (by omega)
    rw [hangR_eq s k v low hnn] at h
    refine ifB_f (by rw [ht.isNone, hnn]; rfl) ?_
    have hK6 : (!redR t && decide (hiR t ≤ hiR low)) = false → ∀ w', Ext w w' → K6 w' := by
      intro hb w1 e1
      rw [hb, if_neg (by simp)] at h
      have hlo : hiR low ≤ hiR (outS s t) := by
        rcases hside with ⟨a, b, c, d⟩ | ⟨a, b⟩
        · omega
        · rw [a] at hb; simp at hb; omega
      have hok := hangR_ok s k v low hlow hlb n (outS s t) (by omega) ho hlo
      have tgx := hok.tg ho (by omega)
      have tgs := hok.sidesTg (by omega)
      have hxs : (hangR s k v low (outS s t)).size = (outS s t).size + low.size + 1 := by rw [← Tr.pairs_length, hok.pairs, fl_len, Tr.pairs_length, Tr.pairs_length]
      have hxn := hok.nn
      refine do_outR s (ht.ext e1) fun qo w2 e2 h2 => retS_ret ⟨_, rfl, ?_⟩
      have E2 := e1.trans e2
      refine do_call Tryz.call273 (ih (outS s t) (by omega) h2 (hp.ext E2) (hl.ext E2) ho hlo (by omega) fun qx w3 e3 h3 => retS_ret ⟨_, rfl, ?_⟩)
      have E3 := E2.trans e3
      intro K14 K27
      generalize hX : hangR s k v low (outS s t) = x at *
      simp only at h
      have hxz := size_nn2 s hxn
      have hK14 : (!redR t && redR x && redR (outS s x)) = false → ∀ w', Ext w3 w' → K14 w' := by
        intro hc w4 e4
        rw [hc, if_neg (by simp)] at h
        refine ⟨nc_make s ?_⟩
        have d := ext_drew w4
        have E4 := (E3.trans e4).trans d
        refine do_inR s (ht.ext E4) fun qi w5 e5 h5 => retS_ret ⟨_, rfl, ?_⟩
        refine do_call Tryz.call275 (c_rred (ht.ext (E4.trans e5)) tgt fun w6 e6 => retS_ret ⟨_, rfl, ?_⟩)
        have E6 := (E4.trans e5).trans e6
        exact do_mkR s (h5.ext e6) (ht.ext E6) (h3.ext (((e4.trans d).trans e5).trans e6)) (by omega) (hi.tg (by omega)) tgx fun q7 w7 e7 h7 => retS_ret ⟨_, rfl, h _ _ (E6.trans e7) h7⟩
      have hK27 : redR t = false → redR x = true → ∀ w', Ext w3 w' → K27 (redR (outS s x)) w' := by
        intro hrt hrx w4 e4
        refine ifB_intro (fun hro => ?_) fun hro => hK14 (by rw [hrt, hrx, hro]; rfl) w4 e4
        rw [hrt, hrx, hro, if_pos (by rfl)] at h
        refine ⟨nc_make s (nc_make s ?_)⟩
        have d := ext_drew w4
        have E4 := (E3.trans e4).trans d
        have e34 := e4.trans d
        refine do_inR s (ht.ext E4) fun qi w5 e5 h5 => retS_ret ⟨_, rfl, ?_⟩
        refine do_inR s ((h3.ext e34).ext e5) fun qxi w6 e6 h6 => retS_ret ⟨_, rfl, ?_⟩
        have E6 := (E4.trans e5).trans e6
        have e36 := (e34.trans e5).trans e6
        refine do_mkR s (h5.ext e6) (ht.ext E6) h6 (by omega) (hi.tg (by omega)) tgs.1 fun qm w7 e7 h7 => retS_ret ⟨_, rfl, ?_⟩
        have e37 := e36.trans e7
        refine do_outR s (h3.ext e37) fun qxo w8 e8 h8 => retS_ret ⟨_, rfl, ?_⟩
        refine do_call Tryz.call229 (c_rblk h8 tgs.2 (by omega) fun qb w9 e9 h9 _ => retS_ret ⟨_, rfl, ?_⟩)
        have e39 := (e37.trans e8).trans e9
        have hor : redR (outS s t) = true := by
          cases hq : redR (outS s t) with
          | true => rfl
          | false =>
            obtain ⟨_, _, _, h5⟩ := (hok.rb hq).sides s hxn
            rcases h5 with ⟨a, b, c, d⟩ | ⟨a, b⟩
            · rw [hro] at d; cases d
            · rw [hrx] at a; cases a
        obtain ⟨_, rbi, rbo, hii, _, _⟩ := hok.weak hor
        have tm : TgR (mkRS s (inS s t) t.key t.val false (inS s x)) := by
          have e : hiR (inS s t) = hiR (inS s x) := by rw [hii, hok.hi]; exact hio
          have := hi.tag
          have g1 := (hi.tg (by omega)).hi
          show 0 ≤ (mkRS s (inS s t) t.key t.val false (inS s x)).tag ∧ (mkRS s (inS s t) t.key t.val false (inS s x)).tag ≤ _
          rw [mkRS_tag e, if_neg (by simp)]
          simp only [BIG] at hs
          exact ⟨by omega, by omega⟩
        have tb : TgR (blkR (outS s x)) := (blkR_ok rbo).1.tg (by rw [blkR_size]; omega)
        refine do_mkR s (h7.ext (e8.trans e9)) (h3.ext e39) h9 ?_ tm tb fun q10 w10 e10 h10 => retS_ret ⟨_, rfl, h _ _ ((E3.trans e39).trans e10) h10⟩
        rw [mkRS_size, blkR_size]; omega
      refine do_call Tryz.call275 (c_rred (ht.ext E3) tgt fun w4 e4 => retS_ret ⟨_, rfl, ?_⟩)
      cases hrt : redR t with
      | true => exact ifB_f rfl (hK14 (by rw [hrt]; rfl) w4 e4)
      | false =>
        refine ifB_t rfl ?_
        refine do_call Tryz.call275 (c_rred (h3.ext e4) tgx fun w5 e5 => retS_ret ⟨_, rfl, ?_⟩)
        have e35 := e4.trans e5
        cases hrx : redR x with
        | false => exact ifB_f rfl (hK14 (by rw [hrx]; simp) w5 e35)
        | true =>
          refine ifB_t rfl ?_
          refine do_outR s (h3.ext e35) fun qxo w6 e6 h6 => retS_ret ⟨_, rfl, ?_⟩
          refine do_call Tryz.call275 (c_rred h6 tgs.2 fun w7 e7 => retS_ret ⟨_, rfl, ?_⟩)
          exact hK27 hrt hrx w7 ((e35.trans e6).trans e7)
    refine do_call Tryz.call275 (c_rred ht tgt fun w1 e1 => retS_ret ⟨_, rfl, ?_⟩)
    cases hrt : redR t with
    | true => exact ifB_f rfl (hK6 (by rw [hrt]; rfl) w1 e1)
    | false =>
      refine ifB_t rfl ?_
      refine do_call Tryz.call272 (c_rhigh (ht.ext e1) tgt fun w2 e2 => retS_ret ⟨_, rfl, ?_⟩)
      refine do_call Tryz.call272 (c_rhigh (hl.ext (e1.trans e2)) tgl fun w3 e3 => retS_ret ⟨_, rfl, ?_⟩)
      have E3 := (e1.trans e2).trans e3
      refine ifB_intro (fun hc => ?_) fun hc => hK6 (by rw [hrt, hc]; rfl) w3 E3
      rw [hrt, hc, if_pos (by rfl)] at h
      refine do_mkR s (ht.ext E3) (hp.ext E3) (hl.ext E3) (by omega) tgt tgl fun q w4 e4 h4 => retS_ret ⟨_, rfl, h _ _ (E3.trans e4) ?_⟩
      rw [hpk, hpv] at h4
      exact h4
theorem c_rjoin {k v : Int} {l r : Tr} {pl pr : Option Addr} {w : World} {R : Ending → World → Prop} (hl : IsN w pl l) (hr : IsN w pr r) (al : Rb l) (ar : Rb r) (hs : l.size + r.size + 5 ≤ BIG)
    (h : ∀ q w', Ext w w' → IsN w' q (joinR l k v r) → R (.returned (.pointer q)) w') : Calls Tryz.prog 224 #[.pointer pl, .int .i64 k, .int .i64 v, .pointer pr] w R := by
  refine sh224_ok _ _ _ _ ?_
  unfold sh224
  have bl := blkR_ok al
  have br := blkR_ok ar
  have sl := blkR_size l
  have sr := blkR_size r
  refine do_call Tryz.call229 (c_rblk hl (al.tg (by omega)) (by omega) fun ql w1 e1 h1 _ => retS_ret ⟨_, rfl, ?_⟩)
  refine do_call Tryz.call229 (c_rblk (hr.ext e1) (ar.tg (by omega)) (by omega) fun qr w2 e2 h2 _ => retS_ret ⟨_, rfl, ?_⟩)
  have E2 := e1.trans e2
  have h1 := h1.ext e2
  unfold joinR at h
  generalize blkR l = l' at *
  generalize blkR r = r' at *
  refine do_call Tryz.call271 (c_rmk (l := .nil) (r := .nil) rfl rfl (by decide) ⟨Int.le_refl _, by decide⟩ fun qp w3 e3 h3 => retS_ret ⟨_, rfl, ?_⟩)
  have tl := bl.1.tg (by omega)
  have tr := br.1.tg (by omega)
  refine do_call Tryz.call272 (c_rhigh (h1.ext e3) tl fun w4 e4 => retS_ret ⟨_, rfl, ?_⟩)
  refine do_call Tryz.call272 (c_rhigh (h2.ext (e3.trans e4)) tr fun w5 e5 => retS_ret ⟨_, rfl, ?_⟩)
  have e25 := (e3.trans e4).trans e5
  have E5 := E2.trans e25
  have h1 := h1.ext e25
  have h2 := h2.ext e25
  have h3 := h3.ext (e4.trans e5)
  refine ifB_intro (fun hc => ?_) fun hc => ?_
  · have hc : hiR r' < hiR l' := of_decide_eq_true hc
    rw [if_pos hc] at h
    have hok := hangR_ok true k v r' br.1 br.2.1 l'.size l' (Nat.le_refl _) bl.1 (by omega)
    refine do_call Tryz.call273 (c_hangR true br.1 br.2.1 rfl rfl l'.size l' (Nat.le_refl _) h1 h3 h2 bl.1 (by omega) (by omega) fun q w6 e6 h6 => retS_ret ⟨_, rfl, ?_⟩)
    have hxs : (hangR true k v r' l').size = l'.size + r'.size + 1 := by rw [← Tr.pairs_length, hok.pairs, fl_len, Tr.pairs_length, Tr.pairs_length]
    exact do_call Tryz.call229 (c_rblk h6 (hok.tg bl.1 (by omega)) (Nat.le_trans (Nat.le_of_eq hxs) (by omega)) fun qb w7 e7 h7 _ => retS_ret ⟨_, rfl, h _ _ ((E5.trans e6).trans e7) h7⟩)
  · have hc : ¬ hiR r' < hiR l' := of_decide_eq_false hc
    rw [if_neg hc] at h
    refine ifB_intro (fun hc2 => ?_) fun hc2 => ?_
    · have hc2 : hiR l' < hiR r' := of_decide_eq_true hc2
      rw [if_pos hc2] at h
      have hok := hangR_ok false k v l' bl.1 bl.2.1 r'.size r' (Nat.le_refl _) br.1 (by omega)
      refine do_call Tryz.call273 (c_hangR false bl.1 bl.2.1 rfl rfl r'.size r' (Nat.le_refl _) h2 h3 h1 br.1 (by omega) (by omega) fun q w6 e6 h6 => retS_ret ⟨_, rfl, ?_⟩)
      have hxs : (hangR false k v l' r').size = r'.size + l'.size + 1 := by rw [← Tr.pairs_length, hok.pairs, fl_len, Tr.pairs_length, Tr.pairs_length]
      exact do_call Tryz.call229 (c_rblk h6 (hok.tg br.1 (by omega)) (Nat.le_trans (Nat.le_of_eq hxs) (by omega)) fun qb w7 e7 h7 _ => retS_ret ⟨_, rfl, h _ _ ((E5.trans e6).trans e7) h7⟩)
    · have hc2 : ¬ hiR l' < hiR r' := of_decide_eq_false hc2
      rw [if_neg hc2] at h
      exact do_call Tryz.call271 (c_rmk h1 h2 (by omega) tl fun q w6 e6 h6 => retS_ret ⟨_, rfl, h _ _ (E5.trans e6) h6⟩)
end Go.Proofs.YtlddfgfmkapoiaaGreat

namespace Go.Proofs.YtlddfgfmkapoiaaGreat
open Go Go.Sh Go.RowKit

theorem c_wmake {pl pr : Option Addr} {l r : Tr} {k v : Int} {w : World} {R : Ending → World → Prop} (hl : IsN w pl l) (hr : IsN w pr r) (hs : l.size + 1 + r.size ≤ BIG)
    (h : ∀ q w', Ext w w' → IsN w' q (mkW l k v r) → R (.returned (.pointer q)) w') : Calls Tryz.prog 276 #[.pointer pl, .int .i64 k, .int .i64 v, .pointer pr] w R := by
  refine sh276_ok _ _ _ _ ?_
  unfold sh276
  simp only [BIG] at hs
  exact do_call Tryz.call105 (c_new hl hr (by omega) fun b w1 e1 h1 _ => retS_ret ⟨_, rfl, h _ _ e1 h1⟩)
theorem c_weight {p : Option Addr} {t : Tr} {w : World} {R : Ending → World → Prop} (ht : IsN w p t) (hs : t.size ≤ BIG) (h : ∀ w', Ext w w' → R (.returned (.int .i64 (wtW t : Nat))) w') : Calls Tryz.prog 277 #[.pointer p] w R := by
  refine sh277_ok _ ?_
  unfold sh277
  refine do_call Tryz.call91 (c_tsize ht fun w1 e1 => retS_ret ⟨_, rfl, ?_⟩)
  simp only [BIG] at hs
  rw [wrap_of (by omega) (by omega)]
  exact h _ e1
/-- all of two numbers from one to another one -/
theorem c_within {a b lo hi : Int} {p : Option Addr} {c : Nat} {w : World} {R : Ending → World → Prop} (hl : Cs w p (ints [a, b])) (h : R (.returned (.bool (decide (lo ≤ a) && decide (a ≤ hi) && decide (lo ≤ b) && decide (b ≤ hi)))) w) :
    Calls Tryz.prog 327 #[.int .i64 lo, .int .i64 hi, .slice p 2 c] w R := by
  refine sh327_ok _ _ _ _ _ ?_
  unfold sh327
  refine ⟨fun vs w' => w' = w ∧ ((vs = [.int .i64 0]) ∨ (vs = [.int .i64 1] ∧ lo ≤ a ∧ a ≤ hi) ∨ (vs = [.int .i64 2] ∧ lo ≤ a ∧ a ≤ hi ∧ lo ≤ b ∧ b ≤ hi)), fun vs _ => 2 - (intOf (vs.getD 0 undef)).toNat, ⟨rfl, .inl rfl⟩, ?_⟩
  rintro i _ w2 ⟨rfl, hv⟩
  rcases hv with hv | ⟨hv, h1, h2⟩ | ⟨hv, h1, h2, h3, h4⟩ <;> (simp only [List.cons.injEq, Value.int.injEq, true_and, and_true] at hv; subst hv)
  · refine ifB_t (by decide) (ix_int hl rfl (by decide) (by decide) fun ad _ hr => ⟨a, hr, ?_⟩)
    intro K15
    refine ifB_intro (fun hc => ?_) fun hc => ifB_intro (fun hd => ?_) fun hd => ⟨⟨rfl, .inr (.inl ⟨rfl, by have := of_decide_eq_false hc; omega, by have := of_decide_eq_false hd; omega⟩)⟩, by show 2 - (1 : Nat) < 2 - 0; omega⟩
    · have hc := of_decide_eq_true hc
      rw [decide_eq_false (p := lo ≤ a) (by omega)] at h; exact h
    · have hd := of_decide_eq_true hd
      rw [decide_eq_false (p := a ≤ hi) (by omega)] at h; simpa using h
  · refine ifB_t (by decide) (ix_int hl rfl (by decide) (by decide) fun ad _ hr => ⟨b, hr, ?_⟩)
    intro K15
    refine ifB_intro (fun hc => ?_) fun hc => ifB_intro (fun hd => ?_) fun hd => ⟨⟨rfl, .inr (.inr ⟨rfl, h1, h2, by have := of_decide_eq_false hc; omega, by have := of_decide_eq_false hd; omega⟩)⟩, by show 2 - (2 : Nat) < 2 - 1; omega⟩
    · have hc := of_decide_eq_true hc
      rw [decide_eq_false (p := lo ≤ b) (by omega)] at h; simpa using h
    · have hd := of_decide_eq_true hd
      rw [decide_eq_false (p := b ≤ hi) (by omega)] at h; simpa using h
  · refine ifB_f (by decide) ?_
    rw [decide_eq_true h1, decide_eq_true h2, decide_eq_true h3, decide_eq_true h4] at h
    exact h
theorem c_like {a b : Nat} {w : World} {R : Ending → World → Prop} (h1 : 1 ≤ a ∧ a ≤ 1099511627776) (h2 : 1 ≤ b ∧ b ≤ 1099511627776) (h : ∀ w', Ext w w' → R (.returned (.bool (likeW a b))) w') : Calls Tryz.prog 279 #[.int .i64 (a : Nat), .int .i64 (b : Nat)] w R := by
  refine sh279_ok _ _ ?_
  unfold sh279
  intro K5
  refine ⟨?_⟩
  have e1 := ext_alloc w (.cells #[.int .i64 (a : Nat), .int .i64 (b : Nat)] 3)
  have hc : Cs (w.alloc (.cells #[.int .i64 (a : Nat), .int .i64 (b : Nat)] 3)) (some (blk w.heap.size)) (ints [(a : Int), (b : Int)]) := cs_alloc w #[.int .i64 (a : Nat), .int .i64 (b : Nat)] 3
  refine do_call Tryz.call327 (c_within hc (retS_ret ⟨_, rfl, ?_⟩))
  refine ifB_t (by simp; omega) (do_mink (retS_ret ⟨_, rfl, ?_⟩))
  have e : decide (IntKind.wrap .i64 (29 * IntKind.wrap .i64 ((a : Int) + b)) ≤ IntKind.wrap .i64 (100 * min (a : Int) b)) = likeW a b := by
    rw [wrap_of (x := (a : Int) + b) (by omega) (by omega), wrap_of (x := 29 * ((a : Int) + b)) (by omega) (by omega), wrap_of (x := 100 * min (a : Int) b) (by omega) (by omega)]
    unfold likeW
    exact decide_eq_decide.2 (by omega)
  show R (.returned (.bool _)) _
  rw [e]
  exact h _ e1
/-! ### sides -/
def sW (s : Bool) : Int := cond s 1 0
theorem c_other (s : Bool) {w : World} {R : Ending → World → Prop} (h : R (.returned (.int .i64 (sW (!s)))) w) : Calls Tryz.prog 323 #[.int .i64 (sW s)] w R := by
  refine sh323_ok _ ?_
  cases s <;> exact h
theorem outS_not (s : Bool) (t : Tr) : outS (!s) t = inS s t := by cases s <;> rfl
theorem ix_two (s : Bool) (p0 p1 : Option Addr) : ∀ w, (Instr.index 376 (.agg #[.pointer p0, .pointer p1]) (.int .i64 (sW s))).run Tryz.prog w = .ok (.pointer (cond s p1 p0)) w := fun w => by
  cases s
  · kernel_rfl
  · kernel_rfl
theorem c_at (s : Bool) {p : Option Addr} {t : Tr} {w : World} {R : Ending → World → Prop} (ht : IsN w p t) (h : ∀ q w', Ext w w' → IsN w' q (outS s t) → R (.returned (.pointer q)) w') : Calls Tryz.prog 324 #[.int .i64 (sW s), .pointer p] w R := by
  refine sh324_ok _ _ ?_
  unfold sh324
  refine do_call Tryz.call343 (sh343_ok _ ?_)
  unfold sh343
  refine ⟨?_⟩
  have e1 := ext_alloc w (.cells #[.pointer none, .pointer none] 376)
  have hb := blk_alloc w #[.pointer none, .pointer none] 376
  refine do_call Tryz.call123 (c_left0 ht e1 fun ql hl => retS_ret ⟨_, rfl, ?_⟩)
  refine do_call Tryz.call125 (c_right0 ht e1 fun qr hr => retS_ret ⟨_, rfl, ?_⟩)
  refine do_st2 hb fun w2 h2 g2 => ⟨_, h2.cell (i := 0) (add_blk _ _) rfl, _, h2.cell (i := 1) (add_blk _ _) rfl, retS_ret ⟨_, _, rfl, ⟨_, ix_two s _ _, _, rfl, ?_⟩⟩⟩
  have E2 : Ext w w2 := e1.st g2 (Nat.le_refl _)
  cases s
  · exact h _ _ E2 (hl.ext E2)
  · exact h _ _ E2 (hr.ext E2)
theorem mkWS_size (s : Bool) (i o : Tr) (k v : Int) : (mkWS s i k v o).size = i.size + 1 + o.size := by cases s <;> simp [mkWS, mkW, Tr.size] <;> omega
theorem c_mkW (s : Bool) {pi pp po : Option Addr} {i o pr : Tr} {w : World} {R : Ending → World → Prop} (hi : IsN w pi i) (hp : IsN w pp pr) (ho : IsN w po o) (hs : i.size + 1 + o.size ≤ BIG)
    (h : ∀ q w', Ext w w' → IsN w' q (mkWS s i pr.key pr.val o) → R (.returned (.pointer q)) w') : Calls Tryz.prog 322 #[.int .i64 (sW s), .pointer pi, .pointer pp, .pointer po] w R := by
  refine sh322_ok _ _ _ _ ?_
  unfold sh322
  refine ⟨do_st2 (blk_alloc w _ _) fun w1 h1 g1 => ?_⟩
  have e1 : Ext w w1 := (ext_alloc w _).st g1 (Nat.le_refl _)
  have d := ext_drew w1
  have E := e1.trans d
  have c0 : ∀ w', Ext w1 w' → w'.cell? ((blk w.heap.size).add (0 * 1)) = some (.pointer pi) := fun w' e => (h1.ext e).cell (i := 0) (by rw [Nat.zero_mul, add_blk]) rfl
  have c1 : ∀ w', Ext w1 w' → w'.cell? ((blk w.heap.size).add (1 * 1)) = some (.pointer po) := fun w' e => (h1.ext e).cell (i := 1) (by rw [Nat.one_mul, add_blk]) rfl
  cases s
  · refine ⟨⟨fun w' => Ext w1 w', d, ⟨_, rfl, by decide, by decide, _, c0, ?_⟩⟩⟩
    refine do_call Tryz.call323 (c_other false (retS_ret ⟨_, rfl, d, ⟨_, rfl, by decide, by decide, _, c1, ?_⟩⟩))
    refine do_call Tryz.call108 (c_key (hp.ext E) fun w3 e3 => retS_ret ⟨_, rfl, d.trans e3, ?_⟩)
    refine do_call Tryz.call126 (c_val (hp.ext (E.trans e3)) fun w4 e4 => retS_ret ⟨_, rfl, (d.trans e3).trans e4, ?_⟩)
    have E4 := (E.trans e3).trans e4
    exact do_call Tryz.call276 (c_wmake (ho.ext E4) (hi.ext E4) (by omega) fun q w5 e5 h5 => retS_ret ⟨_, rfl, h _ _ (E4.trans e5) h5⟩)
  · refine ⟨⟨fun w' => Ext w1 w', d, ⟨_, rfl, by decide, by decide, _, c1, ?_⟩⟩⟩
    refine do_call Tryz.call323 (c_other true (retS_ret ⟨_, rfl, d, ⟨_, rfl, by decide, by decide, _, c0, ?_⟩⟩))
    refine do_call Tryz.call108 (c_key (hp.ext E) fun w3 e3 => retS_ret ⟨_, rfl, d.trans e3, ?_⟩)
    refine do_call Tryz.call126 (c_val (hp.ext (E.trans e3)) fun w4 e4 => retS_ret ⟨_, rfl, (d.trans e3).trans e4, ?_⟩)
    have E4 := (E.trans e3).trans e4
    exact do_call Tryz.call276 (c_wmake (hi.ext E4) (ho.ext E4) hs fun q w5 e5 h5 => retS_ret ⟨_, rfl, h _ _ (E4.trans e5) h5⟩)
theorem c_once (s : Bool) {pi pt px : Option Addr} {i t x : Tr} {w : World} {R : Ending → World → Prop} (hi : IsN w pi i) (ht : IsN w pt t) (hx : IsN w px x) (hs : i.size + 1 + x.size + 1 ≤ BIG)
    (h : ∀ q w', Ext w w' → IsN w' q (onceW s i t.key t.val x) → R (.returned (.pointer q)) w') : Calls Tryz.prog 325 #[.int .i64 (sW s), .pointer pi, .pointer pt, .pointer px] w R := by
  refine sh325_ok _ _ _ _ ?_
  unfold sh325
  have hz := size_two s x
  refine do_call Tryz.call323 (c_other s (retS_ret ⟨_, rfl, ?_⟩))
  refine do_call Tryz.call324 (c_at (!s) hx fun q1 w1 e1 h1 => retS_ret ⟨_, rfl, ?_⟩)
  rw [outS_not] at h1
  refine do_call Tryz.call322 (c_mkW s (hi.ext e1) (ht.ext e1) h1 (by omega) fun q2 w2 e2 h2 => retS_ret ⟨_, rfl, ?_⟩)
  have E2 := e1.trans e2
  refine do_call Tryz.call324 (c_at s (hx.ext E2) fun q3 w3 e3 h3 => retS_ret ⟨_, rfl, ?_⟩)
  have E3 := E2.trans e3
  exact do_call Tryz.call322 (c_mkW s (h2.ext e3) (hx.ext E3) h3 (by rw [mkWS_size]; omega) fun q4 w4 e4 h4 => retS_ret ⟨_, rfl, h _ _ (E3.trans e4) h4⟩)
theorem c_twice (s : Bool) {pi pt px : Option Addr} {i t x : Tr} {w : World} {R : Ending → World → Prop} (hi : IsN w pi i) (ht : IsN w pt t) (hx : IsN w px x) (hs : i.size + 1 + x.size + 2 ≤ BIG)
    (h : ∀ q w', Ext w w' → IsN w' q (twiceW s i t.key t.val x) → R (.returned (.pointer q)) w') : Calls Tryz.prog 326 #[.int .i64 (sW s), .pointer pi, .pointer pt, .pointer px] w R := by
  refine sh326_ok _ _ _ _ ?_
  unfold sh326
  have hz := size_two s x
  have hz2 := size_two s (inS s x)
  refine do_call Tryz.call323 (c_other s (retS_ret ⟨_, rfl, ?_⟩))
  refine do_call Tryz.call324 (c_at (!s) hx fun qm w1 e1 hm => retS_ret ⟨_, rfl, ?_⟩)
  rw [outS_not] at hm
  refine do_call Tryz.call323 (c_other s (retS_ret ⟨_, rfl, ?_⟩))
  refine do_call Tryz.call324 (c_at (!s) hm fun q2 w2 e2 h2 => retS_ret ⟨_, rfl, ?_⟩)
  rw [outS_not] at h2
  have E2 := e1.trans e2
  refine do_call Tryz.call322 (c_mkW s (hi.ext E2) (ht.ext E2) h2 (by omega) fun q3 w3 e3 h3 => retS_ret ⟨_, rfl, ?_⟩)
  have E3 := E2.trans e3
  refine do_call Tryz.call324 (c_at s (hm.ext (e2.trans e3)) fun q4 w4 e4 h4 => retS_ret ⟨_, rfl, ?_⟩)
  have E4 := E3.trans e4
  refine do_call Tryz.call324 (c_at s (hx.ext E4) fun q5 w5 e5 h5 => retS_ret ⟨_, rfl, ?_⟩)
  have E5 := E4.trans e5
  refine do_call Tryz.call322 (c_mkW s (h4.ext e5) (hx.ext E5) h5 (by omega) fun q6 w6 e6 h6 => retS_ret ⟨_, rfl, ?_⟩)
  have E6 := E5.trans e6
  exact do_call Tryz.call322 (c_mkW s (h3.ext ((e4.trans e5).trans e6)) (hm.ext ((((e2.trans e3).trans e4).trans e5).trans e6)) h6 (by rw [mkWS_size, mkWS_size]; omega) fun q7 w7 e7 h7 => retS_ret ⟨_, rfl, h _ _ (E6.trans e7) h7⟩)
def turnEs (s : Bool) : Array MapEntry := #[{ key := .bool true, val := .func (.func 325) #[.int .i64 (sW s)] #[], born := 0 }, { key := .bool false, val := .func (.func 326) #[.int .i64 (sW s)] #[], born := 1 }]
set_option maxRecDepth 20000 in
theorem c_hangW (s : Bool) {k v : Int} {low pair : Tr} (hlow : Wb low) (hpk : pair.key = k) (hpv : pair.val = v) : ∀ (n : Nat) (t : Tr) {p pp pl : Option Addr} {w : World} {R : Ending → World → Prop} (_hn : t.size ≤ n) (_ht : IsN w p t) (_hp : IsN w pp pair) (_hl : IsN w pl low)
    (_ha : Wb t) (_hg : 29 * wtW low ≤ 71 * wtW t) (_hs : t.size + low.size + 5 ≤ BIG) (_h : ∀ q w', Ext w w' → IsN w' q (hangW s k v low t) → R (.returned (.pointer q)) w'),
    Calls Tryz.prog 278 #[.int .i64 (sW s), .pointer p, .pointer pp, .pointer pl] w R := fun n => by
  induction n with
  | zero =>
    intro t p pp pl w R hn ht hp hl ha hg hs h
    have : t = .nil := by
      cases t with
      | nil => rfl
      | node l a b c r => simp [Tr.size] at hn
    subst this
    obtain rfl : p = none := ht
    refine sh278_ok _ _ _ _ ?_
    unfold sh278
    intro K7
    refine ifB_t rfl (do_call Tryz.call322 (c_mkW s (i := .nil) rfl hp hl (by simp only [Tr.size]; omega) fun q w1 e1 h1 => retS_ret ⟨_, rfl, h _ _ e1 ?_⟩))
    rw [hpk, hpv] at h1
    exact h1
  | succ n ih =>
    intro t p pp pl w R hn ht hp hl ha hg hs h
    refine sh278_ok _ _ _ _ ?_
    unfold sh278
    intro K7
    cases hnn : t.nn with
    | false =>
      have := Tr.size0 hnn
      subst this
      obtain rfl : p = none := ht
      refine ifB_t rfl (do_call Tryz.call322 (c_mkW s (i := .nil) rfl hp hl (by simp only [Tr.size]; omega) fun q w1 e1 h1 => retS_ret ⟨_, rfl, h _ _ e1 ?_⟩))
      rw [hpk, hpv] at h1
      exact h1
    | true =>
    obtain ⟨hi, ho, hwt, hlk⟩ := ha.sides s hnn
    have hlk' := likeW_iff.1 hlk
    have hsz := size_nn2 s hnn
    rw [hangW_eq s k v low hnn] at h
    refine ifB_f (by rw [ht.isNone, hnn]; rfl) ?_
    simp only [BIG] at hs
    refine do_call Tryz.call277 (c_weight ht (by simp only [BIG]; omega) fun w1 e1 => retS_ret ⟨_, rfl, ?_⟩)
    refine do_call Tryz.call277 (c_weight (hl.ext e1) (by simp only [BIG]; omega) fun w2 e2 => retS_ret ⟨_, rfl, ?_⟩)
    refine do_call Tryz.call279 (c_like (by unfold wtW; omega) (by unfold wtW; omega) fun w3 e3 => retS_ret ⟨_, rfl, ?_⟩)
    have E3 := (e1.trans e2).trans e3
    cases hb : likeW (wtW t) (wtW low) with
    | true =>
      rw [hb, if_pos rfl] at h
      refine ifB_t rfl (do_call Tryz.call322 (c_mkW s (ht.ext E3) (hp.ext E3) (hl.ext E3) (by simp only [BIG]; omega) fun q w4 e4 h4 => retS_ret ⟨_, rfl, h _ _ (E3.trans e4) ?_⟩))
      rw [hpk, hpv] at h4
      exact h4
    | false =>
      rw [hb, if_neg (by simp)] at h
      rw [likeW_not] at hb
      have hok := hangW_ok s k v low hlow n (outS s t) (by omega) ho (by omega)
      have hxs : wtW (hangW s k v low (outS s t)) = wtW (outS s t) + wtW low := hok.wt
      have hxz := size_two s (hangW s k v low (outS s t))
      refine ifB_f rfl ?_
      refine do_call Tryz.call323 (c_other s (retS_ret ⟨_, rfl, ?_⟩))
      refine do_call Tryz.call324 (c_at (!s) (ht.ext E3) fun qi w4 e4 h4 => retS_ret ⟨_, rfl, ?_⟩)
      rw [outS_not] at h4
      have E4 := E3.trans e4
      refine do_call Tryz.call324 (c_at s (ht.ext E4) fun qo w5 e5 h5 => retS_ret ⟨_, rfl, ?_⟩)
      have E5 := E4.trans e5
      refine do_call Tryz.call278 (ih (outS s t) (by omega) h5 (hp.ext E5) (hl.ext E5) ho (by omega) (by simp only [BIG]; omega) fun qx w6 e6 h6 => retS_ret ⟨_, rfl, ?_⟩)
      have E6 := E5.trans e6
      have h4 := h4.ext (e5.trans e6)
      generalize hangW s k v low (outS s t) = x at *
      have hxsz : x.size = (outS s t).size + low.size + 1 := by unfold wtW at hxs; omega
      refine do_call Tryz.call277 (c_weight h4 (by simp only [BIG]; omega) fun w7 e7 => retS_ret ⟨_, rfl, ?_⟩)
      refine do_call Tryz.call277 (c_weight (h6.ext e7) (by simp only [BIG]; omega) fun w8 e8 => retS_ret ⟨_, rfl, ?_⟩)
      refine do_call Tryz.call279 (c_like (by unfold wtW; omega) (by unfold wtW; omega) fun w9 e9 => retS_ret ⟨_, rfl, ?_⟩)
      have e69 := (e7.trans e8).trans e9
      have E9 := E6.trans e69
      have h4 := h4.ext e69
      have h6 := h6.ext e69
      unfold backW at h
      cases hc : likeW (wtW (inS s t)) (wtW x) with
      | true =>
        rw [hc, if_pos rfl] at h
        exact ifB_t rfl (do_call Tryz.call322 (c_mkW s h4 (ht.ext E9) h6 (by simp only [BIG]; omega) fun q w10 e10 h10 => retS_ret ⟨_, rfl, h _ _ (E9.trans e10) h10⟩))
      | false =>
        rw [hc, if_neg (by simp)] at h
        refine ifB_f rfl ?_
        refine do_call Tryz.call323 (c_other s (retS_ret ⟨_, rfl, ?_⟩))
        refine do_call Tryz.call324 (c_at (!s) h6 fun qa w10 e10 ha' => retS_ret ⟨_, rfl, ?_⟩)
        rw [outS_not] at ha'
        refine do_call Tryz.call277 (c_weight ha' (by simp only [BIG]; omega) fun w11 e11 => retS_ret ⟨_, rfl, ?_⟩)
        have e911 := e10.trans e11
        refine do_call Tryz.call324 (c_at s (h6.ext e911) fun qb w12 e12 hb' => retS_ret ⟨_, rfl, ?_⟩)
        refine do_call Tryz.call277 (c_weight hb' (by simp only [BIG]; omega) fun w13 e13 => retS_ret ⟨_, rfl, ⟨?_⟩⟩)
        have e913 := (e911.trans e12).trans e13
        refine do_mu_new Tryz.underlying367 Tryz.underlying4 (heap_alloc_new w13 _) (by trivial) (by rfl) fun w14 h14 g14 => ?_
        refine do_mu_new Tryz.underlying367 Tryz.underlying4 h14 (by trivial) (by rfl) fun w15 h15 g15 => ?_
        have e15 : Ext w13 w15 := ((ext_alloc w13 _).st g14 (Nat.le_refl _)).st g15 (Nat.le_refl _)
        have h15 : w15.heap[w13.heap.size]? = some (.map (turnEs s) 2) := h15
        have e915 := e913.trans e15
        intro K56
        refine do_call Tryz.call279 (c_like (by unfold wtW; omega) (by unfold wtW; omega) fun w16 e16 => retS_ret ⟨_, rfl, ?_⟩)
        have e916 := e915.trans e16
        have htwice : ∀ w', Ext w15 w' → (likeW (wtW (inS s t)) (wtW (inS s x)) && likeW (wtW (inS s t) + wtW (inS s x)) (wtW (outS s x))) = false →
            doLk Tryz.prog 367 (.map (some w13.heap.size)) (.bool false) false w' (fun v76 => (∃ (xf73 : Fn), ∃ (xx74 : Array Value), ∃ (xc75 : Array Value), v76 = (.func xf73 xx74 xc75 : Value) ∧ (
              doCall Tryz.prog (.func xf73 xx74 xc75) #[.pointer qi, .pointer p, .pointer qx] w' (retS (fun v78 w79 => ∃ (x77 : Option Addr), v78 = (.pointer x77 : Value) ∧ (K56 x77 w79)) (fun ch w => Kfn R ch [] w)))) ∨ (v76 = (.nilFunc : Value) ∧ (
              doCall Tryz.prog (.nilFunc) #[.pointer qi, .pointer p, .pointer qx] w' (retS (fun v81 w82 => ∃ (x80 : Option Addr), v81 = (.pointer x80 : Value) ∧ (K56 x80 w82)) (fun ch w => Kfn R ch [] w))))) := by
          intro w' e' hd
          rw [hd, if_neg (by simp)] at h
          have e9' := e915.trans e'
          refine do_lk1_hit Tryz.underlying367 Tryz.underlying4 (e'.heap h15) (by trivial) (i := 1) (v := .func (.func 326) #[.int .i64 (sW s)] #[]) (by rfl) (.inl ⟨_, _, _, rfl, ⟨?_⟩⟩)
          exact callV_func Tryz.call326 (c_twice s (h4.ext e9') (ht.ext (E9.trans e9')) (h6.ext e9') (by simp only [BIG]; omega) fun q w17 e17 h17 => retS_ret ⟨_, rfl, h _ _ ((E9.trans e9').trans e17) h17⟩)
        refine ifB_intro (fun hla => ?_) fun hla => htwice w16 e16 (by rw [hla]; rfl)
        have ew : IntKind.wrap .i64 (((wtW (inS s t) : Nat) : Int) + ((wtW (inS s x) : Nat) : Int)) = ((wtW (inS s t) + wtW (inS s x) : Nat) : Int) := by
          unfold wtW; rw [wrap_of (by omega) (by omega)]; omega
        rw [ew]
        refine do_call Tryz.call279 (c_like (by unfold wtW; omega) (by unfold wtW; omega) fun w17 e17 => retS_ret ⟨_, rfl, ?_⟩)
        have e917 := e916.trans e17
        cases hlb : likeW (wtW (inS s t) + wtW (inS s x)) (wtW (outS s x)) with
        | false => exact htwice w17 (e16.trans e17) (by rw [hla, hlb]; rfl)
        | true =>
          rw [hla, hlb, if_pos (by rfl)] at h
          refine do_lk1_hit Tryz.underlying367 Tryz.underlying4 ((e16.trans e17).heap h15) (by trivial) (i := 0) (v := .func (.func 325) #[.int .i64 (sW s)] #[]) (by rfl) (.inl ⟨_, _, _, rfl, ⟨?_⟩⟩)
          exact callV_func Tryz.call325 (c_once s (h4.ext e917) (ht.ext (E9.trans e917)) (h6.ext e917) (by simp only [BIG]; omega) fun q w18 e18 h18 => retS_ret ⟨_, rfl, h _ _ ((E9.trans e917).trans e18) h18⟩)
theorem c_wjoin {k v : Int} {l r : Tr} {pl pr : Option Addr} {w : World} {R : Ending → World → Prop} (hl : IsN w pl l) (hr : IsN w pr r) (al : Wb l) (ar : Wb r) (hs : l.size + r.size + 5 ≤ BIG)
    (h : ∀ q w', Ext w w' → IsN w' q (joinW l k v r) → R (.returned (.pointer q)) w') : Calls Tryz.prog 230 #[.pointer pl, .int .i64 k, .int .i64 v, .pointer pr] w R := by
  refine sh230_ok _ _ _ _ ?_
  unfold sh230
  refine do_call Tryz.call276 (c_wmake (l := .nil) (r := .nil) rfl rfl (by decide) fun qp w1 e1 hp => retS_ret ⟨_, rfl, ?_⟩)
  refine do_call Tryz.call277 (c_weight (hl.ext e1) (by omega) fun w2 e2 => retS_ret ⟨_, rfl, ?_⟩)
  refine do_call Tryz.call277 (c_weight (hr.ext (e1.trans e2)) (by omega) fun w3 e3 => retS_ret ⟨_, rfl, ?_⟩)
  have E3 := (e1.trans e2).trans e3
  have hp3 := hp.ext (e2.trans e3)
  unfold joinW at h
  refine ifB_intro (fun hc => ?_) fun hc => ?_
  · have hc : wtW l < wtW r := by have := of_decide_eq_true hc; omega
    rw [if_pos hc] at h
    exact do_call Tryz.call278 (c_hangW false al rfl rfl r.size r (Nat.le_refl _) (hr.ext E3) hp3 (hl.ext E3) ar (by omega) (by omega) fun q w5 e5 h5 => retS_ret ⟨_, rfl, h _ _ (E3.trans e5) h5⟩)
  · have hc : ¬ wtW l < wtW r := by have := of_decide_eq_false hc; omega
    rw [if_neg hc] at h
    exact do_call Tryz.call278 (c_hangW true ar rfl rfl l.size l (Nat.le_refl _) (hl.ext E3) hp3 (hr.ext E3) al (by omega) (by omega) fun q w5 e5 h5 => retS_ret ⟨_, rfl, h _ _ (E3.trans e5) h5⟩)
end Go.Proofs.YtlddfgfmkapoiaaGreat

