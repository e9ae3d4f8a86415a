/-
  CanonMeets: the walk.
-/
/-
  Arguments opened to cells: slices of structs. No claim of its own.
-/
/-
  The arguments of the statements, opened.
-/
import Derived.Test.YtlfjaogbehpleaaGreatZ26
import Derived.Test.YtlfjaogbehpleaaGreatZ17
import Derived.Test.YtlfjaogbehpleaaGreatZ03
import Derived.Deep.Slices
import Derived.Deep.Fields
import Derived.ChangeSame
import Derived.Lib.SmallJoins
import Derived.Test.YtlfjaogbehpleaaGreatZ14
import Derived.Test.YtlfjaogbehpleaaGreatZ15
import Derived.SizedLaws

namespace Go.Proofs.YtlfjaogbehpleaaGreat
open Go Go.Sh Go.RowKit

set_option maxRecDepth 20000 in
set_option maxHeartbeats 1600000 in
theorem c_canonMeets {o : Int} {l m : List Pr} {q1 q2 : Option Addr} {n1 c1 n2 c2 : Nat} {w : World} {R : Ending → World → Prop} (hl : Cs w q1 (prs l)) (hn1 : l.length = n1) (iL : InP l) (hm : Cs w q2 (prs m)) (hn2 : m.length = n2) (iM : InP m)
    (h : ∀ w', Ext w w' → R (.returned (.bool true)) w') : Calls Tryz.prog 6 #[.int .u8 o, .slice q1 n1 c1, .slice q2 n2 c2] w R := by
  refine sh6_ok _ _ _ _ _ _ _ ?_
  unfold sh6
  refine do_call Tryz.call26 (c_l22of (fun hc => by cases hc) fun _ b w1 e1 hbw hs1 => retS_ret ⟨_, _, rfl, ?_⟩)
  intro K14
  have hal : ∀ w2, Ext w w2 → doCall Tryz.prog (.func (.func 27) #[] #[]) #[] w2 (retS (fun v22 w23 => ∃ (x21 : Bool), v22 = (.bool x21 : Value) ∧ (
 R (.returned (.bool x21)) w23)) (fun ch w => Kfn R ch [] w)) := fun w2 e2 => do_call Tryz.call27 (c_alive41 fun w3 e3 => retS_ret ⟨_, rfl, h _ (e2.trans e3)⟩)
  refine ifB_intro (fun _ => ifB_t rfl (hal _ e1)) fun z1 => ifB_intro (fun _ => ifB_t rfl (hal _ e1)) fun z2 => ifB_f rfl ?_
  have z1 : n1 ≤ 80 := by have := of_decide_eq_false z1; omega
  have z2 : n2 ≤ 80 := by have := of_decide_eq_false z2; omega
  refine do_call Tryz.call20 (c_ris (retS_ret ⟨_, rfl, ?_⟩))
  cases ho : isO o with
  | false =>
    simp -zeta -zetaHave only [K14]
    exact ifB_t rfl (ifB_t rfl (hal _ e1))
  | true =>
  simp -zeta -zetaHave only [K14]
  refine ifB_f rfl ?_
  have hb : w.heap.size ≤ b := by omega
  have mL := sortL_may (p := 2) ho (by decide) iL
  have mM := sortL_may (p := 2) ho (by decide) iM
  refine do_call Tryz.call28 (c_canof ho (by decide) (hl.ext e1) hn1 (by omega) iL fun pa a w2 e2 ha ca ea => retS_ret ⟨_, _, rfl, ?_⟩)
  have E2 := e1.trans e2
  refine do_call Tryz.call28 (c_canof ho (by decide) (hm.ext E2) hn2 (by omega) iM fun pb B w3 e3 hB cb eb => retS_ret ⟨_, _, rfl, ?_⟩)
  have E3 := E2.trans e3
  have qa : Cq o a := cq_of ca (by rw [ea]; exact mL.2.1)
  have qb : Cq o B := cq_of cb (by rw [eb]; exact mM.2.1)
  have za : a.size ≤ 80 := by rw [← Tr.pairs_length, ea]; omega
  have zb : B.size ≤ 80 := by rw [← Tr.pairs_length, eb]; omega
  have hs3 := hs1.ext (e2.trans e3)
  refine do_call Tryz.call29 (c_cdiff ho (ha.ext e3) hB ca cb (by omega) (by omega) fun q4 n4 c4 w4 e4 o4 => retS_ret ⟨_, _, _, _, rfl, ?_⟩)
  have E4 := E3.trans e4
  have hs4 := hs3.ext e4
  have hn4 := ownK_len o4
  have hb3 : b < w3.heap.size := hs3.lt
  refine do_call Tryz.call30 (c_apart ho hs4 ((ha.ext e3).ext e4) (hB.ext e4) qa.can.u qb.can.u (by simp only [BIG]; omega) fun pp w5 g5 hs5 h5 => retS_ret ⟨_, _, rfl, ?_⟩)
  have E5 := Ext.gs E4 g5 hb
  have ha5 := ((ha.ext e3).ext e4).gs hs4 g5
  have hB5 := (hB.ext e4).gs hs4 g5
  refine do_call Tryz.call31 (c_meet ho (by decide) hs5 ha5 hB5 qa.can.u qb.can.u (by simp only [BIG]; omega) fun pk w6 g6 hs6 h6 => retS_ret ⟨_, _, rfl, ?_⟩)
  have E6 := Ext.gs E5 g6 hb
  have ha6 := ha5.gs hs5 g6
  have hB6 := hB5.gs hs5 g6
  have h56 := h5.gs hs5 g6
  have G46 := (gd_gs (S := [b]) g5 (by simp)).trans (gd_gs g6 (by simp))
  have o6 : OwnK w6 w3.heap.size q4 n4 c4 (difT o a B.pairs) := row_gd o4 G46 (by simpa using hb3)
  intro K45
  refine ifB_f rfl (ifB_f rfl (ifB_f rfl (ifB_f rfl ?_)))
  simp -zeta -zetaHave only [K45]
  refine ifB_f rfl ?_
  have hcount := meets_count ho qa qb
  have A := cq_apart ho qa qb
  have M := cq_meet (p := 1) ho qa qb
  have hk := meet_keys_mem (p := 1) ho qa qb
  have S := difT_spec ho qa.asc qb.asc (fun x hx => (qa.inP x hx).1) fun x hx => (qb.inP x hx).1
  have zA : (apartC 4 o a B).size ≤ 160 := by have := (apartC_ok ho qa.can.u qb.can.u).2.2; omega
  have zM : (meetC 4 o 1 a B).size ≤ 160 := by
    rw [← itsC_len 4, M.2]
    exact Nat.le_trans (List.length_filterMap_le _ _) (by rw [itsC_len]; omega)
  generalize apartC 4 o a B = AP at *
  generalize meetC 4 o 1 a B = MT at *
  generalize difT o a B.pairs = D at *
  refine do_call Tryz.call32 (c_tsize h56 fun w7 e7 => retS_ret ⟨_, rfl, ?_⟩)
  refine do_call Tryz.call33 (c_lkeys (h6.ext e7) (by omega) fun q8 n8 c8 w8 e8 o8 => retS_ret ⟨_, _, _, rfl, ?_⟩)
  have e68 := e7.trans e8
  have E8 := E6.trans e68
  have hn8 := ownK_len o8
  have hlK : (MT.pairs.map (·.1)).length = MT.size := by rw [List.length_map, Tr.pairs_length]
  generalize hKK : MT.pairs.map (·.1) = K at *
  have z4 : n4 ≤ 320 := by
    have := List.length_filter_le (fun x => !comB a.pairs B.pairs x) K
    omega
  have ha8 := ha6.ext e68
  have hB8 := hB6.ext e68
  have o68 : OwnK w8 w3.heap.size q4 n4 c4 D := e68.row o6
  have iA : ∀ {k v : Int}, (k, v) ∈ a.pairs → In k := fun q => (qa.inP _ q).1
  have iB : ∀ {k v : Int}, (k, v) ∈ B.pairs → In k := fun q => (qb.inP _ q).1
  have mA := mayR_iff.2 ⟨ho, qa.asc⟩
  have mB := mayR_iff.2 ⟨ho, qb.asc⟩
  have uA : ∀ {k v v' : Int}, (k, v) ∈ a.pairs → (k, v') ∈ a.pairs → v = v' := fun q r => by
    have q' := (lk_iff mA).2 q
    rw [(lk_iff mA).2 r] at q'
    exact (Option.some.inj q').symm
  have uB : ∀ {k v v' : Int}, (k, v) ∈ B.pairs → (k, v') ∈ B.pairs → v = v' := fun q r => by
    have q' := (lk_iff mB).2 q
    rw [(lk_iff mB).2 r] at q'
    exact (Option.some.inj q').symm
  have gD : ∀ (L : List Int) (j : Nat) (hj : j < L.length), L.getD (j : Int).toNat 0 = L[j] := fun L j hj => by rw [Int.toNat_natCast, List.getD_eq_getElem?_getD, List.getElem?_eq_getElem hj]; rfl
  refine ⟨fun vs w' => ∃ k : Nat, vs = [.int .i64 ((AP.size + ((K.take k).filter fun x => !comB a.pairs B.pairs x).length : Nat) : Int), .int .i64 k] ∧ k ≤ n8 ∧ Ext w8 w', fun vs _ => n8 - (intOf (vs.getD 1 undef)).toNat, ⟨0, by simp, by omega, ext_refl _⟩, ?_⟩
  rintro n_ j_ _ w9 ⟨k, hv, hkn, E⟩
  simp only [List.cons.injEq, Value.int.injEq, true_and, and_true] at hv
  obtain ⟨rfl, rfl⟩ := hv
  refine ifB_intro (fun hlt => ?_) fun hge => ?_
  · have hlt : k < n8 := by have := of_decide_eq_true hlt; omega
    have hkl : k < K.length := by omega
    have et : K.take (k + 1) = K.take k ++ [K[k]] := (List.take_append_getElem hkl).symm
    intro K62
    obtain ⟨⟨va, hva⟩, vb, hvb⟩ := (hk K[k]).1 (List.getElem_mem hkl)
    have hfl : ((K.take k).filter fun x => !comB a.pairs B.pairs x).length ≤ k := Nat.le_trans (List.length_filter_le _ _) (by rw [List.length_take]; omega)
    refine ix_int ((Cs.of_row o8).ext E) hn8 (by omega) (by omega) fun a1 _ r1 => ⟨_, r1, ?_⟩
    rw [gD K k hkl]
    refine do_call Tryz.call34 (c_fgetP ho (iA hva) (ha8.ext E) qa fun x p w10 e10 ip vp => retS_ret ⟨_, _, rfl, ?_⟩)
    obtain rfl : p = true := ip.2 ⟨va, hva⟩
    have E10 := E.trans e10
    refine ix_int ((Cs.of_row o8).ext E10) hn8 (by omega) (by omega) fun a2 _ r2 => ⟨_, r2, ?_⟩
    rw [gD K k hkl]
    refine do_call Tryz.call34 (c_fgetP ho (iA hva) (hB8.ext E10) qb fun y q w11 e11 iq vq => retS_ret ⟨_, _, rfl, ?_⟩)
    obtain rfl : q = true := iq.2 ⟨vb, hvb⟩
    have E11 := E10.trans e11
    have hx := vp rfl
    have hy := vq rfl
    intro K77
    refine ifB_f rfl ?_
    simp -zeta -zetaHave only [K77]
    refine ifB_f rfl (ifB_intro (fun hne => ?_) fun heq => ?_)
    · have hne : x ≠ y := by simpa using hne
      have hc : comB a.pairs B.pairs K[k] = false := by
        cases hc : comB a.pairs B.pairs K[k] with
        | false => rfl
        | true =>
          obtain ⟨v, q1, q2⟩ := comB_iff.1 hc
          exact absurd ((uA hx q1).trans (uB hy q2).symm) hne
      refine ⟨⟨k + 1, ?_, by omega, E11⟩, by rw [wrap_succ hlt (by omega)]; simp [intOf]; omega⟩
      rw [et, List.filter_append, wrap_succ hlt (by omega), wrap_of (by omega) (by omega)]
      simp [hc]
      omega
    · have heq : x = y := by simpa using heq
      have hc : comB a.pairs B.pairs K[k] = true := comB_iff.2 ⟨x, hx, by rw [heq]; exact hy⟩
      refine ⟨⟨k + 1, ?_, by omega, E11⟩, by rw [wrap_succ hlt (by omega)]; simp [intOf]; omega⟩
      rw [et, List.filter_append, wrap_succ hlt (by omega)]
      simp [hc]
  · have hge : k = n8 := by have := of_decide_eq_false hge; omega
    subst hge
    rw [List.take_of_length_le (by omega), ← hcount]
    refine ⟨fun vs w' => ∃ j : Nat, vs = [.int .i64 j] ∧ j ≤ n4 ∧ Ext w9 w', fun vs _ => n4 - (intOf (vs.getD 0 undef)).toNat, ⟨0, rfl, by omega, ext_refl _⟩, ?_⟩
    rintro j_ _ w10 ⟨j, hv, hjn, E'⟩
    simp only [List.cons.injEq, Value.int.injEq, true_and, and_true] at hv
    subst hv
    have E10 := E.trans E'
    have oD : ∀ w', Ext w10 w' → Cs w' q4 (ints D) := fun w' e => ((Cs.of_row o68).ext E10).ext e
    refine ifB_intro (fun hlt => ?_) fun hge => ?_
    · have hlt : j < n4 := by have := of_decide_eq_true hlt; omega
      have hjl : j < D.length := by omega
      have hDj := (S.2 D[j]).1 (List.getElem_mem hjl)
      have iD : ∀ i (hi : i < D.length), In D[i] := fun i hi => by
        rcases ((S.2 D[i]).1 (List.getElem_mem hi)).1 with ⟨v, q⟩ | ⟨v, q⟩
        · exact iA q
        · exact iB q
      intro K84
      have hK84 : ∀ w', Ext w10 w' → K84 w' := fun w' e' => by
        refine ⟨⟨j + 1, by rw [wrap_succ hlt (by omega)], by omega, E'.trans e'⟩, by rw [wrap_succ hlt (by omega)]; simp [intOf]; omega⟩
      refine ix_int (oD _ (ext_refl _)) hn4 (by omega) (by omega) fun a1 _ r1 => ⟨_, r1, ?_⟩
      rw [gD D j hjl]
      refine do_call Tryz.call34 (c_fgetP ho (iD j hjl) (ha8.ext E10) qa fun x p w11 e11 ip vp => retS_ret ⟨_, _, rfl, ?_⟩)
      refine ix_int (oD _ e11) hn4 (by omega) (by omega) fun a2 _ r2 => ⟨_, r2, ?_⟩
      rw [gD D j hjl]
      refine do_call Tryz.call34 (c_fgetP ho (iD j hjl) (hB8.ext (E10.trans e11)) qb fun y q w12 e12 iq vq => retS_ret ⟨_, _, rfl, ?_⟩)
      have E12 := e11.trans e12
      intro K99
      have d := ext_drew w12
      have hK99 : ∀ w', Ext w10 w' → K99 false w' := fun w' e' => by
        simp -zeta -zetaHave only [K99]
        exact ifB_f rfl (hK84 _ e')
      refine ⟨⟨fun w' => Ext w12 w', d, ?_⟩⟩
      have htail : ifB (decide ((j : Int) > 0)) (
 doIx q4 n4 1 (IntKind.wrap .i64 ((j : Int) - 1)) (fun a102 =>
 ∃ (x103 : Int), (∀ w, Ext w12 w → World.cell? w a102 = some (.int .i64 x103)) ∧ (
 doIx q4 n4 1 (j : Int) (fun a104 =>
 ∃ (x105 : Int), (∀ w, Ext w12 w → World.cell? w a104 = some (.int .i64 x105)) ∧ (
 doCall Tryz.prog (.func (.func 10) #[] #[]) #[.int .u8 o, .int .i64 x103, .int .i64 x105] w12.drew (retS (fun v107 w108 => ∃ (x106 : Int), v107 = (.int .i64 x106 : Value) ∧ (
 K99 (decide ((x106 : Int) ≥ 0)) w108)) (fun ch w => Kfn R ch [] w))))))) (
 K84 w12.drew) := by
        refine ifB_intro (fun hpos => ?_) fun _ => hK84 _ (E12.trans d)
        have hpos : 0 < j := by have := of_decide_eq_true hpos; omega
        have ek : IntKind.wrap .i64 ((j : Int) - 1) = ((j - 1 : Nat) : Int) := by rw [wrap_of (by omega) (by omega)]; omega
        rw [ek]
        have oI : ∀ w', Ext w12 w' → Cs w' q4 (D.flatMap fun x => [.int .i64 x]) := fun w' e => by
          have := oD w' (E12.trans e)
          unfold ints at this
          rwa [List.map_eq_flatMap] at this
        refine ix_flatC (ec := fun x : Int => [.int .i64 x]) (s := 1) (C := fun w' => Ext w12 w') (fun _ => rfl) (by omega) oI (ext_refl _) hn4 (k := j - 1) rfl (by omega) fun a3 r3 => ⟨D[j - 1]'(by omega), fun w' e => by have := r3 w' e 0 _ rfl; rwa [add_zero'] at this, ?_⟩
        refine ix_flatC (ec := fun x : Int => [.int .i64 x]) (s := 1) (C := fun w' => Ext w12 w') (fun _ => rfl) (by omega) oI (ext_refl _) hn4 (k := j) rfl hlt fun a4 r4 => ⟨D[j], fun w' e => by have := r4 w' e 0 _ rfl; rwa [add_zero'] at this, ?_⟩
        have hlt2 : cmpI o (D[j - 1]'(by omega)) D[j] < 0 := List.pairwise_iff_getElem.1 S.1 (j - 1) j (by omega) hjl (by omega)
        refine do_call Tryz.call10 (c_rcompare (iD _ (by omega)) (iD _ hjl) (retS_ret ⟨_, rfl, ?_⟩))
        rw [show decide (cmpI o (D[j - 1]'(by omega)) D[j] ≥ 0) = false from decide_eq_false (by omega)]
        exact hK99 _ (E12.trans d)
      cases p with
      | true =>
        refine ifB_t rfl ?_
        have hx := vp rfl
        cases q with
        | true =>
          have hy := vq rfl
          refine ifB_t rfl (ifB_f ?_ (ifB_f rfl htail))
          have : x ≠ y := fun e => hDj.2 ⟨x, hx, by rw [e]; exact hy⟩
          simpa using this
        | false => exact ifB_f rfl (ifB_f rfl htail)
      | false =>
        refine ifB_f rfl (ifB_t rfl ?_)
        cases q with
        | true => exact ifB_f rfl htail
        | false =>
          exfalso
          rcases hDj.1 with r | r
          · have := ip.2 r; cases this
          · have := iq.2 r; cases this
    · have hge : j = n4 := by have := of_decide_eq_false hge; omega
      intro K146
      refine ifB_t (by simp [hn4]) ?_
      exact hal _ (E8.trans E10)
end Go.Proofs.YtlfjaogbehpleaaGreat

namespace Go.Sh
open Go Go.RowKit Go.ChangeShapes Go.WideShapes Go.Deep

theorem cs_flat {α : Type} {enc : α → List Value} {s : Nat} (hs : ∀ x, (enc x).length = s) {w : World} {a : Addr} {l : List α}
    (h : ∀ i (hi : i < l.length), ∀ j, j < s → w.cell? (a.add (i * s + j)) = (enc l[i])[j]?) : Cs w (some a) (l.flatMap enc) := by
  induction l generalizing a with
  | nil => intro i v hv; simp at hv
  | cons x xs ih =>
    intro i v hv
    refine ⟨a, rfl, ?_⟩
    rw [List.flatMap_cons] at hv
    rcases Nat.lt_or_ge i s with hi | hi
    · rw [List.getElem?_append_left (by rw [hs]; exact hi)] at hv
      have := h 0 (by simp) i hi
      simp only [Nat.zero_mul, Nat.zero_add, List.getElem_cons_zero] at this
      rw [this]; exact hv
    · rw [List.getElem?_append_right (by rw [hs]; exact hi), hs] at hv
      have := ih (a := a.add s) (fun i hi j hj => by
        have := h (i + 1) (by simpa using hi) j hj
        simp only [List.getElem_cons_succ] at this
        rw [Sh.add_add, show s + (i * s + j) = (i + 1) * s + j by rw [Nat.add_mul]; omega]
        exact this) (i - s) v hv
      obtain ⟨b, hb, hc⟩ := this
      cases hb
      rw [Sh.add_add, show s + (i - s) = i by omega] at hc
      exact hc
theorem list_of {α : Type} {p : Nat → α → Prop} (n : Nat) (h : ∀ i, i < n → ∃ x, p i x) : ∃ l : List α, l.length = n ∧ ∀ i (hi : i < l.length), p i l[i] := by
  induction n with
  | zero => exact ⟨[], rfl, fun i hi => by simp at hi⟩
  | succ n ih =>
    obtain ⟨l, hl, hp⟩ := ih fun i hi => h i (by omega)
    obtain ⟨x, hx⟩ := h n (by omega)
    refine ⟨l ++ [x], by simp [hl], fun i hi => ?_⟩
    rcases Nat.lt_or_ge i l.length with h1 | h1
    · rw [List.getElem_append_left h1]; exact hp i h1
    · have : i = l.length := by simp at hi; omega
      subst this
      simp [hl]; exact hx
variable {H : Type} {enc : TypeId × Value → H} {P : Program} {w : World} {base : Nat} {spare : Nat → Bool} {held : Bool}
/-- A slice of structs, each element read. -/
theorem arg_slice {α : Type} {ec : α → List Value} {Pr : α → Prop} {s : Nat} (hs : ∀ x, (ec x).length = s) {t e : TypeId} (ht : P.underlying t = some (.slice e)) (hc : P.cellsOf e = s)
    (hdec : ∀ n cs y, DataW.trod enc P w base spare held n e cs = some y → ∃ x : α, cs = ec x ∧ Pr x) {q : Option Addr} {len cap : Nat} {d : DataW H} {p : List MemPlace} (h : DataW.Trod enc P w base spare held t (.slice q len cap) d p) :
    ∃ l : List α, l.length = len ∧ Cs w q (l.flatMap ec) ∧ (∀ x ∈ l, Pr x) ∧ len ≤ cap ∧ cap ≤ maxLen ∧ (q = none → len = 0 ∧ cap = 0) := by
  obtain ⟨fuel, hf⟩ := h
  rcases open_slice ht hf with ⟨hcs, _⟩ | ⟨a, l', c', m, n, D, Pl, hcs, hb, hl, hm, hmm, hx, hi⟩
  · simp [Value.cells] at hcs
    obtain ⟨rfl, rfl, rfl⟩ := hcs
    exact ⟨[], rfl, Sh.cs_nil _ _, by simp, Nat.le_refl _, Nat.zero_le _, fun _ => ⟨rfl, rfl⟩⟩
  · simp [Value.cells] at hcs
    obtain ⟨rfl, rfl, rfl⟩ := hcs
    have hlm : len ≤ m := by rw [hmm]; split <;> omega
    obtain ⟨l, hll, hp⟩ := list_of (p := fun i (x : α) => (∀ j, j < s → w.cell? (a.add (i * s + j)) = (ec x)[j]?) ∧ Pr x) len (fun i hil => by
      obtain ⟨cs', hcc, htr⟩ := hi i (by omega)
      rw [hc] at hcc
      obtain ⟨_, hcl, hat⟩ := World.cells?_some hcc
      obtain ⟨x, rfl, hpx⟩ := hdec _ _ _ htr
      refine ⟨x, fun j hj => ?_, hpx⟩
      rw [← Sh.add_add]; exact hat j hj)
    refine ⟨l, hll, cs_flat hs fun i hi j hj => (hp i hi).1 j hj, fun x hx => ?_, hl, hm, by simp⟩
    obtain ⟨i, hi, rfl⟩ := List.getElem_of_mem hx
    exact (hp i hi).2
theorem in64_of {x : Int} (h : (Lit.int .i64 x).wf = true) : -9223372036854775808 ≤ x ∧ x < 9223372036854775808 := by
  simp [Lit.wf, IntKind.min, IntKind.max, IntKind.signed, IntKind.bits] at h
  omega
/-- two numbers -/
theorem dec_int2 {e i : TypeId} {f0 f1 : Field} (he : P.underlying e = some (.struct #[f0, f1])) (h0 : f0.offset = 0) (h1 : f1.offset = 1) (hi : P.underlying i = some (.int .i64)) (ht0 : f0.type = i) (ht1 : f1.type = i) (hce : P.cellsOf e = 2) (hci : P.cellsOf i = 1)
    (n : Nat) (cs : List Value) (y : DataW H × List MemPlace) (h : DataW.trod enc P w base spare held n e cs = some y) :
    ∃ x : Int × Int, cs = [.int .i64 x.1, .int .i64 x.2] ∧ ((-9223372036854775808 ≤ x.1 ∧ x.1 < 9223372036854775808) ∧ (-9223372036854775808 ≤ x.2 ∧ x.2 < 9223372036854775808)) := by
  obtain ⟨y0, y1, n', hx, hl, hf0, hf1⟩ := trod_struct2 he h
  rw [hce] at hl
  match cs, hl with
  | [c0, c1], _ =>
    rw [h0, ht0, hci] at hf0
    rw [h1, ht1, hci] at hf1
    obtain ⟨m0, hc0, _, hw0⟩ := DataW.trod_int hi hf0
    obtain ⟨m1, hc1, _, hw1⟩ := DataW.trod_int hi hf1
    simp at hc0 hc1
    subst hc0 hc1
    exact ⟨(m0, m1), rfl, in64_of hw0, in64_of hw1⟩
end Go.Sh

namespace Go.Proofs.YtlfjaogbehpleaaGreat
open Go Go.Sh Go.RowKit Go.ChangeShapes Go.WideShapes

variable {H : Type} {enc : TypeId × Value → H} {w : World} {base : Nat} {spare : Nat → Bool} {held : Bool}
/-- a slice of pairs that came in -/
def Is_pairs (w : World) (q : Option Addr) (len cap : Nat) (l : List Pr) : Prop := l.length = len ∧ Cs w q (prs l) ∧ InP l ∧ len ≤ cap ∧ cap ≤ maxLen ∧ (q = none → len = 0 ∧ cap = 0)
set_option maxRecDepth 100000 in
theorem pairs_arg {q : Option Addr} {len cap : Nat} {d : DataW H} {p : List MemPlace} (h : DataW.Trod enc Tryz.prog w base spare held 22 (.slice q len cap) d p) : ∃ l : List Pr, Is_pairs w q len cap l :=
  arg_slice (ec := fun x : Pr => [.int .i64 x.1, .int .i64 x.2]) (Pr := fun x => In x.1 ∧ In x.2) (s := 2) (fun _ => rfl) Tryz.underlying22 (by kernel_rfl)
    (dec_int2 Tryz.underlying63 rfl rfl Tryz.underlying2 rfl rfl (by kernel_rfl) (by kernel_rfl)) h
end Go.Proofs.YtlfjaogbehpleaaGreat

