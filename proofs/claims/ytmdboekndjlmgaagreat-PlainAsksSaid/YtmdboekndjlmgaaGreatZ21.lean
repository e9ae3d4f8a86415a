/-
  What the functions of fold do.
-/
import Derived.Test.YtmdboekndjlmgaaGreatZ14
import Derived.Test.YtmdboekndjlmgaaGreatZ19
import Derived.Test.YtmdboekndjlmgaaGreatZ17

set_option maxRecDepth 100000
set_option maxHeartbeats 6400000
namespace Go.Proofs.YtmdboekndjlmgaaGreat
open Go Go.Sh Go.RowKit

theorem elI : ElT Tryz.prog 28 2 (.int .i64 0) 1 8 := ⟨Tryz.underlying28, ⟨_, Tryz.type2, by kernel_rfl, by kernel_rfl, by kernel_rfl⟩, rfl, by omega⟩
def comb (p a b : Int) : Int := if p = 1 then a else if p = 2 then b else IntKind.wrap .i64 (a + b)
def may (p : Int) : Bool := p == 1 || p == 2 || p == 3
theorem may_cases {p : Int} (h : may p = true) : p = 1 ∨ p = 2 ∨ p = 3 := by simpa [may, or_assoc] using h
def fn (k : Nat) : Value := .agg #[.func (.func k) #[] #[]]
def kindEs : Array MapEntry := #[{ key := .int .u8 1, val := fn 175, born := 0 }, { key := .int .u8 2, val := fn 176, born := 1 }, { key := .int .u8 3, val := fn 177, born := 2 }]
theorem c_kinds {w : World} {R : EW} (h : ∀ b w', Ext w w' → w'.heap[b]? = some (.map kindEs 3) → R (.returned (.map (some b))) w') : Calls Tryz.prog 158 #[] w R := by
  refine sh158_ok ?_
  unfold sh158
  refine ⟨?_⟩
  refine do_mu_new Tryz.underlying171 Tryz.underlying5 (heap_alloc_new w _) (by rfl) (by rfl) fun w3 h3 g3 => ?_
  refine do_mu_new Tryz.underlying171 Tryz.underlying5 h3 (by rfl) (by rfl) fun w4 h4 g4 => ?_
  refine do_mu_new Tryz.underlying171 Tryz.underlying5 h4 (by rfl) (by rfl) fun w5 h5 g5 => ?_
  have e := ext_alloc w (.map #[] 0)
  exact h _ _ (((e.grown g3 (by rintro _ ⟨⟩; exact Nat.le_refl _)).grown g4 (by rintro _ ⟨⟩; exact Nat.le_refl _)).grown g5 (by rintro _ ⟨⟩; exact Nat.le_refl _)) h5
theorem find_kind {p : Int} (h : may p = true) : ∃ i k, Instr.findNow (.int .u8) (.int .u8 p) kindEs.toList 0 = some (some (i, fn k)) ∧
    ∀ (a b : Int) (w : World) (R : EW), R (.returned (.int .i64 (comb p a b))) w → doCall Tryz.prog (.func (.func k) #[] #[]) #[.int .i64 a, .int .i64 b] w R := by
  rcases may_cases h with rfl | rfl | rfl
  · exact ⟨0, 175, rfl, fun a b w R h => do_call Tryz.call175 (sh175_ok _ _ h)⟩
  · exact ⟨1, 176, rfl, fun a b w R h => do_call Tryz.call176 (sh176_ok _ _ h)⟩
  · exact ⟨2, 177, rfl, fun a b w R h => do_call Tryz.call177 (sh177_ok _ _ h)⟩
theorem find_none {p : Int} (h : may p = false) : Instr.findNow (.int .u8) (.int .u8 p) kindEs.toList 0 = some none := by
  simp [may] at h
  obtain ⟨⟨h1, h2⟩, h3⟩ := h
  have e1 : (p == 1) = false := by simpa using h1
  have e2 : (p == 2) = false := by simpa using h2
  have e3 : (p == 3) = false := by simpa using h3
  simp [kindEs, Instr.findNow, Instr.sameNow, e1, e2, e3]
theorem c_fmay {p : Int} {w : World} {R : EW} (h : ∀ w', Ext w w' → R (.returned (.bool (may p))) w') : Calls Tryz.prog 118 #[.int .u8 p] w R := by
  refine sh118_ok _ ?_
  unfold sh118
  refine do_call Tryz.call158 (c_kinds fun b w1 e1 hb => retS_ret ⟨_, rfl, ?_⟩)
  cases hm : may p
  · refine do_lk_miss Tryz.underlying171 Tryz.underlying5 hb (by rfl) (find_none hm) (z := .agg #[.nilFunc]) (by kernel_rfl) (.inr ⟨rfl, ⟨?_⟩⟩)
    refine ⟨⟨_, by rw [add_zero']; exact cell_alloc0 _ _ _⟩, by rw [add_zero']; exact frozen_alloc _ _ _ _, ?_⟩
    exact hm ▸ h _ ((e1.alloc _).set (by rw [add_block]; exact e1.size) _)
  · obtain ⟨i, k, hf, _⟩ := find_kind hm
    refine do_lk_hit Tryz.underlying171 Tryz.underlying5 hb (by rfl) hf (.inl ⟨_, _, _, _, rfl, ⟨?_⟩⟩)
    refine ⟨⟨_, by rw [add_zero']; exact cell_alloc0 _ _ _⟩, by rw [add_zero']; exact frozen_alloc _ _ _ _, ?_⟩
    exact hm ▸ h _ ((e1.alloc _).set (by rw [add_block]; exact e1.size) _)
theorem c_comb {p a b : Int} {w : World} {R : EW} (h : ∀ w', Ext w w' → R (.returned (.tuple #[.int .i64 (cond (may p) (comb p a b) 0), .int .i64 (cond (may p) 0 2)])) w') :
    Calls Tryz.prog 142 #[.int .u8 p, .int .i64 a, .int .i64 b] w R := by
  refine sh142_ok _ _ _ ?_
  unfold sh142
  refine do_call Tryz.call158 (c_kinds fun b w1 e1 hb => retS_ret ⟨_, rfl, ?_⟩)
  cases hm : may p <;> simp only [hm] at h
  · refine do_lk_miss Tryz.underlying171 Tryz.underlying5 hb (by rfl) (find_none hm) (z := .agg #[.nilFunc]) (by kernel_rfl) (.inr ⟨rfl, ⟨?_⟩⟩)
    refine ⟨⟨_, by rw [add_zero']; exact cell_alloc0 _ _ _⟩, by rw [add_zero']; exact frozen_alloc _ _ _ _, ?_⟩
    exact h _ ((e1.alloc _).set (by rw [add_block]; exact e1.size) _)
  · obtain ⟨i, k, hf, hc⟩ := find_kind hm
    refine do_lk_hit Tryz.underlying171 Tryz.underlying5 hb (by rfl) hf (.inl ⟨_, _, _, _, rfl, ⟨?_⟩⟩)
    have hz := cell_alloc0 w1 .nilFunc 169
    rw [← add_zero' (blk _)] at hz
    refine ⟨⟨_, hz⟩, by rw [add_zero']; exact frozen_alloc _ _ _ _, ?_⟩
    refine ⟨_, _, _, World.cell?_setCell_same _ _ _ hz, hc _ _ _ _ (retS_ret ⟨_, rfl, ?_⟩)⟩
    exact h _ ((e1.alloc _).set (by rw [add_block]; exact e1.size) _)
theorem take_succ {l : List Int} {k : Nat} (h : k < l.length) : l.take (k + 1) = l.take k ++ [l[k]] := (List.take_append_getElem h).symm
abbrev W64 (x : Int) : Int := IntKind.wrap .i64 x
def sumL (l : List Int) : Int := l.foldl (fun s x => W64 (s + x)) 0
def sumsL (l : List Int) : List Int := (List.range l.length).map fun i => sumL (l.take (i + 1))
theorem sumL_take {l : List Int} {k : Nat} (h : k < l.length) : sumL (l.take (k + 1)) = W64 (sumL (l.take k) + l[k]) := by
  rw [take_succ h]; simp only [sumL, List.foldl_append, List.foldl_cons, List.foldl_nil]
@[simp] theorem sumsL_length (l : List Int) : (sumsL l).length = l.length := by simp [sumsL]
theorem c_adder {w : World} {R : EW} (h : ∀ b w', Ext w w' → w.heap.size ≤ b → b < w'.heap.size → w'.cell? (blk b) = some (.int .i64 0) → w'.frozen? (blk b) = false →
    R (.returned (.func (.func 195) #[] #[.pointer (some (blk b))])) w') : Calls Tryz.prog 172 #[] w R := by
  refine sh172_ok ?_
  unfold sh172
  have hz := cell_alloc0 w (.int .i64 0) 2
  have hf := frozen_alloc w #[.int .i64 0] 2 0
  refine ⟨⟨⟨_, by rw [add_zero']; exact hz⟩, by rw [add_zero']; exact hf, ?_⟩⟩
  rw [add_zero']
  exact h _ _ ((ext_alloc w _).set (Nat.le_refl _) _) (Nat.le_refl _) (by simp) (World.cell?_setCell_same _ _ _ hz) (by rw [World.frozen?_setCell]; exact hf)
theorem c_add {v x : Int} {a : Addr} {w : World} {R : EW} (hc : w.cell? a = some (.int .i64 x)) (hf : w.frozen? a = false)
    (h : R (.returned (.int .i64 (W64 (x + v)))) (w.setCell a (.int .i64 (W64 (x + v))))) : doCall Tryz.prog (.func (.func 195) #[] #[.pointer (some a)]) #[.int .i64 v] w R := by
  refine do_callc Tryz.call195 (by rfl) (sh195_ok _ _ ?_)
  unfold sh195
  refine ⟨_, hc, ⟨⟨_, by rw [add_zero']; exact hc⟩, by rw [add_zero']; exact hf, ?_⟩⟩
  rw [add_zero']
  exact ⟨_, World.cell?_setCell_same _ _ _ hc, h⟩
theorem c_sum {l : List Int} {q : OA} {n c : Nat} {w : World} {R : EW} (hl : Cs w q (ints l)) (hn : l.length = n) (h63 : n ≤ 9223372036854775807)
    (h : ∀ w', Ext w w' → R (.returned (.int .i64 (sumL l))) w') : Calls Tryz.prog 154 #[.slice q n c] w R := by
  refine sh154_ok _ _ _ ?_
  unfold sh154
  refine do_call Tryz.call172 (c_adder fun b w1 e1 hb1 hb2 hc hf => retS_ret ⟨_, _, _, rfl, ?_⟩)
  refine ⟨fun vs w' => ∃ i : Nat, vs = [.int .i64 (sumL (l.take i)), .int .i64 i] ∧ i ≤ n ∧ Ext w w' ∧ w'.cell? (blk b) = some (.int .i64 (sumL (l.take i))) ∧ w'.frozen? (blk b) = false,
    fun vs _ => n - (intOf (vs.getD 1 undef)).toNat, ⟨0, rfl, by omega, e1, hc, hf⟩, ?_⟩
  rintro v i j w3 ⟨m, hv, hmn, e3, hc, hf⟩
  simp only [List.cons.injEq, Value.int.injEq, true_and, and_true] at hv
  obtain ⟨rfl, rfl⟩ := hv
  refine ifB_intro (fun h1 => ?_) fun h1 => ?_
  · have h1 : m < n := by simpa using h1
    refine ix_int (hl.ext e3) hn (by omega) (by omega) fun a' _ hx' => ⟨_, hx', c_add hc hf (retS_ret ⟨_, rfl, ⟨m + 1, ?_, by omega, e3.set hb1 _, ?_, by rw [World.frozen?_setCell]; exact hf⟩, ?_⟩)⟩
    · rw [wrap_succ h1 h63, sumL_take (by omega)]
      simp [List.getElem?_eq_getElem (show m < l.length by omega)]
    · rw [World.cell?_setCell_same _ _ _ hc, sumL_take (by omega)]
      simp [List.getElem?_eq_getElem (show m < l.length by omega)]
    · rw [wrap_succ h1 h63]
      simp [intOf]; omega
  · have h1 : m = n := by simp at h1; omega
    rw [List.take_of_length_le (by omega)]
    exact h _ e3
end Go.Proofs.YtmdboekndjlmgaaGreat

namespace Go.Proofs.YtmdboekndjlmgaaGreat
open Go Go.Sh Go.RowKit

abbrev Pr := Int × Int
theorem elP : ElT Tryz.prog 22 63 (.agg #[.int .i64 0, .int .i64 0]) 2 16 := ⟨Tryz.underlying22, ⟨_, Tryz.type63, by kernel_rfl, by kernel_rfl, by kernel_rfl⟩, rfl, by omega⟩
def agP (x : Pr) : Value := .agg #[.int .i64 x.1, .int .i64 x.2]
def InP (l : List Pr) : Prop := ∀ x ∈ l, In x.1 ∧ In x.2
def chain (o : Int) : List Pr → Bool
  | a :: b :: l => decide (cmpI o a.1 b.1 < 0) && chain o (b :: l)
  | _ => true
def mayR (o : Int) (l : List Pr) : Bool := isO o && chain o l

def twoL (l : List Pr) : List (Array Value) := (l.zip l.tail).map fun (a, b) => #[agP a, agP b]
theorem twoL_get {l : List Pr} {i : Nat} (hi : i + 1 < l.length) : (twoL l)[i]? = some #[agP l[i], agP l[i + 1]] := by
  simp only [twoL, List.getElem?_map]
  have : (l.zip l.tail)[i]? = some (l[i], l[i + 1]) := List.getElem?_zip_eq_some.2 ⟨List.getElem?_eq_getElem (by omega), by rw [List.getElem?_tail]; exact List.getElem?_eq_getElem hi⟩
  rw [this]; rfl
theorem twoL_some {l : List Pr} {i : Nat} {x : Array Value} (h : (twoL l)[i]? = some x) : ∃ hi : i + 1 < l.length, x = #[agP (l[i]'(by omega)), agP l[i + 1]] := by
  have hlt := (List.getElem?_eq_some_iff.1 h).1
  have hi : i + 1 < l.length := by simp [twoL] at hlt; omega
  rw [twoL_get hi] at h
  exact ⟨hi, (Option.some.inj h).symm⟩
theorem c_two {q : OA} {n c : Nat} {w : World} {R : EW} (h : ∀ b w', Ext w w' → w.heap.size ≤ b → Blk w' b #[.slice q n c] 22 → R (.returned (.func (.func 94) #[] #[.pointer (some (blk b))])) w') :
    Calls Tryz.prog 53 #[.slice q n c] w R := by
  refine sh53_ok _ _ _ ?_
  unfold sh53
  exact ⟨h _ _ (ext_alloc _ _) (Nat.le_refl _) (blk_alloc _ _ _)⟩
theorem c_two1 {l : List Pr} {q : OA} {n c b : Nat} {f : Fn} {fx fc : Array Value} {St : Nat → World → Prop} {Stop : World → Prop} {w : World} {R : EW} (hn : l.length = n) (h63 : n ≤ 9223372036854775807)
    (hS : ∀ i w', St i w' → Blk w' b #[.slice q n c] 22 ∧ Cs w' q (prs l)) (hD : ∀ i w', St i w' → St i w'.drew) (hStop : ∀ w', Stop w' → Blk w' b #[.slice q n c] 22 ∧ Cs w' q (prs l))
    (hy : YieldsTo Tryz.prog (.func f fx fc) (twoL l) St Stop) (h0 : St 0 w) (hend : ∀ w', St (n - 1) w' → R (.returned (.tuple #[])) w') (hend' : ∀ w', Stop w' → R (.returned (.tuple #[])) w') :
    Calls Tryz.prog 94 #[.func f fx fc, .pointer (some (blk b))] w R := by
  refine sh94_ok _ _ _ _ ?_
  unfold sh94
  refine ⟨_, _, _, (hS 0 w h0).1.cell (i := 0) rfl rfl, fun vs w' => ∃ i : Nat, vs = [.int .i64 i] ∧ i ≤ n ∧ St (i - 1) w', fun vs _ => n - (intOf (vs.getD 0 undef)).toNat, ⟨0, rfl, by omega, h0⟩, ?_⟩
  rintro i j w1 ⟨m, hm, hmn, hs⟩
  simp only [List.cons.injEq, Value.int.injEq, true_and, and_true] at hm
  obtain rfl := hm
  refine ifB_intro (fun hlt => ?_) fun hge => ?_
  · have hlt : m < n := by have := of_decide_eq_true hlt; omega
    refine ⟨⟨fun w' => Blk w' b #[.slice q n c] 22 ∧ Cs w' q (prs l), hS _ _ (hD _ _ hs), ?_⟩⟩
    refine ifB_intro (fun hpos => ?_) fun hzero => ?_
    · have hpos : 0 < m := by have := of_decide_eq_true hpos; omega
      have e : IntKind.wrap .i64 ((m : Int) - 1) = ((m - 1 : Nat) : Int) := by rw [wrap_of (by omega) (by omega)]; omega
      refine ⟨_, _, _, fun w' hc => hc.1.cell (i := 0) rfl rfl, ?_⟩
      have hw := hS _ _ (hD _ _ hs)
      refine ix_prC (fun w' hc => hc.2) hw hn e (by omega) fun a1 r1 r2 => ⟨_, r1, _, r2, _, _, _, fun w' hc => hc.1.cell (i := 0) rfl rfl, ix_prC (fun w' hc => hc.2) hw hn rfl (by omega) fun a2 r3 r4 => ⟨_, r3, _, r4, ?_⟩⟩
      have hg := twoL_get (l := l) (i := m - 1) (by omega)
      simp only [show m - 1 + 1 = m by omega] at hg
      refine hy (m - 1) _ hg _ (hD _ _ hs) _ (fun w' hs' => retS_ret ⟨_, rfl, hS _ _ hs', ifB_f rfl ⟨⟨m + 1, by rw [wrap_succ hlt h63], by omega, by rw [show m - 1 + 1 = m + 1 - 1 by omega] at hs'; exact hs'⟩, ?_⟩⟩)
        fun w' hs' => retS_ret ⟨_, rfl, hStop _ hs', ifB_t rfl (hend' _ hs')⟩
      rw [wrap_succ hlt h63]
      simp [intOf]; omega
    · have hzero : m = 0 := by have := of_decide_eq_false hzero; omega
      subst hzero
      exact ⟨⟨1, by rw [wrap_succ hlt h63], by omega, hD _ _ hs⟩, by rw [wrap_succ hlt h63]; simp [intOf]; omega⟩
  · have hge : m = n := by have := of_decide_eq_false hge; omega
    subst hge
    exact hend _ hs

theorem chain_cons {o : Int} {a b : Pr} {l : List Pr} : chain o (a :: b :: l) = (decide (cmpI o a.1 b.1 < 0) && chain o (b :: l)) := rfl
theorem chain_of {o : Int} : ∀ {l : List Pr}, (∀ i (h : i + 1 < l.length), cmpI o l[i].1 l[i + 1].1 < 0) → chain o l = true
  | [], _ => rfl
  | [_], _ => rfl
  | a :: b :: l, h => by
    rw [chain_cons, chain_of (l := b :: l) fun i hi => h (i + 1) (by simpa using hi)]
    simpa using h 0 (by simp)
theorem chain_get {o : Int} : ∀ {l : List Pr}, chain o l = true → ∀ i (h : i + 1 < l.length), cmpI o l[i].1 l[i + 1].1 < 0
  | [], _, i, h => by simp at h
  | [_], _, i, h => by simp at h
  | a :: b :: l, hc, i, h => by
    rw [chain_cons] at hc
    simp only [Bool.and_eq_true, decide_eq_true_eq] at hc
    cases i with
    | zero => exact hc.1
    | succ i => exact chain_get (l := b :: l) hc.2 i (by simpa using h)
theorem c_may {o : Int} {l : List Pr} {q : OA} {n c : Nat} {w : World} {R : EW} (hl : Cs w q (prs l)) (hn : l.length = n) (h63 : n ≤ 9223372036854775807) (hI : InP l)
    (h : ∀ w', Ext w w' → R (.returned (.bool (mayR o l))) w') : Calls Tryz.prog 24 #[.int .u8 o, .slice q n c] w R := by
  refine sh24_ok _ _ _ _ ?_
  unfold sh24
  refine ⟨⟨?_⟩⟩
  have e1 := ext_alloc w (.cells #[.int .u8 o] 5)
  have ho := blk_alloc w #[.int .u8 o] 5
  generalize hbo : w.heap.size = bo at *
  generalize w.alloc (.cells #[.int .u8 o] 5) = w1 at *
  have e2 := ext_alloc w1 (.cells #[.bool false] 4)
  have hr := blk_alloc w1 #[.bool false] 4
  have ho2 := ho.ext e2
  have hne1 : bo < w1.heap.size := ho.lt
  generalize hbr : w1.heap.size = br at *
  generalize w1.alloc (.cells #[.bool false] 4) = w2 at *
  have E2 := e1.trans e2
  refine do_call Tryz.call53 (c_two fun bt w3 e3 hbt ht => retS_ret ⟨_, _, _, rfl, do_rf fun fn L w4 d hd hL hst hpe e4 hd4 hl4 => ?_⟩)
  have ho3 := ho2.ext e3
  have hr3 := hr.ext e3
  have ho4 := ho3.ext e4
  have hr4 := hr3.ext e4
  have ht4 := ht.ext e4
  have hE4 := (E2.trans e3).trans e4
  have n1 : br < d := by rw [hd]; exact hr3.lt
  have n2 : bt < d := by rw [hd]; exact ht.lt
  have n3 : br < bt := Nat.lt_of_lt_of_le hr.lt hbt
  have hsz : bo ≤ br := by omega
  clear ho ho2 ho3 hr hr3 ht e1 e2 e3 e4 E2
  have hend : ∀ {w' : World} {b : Bool}, Ext w w' → Blk w' br #[.bool b] 4 → w'.heap[d]? = some (.deferred (some [])) → b = mayR o l →
      w'.heap[d]? = some (.deferred (some [])) ∧ (∃ x, World.cell? (w'.putObj d (.deferred none)) (blk br) = some (.bool x) ∧ R (.returned (.bool x)) (w'.putObj d (.deferred none))) := fun E hb hd' hb' => by
    refine ⟨hd', _, (hb.grown (put_grown _ d _) (ne_some (by omega))).cell (i := 0) rfl rfl, ?_⟩
    subst hb'
    exact h _ (E.put (by omega) _)
  refine callE_c Tryz.call94 (by rfl) (c_two1 (l := l) (q := q) (n := n) (c := c) (b := bt) hn h63
    (St := fun i w' => chain o (l.take (i + 1)) = true ∧ Ext w w' ∧ Blk w' bo #[.int .u8 o] 5 ∧ Blk w' br #[.bool false] 4 ∧ Blk w' bt #[.slice q n c] 22 ∧ w'.heap[d]? = some (.deferred (some [])) ∧ w'.heap[d + 1]? = some (.loop L))
    (Stop := fun w' => mayR o l = false ∧ Ext w w' ∧ Blk w' br #[.bool false] 4 ∧ Blk w' bt #[.slice q n c] 22 ∧ w'.heap[d]? = some (.deferred (some [])) ∧ w'.heap[d + 1]? = some (.loop { L with state := .done, pending := some .ret }))
    (fun i w' hs => ⟨hs.2.2.2.2.1, hl.ext hs.2.1⟩) (fun i w' hs => ⟨hs.1, hs.2.1.drew, hs.2.2⟩) (fun w' hs => ⟨hs.2.2.2.1, hl.ext hs.2.1⟩) ?_ ⟨?_, hE4, ho4, hr4, ht4, hd4, hl4⟩ ?_ ?_)
  · rintro i x hx w5 ⟨hc, E5, ho5, hr5, ht5, hd5, hl5⟩ R' hy hno
    obtain ⟨hi, rfl⟩ := twoL_some hx
    refine sh24_0_ok (by rw [hl5, hL]) ?_
    unfold sh24_0
    refine ⟨?_⟩
    have hd5' := (Array.getElem?_eq_some_iff.1 hl5).1
    refine do_st (blk_alloc w5 _ _) (i := 0) rfl (by simp) fun w6 h6 g6 => do_st h6 (i := 1) rfl (by simp) fun w7 h7 g7 => ⟨?_⟩
    have e7 : Ext w5 w7 := ((ext_alloc w5 _).st g6 (Nat.le_refl _)).st g7 (Nat.le_refl _)
    refine do_st (blk_alloc w7 _ _) (i := 0) rfl (by simp) fun w8 h8 g8 => do_st h8 (i := 1) rfl (by simp) fun w9 h9 g9 => ?_
    have e9 : Ext w7 w9 := ((ext_alloc w7 _).st g8 (Nat.le_refl _)).st g9 (Nat.le_refl _)
    have h79 := h7.ext e9
    have e59 := e7.trans e9
    refine ⟨_, e59.heap hl5, hst, ?_⟩
    have g10 := put_grown w9 (d + 1) (.loop { L with state := .busy })
    have hl10 := put_heap (o' := .loop { L with state := .busy }) (e59.heap hl5)
    have hsz5 : w5.heap.size ≤ w7.heap.size := e7.size
    have h7a := h79.grown g10 (ne_some (by omega))
    have h9a := h9.grown g10 (ne_some (by omega))
    have ho10 := (ho5.ext e59).grown g10 (ne_some (by omega))
    have hr10 := (hr5.ext e59).grown g10 (ne_some (by omega))
    have ht10 := (ht5.ext e59).grown g10 (ne_some (by omega))
    have hd10 := heap_grown g10 (e59.heap hd5) (ne_some (by omega))
    have E10 := (E5.trans e59).st g10 (by omega)
    generalize w9.putObj (d + 1) (.loop { L with state := .busy }) = w10 at hl10 h7a h9a ho10 hr10 ht10 hd10 E10 ⊢
    refine ⟨_, ho10.cell (i := 0) rfl rfl, _, h7a.cell (i := 0) rfl rfl, _, h9a.cell (i := 0) rfl rfl, ?_⟩
    refine do_call Tryz.call54 (c_compare (hI _ (List.getElem_mem _)).1 (hI _ (List.getElem_mem _)).1 fun w11 e11 => retS_ret ⟨_, rfl, ?_⟩)
    have hl11 := e11.heap hl10
    have hd11 := e11.heap hd10
    have E11 := E10.trans e11
    refine ifB_intro (fun h1 => ?_) fun h1 => ?_
    · have h1 := of_decide_eq_true h1
      refine do_st (hr10.ext e11) (i := 0) rfl (by simp) fun w12 h12 g12 => ?_
      have hl12 := heap_grown g12 hl11 (ne_some (by omega))
      refine ⟨_, hl12, hno _ ⟨?_, (E11.st g12 (by omega)).put (by omega) _, h12.grown (put_grown _ _ _) (ne_some (by omega)), ((ht10.ext e11).grown g12 (ne_some (by omega))).grown (put_grown _ _ _) (ne_some (by omega)),
        heap_grown (put_grown _ _ _) (heap_grown g12 hd11 (ne_some (by omega))) (ne_some (by omega)), put_heap hl12⟩⟩
      unfold mayR
      cases hch : chain o l
      · simp
      · have := chain_get hch i hi
        exact absurd h1 (by omega)
    · have h1 := of_decide_eq_false h1
      refine ⟨_, hl11, hy _ ?_⟩
      rw [rec_back hst hpe]
      refine ⟨?_, E11.put (by omega) _, (ho10.ext e11).grown (put_grown _ _ _) (ne_some (by omega)), (hr10.ext e11).grown (put_grown _ _ _) (ne_some (by omega)), (ht10.ext e11).grown (put_grown _ _ _) (ne_some (by omega)),
        heap_grown (put_grown _ _ _) hd11 (ne_some (by omega)), put_heap hl11⟩
      refine chain_of fun k hk => ?_
      simp only [List.length_take] at hk
      simp only [List.getElem_take]
      by_cases hki : k = i
      · subst hki; omega
      · have := chain_get hc k (by simp only [List.length_take]; omega)
        simpa only [List.getElem_take] using this
  · cases l with
    | nil => rfl
    | cons a l => rfl
  · rintro w5 ⟨hc, E5, ho5, hr5, ht5, hd5, hl5⟩
    refine rf_done hl5 (by rw [hst]; simp) hpe fun ob => ?_
    have gob := put_grown w5 (d + 1) ob
    refine ⟨_, (ho5.grown gob (ne_some (by omega))).cell (i := 0) rfl rfl, ?_⟩
    have hd5' := heap_grown gob hd5 (ne_some (by omega))
    have hr5' := hr5.grown gob (ne_some (by omega))
    have E5' := E5.put (l := d + 1) (by omega) ob
    refine do_call Tryz.call30 (c_name fun w6 e6 => retS_ret ⟨_, rfl, do_st (hr5'.ext e6) (i := 0) rfl (by simp) fun w7 h7 g7 => ?_⟩)
    rw [name_empty] at h7
    rw [← hd]
    refine hend ((E5'.trans e6).st g7 (by omega)) h7 (heap_grown g7 (e6.heap hd5') (ne_some (by omega))) ?_
    unfold mayR
    have : l.take (n - 1 + 1) = l := List.take_of_length_le (by omega)
    rw [this] at hc
    rw [hc]; simp
  · rintro w5 ⟨hc, E5, hr5, ht5, hd5, hl5⟩
    refine rf_ret hl5 (by simp) rfl fun ob => ?_
    have gob := put_grown w5 (d + 1) ob
    rw [← hd]
    exact hend (E5.put (l := d + 1) (by omega) ob) (hr5.grown gob (ne_some (by omega))) (heap_grown gob hd5 (ne_some (by omega))) hc.symm

theorem mid_eq {i j : Nat} (h : i < j) (hj : j ≤ 4611686018427387903) : IntKind.wrap .i64 (Int.fdiv (IntKind.wrap .u64 (IntKind.wrap .i64 ((i : Int) + (j : Int)))) (2 ^ (min (1 : Int).toNat (IntKind.bits .u64)))) = (((i + j) / 2 : Nat) : Int) := by
  have e2 : (2 : Int) ^ (min (1 : Int).toNat (IntKind.bits .u64)) = 2 := by decide
  rw [e2, wrap_of (x := (i : Int) + j) (by omega) (by omega), wrap64u, Int.fdiv_eq_ediv_of_nonneg _ (by omega), wrap_of (by omega) (by omega)]
  omega
theorem c_search {n : Nat} {p : Nat → Bool} {Inv : World → Prop} {f : Fn} {fx fc : Array Value} {w : World} {R : EW} (hn : n ≤ 4611686018427387903) (hmono : ∀ i j, i ≤ j → j < n → p i = true → p j = true)
    (hf : ∀ k, k < n → ∀ w', Inv w' → ∀ R' : EW, (∀ w'', Inv w'' → R' (.returned (.bool (p k))) w'') → doCall Tryz.prog (.func f fx fc) #[.int .i64 (k : Int)] w' R') (h0 : Inv w)
    (h : ∀ (r : Nat) w', Inv w' → r ≤ n → (∀ i, i < r → p i = false) → (∀ i, r ≤ i → i < n → p i = true) → R (.returned (.int .i64 (r : Int))) w') : Calls Tryz.prog 170 #[.int .i64 (n : Int), .func f fx fc] w R := by
  refine sh170_ok _ _ _ _ ?_
  unfold sh170
  refine ⟨fun vs w' => ∃ i j : Nat, vs = [.int .i64 i, .int .i64 j] ∧ i ≤ j ∧ j ≤ n ∧ Inv w' ∧ (∀ k, k < i → p k = false) ∧ (∀ k, j ≤ k → k < n → p k = true), fun vs _ => (intOf (vs.getD 1 undef)).toNat - (intOf (vs.getD 0 undef)).toNat,
    ⟨0, n, rfl, by omega, by omega, h0, fun k hk => by omega, fun k h1 h2 => by omega⟩, ?_⟩
  rintro i' j' _ w1 ⟨i, j, hv, hij, hjn, hI, hlo, hhi⟩
  simp only [List.cons.injEq, Value.int.injEq, true_and, and_true] at hv
  obtain ⟨rfl, rfl⟩ := hv
  refine ifB_intro (fun h1 => ?_) fun h1 => ?_
  · have h1 : i < j := by have := of_decide_eq_true h1; omega
    rw [mid_eq h1 (by omega)]
    refine ⟨by omega, ?_⟩
    refine hf ((i + j) / 2) (by omega) w1 hI _ ?_
    intro w2 hI2
    refine retS_ret ?_
    refine ⟨p ((i + j) / 2), rfl, ?_⟩
    cases hp : p ((i + j) / 2)
    · refine ifB_t rfl ?_
      rw [wrap_succ (n := n) (by omega) (by omega)]
      refine ⟨⟨(i + j) / 2 + 1, j, rfl, by omega, hjn, hI2, fun k hk => ?_, hhi⟩, by simp [intOf]; omega⟩
      cases hk' : p k
      · rfl
      · have := hmono k ((i + j) / 2) (by omega) (by omega) hk'
        rw [hp] at this; cases this
    · refine ifB_f rfl ?_
      exact ⟨⟨i, (i + j) / 2, rfl, by omega, by omega, hI2, hlo, fun k h2 h3 => hmono _ _ h2 h3 hp⟩, by simp [intOf]; omega⟩
  · have h1 : i = j := by have := of_decide_eq_false h1; omega
    subst h1
    exact h i _ hI hjn hlo hhi
theorem cmpI_trans {o a b c : Int} (h1 : cmpI o a b < 0) (h2 : cmpI o b c < 0) : cmpI o a c < 0 := by
  unfold cmpI at *
  split at h1
  · rename_i ho
    rw [if_pos ho] at h2 ⊢
    split at h1
    · split at h2
      · rw [if_pos (by omega)]; omega
      · split at h2 <;> omega
    · split at h1 <;> omega
  · omega
theorem cmpI_ge {o a b c : Int} (h1 : cmpI o a b < 0) (h2 : 0 ≤ cmpI o a c) : 0 ≤ cmpI o b c := by
  unfold cmpI at *
  split at h1
  · rename_i ho
    rw [if_pos ho] at h2 ⊢
    split at h1
    · split at h2
      · omega
      · split
        · omega
        · split <;> omega
    · split at h1 <;> omega
  · omega
theorem chain_lt {o : Int} {l : List Pr} (h : chain o l = true) : ∀ {i j : Nat} (hij : i < j) (hj : j < l.length), cmpI o l[i].1 l[j].1 < 0 := by
  intro i j hij hj
  induction j with
  | zero => omega
  | succ j ih =>
    have h1 := chain_get h j hj
    rcases Nat.lt_or_ge i j with h2 | h2
    · exact cmpI_trans (ih h2 (by omega)) h1
    · have : i = j := by omega
      subst this; exact h1
def idxR (o : Int) (l : List Pr) (key : Int) : Nat := l.findIdx fun x => decide (0 ≤ cmpI o x.1 key)
theorem idxR_le (o : Int) (l : List Pr) (key : Int) : idxR o l key ≤ l.length := List.findIdx_le_length
theorem idxR_eq {o : Int} {l : List Pr} {key : Int} {r : Nat} (hr : r ≤ l.length) (h1 : ∀ i (h : i < l.length), i < r → cmpI o l[i].1 key < 0) (h2 : ∀ (h : r < l.length), 0 ≤ cmpI o l[r].1 key) : idxR o l key = r := by
  unfold idxR
  rcases Nat.lt_or_ge r l.length with hlt | hge
  · rw [List.findIdx_eq hlt]
    refine ⟨by simpa using h2 hlt, fun j hj => ?_⟩
    have := h1 j (by omega) hj
    simp; omega
  · have : r = l.length := by omega
    subst this
    rw [List.findIdx_eq_length]
    intro x hx
    obtain ⟨i, hi, rfl⟩ := List.getElem_of_mem hx
    have := h1 i hi hi
    simp; omega
theorem idxR_lt {o : Int} {l : List Pr} {key : Int} {i : Nat} (hi : i < idxR o l key) : ∃ h : i < l.length, cmpI o l[i].1 key < 0 := by
  have hl : i < l.length := Nat.lt_of_lt_of_le hi (idxR_le o l key)
  refine ⟨hl, ?_⟩
  have := List.not_of_lt_findIdx hi
  simp at this; omega
theorem idxR_ge {o : Int} {l : List Pr} {key : Int} (h : idxR o l key < l.length) : 0 ≤ cmpI o l[idxR o l key].1 key := by
  unfold idxR at h
  exact of_decide_eq_true (List.findIdx_getElem (w := h))
end Go.Proofs.YtmdboekndjlmgaaGreat

namespace Go.Proofs.YtmdboekndjlmgaaGreat
open Go Go.Sh Go.RowKit

theorem getD_of {l : List Pr} {k : Nat} (h : k < l.length) : l.getD k (0, 0) = l[k] := by simp [h]
theorem c_at {o key : Int} {l : List Pr} {q : OA} {n c : Nat} {w : World} {R : EW} (hl : Cs w q (prs l)) (hn : l.length = n) (h63 : n ≤ 4611686018427387903) (hI : InP l) (hk : In key) (hc : chain o l = true)
    (h : ∀ w', Ext w w' → R (.returned (.int .i64 (idxR o l key : Nat))) w') : Calls Tryz.prog 152 #[.int .u8 o, .slice q n c, .int .i64 key] w R := by
  refine sh152_ok _ _ _ _ _ ?_
  unfold sh152
  refine ⟨⟨⟨?_⟩⟩⟩
  have e1 := ext_alloc w (.cells #[.int .u8 o] 5)
  have h1 := blk_alloc w #[.int .u8 o] 5
  generalize w.heap.size = b1 at *
  generalize w.alloc (.cells #[.int .u8 o] 5) = w1 at *
  have e2 := ext_alloc w1 (.cells #[.slice q n c] 22)
  have h2 := blk_alloc w1 #[.slice q n c] 22
  have h1 := h1.ext e2
  generalize w1.heap.size = b2 at *
  generalize w1.alloc (.cells #[.slice q n c] 22) = w2 at *
  have e3 := ext_alloc w2 (.cells #[.int .i64 key] 2)
  have h3 := blk_alloc w2 #[.int .i64 key] 2
  have h1 := h1.ext e3
  have h2 := h2.ext e3
  generalize w2.heap.size = b3 at *
  generalize w2.alloc (.cells #[.int .i64 key] 2) = w3 at *
  have E := (e1.trans e2).trans e3
  clear e1 e2 e3
  refine ⟨_, _, _, h2.cell (i := 0) rfl rfl, ?_⟩
  refine do_call Tryz.call170 (c_search (n := n) (p := fun k => decide (0 ≤ cmpI o (l.getD k (0, 0)).1 key)) (Inv := fun w' => Ext w3 w') h63 ?_ ?_ (ext_refl _) ?_)
  · intro i j hij hj hp
    have hp := of_decide_eq_true hp
    refine decide_eq_true ?_
    rw [getD_of (by omega)] at hp ⊢
    rcases Nat.lt_or_ge i j with h | h
    · exact cmpI_ge (chain_lt hc h (by omega)) hp
    · have : i = j := by omega
      subst this; exact hp
  · intro k hk' w4 e4 R' hR
    refine do_callc Tryz.call171 (by rfl) (sh171_ok _ _ _ _ ?_)
    unfold sh171
    have E4 := E.trans e4
    refine ⟨⟨fun w' => Ext w3 w', e4.drew, _, fun w' e => (h1.ext e).cell (i := 0) rfl rfl, _, _, _, fun w' e => (h2.ext e).cell (i := 0) rfl rfl, ?_⟩⟩
    refine ix_prC (fun w' e => (hl.ext E).ext e) (ext_refl _) hn rfl hk' fun a r1 _ => ⟨_, r1, _, fun w' e => (h3.ext e).cell (i := 0) rfl rfl, ?_⟩
    refine do_call Tryz.call54 (c_compare (hI _ (List.getElem_mem _)).1 hk fun w5 e5 => retS_ret ⟨_, rfl, e4.drew.trans e5, ?_⟩)
    have := hR w5 (e4.drew.trans e5)
    simp only [getD_of (show k < l.length by omega)] at this
    exact this
  · intro r w4 e4 hr hlo hhi
    refine retS_ret ⟨_, rfl, ?_⟩
    have : idxR o l key = r := by
      refine idxR_eq (by omega) (fun i hi hir => ?_) fun hr' => ?_
      · have := of_decide_eq_false (hlo i hir)
        rw [getD_of hi] at this; omega
      · have := of_decide_eq_true (hhi r (Nat.le_refl _) (by omega))
        rw [getD_of hr'] at this; exact this
    rw [← this]
    exact h _ (E.trans e4)

def hasR (o : Int) (l : List Pr) (key : Int) : Bool := mayR o l && (match l[idxR o l key]? with | some x => x.1 == key | none => false)
def posR (o : Int) (l : List Pr) (key : Int) : Nat := cond (mayR o l) (idxR o l key) 0
theorem posR_le (o : Int) (l : List Pr) (key : Int) : posR o l key ≤ l.length := by
  unfold posR; cases mayR o l
  · simp
  · exact idxR_le _ _ _
theorem mayR_chain {o : Int} {l : List Pr} (h : mayR o l = true) : chain o l = true := by simp [mayR] at h; exact h.2
theorem hasR_may {o : Int} {l : List Pr} {key : Int} (h : hasR o l key = true) : mayR o l = true := by simp [hasR] at h; exact h.1
theorem hasR_lt {o : Int} {l : List Pr} {key : Int} (h : hasR o l key = true) : posR o l key < l.length := by
  have hm := hasR_may h
  simp only [hasR, hm, Bool.true_and] at h
  unfold posR; rw [hm]
  rcases Nat.lt_or_ge (idxR o l key) l.length with h' | h'
  · exact h'
  · rw [List.getElem?_eq_none h'] at h; cases h
theorem hasR_key {o : Int} {l : List Pr} {key : Int} (h : hasR o l key = true) : (l[posR o l key]'(hasR_lt h)).1 = key := by
  have hlt := hasR_lt h
  have hm := hasR_may h
  have hp : posR o l key = idxR o l key := by unfold posR; rw [hm]; rfl
  simp only [hasR, hm, Bool.true_and] at h
  simp only [hp] at hlt ⊢
  rw [List.getElem?_eq_getElem hlt] at h
  simpa using h
theorem c_rowfind {o key : Int} {l : List Pr} {q : OA} {n c : Nat} {w : World} {R : EW} (hl : Cs w q (prs l)) (hn : l.length = n) (h63 : n ≤ 4611686018427387903) (hI : InP l) (hk : In key)
    (h : ∀ w', Ext w w' → R (.returned (.tuple #[.int .i64 (posR o l key : Nat), .bool (hasR o l key)])) w') : Calls Tryz.prog 112 #[.int .u8 o, .slice q n c, .int .i64 key] w R := by
  refine sh112_ok _ _ _ _ _ ?_
  unfold sh112
  refine do_call Tryz.call24 (c_may hl hn (by omega) hI fun w1 e1 => retS_ret ⟨_, rfl, ?_⟩)
  cases hm : mayR o l
  · refine ifB_t rfl ?_
    have := h w1 e1
    simp only [posR, hasR, hm] at this
    exact this
  · refine ifB_f rfl ?_
    refine do_call Tryz.call152 (c_at (hl.ext e1) hn h63 hI hk (mayR_chain hm) fun w2 e2 => retS_ret ⟨_, rfl, ?_⟩)
    have E := (e1.trans e2).drew
    have hr := h w2.drew E
    simp only [posR, hasR, hm, cond_true, Bool.true_and] at hr
    refine ⟨⟨fun w' => Ext w w', E, ?_⟩⟩
    refine ifB_intro (fun hlt => ?_) fun hge => ?_
    · have hlt : idxR o l key < n := by have := of_decide_eq_true hlt; omega
      refine ix_prC (fun w' e => hl.ext e) E hn rfl hlt fun a r1 _ => ⟨_, r1, ?_⟩
      rw [List.getElem?_eq_getElem (by omega)] at hr
      exact hr
    · have hge : n ≤ idxR o l key := by have := of_decide_eq_false hge; omega
      rw [List.getElem?_eq_none (by omega)] at hr
      exact hr
def getR (o : Int) (l : List Pr) (key : Int) : Int := cond (hasR o l key) (l.getD (posR o l key) (0, 0)).2 0
theorem c_rowget {o key : Int} {l : List Pr} {q : OA} {n c : Nat} {w : World} {R : EW} (hl : Cs w q (prs l)) (hn : l.length = n) (h63 : n ≤ 4611686018427387903) (hI : InP l) (hk : In key)
    (h : ∀ w', Ext w w' → R (.returned (.tuple #[.int .i64 (getR o l key), .bool (hasR o l key)])) w') : Calls Tryz.prog 101 #[.int .u8 o, .slice q n c, .int .i64 key] w R := by
  refine sh101_ok _ _ _ _ _ ?_
  unfold sh101
  refine do_call Tryz.call112 (c_rowfind hl hn h63 hI hk fun w1 e1 => retS_ret ⟨_, _, rfl, ?_⟩)
  have hr := h w1 e1
  unfold getR at hr
  cases hm : hasR o l key
  · refine ifB_t rfl ?_
    rw [hm] at hr
    exact hr
  · refine ifB_f rfl ?_
    have hlt := hasR_lt hm
    rw [hm, getD_of hlt] at hr
    exact ix_pr (hl.ext e1) hn rfl (by omega) fun a _ r2 _ => ⟨_, r2, hr⟩
def floorR (o : Int) (l : List Pr) (key : Int) : Pr := cond (hasR o l key) (l.getD (posR o l key) (0, 0)) (if posR o l key = 0 then (0, 0) else l.getD (posR o l key - 1) (0, 0))
def isFloorR (o : Int) (l : List Pr) (key : Int) : Bool := hasR o l key || decide (0 < posR o l key)
def ceilR (o : Int) (l : List Pr) (key : Int) : Pr := cond (mayR o l) (l.getD (posR o l key) (0, 0)) (0, 0)
def isCeilR (o : Int) (l : List Pr) (key : Int) : Bool := mayR o l && decide (posR o l key < l.length)
theorem do_st2 {w : World} {b : Nat} {u v x y : Value} {t : TypeId} (h : Blk w b #[u, v] t) {K : World → Prop} (k : ∀ w', Blk w' b #[x, y] t → w.grownBy w' (some b) → K w') :
    doSt ((blk b).add 0) x w fun w1 => doSt ((blk b).add 1) y w1 K :=
  do_st h (i := 0) rfl (by simp) fun _ h1 g1 => do_st h1 (i := 1) rfl (by simp) fun _ h2 g2 => k _ h2 (grown_trans g1 g2)
theorem c_rowfloor {o key : Int} {l : List Pr} {q : OA} {n c : Nat} {w : World} {R : EW} (hl : Cs w q (prs l)) (hn : l.length = n) (h63 : n ≤ 4611686018427387903) (hI : InP l) (hk : In key)
    (h : ∀ w', Ext w w' → R (.returned (.tuple #[agP (floorR o l key), .bool (isFloorR o l key)])) w') : Calls Tryz.prog 103 #[.int .u8 o, .slice q n c, .int .i64 key] w R := by
  refine sh103_ok _ _ _ _ _ ?_
  unfold sh103
  refine ⟨?_⟩
  have e0 := ext_alloc w (.cells #[.int .i64 0, .int .i64 0] 63)
  have hb := blk_alloc w #[.int .i64 0, .int .i64 0] 63
  generalize hb0 : w.heap.size = b at *
  generalize w.alloc (.cells #[.int .i64 0, .int .i64 0] 63) = w0 at *
  refine do_call Tryz.call112 (c_rowfind (hl.ext e0) hn h63 hI hk fun w1 e1 => retS_ret ⟨_, _, rfl, ?_⟩)
  have E := e0.trans e1
  have hb := hb.ext e1
  refine ifB_intro (fun hm => ?_) fun hm => ?_
  · have hlt := hasR_lt hm
    refine ix_pr (hl.ext E) hn rfl (by omega) fun a r1 r2 _ => ⟨_, r1, _, r2, ?_⟩
    refine do_st2 hb fun w2 h2 g2 => ⟨_, h2.cell (i := 0) rfl rfl, _, h2.cell (i := 1) rfl rfl, ?_⟩
    have hr := h w2 (E.st g2 (by omega))
    simp only [floorR, isFloorR, hm, getD_of hlt] at hr
    exact hr
  · refine ifB_intro (fun hp => ?_) fun hp => ?_
    · have hp : 0 < posR o l key := by have := of_decide_eq_true hp; omega
      have hle := posR_le o l key
      have e : IntKind.wrap .i64 ((posR o l key : Nat) - 1 : Int) = ((posR o l key - 1 : Nat) : Int) := by rw [wrap_of (by omega) (by omega)]; omega
      refine ix_pr (hl.ext E) hn e (by omega) fun a r1 r2 _ => ⟨_, r1, _, r2, ?_⟩
      refine do_st2 hb fun w2 h2 g2 => ⟨_, h2.cell (i := 0) rfl rfl, _, h2.cell (i := 1) rfl rfl, ?_⟩
      have hr := h w2 (E.st g2 (by omega))
      simp only [floorR, isFloorR, hm, cond_false, if_neg (show ¬ posR o l key = 0 by omega), decide_eq_true hp, Bool.false_or, getD_of (show posR o l key - 1 < l.length by omega)] at hr
      exact hr
    · have hp : posR o l key = 0 := by have := of_decide_eq_false hp; omega
      refine do_st2 hb fun w2 h2 g2 => ⟨_, h2.cell (i := 0) rfl rfl, _, h2.cell (i := 1) rfl rfl, ?_⟩
      have hr := h w2 (E.st g2 (by omega))
      simp only [floorR, isFloorR, hm, cond_false, hp, Bool.false_or] at hr
      exact hr
theorem c_rowceil {o key : Int} {l : List Pr} {q : OA} {n c : Nat} {w : World} {R : EW} (hl : Cs w q (prs l)) (hn : l.length = n) (h63 : n ≤ 4611686018427387903) (hI : InP l) (hk : In key)
    (h : ∀ w', Ext w w' → R (.returned (.tuple #[agP (ceilR o l key), .bool (isCeilR o l key)])) w') : Calls Tryz.prog 104 #[.int .u8 o, .slice q n c, .int .i64 key] w R := by
  refine sh104_ok _ _ _ _ _ ?_
  unfold sh104
  refine ⟨?_⟩
  have e0 := ext_alloc w (.cells #[.int .i64 0, .int .i64 0] 63)
  have hb := blk_alloc w #[.int .i64 0, .int .i64 0] 63
  generalize hb0 : w.heap.size = b at *
  generalize w.alloc (.cells #[.int .i64 0, .int .i64 0] 63) = w0 at *
  have hno : ∀ {w' : World}, Ext w w' → Blk w' b #[.int .i64 0, .int .i64 0] 63 → isCeilR o l key = false → ceilR o l key = (0, 0) →
      doSt ((blk b).add 0) (.int .i64 0) w' (fun w10 => doSt ((blk b).add 1) (.int .i64 0) w10 (fun w11 => ∃ (x12 : Int), w11.cell? ((blk b).add 0) = some (.int .i64 x12) ∧ (
        ∃ (x13 : Int), w11.cell? ((blk b).add 1) = some (.int .i64 x13) ∧ (R (.returned (.tuple #[.agg #[.int .i64 x12, .int .i64 x13], .bool false])) w11)))) := by
    intro w' e' hb' hi hc
    refine do_st2 hb' fun w2 h2 g2 => ⟨_, h2.cell (i := 0) rfl rfl, _, h2.cell (i := 1) rfl rfl, ?_⟩
    have hr := h w2 (e'.st g2 (by omega))
    rw [hi, hc] at hr
    exact hr
  refine do_call Tryz.call112 (c_rowfind (hl.ext e0) hn h63 hI hk fun w1 e1 => retS_ret ⟨_, _, rfl, ?_⟩)
  have E := e0.trans e1
  have hb := hb.ext e1
  refine ifB_intro (fun hp => ?_) fun hp => ?_
  · have hp : posR o l key < n := by have := of_decide_eq_true hp; omega
    refine do_call Tryz.call24 (c_may (hl.ext E) hn (by omega) hI fun w2 e2 => retS_ret ⟨_, rfl, ?_⟩)
    have E := E.trans e2
    have hb := hb.ext e2
    refine ifB_intro (fun hm => ?_) fun hm => ?_
    · refine ix_pr (hl.ext E) hn rfl (by omega) fun a r1 r2 _ => ⟨_, r1, _, r2, ?_⟩
      refine do_st2 hb fun w2 h2 g2 => ⟨_, h2.cell (i := 0) rfl rfl, _, h2.cell (i := 1) rfl rfl, ?_⟩
      have hr := h w2 (E.st g2 (by omega))
      simp only [ceilR, isCeilR, hm, cond_true, getD_of (show posR o l key < l.length by omega), Bool.true_and, decide_eq_true (show posR o l key < l.length by omega)] at hr
      exact hr
    · exact hno E hb (by simp [isCeilR, hm]) (by simp [ceilR, hm])
  · have hp : ¬ posR o l key < l.length := by have := of_decide_eq_false hp; omega
    refine hno E hb (by simp [isCeilR, hp]) ?_
    unfold ceilR
    cases mayR o l
    · rfl
    · simp [List.getElem?_eq_none (show l.length ≤ posR o l key by omega)]
end Go.Proofs.YtmdboekndjlmgaaGreat

