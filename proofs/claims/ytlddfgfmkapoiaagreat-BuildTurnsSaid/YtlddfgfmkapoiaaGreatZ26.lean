/-
  CanonMakes: the walk.
-/
/-
  Arguments opened to cells: slices of structs. No claim of its own.
-/
/-
  The arguments of the statements, opened.
-/
import Derived.Test.YtlddfgfmkapoiaaGreatZ25
import Derived.Test.YtlddfgfmkapoiaaGreatZ14
import Derived.Test.YtlddfgfmkapoiaaGreatZ03
import Derived.Deep.Slices
import Derived.Deep.Fields
import Derived.ChangeSame
import Derived.Lib.SmallJoins
import Derived.Test.YtlddfgfmkapoiaaGreatZ04
import Derived.SizedLaws

namespace Go.Proofs.YtlddfgfmkapoiaaGreat
open Go Go.Sh Go.RowKit

set_option maxRecDepth 20000 in
theorem c_canonMakes {o p : Int} {l : List Pr} {q : Option Addr} {n c : Nat} {w : World} {R : Ending → World → Prop} (hl : Cs w q (prs l)) (hn : l.length = n) (hI : InP l)
    (h : ∀ w', Ext w w' → R (.returned (.bool true)) w') : Calls Tryz.prog 7 #[.int .u8 o, .int .u8 p, .slice q n c] w R := by
  refine sh7_ok _ _ _ _ _ ?_
  unfold sh7
  refine ifB_intro (fun _ => do_call Tryz.call48 (c_alive41 fun w1 e1 => retS_ret ⟨_, rfl, h _ e1⟩)) fun hz => ?_
  have hz : n ≤ 150 := by have := of_decide_eq_false hz; omega
  refine do_copyP hl hn (by omega) fun p1 c1 w1 o1 e1 => ⟨_, _, _, rfl, ?_⟩
  cases hop : (isO o && may p) with
  | false =>
    refine do_call Tryz.call49 (c_canof_no hop (ownP_cs o1) hn (by omega) hI fun w2 e2 => retS_ret ⟨_, _, rfl, ?_⟩)
    intro K20
    have E2 := e1.trans e2
    refine do_call Tryz.call16 (c_ris (retS_ret ⟨_, rfl, ?_⟩))
    cases ho : isO o with
    | false =>
      refine ifB_t rfl ?_
      intro K49
      exact ifB_t rfl (ifB_t rfl (do_call Tryz.call48 (c_alive41 fun w3 e3 => retS_ret ⟨_, rfl, h _ (E2.trans e3)⟩)))
    | true =>
      refine ifB_f rfl ?_
      refine do_call Tryz.call17 (c_rmay (retS_ret ⟨_, rfl, ?_⟩))
      have hp : may p = false := by rw [ho] at hop; simpa using hop
      rw [hp]
      simp -zeta -zetaHave only [K20]
      refine ifB_t rfl ?_
      intro K23
      exact ifB_t rfl (ifB_t rfl (do_call Tryz.call48 (c_alive41 fun w3 e3 => retS_ret ⟨_, rfl, h _ (E2.trans e3)⟩)))
  | true =>
    have ho : isO o = true := by simp at hop; exact hop.1
    have hp : may p = true := by simp at hop; exact hop.2
    have hmay := sortL_may ho hp hI
    refine do_call Tryz.call49 (c_canof ho hp (ownP_cs o1) hn (by omega) hI fun qt t w2 e2 ht ct et => retS_ret ⟨_, _, rfl, ?_⟩)
    intro K20
    have E2 := e1.trans e2
    have zt : t.size ≤ 150 := by rw [← Tr.pairs_length, et]; omega
    refine do_call Tryz.call16 (c_ris (retS_ret ⟨_, rfl, ?_⟩))
    rw [ho]
    refine ifB_f rfl ?_
    refine do_call Tryz.call17 (c_rmay (retS_ret ⟨_, rfl, ?_⟩))
    rw [hp]
    simp -zeta -zetaHave only [K20]
    refine ifB_f rfl ?_
    intro K29
    refine ifB_t rfl ?_
    refine do_call Tryz.call50 (c_r41of ho hp (hl.ext E2) hn (by omega) hI ct et fun p3 n3 c3 w3 h3 e3 => retS_ret ⟨_, _, _, rfl, ?_⟩)
    have hn3 : (btT t).size = n3 := ownB_len h3
    have hb := btT_size t
    refine do_call Tryz.call46 (c_is (ht.ext e3) (by omega) (ownB_cs h3) (by omega) fun w4 e4 => retS_ret ⟨_, rfl, ifB_t rfl ?_⟩)
    have e34 := e3.trans e4
    refine do_call Tryz.call51 (c_cis_yes ho (ht.ext e34) ct (by omega) fun w5 e5 => retS_ret ⟨_, rfl, ifB_t rfl ?_⟩)
    exact do_call Tryz.call48 (c_alive41 fun w6 e6 => retS_ret ⟨_, rfl, h _ (((E2.trans e34).trans e5).trans e6)⟩)
end Go.Proofs.YtlddfgfmkapoiaaGreat

namespace Go.Sh
open Go Go.RowKit Go.ChangeShapes Go.WideShapes Go.Deep

theorem cs_flat {α : Type} {enc : α → List Value} {s : Nat} (hs : ∀ x, (enc x).length = s) {w : World} {a : Addr} {l : List α}
    (h : ∀ i (hi : i < l.length), ∀ j, j < s → w.cell? (a.add (i * s + j)) = (enc l[i])[j]?) : Cs w (some a) (l.flatMap enc) := by
  induction l generalizing a with
  | nil => intro i v hv; simp at hv
  | cons x xs ih =>
    intro i v hv
    refine ⟨a, rfl, ?_⟩
    rw [List.flatMap_cons] at hv
    rcases Nat.lt_or_ge i s with hi | hi
    · rw [List.getElem?_append_left (by rw [hs]; exact hi)] at hv
      have := h 0 (by simp) i hi
      simp only [Nat.zero_mul, Nat.zero_add, List.getElem_cons_zero] at this
      rw [this]; exact hv
    · rw [List.getElem?_append_right (by rw [hs]; exact hi), hs] at hv
      have := ih (a := a.add s) (fun i hi j hj => by
        have := h (i + 1) (by simpa using hi) j hj
        simp only [List.getElem_cons_succ] at this
        rw [Sh.add_add, show s + (i * s + j) = (i + 1) * s + j by rw [Nat.add_mul]; omega]
        exact this) (i - s) v hv
      obtain ⟨b, hb, hc⟩ := this
      cases hb
      rw [Sh.add_add, show s + (i - s) = i by omega] at hc
      exact hc
theorem list_of {α : Type} {p : Nat → α → Prop} (n : Nat) (h : ∀ i, i < n → ∃ x, p i x) : ∃ l : List α, l.length = n ∧ ∀ i (hi : i < l.length), p i l[i] := by
  induction n with
  | zero => exact ⟨[], rfl, fun i hi => by simp at hi⟩
  | succ n ih =>
    obtain ⟨l, hl, hp⟩ := ih fun i hi => h i (by omega)
    obtain ⟨x, hx⟩ := h n (by omega)
    refine ⟨l ++ [x], by simp [hl], fun i hi => ?_⟩
    rcases Nat.lt_or_ge i l.length with h1 | h1
    · rw [List.getElem_append_left h1]; exact hp i h1
    · have : i = l.length := by simp at hi; omega
      subst this
      simp [hl]; exact hx
variable {H : Type} {enc : TypeId × Value → H} {P : Program} {w : World} {base : Nat} {spare : Nat → Bool} {held : Bool}
/-- A slice of structs, each element read. -/
theorem arg_slice {α : Type} {ec : α → List Value} {Pr : α → Prop} {s : Nat} (hs : ∀ x, (ec x).length = s) {t e : TypeId} (ht : P.underlying t = some (.slice e)) (hc : P.cellsOf e = s)
    (hdec : ∀ n cs y, DataW.trod enc P w base spare held n e cs = some y → ∃ x : α, cs = ec x ∧ Pr x) {q : Option Addr} {len cap : Nat} {d : DataW H} {p : List MemPlace} (h : DataW.Trod enc P w base spare held t (.slice q len cap) d p) :
    ∃ l : List α, l.length = len ∧ Cs w q (l.flatMap ec) ∧ (∀ x ∈ l, Pr x) ∧ len ≤ cap ∧ cap ≤ maxLen ∧ (q = none → len = 0 ∧ cap = 0) := by
  obtain ⟨fuel, hf⟩ := h
  rcases open_slice ht hf with ⟨hcs, _⟩ | ⟨a, l', c', m, n, D, Pl, hcs, hb, hl, hm, hmm, hx, hi⟩
  · simp [Value.cells] at hcs
    obtain ⟨rfl, rfl, rfl⟩ := hcs
    exact ⟨[], rfl, Sh.cs_nil _ _, by simp, Nat.le_refl _, Nat.zero_le _, fun _ => ⟨rfl, rfl⟩⟩
  · simp [Value.cells] at hcs
    obtain ⟨rfl, rfl, rfl⟩ := hcs
    have hlm : len ≤ m := by rw [hmm]; split <;> omega
    obtain ⟨l, hll, hp⟩ := list_of (p := fun i (x : α) => (∀ j, j < s → w.cell? (a.add (i * s + j)) = (ec x)[j]?) ∧ Pr x) len (fun i hil => by
      obtain ⟨cs', hcc, htr⟩ := hi i (by omega)
      rw [hc] at hcc
      obtain ⟨_, hcl, hat⟩ := World.cells?_some hcc
      obtain ⟨x, rfl, hpx⟩ := hdec _ _ _ htr
      refine ⟨x, fun j hj => ?_, hpx⟩
      rw [← Sh.add_add]; exact hat j hj)
    refine ⟨l, hll, cs_flat hs fun i hi j hj => (hp i hi).1 j hj, fun x hx => ?_, hl, hm, by simp⟩
    obtain ⟨i, hi, rfl⟩ := List.getElem_of_mem hx
    exact (hp i hi).2
theorem in64_of {x : Int} (h : (Lit.int .i64 x).wf = true) : -9223372036854775808 ≤ x ∧ x < 9223372036854775808 := by
  simp [Lit.wf, IntKind.min, IntKind.max, IntKind.signed, IntKind.bits] at h
  omega
theorem u8_of {x : Int} (h : (Lit.int .u8 x).wf = true) : 0 ≤ x ∧ x < 256 := by
  simp [Lit.wf, IntKind.min, IntKind.max, IntKind.signed, IntKind.bits] at h
  omega
/-- two numbers -/
theorem dec_int2 {e i : TypeId} {f0 f1 : Field} (he : P.underlying e = some (.struct #[f0, f1])) (h0 : f0.offset = 0) (h1 : f1.offset = 1) (hi : P.underlying i = some (.int .i64)) (ht0 : f0.type = i) (ht1 : f1.type = i) (hce : P.cellsOf e = 2) (hci : P.cellsOf i = 1)
    (n : Nat) (cs : List Value) (y : DataW H × List MemPlace) (h : DataW.trod enc P w base spare held n e cs = some y) :
    ∃ x : Int × Int, cs = [.int .i64 x.1, .int .i64 x.2] ∧ ((-9223372036854775808 ≤ x.1 ∧ x.1 < 9223372036854775808) ∧ (-9223372036854775808 ≤ x.2 ∧ x.2 < 9223372036854775808)) := by
  obtain ⟨y0, y1, n', hx, hl, hf0, hf1⟩ := trod_struct2 he h
  rw [hce] at hl
  match cs, hl with
  | [c0, c1], _ =>
    rw [h0, ht0, hci] at hf0
    rw [h1, ht1, hci] at hf1
    obtain ⟨m0, hc0, _, hw0⟩ := DataW.trod_int hi hf0
    obtain ⟨m1, hc1, _, hw1⟩ := DataW.trod_int hi hf1
    simp at hc0 hc1
    subst hc0 hc1
    exact ⟨(m0, m1), rfl, in64_of hw0, in64_of hw1⟩
end Go.Sh

namespace Go.Proofs.YtlddfgfmkapoiaaGreat
open Go Go.Sh Go.RowKit Go.ChangeShapes Go.WideShapes

variable {H : Type} {enc : TypeId × Value → H} {w : World} {base : Nat} {spare : Nat → Bool} {held : Bool}
/-- a slice of pairs that came in -/
def Is_pairs (w : World) (q : Option Addr) (len cap : Nat) (l : List Pr) : Prop := l.length = len ∧ Cs w q (prs l) ∧ InP l ∧ len ≤ cap ∧ cap ≤ maxLen ∧ (q = none → len = 0 ∧ cap = 0)
set_option maxRecDepth 100000 in
theorem pairs_arg {q : Option Addr} {len cap : Nat} {d : DataW H} {p : List MemPlace} (h : DataW.Trod enc Tryz.prog w base spare held 22 (.slice q len cap) d p) : ∃ l : List Pr, Is_pairs w q len cap l :=
  arg_slice (ec := fun x : Pr => [.int .i64 x.1, .int .i64 x.2]) (Pr := fun x => In x.1 ∧ In x.2) (s := 2) (fun _ => rfl) Tryz.underlying22 (by kernel_rfl)
    (dec_int2 Tryz.underlying46 rfl rfl Tryz.underlying2 rfl rfl (by kernel_rfl) (by kernel_rfl)) h
end Go.Proofs.YtlddfgfmkapoiaaGreat

