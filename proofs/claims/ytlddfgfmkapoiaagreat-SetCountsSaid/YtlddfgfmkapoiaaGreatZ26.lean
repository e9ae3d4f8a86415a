/-
  Arguments opened to cells: slices of structs. No claim of its own.
-/
/-
  The arguments of the statements, opened.
-/
/-
  The document's answer of layer 40; has a set just these keys?
-/
/-
  Printed by a program (gen.py): what the functions of the program do, as formulas; each with the proof that its call is what the formula says.
-/
/-
  SetTwo: the walk.
-/
import Derived.Test.YtlddfgfmkapoiaaGreatZ03
import Derived.Deep.Slices
import Derived.Deep.Fields
import Derived.ChangeSame
import Derived.Lib.SmallJoins
import Derived.Test.YtlddfgfmkapoiaaGreatZ15
import Derived.Test.YtlddfgfmkapoiaaGreatZ04
import Derived.SizedLaws
import Derived.Test.YtlddfgfmkapoiaaGreatZ25
import Derived.Test.YtlddfgfmkapoiaaGreatZ02
import Derived.Test.YtlddfgfmkapoiaaGreatProg
import Derived.Test.YtlddfgfmkapoiaaGreatZ05

namespace Go.Sh
open Go Go.RowKit Go.ChangeShapes Go.WideShapes Go.Deep

theorem cs_flat {α : Type} {enc : α → List Value} {s : Nat} (hs : ∀ x, (enc x).length = s) {w : World} {a : Addr} {l : List α}
    (h : ∀ i (hi : i < l.length), ∀ j, j < s → w.cell? (a.add (i * s + j)) = (enc l[i])[j]?) : Cs w (some a) (l.flatMap enc) := by
  induction l generalizing a with
  | nil => intro i v hv; simp at hv
  | cons x xs ih =>
    intro i v hv
    refine ⟨a, rfl, ?_⟩
    rw [List.flatMap_cons] at hv
    rcases Nat.lt_or_ge i s with hi | hi
    · rw [List.getElem?_append_left (by rw [hs]; exact hi)] at hv
      have := h 0 (by simp) i hi
      simp only [Nat.zero_mul, Nat.zero_add, List.getElem_cons_zero] at this
      rw [this]; exact hv
    · rw [List.getElem?_append_right (by rw [hs]; exact hi), hs] at hv
      have := ih (a := a.add s) (fun i hi j hj => by
        have := h (i + 1) (by simpa using hi) j hj
        simp only [List.getElem_cons_succ] at this
        rw [Sh.add_add, show s + (i * s + j) = (i + 1) * s + j by rw [Nat.add_mul]; omega]
        exact this) (i - s) v hv
      obtain ⟨b, hb, hc⟩ := this
      cases hb
      rw [Sh.add_add, show s + (i - s) = i by omega] at hc
      exact hc
theorem list_of {α : Type} {p : Nat → α → Prop} (n : Nat) (h : ∀ i, i < n → ∃ x, p i x) : ∃ l : List α, l.length = n ∧ ∀ i (hi : i < l.length), p i l[i] := by
  induction n with
  | zero => exact ⟨[], rfl, fun i hi => by simp at hi⟩
  | succ n ih =>
    obtain ⟨l, hl, hp⟩ := ih fun i hi => h i (by omega)
    obtain ⟨x, hx⟩ := h n (by omega)
    refine ⟨l ++ [x], by simp [hl], fun i hi => ?_⟩
    rcases Nat.lt_or_ge i l.length with h1 | h1
    · rw [List.getElem_append_left h1]; exact hp i h1
    · have : i = l.length := by simp at hi; omega
      subst this
      simp [hl]; exact hx
variable {H : Type} {enc : TypeId × Value → H} {P : Program} {w : World} {base : Nat} {spare : Nat → Bool} {held : Bool}
/-- A slice of structs, each element read. -/
theorem arg_slice {α : Type} {ec : α → List Value} {Pr : α → Prop} {s : Nat} (hs : ∀ x, (ec x).length = s) {t e : TypeId} (ht : P.underlying t = some (.slice e)) (hc : P.cellsOf e = s)
    (hdec : ∀ n cs y, DataW.trod enc P w base spare held n e cs = some y → ∃ x : α, cs = ec x ∧ Pr x) {q : Option Addr} {len cap : Nat} {d : DataW H} {p : List MemPlace} (h : DataW.Trod enc P w base spare held t (.slice q len cap) d p) :
    ∃ l : List α, l.length = len ∧ Cs w q (l.flatMap ec) ∧ (∀ x ∈ l, Pr x) ∧ len ≤ cap ∧ cap ≤ maxLen ∧ (q = none → len = 0 ∧ cap = 0) := by
  obtain ⟨fuel, hf⟩ := h
  rcases open_slice ht hf with ⟨hcs, _⟩ | ⟨a, l', c', m, n, D, Pl, hcs, hb, hl, hm, hmm, hx, hi⟩
  · simp [Value.cells] at hcs
    obtain ⟨rfl, rfl, rfl⟩ := hcs
    exact ⟨[], rfl, Sh.cs_nil _ _, by simp, Nat.le_refl _, Nat.zero_le _, fun _ => ⟨rfl, rfl⟩⟩
  · simp [Value.cells] at hcs
    obtain ⟨rfl, rfl, rfl⟩ := hcs
    have hlm : len ≤ m := by rw [hmm]; split <;> omega
    obtain ⟨l, hll, hp⟩ := list_of (p := fun i (x : α) => (∀ j, j < s → w.cell? (a.add (i * s + j)) = (ec x)[j]?) ∧ Pr x) len (fun i hil => by
      obtain ⟨cs', hcc, htr⟩ := hi i (by omega)
      rw [hc] at hcc
      obtain ⟨_, hcl, hat⟩ := World.cells?_some hcc
      obtain ⟨x, rfl, hpx⟩ := hdec _ _ _ htr
      refine ⟨x, fun j hj => ?_, hpx⟩
      rw [← Sh.add_add]; exact hat j hj)
    refine ⟨l, hll, cs_flat hs fun i hi j hj => (hp i hi).1 j hj, fun x hx => ?_, hl, hm, by simp⟩
    obtain ⟨i, hi, rfl⟩ := List.getElem_of_mem hx
    exact (hp i hi).2
theorem in64_of {x : Int} (h : (Lit.int .i64 x).wf = true) : -9223372036854775808 ≤ x ∧ x < 9223372036854775808 := by
  simp [Lit.wf, IntKind.min, IntKind.max, IntKind.signed, IntKind.bits] at h
  omega
end Go.Sh

namespace Go.Proofs.YtlddfgfmkapoiaaGreat
open Go Go.Sh Go.RowKit Go.ChangeShapes Go.WideShapes

variable {H : Type} {enc : TypeId × Value → H} {w : World} {base : Nat} {spare : Nat → Bool} {held : Bool}
/-- a slice of numbers that came in -/
def Is_ints (w : World) (q : Option Addr) (len cap : Nat) (l : List Int) : Prop := l.length = len ∧ Cs w q (ints l) ∧ (∀ x ∈ l, In x) ∧ len ≤ cap ∧ cap ≤ maxLen ∧ (q = none → len = 0 ∧ cap = 0)
theorem ints_of {t e : TypeId} (ht : Tryz.prog.underlying t = some (.slice e)) (he : Tryz.prog.underlying e = some (.int .i64)) (hc : Tryz.prog.cellsOf e = 1) {q : Option Addr} {len cap : Nat} {d : DataW H} {p : List MemPlace}
    (h : DataW.Trod enc Tryz.prog w base spare held t (.slice q len cap) d p) : ∃ l, Is_ints w q len cap l := by
  obtain ⟨l, h1, h2, h3⟩ := arg_slice (ec := fun x : Int => [.int .i64 x]) (Pr := fun x => In x) (s := 1) (fun _ => rfl) ht hc (fun n cs y hy => by
    obtain ⟨m, hm, _, hw⟩ := DataW.trod_int he hy
    exact ⟨m, hm, in64_of hw⟩) h
  refine ⟨l, h1, ?_, h3⟩
  unfold ints
  rw [List.map_eq_flatMap]
  exact h2
set_option maxRecDepth 100000 in
theorem ints_arg {q : Option Addr} {len cap : Nat} {d : DataW H} {p : List MemPlace} (h : DataW.Trod enc Tryz.prog w base spare held 24 (.slice q len cap) d p) : ∃ l, Is_ints w q len cap l :=
  ints_of Tryz.underlying24 Tryz.underlying2 (by kernel_rfl) h
end Go.Proofs.YtlddfgfmkapoiaaGreat

namespace Go.Proofs.YtlddfgfmkapoiaaGreat
open Go Go.Sh Go.RowKit

/-! ### rows of keys -/
/-- append of any row to a row of one's own -/
theorem do_appK {q : Option Addr} {n c base : Nat} {r : List Int} {w : World} (hrow : OwnK w base q n c r) {q2 : Option Addr} {m c2 : Nat} {s : List Int} (hs : Cs w q2 (ints s)) (hm : s.length = m) (hb : n + m ≤ 1000000000000) (hbase : base ≤ w.heap.size)
    {bs : Array Bool} {R : Ending → World → Prop}
    (h : ∀ p c' w', OwnK w' base p (n + m) c' (r ++ s) → (∀ w0, Ext w0 w → w0.heap.size ≤ base → Ext w0 w') → R (.returned (.slice p (n + m) c')) w') :
    doGo Tryz.prog (.builtin .append #[24, 24] 24 bs) #[.slice q n c, .slice q2 m c2] w R :=
  do_app elI hrow hs (by simp [ints, hm]) (fun u hu => by obtain ⟨x, _, rfl⟩ := List.mem_map.1 hu; rfl) (by simp only [maxLen]; omega) (by omega) hbase fun p c' w' h2 g2 => h p c' w' (by
    show w'.ownsRow _ _ _ _ _ (ints _)
    unfold ints at h2 ⊢
    rw [List.map_append]; exact h2) fun w0 e0 hb0 => e0.grown g2 fun k hk => Nat.le_trans hb0 (World.ownsRow.lt hrow k hk).1
theorem ownK_nil (w : World) (base : Nat) : OwnK w base none 0 0 [] := World.ownsRow_nil _ _ _ _
/-- a row of keys that is read alone -/
structure RK (w : World) (q : Option Addr) (n c : Nat) (L : List Int) : Prop where
  cs : Cs w q (ints L)
  len : L.length = n
  cap : n ≤ c
theorem RK.ext {w w' : World} {q : Option Addr} {n c : Nat} {L : List Int} (h : RK w q n c L) (e : Ext w w') : RK w' q n c L := ⟨h.cs.ext e, h.len, h.cap⟩
theorem ownK_rk {w : World} {base n c : Nat} {p : Option Addr} {l : List Int} (h : OwnK w base p n c l) : RK w p n c l := ⟨Cs.of_row h, ownK_len h, row_cap h⟩
theorem rk_nil (w : World) : RK w none 0 0 [] := ⟨cs_nil _ _, rfl, Nat.le_refl _⟩
theorem c_has40 {l : List Int} {q : Option Addr} {n c : Nat} {key : Int} {w : World} {R : Ending → World → Prop} (hl : Cs w q (ints l)) (hn : l.length = n) (hm : n ≤ 1000000000000)
    (h : R (.returned (.bool (decide (key ∈ l)))) w) : Calls Tryz.prog 82 #[.slice q n c, .int .i64 key] w R := by
  refine sh82_ok _ _ _ _ ?_
  unfold sh82
  refine ⟨fun vs w' => ∃ k : Nat, vs = [.int .i64 k] ∧ k ≤ n ∧ w' = w ∧ key ∉ l.take k, fun vs _ => n - (intOf (vs.getD 0 undef)).toNat, ⟨0, rfl, by omega, rfl, by simp⟩, ?_⟩
  rintro i _ w2 ⟨k, hv, hkn, rfl, hno⟩
  simp only [List.cons.injEq, Value.int.injEq, true_and, and_true] at hv
  subst hv
  refine ifB_intro (fun hlt => ?_) fun hge => ?_
  · have hlt : k < n := by have := of_decide_eq_true hlt; omega
    have hk : k < l.length := by omega
    refine ix_int hl hn (by omega) (by omega) fun a ha hc => ⟨_, hc, ?_⟩
    have e : l.getD (k : Int).toNat 0 = l[k] := by rw [Int.toNat_natCast, List.getD_eq_getElem?_getD, List.getElem?_eq_getElem hk]; rfl
    rw [e]
    refine ifB_intro (fun he => ?_) fun hne => ?_
    · have he : l[k] = key := by simpa using he
      rw [decide_eq_true (by rw [← he]; exact List.getElem_mem hk)] at h
      exact h
    · have hne : ¬ l[k] = key := by simpa using hne
      refine ⟨⟨k + 1, by rw [wrap_succ hlt (by omega)], by omega, rfl, ?_⟩, by rw [wrap_succ hlt (by omega)]; simp [intOf]; omega⟩
      rw [show l.take (k + 1) = l.take k ++ [l[k]] from (List.take_append_getElem hk).symm, List.mem_append, List.mem_singleton]
      rintro (h | h)
      · exact hno h
      · exact hne h.symm
  · have hge : k = n := by have := of_decide_eq_false hge; omega
    subst hge
    rw [List.take_of_length_le (by omega)] at hno
    rw [decide_eq_false hno] at h
    exact h
theorem c_keep40 {l keys : List Int} {q q' : Option Addr} {n c n' c' : Nat} {are : Bool} {w : World} {R : Ending → World → Prop} (hl : Cs w q (ints l)) (hn : l.length = n) (hm : n ≤ 1000000000) (hk : Cs w q' (ints keys)) (hn' : keys.length = n') (hm' : n' ≤ 1000000000)
    (h : ∀ p m d w', Ext w w' → RK w' p m d (l.filter fun k => decide (k ∈ keys) == are) → R (.returned (.slice p m d)) w') : Calls Tryz.prog 69 #[.slice q n c, .slice q' n' c', .bool are] w R := by
  refine sh69_ok _ _ _ _ _ _ _ ?_
  unfold sh69
  refine ⟨fun vs w' => ∃ (k : Nat) (p : Option Addr) (m d : Nat), vs = [.slice p m d, .int .i64 k] ∧ k ≤ n ∧ m ≤ k ∧ Ext w w' ∧ OwnK w' w.heap.size p m d ((l.take k).filter fun k => decide (k ∈ keys) == are), fun vs _ => n - (intOf (vs.getD 1 undef)).toNat, ⟨0, none, 0, 0, rfl, by omega, by omega, ext_refl w, ownK_nil _ _⟩, ?_⟩
  rintro p m d i _ w2 ⟨k, p', m', d', hv, hkn, hmk, E, ho⟩
  simp only [List.cons.injEq, Value.slice.injEq, Value.int.injEq, true_and, and_true] at hv
  obtain ⟨⟨rfl, rfl, rfl⟩, rfl⟩ := hv
  refine ifB_intro (fun hlt => ?_) fun hge => ?_
  · have hlt : k < n := by have := of_decide_eq_true hlt; omega
    have hkl : k < l.length := by omega
    have e : l.getD (k : Int).toNat 0 = l[k] := by rw [Int.toNat_natCast, List.getD_eq_getElem?_getD, List.getElem?_eq_getElem hkl]; rfl
    intro K20
    refine ix_int (hl.ext E) hn (by omega) (by omega) fun a ha hc => ⟨_, hc, ?_⟩
    rw [e]
    refine do_call Tryz.call82 (c_has40 (hk.ext E) hn' (by omega) (retS_ret ⟨_, rfl, ?_⟩))
    have et : l.take (k + 1) = l.take k ++ [l[k]] := (List.take_append_getElem hkl).symm
    refine ifB_intro (fun hy => ?_) fun hno => ?_
    · refine ix_int (hl.ext E) hn (by omega) (by omega) fun a ha hc => ⟨_, hc, ⟨?_⟩⟩
      rw [e]
      have e3 := ext_alloc w2 (.cells #[.int .i64 l[k]] 2)
      have c3 : Cs (w2.alloc (.cells #[.int .i64 l[k]] 2)) (some (blk w2.heap.size)) (ints [l[k]]) := cs_alloc w2 _ _
      refine do_appK (e3.row ho) (m := 1) c3 rfl (by omega) (E.trans e3).size fun p' d' w4 h4 g4 => retS_ret ⟨_, _, _, rfl, ?_⟩
      refine ⟨⟨k + 1, p', _, d', by rw [wrap_succ hlt (by omega)], by omega, by omega, g4 w (E.trans e3) (Nat.le_refl _), ?_⟩, by rw [wrap_succ hlt (by omega)]; simp [intOf]; omega⟩
      rw [et, List.filter_append]
      simp only [List.filter_cons, hy, if_true, List.filter_nil]
      exact h4
    · refine ⟨⟨k + 1, p, m, d, by rw [wrap_succ hlt (by omega)], by omega, by omega, E, ?_⟩, by rw [wrap_succ hlt (by omega)]; simp [intOf]; omega⟩
      rw [et, List.filter_append]
      simp only [List.filter_cons, hno, List.filter_nil, List.append_nil]
      simpa using ho
  · have hge : k = n := by have := of_decide_eq_false hge; omega
    subst hge
    rw [List.take_of_length_le (by omega)] at ho
    exact h _ _ _ _ E (ownK_rk ho)
theorem put_asc {o key : Int} {l : List Int} {k : Nat} (ho : isO o = true) (hI : ∀ x ∈ l, In x) (hkI : In key) (ha : l.Pairwise (ltO o)) (hno : key ∉ l) (hk : k ≤ l.length) (h1 : ∀ i (_ : i < k) (hi : i < l.length), cmpI o l[i] key < 0) (h2 : ∀ hi : k < l.length, ¬ cmpI o l[k] key < 0) :
    (l.take k ++ [key] ++ l.drop k).Pairwise (ltO o) ∧ (∀ x, x ∈ l.take k ++ [key] ++ l.drop k ↔ x ∈ l ∨ x = key) := by
  have hd : ∀ x ∈ l.drop k, ltO o key x := fun x hx => by
    obtain ⟨j, hj, rfl⟩ := List.getElem_of_mem hx
    rw [List.getElem_drop]
    have hj' : k + j < l.length := by rw [List.length_drop] at hj; omega
    have hkl : k < l.length := by omega
    have hkk : ltO o key l[k] := by
      have hne : cmpI o l[k] key ≠ 0 := fun e => hno (by rw [← cmpI_eq ho (hI _ (List.getElem_mem hkl)) hkI e]; exact List.getElem_mem hkl)
      have := h2 hkl
      exact cmpI_pos (by omega)
    rcases Nat.eq_zero_or_pos j with rfl | hj0
    · exact hkk
    · have := List.pairwise_iff_getElem.1 ha k (k + j) hkl hj' (by omega)
      exact cmpI_trans hkk this
  have ht : ∀ x ∈ l.take k, ltO o x key := fun x hx => by
    obtain ⟨j, hj, rfl⟩ := List.getElem_of_mem hx
    rw [List.getElem_take]
    rw [List.length_take] at hj
    exact h1 j (by omega) (by omega)
  constructor
  · rw [List.append_assoc, List.pairwise_append]
    refine ⟨ha.sublist (List.take_sublist _ _), ?_, fun x hx y hy => ?_⟩
    · rw [List.singleton_append, List.pairwise_cons]
      exact ⟨hd, ha.sublist (List.drop_sublist _ _)⟩
    · rcases List.mem_cons.1 hy with rfl | hy
      · exact ht x hx
      · exact cmpI_trans (ht x hx) (hd y hy)
  · intro x
    have : x ∈ l ↔ x ∈ l.take k ∨ x ∈ l.drop k := by rw [← List.mem_append, List.take_append_drop]
    rw [this]
    simp only [List.mem_append, List.mem_singleton]
    constructor
    · rintro ((a | b) | c)
      · exact .inl (.inl a)
      · exact .inr b
      · exact .inl (.inr c)
    · rintro ((a | b) | c)
      · exact .inl (.inl a)
      · exact .inr b
      · exact .inl (.inr c)
theorem c_put40 {o key : Int} {l : List Int} {q : Option Addr} {n c : Nat} {w : World} {R : Ending → World → Prop} (ho : isO o = true) (hl : RK w q n c l) (hm : n ≤ 1000000000) (hI : ∀ x ∈ l, In x) (hkI : In key) (ha : l.Pairwise (ltO o))
    (h : ∀ p m d w' L, Ext w w' → RK w' p m d L → L.Pairwise (ltO o) → (∀ x, x ∈ L ↔ x ∈ l ∨ x = key) → m ≤ n + 1 → R (.returned (.slice p m d)) w') : Calls Tryz.prog 141 #[.int .u8 o, .slice q n c, .int .i64 key] w R := by
  refine sh141_ok _ _ _ _ _ ?_
  unfold sh141
  refine do_call Tryz.call82 (c_has40 hl.cs hl.len (by omega) (retS_ret ⟨_, rfl, ?_⟩))
  have hn := hl.len
  refine ifB_intro (fun hy => ?_) fun hno => ?_
  · have hy := of_decide_eq_true hy
    exact h _ _ _ _ l (ext_refl w) hl ha (fun x => ⟨.inl, fun a => a.elim id fun e => by rw [e]; exact hy⟩) (by omega)
  have hno := of_decide_eq_false hno
  intro K11
  have hK : ∀ k : Nat, k ≤ n → (∀ i (_ : i < k) (hi : i < l.length), cmpI o l[i] key < 0) → (∀ hi : k < l.length, ¬ cmpI o l[k] key < 0) → K11 k w := by
    intro k hk h1 h2
    simp -zeta -zetaHave only [K11]
    have P := put_asc ho hI hkI ha hno (by omega) h1 h2
    refine sl_int hl.cs hl.len hl.cap (by omega) (by omega) (by omega) fun p1 hp1 => ?_
    rw [Int.toNat_natCast, show (0 : Int).toNat = 0 from rfl, List.drop_zero, Nat.sub_zero] at *
    refine do_appK (ownK_nil w w.heap.size) hp1 (by rw [List.length_take]; omega) (by omega) (Nat.le_refl _) fun p2 c2 w2 h2' g2 => retS_ret ⟨_, _, _, rfl, ⟨?_⟩⟩
    have E2 := g2 w (ext_refl w) (Nat.le_refl _)
    have e3 := ext_alloc w2 (.cells #[.int .i64 key] 2)
    have c3 : Cs (w2.alloc (.cells #[.int .i64 key] 2)) (some (blk w2.heap.size)) (ints [key]) := cs_alloc w2 _ _
    refine do_appK (e3.row h2') (m := 1) c3 rfl (by omega) (E2.trans e3).size fun p4 c4 w4 h4 g4 => retS_ret ⟨_, _, _, rfl, ?_⟩
    have E4 := g4 w (E2.trans e3) (Nat.le_refl _)
    refine sl_int (hl.cs.ext E4) hl.len hl.cap (by omega) (by omega) (by omega) fun p5 hp5 => ?_
    have et : l.take n = l := List.take_of_length_le (by omega)
    simp only [Int.toNat_natCast, et] at hp5 ⊢
    refine do_appK h4 hp5 (by rw [List.length_drop]; omega) (by omega) E4.size fun p6 c6 w6 h6 g6 => retS_ret ⟨_, _, _, rfl, ?_⟩
    have E6 := g6 w E4 (Nat.le_refl _)
    rw [List.nil_append] at h6
    exact h _ _ _ _ _ E6 (ownK_rk h6) P.1 P.2 (by omega)
  refine ⟨fun vs w' => ∃ k : Nat, vs = [.int .i64 k] ∧ k ≤ n ∧ w' = w ∧ ∀ i (_ : i < k) (hi : i < l.length), cmpI o l[i] key < 0, fun vs _ => n - (intOf (vs.getD 0 undef)).toNat, ⟨0, rfl, by omega, rfl, fun i hi => by omega⟩, ?_⟩
  rintro i _ w2 ⟨k, hv, hkn, rfl, hlo⟩
  simp only [List.cons.injEq, Value.int.injEq, true_and, and_true] at hv
  subst hv
  intro K42
  refine ifB_intro (fun hlt => ?_) fun hge => ?_
  · have hlt : k < n := by have := of_decide_eq_true hlt; omega
    have hkl : k < l.length := by omega
    have e : l.getD (k : Int).toNat 0 = l[k] := by rw [Int.toNat_natCast, List.getD_eq_getElem?_getD, List.getElem?_eq_getElem hkl]; rfl
    refine ix_int hl.cs hn (by omega) (by omega) fun a ha hc => ⟨_, hc, ?_⟩
    rw [e]
    refine do_call Tryz.call79 (c_rcompare (hI _ (List.getElem_mem hkl)) hkI (retS_ret ⟨_, rfl, ?_⟩))
    simp -zeta -zetaHave only [K42]
    refine ifB_intro (fun hc => ?_) fun hc => ?_
    · have hc := of_decide_eq_true hc
      refine ⟨⟨k + 1, by rw [wrap_succ hlt (by omega)], by omega, by first | rfl | trivial, fun i hi hil => ?_⟩, by rw [wrap_succ hlt (by omega)]; simp [intOf]; omega⟩
      rcases Nat.lt_or_ge i k with hik | hik
      · exact hlo i hik hil
      · have : i = k := by omega
        subst this; exact hc
    · exact hK k hkn hlo fun _ => of_decide_eq_false hc
  · have hge : k = n := by have := of_decide_eq_false hge; omega
    exact hK k hkn hlo fun hi => absurd hi (by omega)
theorem c_add40 {o : Int} {l keys : List Int} {q q' : Option Addr} {n c n' c' : Nat} {w : World} {R : Ending → World → Prop} (ho : isO o = true) (hl : RK w q n c l) (hm : n ≤ 1000000) (hI : ∀ x ∈ l, In x) (ha : l.Pairwise (ltO o)) (hk : Cs w q' (ints keys)) (hn' : keys.length = n') (hm' : n' ≤ 1000000) (hkI : ∀ x ∈ keys, In x)
    (h : ∀ p m d w' L, Ext w w' → RK w' p m d L → L.Pairwise (ltO o) → (∀ x, x ∈ L ↔ x ∈ l ∨ x ∈ keys) → m ≤ n + n' → R (.returned (.slice p m d)) w') : Calls Tryz.prog 68 #[.int .u8 o, .slice q n c, .slice q' n' c'] w R := by
  refine sh68_ok _ _ _ _ _ _ _ ?_
  unfold sh68
  refine ⟨fun vs w' => ∃ (k : Nat) (p : Option Addr) (m d : Nat) (L : List Int), vs = [.slice p m d, .int .i64 k] ∧ k ≤ n' ∧ m ≤ n + k ∧ Ext w w' ∧ RK w' p m d L ∧ L.Pairwise (ltO o) ∧ (∀ x, x ∈ L ↔ x ∈ l ∨ x ∈ keys.take k), fun vs _ => n' - (intOf (vs.getD 1 undef)).toNat, ⟨0, q, n, c, l, rfl, by omega, by omega, ext_refl w, hl, ha, by simp⟩, ?_⟩
  rintro p m d i _ w2 ⟨k, p', m', d', L, hv, hkn, hmk, E, hL, hLa, hLm⟩
  simp only [List.cons.injEq, Value.slice.injEq, Value.int.injEq, true_and, and_true] at hv
  obtain ⟨⟨rfl, rfl, rfl⟩, rfl⟩ := hv
  refine ifB_intro (fun hlt => ?_) fun hge => ?_
  · have hlt : k < n' := by have := of_decide_eq_true hlt; omega
    have hkl : k < keys.length := by omega
    have e : keys.getD (k : Int).toNat 0 = keys[k] := by rw [Int.toNat_natCast, List.getD_eq_getElem?_getD, List.getElem?_eq_getElem hkl]; rfl
    refine ix_int (hk.ext E) hn' (by omega) (by omega) fun a ha hc => ⟨_, hc, ?_⟩
    rw [e]
    have hLI : ∀ x ∈ L, In x := fun x hx => ((hLm x).1 hx).elim (hI x) fun hx => hkI x (List.mem_of_mem_take hx)
    refine do_call Tryz.call141 (c_put40 ho hL (by omega) hLI (hkI _ (List.getElem_mem hkl)) hLa fun p3 m3 d3 w3 L3 e3 h3 a3 i3 z3 => retS_ret ⟨_, _, _, rfl, ?_⟩)
    refine ⟨⟨k + 1, p3, m3, d3, L3, by rw [wrap_succ hlt (by omega)], by omega, by omega, E.trans e3, h3, a3, fun x => ?_⟩, by rw [wrap_succ hlt (by omega)]; simp [intOf]; omega⟩
    rw [i3, hLm, show keys.take (k + 1) = keys.take k ++ [keys[k]] from (List.take_append_getElem hkl).symm, List.mem_append, List.mem_singleton, or_assoc]
  · have hge : k = n' := by have := of_decide_eq_false hge; omega
    subst hge
    rw [List.take_of_length_le (by omega)] at hLm
    exact h _ _ _ _ L E hL hLa hLm hmk
/-! ### has a set just these keys? -/
theorem prs_of_its {c : Int} (t : Tr) : t.pairs = (itsC c t).map fun x => (x.1, x.2.1) := by
  rw [items_pairs]
  unfold itsC
  rw [List.map_map]
  exact List.map_congr_left fun x _ => by show _ = ((itC c x).1, (itC c x).2.1); rw [itC_key, itC_val]
theorem c_r10keys {t : Tr} {q : Option Addr} {n c : Nat} {w : World} {R : Ending → World → Prop} (hl : Cs w q (bds (btT t).beads)) (hn : t.size = n) (hnc : n ≤ c) (hm : n ≤ 5000)
    (h : ∀ p m d w', Ext w w' → RK w' p m d (t.pairs.map (·.1)) → R (.returned (.slice p m d)) w') : Calls Tryz.prog 204 #[.slice q n c] w R := by
  refine sh204_ok _ _ _ ?_
  unfold sh204
  refine do_call Tryz.call60 (c_pairs (btT t) hl (by rw [btT_size]; exact hn) hnc (btT_wf t) hm fun p1 n1 c1 w1 h1 e1 => retS_ret ⟨_, _, _, rfl, ?_⟩)
  rw [btT_tr] at h1
  have hn1 := ownP_len h1
  have hz := t.pairs_length
  refine ⟨fun vs w' => ∃ (k : Nat) (p : Option Addr) (d : Nat), vs = [.slice p k d, .int .i64 k] ∧ k ≤ n1 ∧ Ext w1 w' ∧ OwnK w' w1.heap.size p k d ((t.pairs.take k).map (·.1)), fun vs _ => n1 - (intOf (vs.getD 1 undef)).toNat, ⟨0, none, 0, rfl, by omega, ext_refl w1, ownK_nil _ _⟩, ?_⟩
  rintro p m d i _ w2 ⟨k, p', d', hv, hkn, E, ho⟩
  simp only [List.cons.injEq, Value.slice.injEq, Value.int.injEq, true_and, and_true] at hv
  obtain ⟨⟨rfl, rfl, rfl⟩, rfl⟩ := hv
  refine ifB_intro (fun hlt => ?_) fun hge => ?_
  · have hlt : m < n1 := by have := of_decide_eq_true hlt; omega
    have hkl : m < t.pairs.length := by omega
    refine ix_pr ((ownP_cs h1).ext E) hn1 (k := m) rfl hlt fun a r0 _ _ => ⟨_, r0, ⟨?_⟩⟩
    have e3 := ext_alloc w2 (.cells #[.int .i64 t.pairs[m].1] 2)
    have c3 : Cs (w2.alloc (.cells #[.int .i64 t.pairs[m].1] 2)) (some (blk w2.heap.size)) (ints [t.pairs[m].1]) := cs_alloc w2 _ _
    refine do_appK (e3.row ho) (m := 1) c3 rfl (by omega) (E.trans e3).size fun p' d' w4 h4 g4 => retS_ret ⟨_, _, _, rfl, ?_⟩
    refine ⟨⟨m + 1, p', d', by rw [wrap_succ hlt (by omega)], by omega, g4 w1 (E.trans e3) (Nat.le_refl _), ?_⟩, by rw [wrap_succ hlt (by omega)]; simp [intOf]; omega⟩
    rw [show t.pairs.take (m + 1) = t.pairs.take m ++ [t.pairs[m]] from (List.take_append_getElem hkl).symm, List.map_append]
    exact h4
  · have hge : m = n1 := by have := of_decide_eq_false hge; omega
    subst hge
    rw [List.take_of_length_le (by omega)] at ho
    exact h _ _ _ _ (e1.trans E) (ownK_rk ho)
theorem sumV_zero : ∀ {l : List Bd}, (∀ x ∈ l, x.val = 0) → sumV l = 0 := by
  intro l h
  have : ∀ (l : List Bd), (∀ x ∈ l, x.val = 0) → l.foldl (fun s b => IntKind.wrap .i64 (s + b.val)) 0 = 0 := by
    intro l
    induction l with
    | nil => intro _; rfl
    | cons x l ih =>
      intro h
      rw [List.foldl_cons, h x (by simp)]
      have : IntKind.wrap .i64 (0 + 0) = 0 := by decide
      rw [this]
      exact ih fun y hy => h y (by simp [hy])
  exact this l h
theorem beads_zero : ∀ {t : Tr}, (∀ p ∈ t.pairs, p.2 = 0) → ∀ x ∈ (btT t).beads, x.val = 0
  | .nil, _, x, hx => by cases hx
  | .node l k v g r, h, x, hx => by
    have hp : (Tr.node l k v g r).pairs = l.pairs ++ (k, v) :: r.pairs := rfl
    rw [hp] at h
    simp only [btT, BT.beads, List.mem_cons, List.mem_append] at hx
    rcases hx with rfl | hx | hx
    · exact h (k, v) (by simp)
    · exact beads_zero (fun p hp => h p (by simp [hp])) x hx
    · exact beads_zero (fun p hp => h p (by simp [hp])) x hx
theorem c_r24stands {cd o : Int} {t : Tr} {q : Option Addr} {n c : Nat} {w : World} {R : Ending → World → Prop} (ho : isO o = true) (hu : OkU cd o t) (hT : TagI (itsC cd t)) (hI : InP t.pairs) (hl : Cs w q (bds (btT t).beads)) (hn : t.size = n) (hnc : n ≤ c) (hm : n ≤ 2000)
    (h : ∀ w', Ext w w' → R (.returned (.bool true)) w') : Calls Tryz.prog 104 #[.int .u8 cd, .int .u8 o, .slice q n c] w R := by
  refine sh104_ok _ _ _ _ _ ?_
  unfold sh104
  have hTB := tagB_of hu.ok.1 (by omega) hT
  have hbn : (btT t).size = n := by rw [btT_size]; exact hn
  intro K8
  refine do_call Tryz.call18 (c_r22is (retS_ret ⟨_, rfl, ifB_t hu.ok.1.s ?_⟩))
  refine do_call Tryz.call127 (c_r2may (retS_ret ⟨_, rfl, ifB_t ho ?_⟩))
  refine do_call Tryz.call179 (c_r22may hu.ok.1.s hl hbn hnc (btT_wf t) (by omega) hTB fun b w1 e1 hb => retS_ret ⟨_, rfl, ?_⟩)
  rw [btT_tr] at hb
  obtain rfl : b = true := hb.2 hu.ok
  refine ifB_t rfl (do_call Tryz.call128 (sh128_ok _ _ _ _ ?_))
  unfold sh128
  refine do_call Tryz.call60 (c_pairs (btT t) (hl.ext e1) hbn hnc (btT_wf t) (by omega) fun p2 n2 c2 w2 h2 e2 => retS_ret ⟨_, _, _, rfl, ?_⟩)
  rw [btT_tr] at h2
  have hn2 := ownP_len h2
  have hz := t.pairs_length
  refine do_call Tryz.call199 (c_rises (ownP_cs h2) hn2 (by omega) hI fun w3 e3 => retS_ret ⟨_, rfl, retS_ret ⟨_, rfl, ?_⟩⟩)
  have hc : chain o t.pairs = true := chain_pw.2 (by rw [pairs_its (c := cd)]; exact hu.asc)
  rw [hc]
  exact h w3 ((e1.trans e2).trans e3)
section
variable {c o : Int} {b bx : Nat} {px : Option Addr} {K : List Int} {w : World} {R : Ending → World → Prop}
theorem KeyT.inP {t : Tr} (h : KeyT c o t K) : InP t.pairs := fun x hx => by
  obtain ⟨y, hy, e⟩ : ∃ y ∈ itsC c t, (y.1, y.2.1) = x := by
    have : t.pairs = (itsC c t).map fun x => (x.1, x.2.1) := prs_of_its t
    rw [this] at hx
    exact List.mem_map.1 hx
  have h0 := h.val y hy
  rw [← e]
  exact ⟨h.inI y hy, by show In y.2.1; rw [h0]; exact ⟨by decide, by decide⟩⟩
theorem KeyT.zero {t : Tr} (h : KeyT c o t K) : ∀ x ∈ t.pairs, x.2 = 0 := fun x hx => by
  have : t.pairs = (itsC c t).map fun x => (x.1, x.2.1) := prs_of_its t
  rw [this] at hx
  obtain ⟨y, hy, rfl⟩ := List.mem_map.1 hx
  exact h.val y hy
theorem c_zeros40 {q : Option Addr} {n cp : Nat} (ho : isO o = true) (hx : SetU c o b px bx K w) (hz : K.length ≤ 2000) (hq : Cs w q (ints K)) (hn : K.length = n)
    (h : ∀ w', Ext w w' → R (.returned (.bool true)) w') : Calls Tryz.prog 142 #[.int .u8 c, .int .u8 o, .pointer (some (blk bx)), .slice q n cp] w R := by
  refine sh142_ok _ _ _ _ _ _ ?_
  unfold sh142
  refine do_call Tryz.call143 (c_stree hx fun t pt h1 h2 => retS_ret ⟨_, rfl, ?_⟩)
  have z := h2.len
  refine do_call Tryz.call97 (c_See h1 (by omega) fun p2 n2 c2 w2 o2 e2 => retS_ret ⟨_, _, _, _, rfl, ?_⟩)
  intro K18
  have hn2 := ownB_len o2
  have hz2 := btT_size t
  have hzn : t.size = n2 := by rw [← hz2]; exact hn2
  have hnc := row_cap o2
  refine ifB_f rfl (do_call Tryz.call104 (c_r24stands ho h2.ok h2.tag h2.inP (ownB_cs o2) hzn hnc (by omega) fun w3 e3 => retS_ret ⟨_, rfl, ifB_f rfl ?_⟩))
  refine do_call Tryz.call204 (c_r10keys ((ownB_cs o2).ext e3) hzn hnc (by omega) fun p4 n4 c4 w4 e4 k4 => retS_ret ⟨_, _, _, rfl, ?_⟩)
  rw [h2.prs] at k4
  have E4 := (e2.trans e3).trans e4
  refine do_call Tryz.call61 (c_samekeys k4.cs k4.len (hq.ext E4) hn (by have := k4.len; omega) fun w5 e5 => retS_ret ⟨_, rfl, ?_⟩)
  rw [decide_eq_true rfl]
  simp -zeta -zetaHave only [K18]
  refine ifB_f rfl ?_
  intro K21
  have E5 := E4.trans e5
  have o5 := (ownB_cs o2).ext ((e3.trans e4).trans e5)
  refine do_call Tryz.call115 (c_r9sum o5 hn2 (by omega) (retS_ret ⟨_, rfl, ?_⟩))
  rw [sumV_zero (beads_zero h2.zero)]
  refine ifB_t rfl (ifB_intro (fun _ => h w5 E5) fun hne => ?_)
  have hpos : 0 < n2 := by
    have : ¬ ((n2 : Int) = 0) := by simpa using hne
    omega
  refine ix_flat ecB_len (by omega) o5 hn2 (k := 0) rfl hpos fun a r _ => ⟨_, r 3 _ rfl, ?_⟩
  simp -zeta -zetaHave only [K21]
  have : (((btT t).beads)[0]'(by omega)).size = (n : Int) := by
    cases t with
    | nil => exact absurd hzn (by simp only [Tr.size]; omega)
    | node l k v g rr =>
      show ((Tr.node l k v g rr).size : Int) = n
      omega
  rw [this]
  simp only [beq_self_eq_true]
  exact h w5 E5
theorem c_sis {q : Option Addr} {n cp : Nat} (ho : isO o = true) (hx : SetU c o b px bx K w) (hz : K.length ≤ 2000) (hq : Cs w q (ints K)) (hn : K.length = n)
    (h : ∀ w', Ext w w' → R (.returned (.bool true)) w') : Calls Tryz.prog 70 #[.int .u8 c, .int .u8 o, .pointer (some (blk bx)), .slice q n cp] w R := by
  refine sh70_ok _ _ _ _ _ _ ?_
  unfold sh70
  intro K9
  refine ifB_t rfl (do_call Tryz.call72 (c_slen hx fun w1 e1 => retS_ret ⟨_, rfl, ifB_t (by simp [hn]) ?_⟩))
  refine do_call Tryz.call76 (c_skeys (hx.ext e1) (by omega) fun p2 n2 c2 w2 e2 o2 => retS_ret ⟨_, _, _, rfl, ?_⟩)
  have E2 := e1.trans e2
  refine do_call Tryz.call61 (c_samekeys (Cs.of_row o2) (ownK_len o2) (hq.ext E2) hn (by have := ownK_len o2; omega) fun w3 e3 => retS_ret ⟨_, rfl, ?_⟩)
  rw [decide_eq_true rfl]
  have E3 := E2.trans e3
  exact ifB_t rfl (do_call Tryz.call142 (c_zeros40 ho (hx.ext E3) hz (hq.ext E3) hn fun w4 e4 => retS_ret ⟨_, rfl, h w4 (E3.trans e4)⟩))
end
end Go.Proofs.YtlddfgfmkapoiaaGreat

namespace Go.Proofs.YtlddfgfmkapoiaaGreat
open Go Go.Sh
set_option maxRecDepth 100000 in
/-- joinery/joinerylaw40.SetTwo -/
def sh10 (code_1 : Int) (other_2 : Int) (o_3 : Int) (p_4 : Int) (l_p5 : Option Addr) (l_n6 : Nat) (l_c7 : Nat) (m_p8 : Option Addr) (m_n9 : Nat) (m_c10 : Nat) (R : Ending → World → Prop) (w : World) : Prop :=
 doCall Tryz.prog (.func (.func 15) #[] #[]) #[.int .u8 code_1] w (retS (fun v13 w14 => ∃ (x11 : Option Addr), ∃ (x12 : Bool), v13 = (.tuple #[.pointer x11, .bool x12] : Value) ∧ (
 doCall Tryz.prog (.func (.func 15) #[] #[]) #[.int .u8 other_2] w14 (retS (fun v17 w18 => ∃ (x15 : Option Addr), ∃ (x16 : Bool), v17 = (.tuple #[.pointer x15, .bool x16] : Value) ∧ (
 let K21 : Bool → World → Prop := fun (x19 : Bool) (w20 : World) => 
 ifB x19 (
 let K24 : Bool → World → Prop := fun (x22 : Bool) (w23 : World) => 
 R (.returned (.bool x22)) w23
 doCall Tryz.prog (.func (.func 18) #[] #[]) #[.int .u8 code_1] w20 (retS (fun v26 w27 => ∃ (x25 : Bool), v26 = (.bool x25 : Value) ∧ (
 ifB (x12 == x25) (
 doCall Tryz.prog (.func (.func 18) #[] #[]) #[.int .u8 other_2] w27 (retS (fun v29 w30 => ∃ (x28 : Bool), v29 = (.bool x28 : Value) ∧ (
 ifB (x16 == x28) (
 doCall Tryz.prog (.func (.func 62) #[] #[]) #[] w30 (retS (fun v32 w33 => ∃ (x31 : Bool), v32 = (.bool x31 : Value) ∧ (
 K24 x31 w33)) (fun ch w => Kfn R ch [] w))) (
 R (.returned (.bool false)) w30))) (fun ch w => Kfn R ch [] w))) (
 R (.returned (.bool false)) w27))) (fun ch w => Kfn R ch [] w))) (
 doCall Tryz.prog (.func (.func 63) #[] #[]) #[.pointer x11, .int .u8 o_3, .pointer none, .slice l_p5 l_n6 l_c7] w20 (retS (fun v36 w37 => ∃ (x34 : Option Addr), ∃ (x35 : Int), v36 = (.tuple #[.pointer x34, .int .i64 x35] : Value) ∧ (
 doCall Tryz.prog (.func (.func 63) #[] #[]) #[.pointer x15, .int .u8 p_4, .pointer none, .slice m_p8 m_n9 m_c10] w37 (retS (fun v40 w41 => ∃ (x38 : Option Addr), ∃ (x39 : Int), v40 = (.tuple #[.pointer x38, .int .i64 x39] : Value) ∧ (
 let K44 : Bool → World → Prop := fun (x42 : Bool) (w43 : World) => 
 ifB x42 (
 R (.returned (.bool false)) w43) (
 doCall Tryz.prog (.func (.func 64) #[] #[]) #[.pointer x34, .pointer x38] w43 (retS (fun v47 w48 => ∃ (x45 : Option Addr), ∃ (x46 : Int), v47 = (.tuple #[.pointer x45, .int .i64 x46] : Value) ∧ (
 doCall Tryz.prog (.func (.func 65) #[] #[]) #[.pointer x34, .pointer x38] w48 (retS (fun v51 w52 => ∃ (x49 : Option Addr), ∃ (x50 : Int), v51 = (.tuple #[.pointer x49, .int .i64 x50] : Value) ∧ (
 doCall Tryz.prog (.func (.func 66) #[] #[]) #[.pointer x34, .pointer x38] w52 (retS (fun v55 w56 => ∃ (x53 : Option Addr), ∃ (x54 : Int), v55 = (.tuple #[.pointer x53, .int .i64 x54] : Value) ∧ (
 doCall Tryz.prog (.func (.func 67) #[] #[]) #[.pointer x34, .pointer x38] w56 (retS (fun v59 w60 => ∃ (x57 : Bool), ∃ (x58 : Int), v59 = (.tuple #[.bool x57, .int .i64 x58] : Value) ∧ (
 let K63 : Bool → World → Prop := fun (x61 : Bool) (w62 : World) => 
 ifB x61 (
 let K66 : Bool → World → Prop := fun (x64 : Bool) (w65 : World) => 
 R (.returned (.bool x64)) w65
 ifB ((x45).isNone) (
 ifB ((x49).isNone) (
 ifB ((x53).isNone) (
 ifB (!x57) (
 ifB ((x46 : Int) == 2) (
 ifB ((x50 : Int) == 2) (
 ifB ((x54 : Int) == 2) (
 ifB ((x58 : Int) == 2) (
 doCall Tryz.prog (.func (.func 62) #[] #[]) #[] w62 (retS (fun v68 w69 => ∃ (x67 : Bool), v68 = (.bool x67 : Value) ∧ (
 K66 x67 w69)) (fun ch w => Kfn R ch [] w))) (
 R (.returned (.bool false)) w62)) (
 R (.returned (.bool false)) w62)) (
 R (.returned (.bool false)) w62)) (
 R (.returned (.bool false)) w62)) (
 R (.returned (.bool false)) w62)) (
 R (.returned (.bool false)) w62)) (
 R (.returned (.bool false)) w62)) (
 R (.returned (.bool false)) w62)) (
 doCall Tryz.prog (.func (.func 68) #[] #[]) #[.int .u8 o_3, .slice none 0 0, .slice l_p5 l_n6 l_c7] w62 (retS (fun v73 w74 => ∃ (xp70 : Option Addr), ∃ (xn71 : Nat), ∃ (xc72 : Nat), v73 = (.slice xp70 xn71 xc72 : Value) ∧ (
 doCall Tryz.prog (.func (.func 68) #[] #[]) #[.int .u8 o_3, .slice none 0 0, .slice m_p8 m_n9 m_c10] w74 (retS (fun v78 w79 => ∃ (xp75 : Option Addr), ∃ (xn76 : Nat), ∃ (xc77 : Nat), v78 = (.slice xp75 xn76 xc77 : Value) ∧ (
 let K82 : Bool → World → Prop := fun (x80 : Bool) (w81 : World) => 
 ifB x80 (
 R (.returned (.bool false)) w81) (
 let K85 : Bool → World → Prop := fun (x83 : Bool) (w84 : World) => 
 R (.returned (.bool x83)) w84
 doCall Tryz.prog (.func (.func 68) #[] #[]) #[.int .u8 o_3, .slice xp70 xn71 xc72, .slice xp75 xn76 xc77] w81 (retS (fun v89 w90 => ∃ (xp86 : Option Addr), ∃ (xn87 : Nat), ∃ (xc88 : Nat), v89 = (.slice xp86 xn87 xc88 : Value) ∧ (
 doCall Tryz.prog (.func (.func 70) #[] #[]) #[.int .u8 code_1, .int .u8 o_3, .pointer x45, .slice xp86 xn87 xc88] w90 (retS (fun v92 w93 => ∃ (x91 : Bool), v92 = (.bool x91 : Value) ∧ (
 ifB x91 (
 doCall Tryz.prog (.func (.func 69) #[] #[]) #[.slice xp70 xn71 xc72, .slice xp75 xn76 xc77, .bool true] w93 (retS (fun v97 w98 => ∃ (xp94 : Option Addr), ∃ (xn95 : Nat), ∃ (xc96 : Nat), v97 = (.slice xp94 xn95 xc96 : Value) ∧ (
 doCall Tryz.prog (.func (.func 70) #[] #[]) #[.int .u8 code_1, .int .u8 o_3, .pointer x49, .slice xp94 xn95 xc96] w98 (retS (fun v100 w101 => ∃ (x99 : Bool), v100 = (.bool x99 : Value) ∧ (
 ifB x99 (
 doCall Tryz.prog (.func (.func 69) #[] #[]) #[.slice xp70 xn71 xc72, .slice xp75 xn76 xc77, .bool false] w101 (retS (fun v105 w106 => ∃ (xp102 : Option Addr), ∃ (xn103 : Nat), ∃ (xc104 : Nat), v105 = (.slice xp102 xn103 xc104 : Value) ∧ (
 doCall Tryz.prog (.func (.func 70) #[] #[]) #[.int .u8 code_1, .int .u8 o_3, .pointer x53, .slice xp102 xn103 xc104] w106 (retS (fun v108 w109 => ∃ (x107 : Bool), v108 = (.bool x107 : Value) ∧ (
 ifB x107 (
 doCall Tryz.prog (.func (.func 70) #[] #[]) #[.int .u8 code_1, .int .u8 o_3, .pointer x34, .slice xp70 xn71 xc72] w109 (retS (fun v111 w112 => ∃ (x110 : Bool), v111 = (.bool x110 : Value) ∧ (
 ifB x110 (
 doCall Tryz.prog (.func (.func 70) #[] #[]) #[.int .u8 code_1, .int .u8 o_3, .pointer x38, .slice xp75 xn76 xc77] w112 (retS (fun v114 w115 => ∃ (x113 : Bool), v114 = (.bool x113 : Value) ∧ (
 ifB x113 (
 doCall Tryz.prog (.func (.func 62) #[] #[]) #[] w115 (retS (fun v117 w118 => ∃ (x116 : Bool), v117 = (.bool x116 : Value) ∧ (
 K85 x116 w118)) (fun ch w => Kfn R ch [] w))) (
 R (.returned (.bool false)) w115))) (fun ch w => Kfn R ch [] w))) (
 R (.returned (.bool false)) w112))) (fun ch w => Kfn R ch [] w))) (
 R (.returned (.bool false)) w109))) (fun ch w => Kfn R ch [] w)))) (fun ch w => Kfn R ch [] w))) (
 R (.returned (.bool false)) w101))) (fun ch w => Kfn R ch [] w)))) (fun ch w => Kfn R ch [] w))) (
 R (.returned (.bool false)) w93))) (fun ch w => Kfn R ch [] w)))) (fun ch w => Kfn R ch [] w)))
 ifB ((x46 : Int) != 0) (
 R (.returned (.bool false)) w79) (
 ifB ((x50 : Int) != 0) (
 R (.returned (.bool false)) w79) (
 ifB ((x54 : Int) != 0) (
 R (.returned (.bool false)) w79) (
 ifB ((x58 : Int) != 0) (
 R (.returned (.bool false)) w79) (
 doCall Tryz.prog (.func (.func 69) #[] #[]) #[.slice xp70 xn71 xc72, .slice xp75 xn76 xc77, .bool false] w79 (retS (fun v122 w123 => ∃ (xp119 : Option Addr), ∃ (xn120 : Nat), ∃ (xc121 : Nat), v122 = (.slice xp119 xn120 xc121 : Value) ∧ (
 K82 (!(x57 == ((((xn120 : Nat) : Int) : Int) == 0))) w123)) (fun ch w => Kfn R ch [] w)))))))) (fun ch w => Kfn R ch [] w)))) (fun ch w => Kfn R ch [] w)))
 ifB ((code_1 : Int) != other_2) (
 K63 true w60) (
 K63 ((o_3 : Int) != p_4) w60))) (fun ch w => Kfn R ch [] w)))) (fun ch w => Kfn R ch [] w)))) (fun ch w => Kfn R ch [] w)))) (fun ch w => Kfn R ch [] w)))
 ifB ((x35 : Int) != 0) (
 R (.returned (.bool false)) w41) (
 K44 ((x39 : Int) != 0) w41))) (fun ch w => Kfn R ch [] w)))) (fun ch w => Kfn R ch [] w)))
 ifB (decide ((((l_n6 : Nat) : Int) : Int) > 100)) (
 K21 true w18) (
 ifB (decide ((((m_n9 : Nat) : Int) : Int) > 100)) (
 K21 true w18) (
 ifB (!x12) (
 K21 true w18) (
 ifB (!x16) (
 K21 true w18) (
 doCall Tryz.prog (.func (.func 16) #[] #[]) #[.int .u8 o_3] w18 (retS (fun v125 w126 => ∃ (x124 : Bool), v125 = (.bool x124 : Value) ∧ (
 ifB (!x124) (
 K21 true w126) (
 doCall Tryz.prog (.func (.func 16) #[] #[]) #[.int .u8 p_4] w126 (retS (fun v128 w129 => ∃ (x127 : Bool), v128 = (.bool x127 : Value) ∧ (
 K21 (!x127) w129)) (fun ch w => Kfn R ch [] w))))) (fun ch w => Kfn R ch [] w)))))))) (fun ch w => Kfn R ch [] w)))) (fun ch w => Kfn R ch [] w))
set_option maxRecDepth 100000 in
theorem sh10_ok (code_1 : Int) (other_2 : Int) (o_3 : Int) (p_4 : Int) (l_p5 : Option Addr) (l_n6 : Nat) (l_c7 : Nat) (m_p8 : Option Addr) (m_n9 : Nat) (m_c10 : Nat) {R : Ending → World → Prop} {w : World} : sh10 code_1 other_2 o_3 p_4 l_p5 l_n6 l_c7 m_p8 m_n9 m_c10 R w → Calls Tryz.prog 10 #[.int .u8 code_1, .int .u8 other_2, .int .u8 o_3, .int .u8 p_4, .slice l_p5 l_n6 l_c7, .slice m_p8 m_n9 m_c10] w R :=
  calls_of_eq (ann := fun _ => []) (fn := Tryz.f10) (c := bodyOf Tryz.f10) (args := #[.int .u8 code_1, .int .u8 other_2, .int .u8 o_3, .int .u8 p_4, .slice l_p5 l_n6 l_c7, .slice m_p8 m_n9 m_c10]) 400 follows_mixed Tryz.func10 (by kernel_rfl) (by kernel_rfl)
end Go.Proofs.YtlddfgfmkapoiaaGreat

namespace Go.Proofs.YtlddfgfmkapoiaaGreat
open Go Go.Sh Go.RowKit

section
variable {c c' o o' : Int} {b bY bx by_ : Nat} {px py : Option Addr} {K L : List Int} {w : World} {R : Ending → World → Prop} {f : Fn} {fx fc : Array Value}
/-- sets of two kinds -/
theorem c_btree_no (hsx : IsSch c b w) (hsy : IsSch c' bY w) (hx : SetU c o b px bx K w) (hy : SetU c' o' bY py by_ L w) (hne : c ≠ c' ∨ o ≠ o')
    (h : ∀ w', Ext w w' → R (.returned (.tuple #[.pointer none, .int .i64 2])) w') :
    Calls Tryz.prog 140 #[.agg #[.func f fx fc], .pointer (some (blk bx)), .pointer (some (blk by_))] w R := by
  refine sh140_ok _ _ _ _ _ ?_
  unfold sh140
  refine ⟨?_⟩
  have e0 := ext_alloc w (.cells #[.func f fx fc] 176)
  have h0 := blk_alloc w #[.func f fx fc] 176
  generalize w.heap.size = b6 at h0 ⊢
  generalize w.alloc (.cells #[.func f fx fc] 176) = w1 at *
  obtain ⟨t, pt, x1, x2, x3⟩ := (hx.ext e0).ex
  obtain ⟨u, pu, y1, y2, y3⟩ := (hy.ext e0).ex
  intro K10
  refine ifB_f rfl ?_
  simp -zeta -zetaHave only [K10]
  refine ifB_f rfl ?_
  intro K13
  have d := ext_drew w1
  have r {w' : World} (e : Ext w1 w') (i : Nat) (v : Value) (hv : (setV b o px pt)[i]? = some v) : World.cell? w' ((blk bx).add i) = some v := (x1.ext e).cell (i := i) (add_blk _ _) hv
  have s {w' : World} (e : Ext w1 w') (i : Nat) (v : Value) (hv : (setV bY o' py pu)[i]? = some v) : World.cell? w' ((blk by_).add i) = some v := (y1.ext e).cell (i := i) (add_blk _ _) hv
  refine ⟨⟨fun w' => Ext w1 w', d, _, rfl, _, fun w' e => by rw [add_zero']; exact r e 0 _ rfl, _, rfl, _, fun w' e => by rw [add_zero']; exact s e 0 _ rfl, ?_⟩⟩
  have hsd := (hsx.ext e0).ext d
  have htd := (hsy.ext e0).ext d
  refine do_call Tryz.call184 (c_scode hsd (retS_ret ⟨_, rfl, d, ?_⟩))
  refine do_call Tryz.call184 (c_scode htd (retS_ret ⟨_, rfl, d, ?_⟩))
  refine ifB_intro (fun _ => h _ (e0.trans d)) fun hcc => ?_
  refine ⟨_, rfl, _, fun w' e => by rw [add_zero']; exact r e 1 _ rfl, _, rfl, _, fun w' e => by rw [add_zero']; exact s e 1 _ rfl, ?_⟩
  simp -zeta -zetaHave only [K13]
  have hcc : c = c' := by simpa using hcc
  exact ifB_t (by simpa using hne.resolve_left fun k => k hcc) (h _ (e0.trans d))
theorem c_bset_no (hsx : IsSch c b w) (hsy : IsSch c' bY w) (hx : SetU c o b px bx K w) (hy : SetU c' o' bY py by_ L w) (hne : c ≠ c' ∨ o ≠ o')
    (h : ∀ w', Ext w w' → R (.returned (.tuple #[.pointer none, .int .i64 2])) w') :
    Calls Tryz.prog 138 #[.agg #[.func f fx fc], .pointer (some (blk bx)), .pointer (some (blk by_))] w R := by
  refine sh138_ok _ _ _ _ _ ?_
  unfold sh138
  refine ⟨?_⟩
  have e0 := ext_alloc w (.cells #[.func f fx fc] 176)
  have h0 := blk_alloc w #[.func f fx fc] 176
  refine ⟨_, _, _, h0.cell (i := 0) (add_blk _ _) rfl, ?_⟩
  exact do_call Tryz.call140 (c_btree_no (hsx.ext e0) (hsy.ext e0) (hx.ext e0) (hy.ext e0) hne fun w2 e2 => retS_ret ⟨_, _, rfl, ifB_t rfl (h _ (e0.trans e2))⟩)
theorem c_sunion_no (hsx : IsSch c b w) (hsy : IsSch c' bY w) (hx : SetU c o b px bx K w) (hy : SetU c' o' bY py by_ L w) (hne : c ≠ c' ∨ o ≠ o')
    (h : ∀ w', Ext w w' → R (.returned (.tuple #[.pointer none, .int .i64 2])) w') : Calls Tryz.prog 64 #[.pointer (some (blk bx)), .pointer (some (blk by_))] w R := by
  refine sh64_ok _ _ ?_
  unfold sh64
  exact do_call Tryz.call138 (c_bset_no hsx hsy hx hy hne fun w2 e2 => retS_ret ⟨_, _, rfl, h _ e2⟩)
theorem c_smeet_no (hsx : IsSch c b w) (hsy : IsSch c' bY w) (hx : SetU c o b px bx K w) (hy : SetU c' o' bY py by_ L w) (hne : c ≠ c' ∨ o ≠ o')
    (h : ∀ w', Ext w w' → R (.returned (.tuple #[.pointer none, .int .i64 2])) w') : Calls Tryz.prog 65 #[.pointer (some (blk bx)), .pointer (some (blk by_))] w R := by
  refine sh65_ok _ _ ?_
  unfold sh65
  exact do_call Tryz.call138 (c_bset_no hsx hsy hx hy hne fun w2 e2 => retS_ret ⟨_, _, rfl, h _ e2⟩)
theorem c_sless_no (hsx : IsSch c b w) (hsy : IsSch c' bY w) (hx : SetU c o b px bx K w) (hy : SetU c' o' bY py by_ L w) (hne : c ≠ c' ∨ o ≠ o')
    (h : ∀ w', Ext w w' → R (.returned (.tuple #[.pointer none, .int .i64 2])) w') : Calls Tryz.prog 66 #[.pointer (some (blk bx)), .pointer (some (blk by_))] w R := by
  refine sh66_ok _ _ ?_
  unfold sh66
  exact do_call Tryz.call138 (c_bset_no hsx hsy hx hy hne fun w2 e2 => retS_ret ⟨_, _, rfl, h _ e2⟩)
theorem c_swithin_no (hsx : IsSch c b w) (hsy : IsSch c' bY w) (hx : SetU c o b px bx K w) (hy : SetU c' o' bY py by_ L w) (hne : c ≠ c' ∨ o ≠ o')
    (h : ∀ w', Ext w w' → R (.returned (.tuple #[.bool false, .int .i64 2])) w') : Calls Tryz.prog 67 #[.pointer (some (blk bx)), .pointer (some (blk by_))] w R := by
  refine sh67_ok _ _ ?_
  unfold sh67
  refine do_call Tryz.call140 (c_btree_no hsx hsy hx hy hne fun w2 e2 => retS_ret ⟨_, _, rfl, ?_⟩)
  intro K9
  exact ifB_f rfl (h _ e2)
end
set_option maxRecDepth 20000 in
set_option maxHeartbeats 1600000 in
theorem c_setTwo {code other o p : Int} {l m : List Int} {q1 q2 : Option Addr} {n1 c1 n2 c2 : Nat} {w : World} {R : Ending → World → Prop} (hl : Cs w q1 (ints l)) (hn1 : l.length = n1) (iL : ∀ k ∈ l, In k) (hm : Cs w q2 (ints m)) (hn2 : m.length = n2) (iM : ∀ k ∈ m, In k)
    (h : ∀ w', Ext w w' → R (.returned (.bool true)) w') : Calls Tryz.prog 10 #[.int .u8 code, .int .u8 other, .int .u8 o, .int .u8 p, .slice q1 n1 c1, .slice q2 n2 c2] w R := by
  refine sh10_ok _ _ _ _ _ _ _ _ _ _ ?_
  unfold sh10
  have hidle : ∀ w2, Ext w w2 → doCall Tryz.prog (.func (.func 18) #[] #[]) #[.int .u8 code] w2 (retS (fun v26 w27 => ∃ (x25 : Bool), v26 = (.bool x25 : Value) ∧ (
 ifB (isS code == x25) (
 doCall Tryz.prog (.func (.func 18) #[] #[]) #[.int .u8 other] w27 (retS (fun v29 w30 => ∃ (x28 : Bool), v29 = (.bool x28 : Value) ∧ (
 ifB (isS other == x28) (
 doCall Tryz.prog (.func (.func 62) #[] #[]) #[] w30 (retS (fun v32 w33 => ∃ (x31 : Bool), v32 = (.bool x31 : Value) ∧ (
 R (.returned (.bool x31)) w33)) (fun ch w => Kfn R ch [] w))) (
 R (.returned (.bool false)) w30))) (fun ch w => Kfn R ch [] w))) (
 R (.returned (.bool false)) w27))) (fun ch w => Kfn R ch [] w)) := fun w2 e2 => by
    refine do_call Tryz.call18 (c_r22is (retS_ret ⟨_, rfl, ifB_t (by simp) ?_⟩))
    refine do_call Tryz.call18 (c_r22is (retS_ret ⟨_, rfl, ifB_t (by simp) ?_⟩))
    exact do_call Tryz.call62 (c_alive40 fun w3 e3 => retS_ret ⟨_, rfl, h _ (e2.trans e3)⟩)
  refine do_call Tryz.call15 (c_l22of (fun hc => retS_ret ⟨_, _, rfl, ?_⟩) fun hsc b w1 e1 hbw hs1 => retS_ret ⟨_, _, rfl, ?_⟩)
  · refine do_call Tryz.call15 (c_l22of (fun hd => retS_ret ⟨_, _, rfl, ?_⟩) fun hd b2 w2 e2 hbw2 hs2 => retS_ret ⟨_, _, rfl, ?_⟩)
    all_goals
      intro K21
      have hK : ∀ w2, Ext w w2 → K21 true w2 := fun w2 e2 => by
        simp -zeta -zetaHave only [K21]
        have := hidle w2 e2
        rw [hc, hd] at this
        exact ifB_t rfl this
    · exact ifB_intro (fun _ => hK _ (ext_refl _)) fun _ => ifB_intro (fun _ => hK _ (ext_refl _)) fun _ => ifB_t rfl (hK _ (ext_refl _))
    · exact ifB_intro (fun _ => hK _ e2) fun _ => ifB_intro (fun _ => hK _ e2) fun _ => ifB_t rfl (hK _ e2)
  refine do_call Tryz.call15 (c_l22of (fun hd => retS_ret ⟨_, _, rfl, ?_⟩) fun hd bY w2 e2 hbw2 hs2 => retS_ret ⟨_, _, rfl, ?_⟩)
  · intro K21
    have hK : ∀ w2, Ext w w2 → K21 true w2 := fun w2 e2 => by
      simp -zeta -zetaHave only [K21]
      have := hidle w2 e2
      rw [hsc, hd] at this
      exact ifB_t rfl this
    exact ifB_intro (fun _ => hK _ e1) fun _ => ifB_intro (fun _ => hK _ e1) fun _ => ifB_f rfl (ifB_t rfl (hK _ e1))
  intro K21
  have hK : ∀ w2, Ext w w2 → K21 true w2 := fun w2 e2 => by
    simp -zeta -zetaHave only [K21]
    have := hidle w2 e2
    rw [hsc, hd] at this
    exact ifB_t rfl this
  have E2 := e1.trans e2
  refine ifB_intro (fun _ => hK _ E2) fun z1 => ifB_intro (fun _ => hK _ E2) fun z2 => ifB_f rfl (ifB_f rfl ?_)
  have z1 : n1 ≤ 100 := by have := of_decide_eq_false z1; omega
  have z2 : n2 ≤ 100 := by have := of_decide_eq_false z2; omega
  refine do_call Tryz.call16 (c_ris (retS_ret ⟨_, rfl, ?_⟩))
  cases ho : isO o with
  | false => exact ifB_t rfl (hK _ E2)
  | true =>
  refine ifB_f rfl ?_
  refine do_call Tryz.call16 (c_ris (retS_ret ⟨_, rfl, ?_⟩))
  cases hp : isO p with
  | false => exact hK _ E2
  | true =>
  simp -zeta -zetaHave only [K21]
  clear hK
  refine ifB_f rfl ?_
  have hb : w.heap.size ≤ b := by omega
  have hbl := hs1.lt
  have hbY : w.heap.size ≤ bY := by have := e1.size; omega
  have hbne : b ≠ bY := by omega
  have nU : InU [] := fun x hx => by cases hx
  have hsx2 := hs1.ext e2
  -- the two sets
  refine do_call Tryz.call63 (c_setnew ho hsx2 (isD_nil _) nU (Nat.zero_le _) (hl.ext E2) hn1 (by omega) iL fun bx X w3 g3 hsx3 _ _ hx mx lx => retS_ret ⟨_, _, rfl, ?_⟩)
  have E3 := Ext.gs E2 (gs_none g3) hb
  have hsy3 := hs2.gd g3 (by simpa [blksD] using Ne.symm hbne)
  refine do_call Tryz.call63 (c_setnew hp hsy3 (isD_nil _) nU (Nat.zero_le _) (hm.ext E3) hn2 (by omega) iM fun by_ Y w4 g4 hsy4 _ _ hy my ly => retS_ret ⟨_, _, rfl, ?_⟩)
  have E4 := Ext.gs E3 (gs_none g4) hbY
  have hsx4 := hsx3.gd g4 (by simpa [blksD] using hbne)
  have hx4 := hx.gs hsy3 (gs_none g4)
  intro K44
  refine ifB_f rfl ?_
  simp -zeta -zetaHave only [K44]
  refine ifB_f rfl ?_
  by_cases hkind : code = other ∧ o = p
  · obtain ⟨rfl, rfl⟩ := hkind
    refine do_call Tryz.call64 (c_sunion ho hsx4 hsy4 hx4 hy (by omega) fun bu U w5 g5 hsx5 _ hu mu lu => retS_ret ⟨_, _, rfl, ?_⟩)
    have E5 := Ext.gs E4 g5 hb
    have hsy5 := hsy4.gd (gd_gs (S := [b]) g5 (by simp)) (by simpa using Ne.symm hbne)
    have hx5 := hx4.gs hsx4 g5
    have hy5 := hy.gs hsx4 g5
    refine do_call Tryz.call65 (c_smeet ho hsx5 hsy5 hx5 hy5 (by omega) fun bw W w6 g6 hsx6 _ hw mw lw => retS_ret ⟨_, _, rfl, ?_⟩)
    have E6 := Ext.gs E5 g6 hb
    have hsy6 := hsy5.gd (gd_gs (S := [b]) g6 (by simp)) (by simpa using Ne.symm hbne)
    have hx6 := hx5.gs hsx5 g6
    have hy6 := hy5.gs hsx5 g6
    have hu6 := hu.gs hsx5 g6
    refine do_call Tryz.call66 (c_sless ho hsx6 hsy6 hx6 hy6 (by omega) fun bz Z w7 g7 hsx7 _ hz mz lz => retS_ret ⟨_, _, rfl, ?_⟩)
    have E7 := Ext.gs E6 g7 hb
    have hsy7 := hsy6.gd (gd_gs (S := [b]) g7 (by simp)) (by simpa using Ne.symm hbne)
    have hx7 := hx6.gs hsx6 g7
    have hy7 := hy6.gs hsx6 g7
    have hu7 := hu6.gs hsx6 g7
    have hw7 := hw.gs hsx6 g7
    refine do_call Tryz.call67 (c_swithin ho hsx7 hsy7 hx7 hy7 (by omega) fun r w8 g8 hsx8 h8 => retS_ret ⟨_, _, rfl, ?_⟩)
    have E8 := Ext.gs E7 g8 hb
    have hx8 := hx7.gs hsx7 g8
    have hy8 := hy7.gs hsx7 g8
    have hu8 := hu7.gs hsx7 g8
    have hw8 := hw7.gs hsx7 g8
    have hz8 := hz.gs hsx7 g8
    intro K63
    refine ifB_f (by simp) ?_
    rw [show ((o : Int) != o) = false by simp]
    simp -zeta -zetaHave only [K63]
    refine ifB_f rfl ?_
    refine do_call Tryz.call68 (c_add40 ho (rk_nil _) (by omega) (fun x hx => by cases hx) List.Pairwise.nil (hl.ext E8) hn1 (by omega) iL fun pv nv cv w9 V e9 rv av mv zv => retS_ret ⟨_, _, _, rfl, ?_⟩)
    have E9 := E8.trans e9
    refine do_call Tryz.call68 (c_add40 ho (rk_nil _) (by omega) (fun x hx => by cases hx) List.Pairwise.nil (hm.ext E9) hn2 (by omega) iM fun pr nr cr w10 Q e10 rr ar mr zr => retS_ret ⟨_, _, _, rfl, ?_⟩)
    have E10 := E9.trans e10
    have rv10 := rv.ext e10
    have hVX : X = V := keys_ext hx.asc av fun k => by rw [mx, mv]; simp
    have hQY : Y = Q := keys_ext hy.asc ar fun k => by rw [my, mr]; simp
    subst hVX; subst hQY
    have hvl := rv.len
    have hrl := rr.len
    have iX : ∀ x ∈ X, In x := fun x hxx => iL x ((mx x).1 hxx)
    intro K82
    refine ifB_f rfl (ifB_f rfl (ifB_f rfl (ifB_f rfl ?_)))
    refine do_call Tryz.call69 (c_keep40 rv10.cs rv10.len (by omega) rr.cs rr.len (by omega) fun pk nk ck w11 e11 rk => retS_ret ⟨_, _, _, rfl, ?_⟩)
    have E11 := E10.trans e11
    have e811 := (e9.trans e10).trans e11
    have hin : r = (((nk : Nat) : Int) == 0) := by
      rw [Bool.eq_iff_iff, h8]
      have hz := rk.len
      constructor
      · intro a
        have : (X.filter fun k => decide (k ∈ Y) == false) = [] := List.filter_eq_nil_iff.2 fun k hk => by simp [a k hk]
        rw [this] at hz
        simp at hz ⊢
        omega
      · intro a k hk
        have hz0 : nk = 0 := by have : (nk : Int) = 0 := by simpa using a
                                omega
        rw [hz0] at hz
        have := List.filter_eq_nil_iff.1 (List.eq_nil_of_length_eq_zero hz) k hk
        simpa using this
    simp -zeta -zetaHave only [K82]
    refine ifB_f (by rw [hin]; simp) ?_
    intro K85
    refine do_call Tryz.call68 (c_add40 ho (rv10.ext e11) (by omega) iX av (rr.cs.ext e11) rr.len (by omega) (fun x hxx => iM x ((my x).1 hxx)) fun pa na ca w12 A e12 ra aa ma za => retS_ret ⟨_, _, _, rfl, ?_⟩)
    have e812 := e811.trans e12
    have hUA : U = A := keys_ext hu.asc aa fun k => by rw [mu, ma]
    subst hUA
    refine do_call Tryz.call70 (c_sis ho (hu8.ext e812) (by omega) ra.cs ra.len fun w13 e13 => retS_ret ⟨_, rfl, ifB_t rfl ?_⟩)
    have e813 := e812.trans e13
    have e1013 := (e11.trans e12).trans e13
    refine do_call Tryz.call69 (c_keep40 (rv10.cs.ext e1013) rv10.len (by omega) (rr.cs.ext e1013) rr.len (by omega) fun pb nb cb w14 e14 rb => retS_ret ⟨_, _, _, rfl, ?_⟩)
    have e814 := e813.trans e14
    have e1014 := e1013.trans e14
    have hW : W = X.filter fun k => decide (k ∈ Y) == true := keys_filter av hw.asc _ fun k => by rw [mw]; simp
    refine do_call Tryz.call70 (c_sis ho (hw8.ext e814) (by omega) (by rw [hW]; exact rb.cs) (by rw [hW]; exact rb.len) fun w15 e15 => retS_ret ⟨_, rfl, ifB_t rfl ?_⟩)
    have e815 := e814.trans e15
    have e1015 := e1014.trans e15
    refine do_call Tryz.call69 (c_keep40 (rv10.cs.ext e1015) rv10.len (by omega) (rr.cs.ext e1015) rr.len (by omega) fun pc nc cc w16 e16 rc => retS_ret ⟨_, _, _, rfl, ?_⟩)
    have e816 := e815.trans e16
    have e1016 := e1015.trans e16
    have hZ : Z = X.filter fun k => decide (k ∈ Y) == false := keys_filter av hz.asc _ fun k => by rw [mz]; simp
    refine do_call Tryz.call70 (c_sis ho (hz8.ext e816) (by omega) (by rw [hZ]; exact rc.cs) (by rw [hZ]; exact rc.len) fun w17 e17 => retS_ret ⟨_, rfl, ifB_t rfl ?_⟩)
    have e817 := e816.trans e17
    have e1017 := e1016.trans e17
    refine do_call Tryz.call70 (c_sis ho (hx8.ext e817) (by omega) (rv10.cs.ext e1017) rv10.len fun w18 e18 => retS_ret ⟨_, rfl, ifB_t rfl ?_⟩)
    have e818 := e817.trans e18
    have e1018 := e1017.trans e18
    refine do_call Tryz.call70 (c_sis ho (hy8.ext e818) (by omega) (rr.cs.ext e1018) rr.len fun w19 e19 => retS_ret ⟨_, rfl, ifB_t rfl ?_⟩)
    have e819 := e818.trans e19
    exact do_call Tryz.call62 (c_alive40 fun w20 e20 => retS_ret ⟨_, rfl, h _ ((E8.trans e819).trans e20)⟩)
  · have hne : code ≠ other ∨ o ≠ p := by
      by_cases h1 : code = other
      · exact .inr fun h2 => hkind ⟨h1, h2⟩
      · exact .inl h1
    refine do_call Tryz.call64 (c_sunion_no hsx4 hsy4 hx4 hy hne fun w5 e5 => retS_ret ⟨_, _, rfl, ?_⟩)
    refine do_call Tryz.call65 (c_smeet_no (hsx4.ext e5) (hsy4.ext e5) (hx4.ext e5) (hy.ext e5) hne fun w6 e6 => retS_ret ⟨_, _, rfl, ?_⟩)
    have e46 := e5.trans e6
    refine do_call Tryz.call66 (c_sless_no (hsx4.ext e46) (hsy4.ext e46) (hx4.ext e46) (hy.ext e46) hne fun w7 e7 => retS_ret ⟨_, _, rfl, ?_⟩)
    have e47 := e46.trans e7
    refine do_call Tryz.call67 (c_swithin_no (hsx4.ext e47) (hsy4.ext e47) (hx4.ext e47) (hy.ext e47) hne fun w8 e8 => retS_ret ⟨_, _, rfl, ?_⟩)
    have E8 := (E4.trans e47).trans e8
    intro K63
    have hK63 : K63 true w8 := by
      simp -zeta -zetaHave only [K63]
      refine ifB_t rfl ?_
      intro K66
      refine ifB_t rfl (ifB_t rfl (ifB_t rfl (ifB_t rfl (ifB_t rfl (ifB_t rfl (ifB_t rfl (ifB_t rfl ?_)))))))
      exact do_call Tryz.call62 (c_alive40 fun w9 e9 => retS_ret ⟨_, rfl, h _ (E8.trans e9)⟩)
    refine ifB_intro (fun _ => hK63) fun hcc => ?_
    have hcc : code = other := by simpa using hcc
    have hop : (o != p) = true := by simpa using hne.resolve_left fun k => k hcc
    rw [hop]; exact hK63
end Go.Proofs.YtlddfgfmkapoiaaGreat

