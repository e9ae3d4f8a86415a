/-
  The arguments of the statements, opened.
-/
import Derived.Test.YtbaoihmffobneaaGreatPj
import Derived.Test.YtbaoihmffobneaaGreatPc

namespace Go.Proofs.YtbaoihmffobneaaGreat
open Go Go.Sh Go.RowKit Go.ChangeShapes Go.WideShapes

variable {H : Type} {enc : TypeId × Value → H} {w : World} {base : Nat} {spare : Nat → Bool} {held : Bool}
/-- a slice of pairs that came in -/
def Is_pairs (w : World) (q : Option Addr) (len cap : Nat) (l : List Pr) : Prop := l.length = len ∧ Cs w q (prs l) ∧ InP l ∧ len ≤ cap ∧ cap ≤ maxLen ∧ (q = none → len = 0 ∧ cap = 0)
set_option maxRecDepth 100000 in
theorem pairs_arg {q : Option Addr} {len cap : Nat} {d : DataW H} {p : List MemPlace} (h : DataW.Trod enc Tryz.prog w base spare held 63 (.slice q len cap) d p) : ∃ l : List Pr, Is_pairs w q len cap l :=
  arg_slice (ec := fun x : Pr => [.int .i64 x.1, .int .i64 x.2]) (Pr := fun x => In x.1 ∧ In x.2) (s := 2) (fun _ => rfl) Tryz.underlying63 (by kernel_rfl)
    (dec_int2 Tryz.underlying76 rfl rfl Tryz.underlying2 rfl rfl (by kernel_rfl) (by kernel_rfl)) h
set_option maxRecDepth 100000 in
theorem pair_arg {r : Reach} {b0 : Nat} {v : Value} {d : DataW H} {p : List MemPlace} (hv : Value.okWide Tryz.prog w r b0 76 v) (h : DataW.Trod enc Tryz.prog w base spare held 76 v d p) :
    ∃ x : Int × Int, v = .agg #[.int .i64 x.1, .int .i64 x.2] ∧ (In x.1 ∧ In x.2) := by
  obtain ⟨cs, rfl, hsz⟩ := okWide_struct Tryz.underlying76 hv
  obtain ⟨n, y, hy⟩ := arg_struct h
  obtain ⟨x, hx, hI⟩ := dec_int2 Tryz.underlying76 rfl rfl Tryz.underlying2 rfl rfl (by kernel_rfl) (by kernel_rfl) n _ y hy
  refine ⟨x, ?_, hI⟩
  simp only [Value.cells] at hx
  rw [show cs = #[.int .i64 x.1, .int .i64 x.2] from Array.toList_inj.1 hx]
set_option maxRecDepth 100000 in
theorem item_arg {r : Reach} {b0 : Nat} {v : Value} {d : DataW H} {p : List MemPlace} (hv : Value.okWide Tryz.prog w r b0 93 v) (h : DataW.Trod enc Tryz.prog w base spare held 93 v d p) :
    ∃ x : Int × Int × Int, v = .agg #[.int .i64 x.1, .int .i64 x.2.1, .int .u64 x.2.2] ∧ (In x.1 ∧ In x.2.1 ∧ (0 ≤ x.2.2 ∧ x.2.2 < 18446744073709551616)) := by
  obtain ⟨cs, rfl, hsz⟩ := okWide_struct Tryz.underlying93 hv
  obtain ⟨n, y, hy⟩ := arg_struct h
  obtain ⟨xs, n', _, hx, hl, hlen, hf⟩ := DataW.trod_struct Tryz.underlying93 hy
  have hce : Tryz.prog.cellsOf 93 = 3 := by kernel_rfl
  have hc1 : Tryz.prog.cellsOf 2 = 1 := by kernel_rfl
  have hc3 : Tryz.prog.cellsOf 90 = 1 := by kernel_rfl
  rw [hce] at hl
  simp only [Value.cells] at hl hf
  obtain ⟨l, rfl⟩ : ∃ l : List Value, cs = l.toArray := ⟨cs.toList, by simp⟩
  simp only at hl hf
  match l, hl, xs, hlen with
  | [c0, c1, c2], _, [y0, y1, y2], _ =>
    have h0 : DataW.trod enc Tryz.prog w base spare held n' 2 [c0] = some y0 := by simpa [hc1] using hf 0 _ rfl
    have h1 : DataW.trod enc Tryz.prog w base spare held n' 2 [c1] = some y1 := by simpa [hc1] using hf 1 _ rfl
    have h2 : DataW.trod enc Tryz.prog w base spare held n' 90 [c2] = some y2 := by simpa [hc1, hc3] using hf 2 _ rfl
    obtain ⟨m0, e0, _, w0⟩ := DataW.trod_int Tryz.underlying2 h0
    obtain ⟨m1, e1, _, w1⟩ := DataW.trod_int Tryz.underlying2 h1
    obtain ⟨m2, e2, _, w2⟩ := DataW.trod_int Tryz.underlying90 h2
    simp only [List.cons.injEq, and_true] at e0 e1 e2
    subst e0 e1 e2
    exact ⟨(m0, m1, m2), rfl, in64_of w0, in64_of w1, u64_of w2⟩
/-- a slice of steps that came in -/
def Is_steps (w : World) (q : Option Addr) (len cap : Nat) (l : List ((Int × Int) × Bool)) : Prop :=
  l.length = len ∧ Cs w q (l.flatMap fun x => [.int .i64 x.1.1, .int .i64 x.1.2, .bool x.2]) ∧ (∀ x ∈ l, In x.1.1 ∧ In x.1.2) ∧ len ≤ cap ∧ cap ≤ maxLen ∧ (q = none → len = 0 ∧ cap = 0)
/-- a slice of beads that came in -/
def Is_beads (w : World) (q : Option Addr) (len cap : Nat) (l : List Bd) : Prop :=
  l.length = len ∧ Cs w q (bds l) ∧ (∀ x ∈ l, In x.key ∧ In x.val ∧ (0 ≤ x.tag ∧ x.tag < 18446744073709551616)) ∧ len ≤ cap ∧ cap ≤ maxLen ∧ (q = none → len = 0 ∧ cap = 0)
set_option maxRecDepth 100000 in
theorem beads_arg {q : Option Addr} {len cap : Nat} {d : DataW H} {p : List MemPlace} (h : DataW.Trod enc Tryz.prog w base spare held 22 (.slice q len cap) d p) : ∃ l, Is_beads w q len cap l := by
  refine arg_slice (ec := ecB) (Pr := fun x => In x.key ∧ In x.val ∧ (0 ≤ x.tag ∧ x.tag < 18446744073709551616)) (s := 7) (fun _ => rfl) Tryz.underlying22 (by kernel_rfl) (fun n cs y hy => ?_) h
  obtain ⟨xs, n', _, hx, hl, hlen, hf⟩ := DataW.trod_struct Tryz.underlying97 hy
  have hce : Tryz.prog.cellsOf 97 = 7 := by kernel_rfl
  have hc1 : Tryz.prog.cellsOf 2 = 1 := by kernel_rfl
  have hc2 : Tryz.prog.cellsOf 3 = 1 := by kernel_rfl
  have hc3 : Tryz.prog.cellsOf 90 = 1 := by kernel_rfl
  have hc4 : Tryz.prog.cellsOf 4 = 1 := by kernel_rfl
  rw [hce] at hl
  match cs, hl, xs, hlen with
  | [c0, c1, c2, c3, c4, c5, c6], _, [y0, y1, y2, y3, y4, y5, y6], _ =>
    have h0 : DataW.trod enc Tryz.prog w base spare held n' 2 [c0] = some y0 := by simpa [hc1] using hf 0 _ rfl
    have h1 : DataW.trod enc Tryz.prog w base spare held n' 2 [c1] = some y1 := by simpa [hc1] using hf 1 _ rfl
    have h2 : DataW.trod enc Tryz.prog w base spare held n' 2 [c2] = some y2 := by simpa [hc1] using hf 2 _ rfl
    have h3 : DataW.trod enc Tryz.prog w base spare held n' 3 [c3] = some y3 := by simpa [hc2] using hf 3 _ rfl
    have h4 : DataW.trod enc Tryz.prog w base spare held n' 90 [c4] = some y4 := by simpa [hc3] using hf 4 _ rfl
    have h5 : DataW.trod enc Tryz.prog w base spare held n' 4 [c5] = some y5 := by simpa [hc4] using hf 5 _ rfl
    have h6 : DataW.trod enc Tryz.prog w base spare held n' 4 [c6] = some y6 := by simpa [hc4] using hf 6 _ rfl
    obtain ⟨m0, e0, _, w0⟩ := DataW.trod_int Tryz.underlying2 h0
    obtain ⟨m1, e1, _, w1⟩ := DataW.trod_int Tryz.underlying2 h1
    obtain ⟨m2, e2, _, w2⟩ := DataW.trod_int Tryz.underlying2 h2
    obtain ⟨m3, e3, _, w3⟩ := DataW.trod_int Tryz.underlying3 h3
    obtain ⟨m4, e4, _, w4⟩ := DataW.trod_int Tryz.underlying90 h4
    obtain ⟨b5, e5, _⟩ := DataW.trod_bool Tryz.underlying4 h5
    obtain ⟨b6, e6, _⟩ := DataW.trod_bool Tryz.underlying4 h6
    simp only [List.cons.injEq, and_true] at e0 e1 e2 e3 e4 e5 e6
    subst e0 e1 e2 e3 e4 e5 e6
    exact ⟨⟨m0, m1, m2, m3, m4, b5, b6⟩, rfl, in64_of w0, in64_of w1, u64_of w4⟩
/-- a slice of numbers that came in -/
def Is_ints (w : World) (q : Option Addr) (len cap : Nat) (l : List Int) : Prop := l.length = len ∧ Cs w q (ints l) ∧ (∀ x ∈ l, In x) ∧ len ≤ cap ∧ cap ≤ maxLen ∧ (q = none → len = 0 ∧ cap = 0)
abbrev Is_ns := Is_ints
theorem ints_of {t e : TypeId} (ht : Tryz.prog.underlying t = some (.slice e)) (he : Tryz.prog.underlying e = some (.int .i64)) (hc : Tryz.prog.cellsOf e = 1) {q : Option Addr} {len cap : Nat} {d : DataW H} {p : List MemPlace}
    (h : DataW.Trod enc Tryz.prog w base spare held t (.slice q len cap) d p) : ∃ l, Is_ints w q len cap l := by
  obtain ⟨l, h1, h2, h3⟩ := arg_slice (ec := fun x : Int => [.int .i64 x]) (Pr := fun x => In x) (s := 1) (fun _ => rfl) ht hc (fun n cs y hy => by
    obtain ⟨m, hm, _, hw⟩ := DataW.trod_int he hy
    exact ⟨m, hm, in64_of hw⟩) h
  refine ⟨l, h1, ?_, h3⟩
  unfold ints
  rw [List.map_eq_flatMap]
  exact h2
set_option maxRecDepth 100000 in
theorem ints_arg {q : Option Addr} {len cap : Nat} {d : DataW H} {p : List MemPlace} (h : DataW.Trod enc Tryz.prog w base spare held 65 (.slice q len cap) d p) : ∃ l, Is_ints w q len cap l :=
  ints_of Tryz.underlying65 Tryz.underlying2 (by kernel_rfl) h
set_option maxRecDepth 100000 in
theorem ns_arg {q : Option Addr} {len cap : Nat} {d : DataW H} {p : List MemPlace} (h : DataW.Trod enc Tryz.prog w base spare held 303 (.slice q len cap) d p) : ∃ l, Is_ns w q len cap l :=
  ints_of Tryz.underlying303 Tryz.underlying3 (by kernel_rfl) h
/-- a slice of bytes that came in -/
def Is_bytes (w : World) (q : Option Addr) (len cap : Nat) (l : List Int) : Prop := l.length = len ∧ Cs w q (u8s l) ∧ (∀ x ∈ l, 0 ≤ x ∧ x < 256) ∧ len ≤ cap ∧ cap ≤ maxLen ∧ (q = none → len = 0 ∧ cap = 0)
end Go.Proofs.YtbaoihmffobneaaGreat
