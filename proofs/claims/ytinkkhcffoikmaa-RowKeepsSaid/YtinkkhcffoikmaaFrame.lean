/-
  The arguments of the statements, opened.
-/
import Derived.Test.YtinkkhcffoikmaaRow
import Derived.Test.YtinkkhcffoikmaaFr
namespace Go.Proofs.Ytinkkhcffoikmaa
open Go Go.Sh Go.RowKit Go.ChangeShapes Go.WideShapes

variable {H : Type} {enc : TypeId × Value → H} {w : World} {base : Nat} {spare : Nat → Bool} {held : Bool}
/-- a slice of pairs that came in -/
def Is_pairs (w : World) (q : Option Addr) (len cap : Nat) (l : List Pr) : Prop := l.length = len ∧ Cs w q (prs l) ∧ InP l ∧ len ≤ cap ∧ cap ≤ maxLen ∧ (q = none → len = 0 ∧ cap = 0)
set_option maxRecDepth 100000 in
theorem pairs_arg {q : Option Addr} {len cap : Nat} {d : DataW H} {p : List MemPlace} (h : DataW.Trod enc Try.prog w base spare held 33 (.slice q len cap) d p) : ∃ l : List Pr, Is_pairs w q len cap l :=
  arg_slice (ec := fun x : Pr => [.int .i64 x.1, .int .i64 x.2]) (Pr := fun x => In x.1 ∧ In x.2) (s := 2) (fun _ => rfl) Try.underlying33 (by kernel_rfl)
    (dec_int2 Try.underlying38 rfl rfl Try.underlying2 rfl rfl (by kernel_rfl) (by kernel_rfl)) h
set_option maxRecDepth 100000 in
theorem pair_arg {r : Reach} {b0 : Nat} {v : Value} {d : DataW H} {p : List MemPlace} (hv : Value.okWide Try.prog w r b0 38 v) (h : DataW.Trod enc Try.prog w base spare held 38 v d p) :
    ∃ x : Int × Int, v = .agg #[.int .i64 x.1, .int .i64 x.2] ∧ (In x.1 ∧ In x.2) := by
  obtain ⟨cs, rfl, hsz⟩ := okWide_struct Try.underlying38 hv
  obtain ⟨n, y, hy⟩ := arg_struct h
  obtain ⟨x, hx, hI⟩ := dec_int2 Try.underlying38 rfl rfl Try.underlying2 rfl rfl (by kernel_rfl) (by kernel_rfl) n _ y hy
  refine ⟨x, ?_, hI⟩
  simp only [Value.cells] at hx
  rw [show cs = #[.int .i64 x.1, .int .i64 x.2] from Array.toList_inj.1 hx]
/-- a slice of steps that came in -/
def Is_steps (w : World) (q : Option Addr) (len cap : Nat) (l : List ((Int × Int) × Bool)) : Prop :=
  l.length = len ∧ Cs w q (l.flatMap fun x => [.int .i64 x.1.1, .int .i64 x.1.2, .bool x.2]) ∧ (∀ x ∈ l, In x.1.1 ∧ In x.1.2) ∧ len ≤ cap ∧ cap ≤ maxLen ∧ (q = none → len = 0 ∧ cap = 0)
set_option maxRecDepth 100000 in
theorem steps_arg {q : Option Addr} {len cap : Nat} {d : DataW H} {p : List MemPlace} (h : DataW.Trod enc Try.prog w base spare held 58 (.slice q len cap) d p) : ∃ l, Is_steps w q len cap l := by
  refine arg_slice (ec := fun x : (Int × Int) × Bool => [.int .i64 x.1.1, .int .i64 x.1.2, .bool x.2]) (Pr := fun x => In x.1.1 ∧ In x.1.2) (s := 3) (fun _ => rfl) Try.underlying58 (by kernel_rfl) (fun n cs y hy => ?_) h
  obtain ⟨y0, y1, n', hx, hl, hf0, hf1⟩ := trod_struct2 Try.underlying60 hy
  have hce : Try.prog.cellsOf 60 = 3 := by kernel_rfl
  have hcp : Try.prog.cellsOf 38 = 2 := by kernel_rfl
  have hcb : Try.prog.cellsOf 4 = 1 := by kernel_rfl
  rw [hce] at hl
  match cs, hl with
  | [c0, c1, c2], _ =>
    have hf0' : DataW.trod enc Try.prog w base spare held n' 38 [c0, c1] = some y0 := by simpa [hcp] using hf0
    have hf1' : DataW.trod enc Try.prog w base spare held n' 4 [c2] = some y1 := by simpa [hcb] using hf1
    obtain ⟨x, hx, hI⟩ := dec_int2 Try.underlying38 rfl rfl Try.underlying2 rfl rfl (by kernel_rfl) (by kernel_rfl) n' _ y0 hf0'
    obtain ⟨b, hb, _⟩ := DataW.trod_bool Try.underlying4 hf1'
    simp at hx hb
    obtain ⟨rfl, rfl⟩ := hx
    subst hb
    exact ⟨(x, b), rfl, hI⟩
end Go.Proofs.Ytinkkhcffoikmaa
