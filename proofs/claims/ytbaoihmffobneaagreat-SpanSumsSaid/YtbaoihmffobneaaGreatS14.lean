/-
  Printed by a program (gen.py): what the functions of the program do, as formulas; each with the proof that its call is what the formula says.
-/
import Derived.Test.YtbaoihmffobneaaGreatPb
import Derived.Test.YtbaoihmffobneaaGreatProg
import Derived.Test.YtbaoihmffobneaaGreatPd
namespace Go.Proofs.YtbaoihmffobneaaGreat
open Go Go.Sh
set_option maxRecDepth 100000 in
/-- slices.Clone[[]joinery/api.Pair,joinery/api.Pair] -/
def sh126 (s_p1 : Option Addr) (s_n2 : Nat) (s_c3 : Nat) (R : Ending → World → Prop) (w : World) : Prop :=
 ifB ((s_p1 : Option Addr).isNone) (
 R (.returned (.slice none 0 0)) w) (
 doAl (.cells #[] 76) w (fun b4 w5 =>
 doGo Tryz.prog (.builtin .append #[63, 63] 63 #[false, false]) #[.slice (some (blk b4)) 0 0, .slice s_p1 s_n2 s_c3] w5 (retS (fun v9 w10 => ∃ (xp6 : Option Addr), ∃ (xn7 : Nat), ∃ (xc8 : Nat), v9 = (.slice xp6 xn7 xc8 : Value) ∧ (
 R (.returned (.slice xp6 xn7 xc8)) w10)) (fun ch w => Kfn R ch [] w))))
set_option maxRecDepth 100000 in
theorem sh126_ok (s_p1 : Option Addr) (s_n2 : Nat) (s_c3 : Nat) {R : Ending → World → Prop} {w : World} : sh126 s_p1 s_n2 s_c3 R w → Calls Tryz.prog 126 #[.slice s_p1 s_n2 s_c3] w R :=
  calls_of_eq (ann := fun _ => []) (fn := Tryz.f126) (c := bodyOf Tryz.f126) (args := #[.slice s_p1 s_n2 s_c3]) 400 follows_mixed Tryz.func126 (by kernel_rfl) (by kernel_rfl)
end Go.Proofs.YtbaoihmffobneaaGreat
