/-
  Printed by a program (gen.py): what the functions of the program do, as formulas; each with the proof that its call is what the formula says.
-/
import Derived.Test.YtbaoihmffobneaaGreatPb
import Derived.Test.YtbaoihmffobneaaGreatProg
import Derived.Test.YtbaoihmffobneaaGreatPd
namespace Go.Proofs.YtbaoihmffobneaaGreat
open Go Go.Sh
set_option maxRecDepth 100000 in
/-- joinery/joineryref05.Sort -/
def sh93 (o_1 : Int) (p_2 : Int) (l_p3 : Option Addr) (l_n4 : Nat) (_l_c5 : Nat) (R : Ending → World → Prop) (w : World) : Prop :=
 let K8 : Bool → World → Prop := fun (x6 : Bool) (w7 : World) => 
 ifB x6 (
 R (.returned (.tuple #[.slice none 0 0, .int .i64 2])) w7) (
 ∃ (I9 : List Value → World → Prop) (μ10 : List Value → World → Nat), I9 [.slice none 0 0, .int .i64 0] w7 ∧ (∀ (out_p13 : Option Addr), ∀ (out_n14 : Nat), ∀ (out_c15 : Nat), ∀ (i_16 : Int), ∀ (_j11 : Nat → Value) (w12 : World), I9 [.slice out_p13 out_n14 out_c15, .int .i64 i_16] w12 → (
 ifB (decide ((i_16 : Int) < ((l_n4 : Nat) : Int))) (
 doIx l_p3 l_n4 2 (i_16) (fun a17 =>
 ∃ (x18 : Int), World.cell? w12 (a17.add 0) = some (.int .i64 x18) ∧ (
 ∃ (x19 : Int), World.cell? w12 (a17.add 1) = some (.int .i64 x19) ∧ (
 doCall Tryz.prog (.func (.func 130) #[] #[]) #[.int .u8 o_1, .int .u8 p_2, .slice out_p13 out_n14 out_c15, .agg #[.int .i64 x18, .int .i64 x19]] w12 (retS (fun v24 w25 => ∃ (xp20 : Option Addr), ∃ (xn21 : Nat), ∃ (xc22 : Nat), ∃ (x23 : Int), v24 = (.tuple #[.slice xp20 xn21 xc22, .int .i64 x23] : Value) ∧ (
 I9 [.slice xp20 xn21 xc22, .int .i64 (IntKind.wrap .i64 (i_16 + 1))] w25 ∧ μ10 [.slice xp20 xn21 xc22, .int .i64 (IntKind.wrap .i64 (i_16 + 1))] w25 < μ10 [.slice out_p13 out_n14 out_c15, .int .i64 i_16] w12)) (fun ch w => Kfn R ch [] w)))))) (
 R (.returned (.tuple #[.slice out_p13 out_n14 out_c15, .int .i64 0])) w12))))
 doCall Tryz.prog (.func (.func 42) #[] #[]) #[.int .u8 o_1] w (retS (fun v27 w28 => ∃ (x26 : Bool), v27 = (.bool x26 : Value) ∧ (
 ifB (!x26) (
 R (.returned (.tuple #[.slice none 0 0, .int .i64 2])) w28) (
 doCall Tryz.prog (.func (.func 11) #[] #[]) #[.int .u8 p_2] w28 (retS (fun v30 w31 => ∃ (x29 : Bool), v30 = (.bool x29 : Value) ∧ (
 K8 (!x29) w31)) (fun ch w => Kfn R ch [] w))))) (fun ch w => Kfn R ch [] w))
set_option maxRecDepth 100000 in
theorem sh93_ok (o_1 : Int) (p_2 : Int) (l_p3 : Option Addr) (l_n4 : Nat) (l_c5 : Nat) {R : Ending → World → Prop} {w : World} : sh93 o_1 p_2 l_p3 l_n4 l_c5 R w → Calls Tryz.prog 93 #[.int .u8 o_1, .int .u8 p_2, .slice l_p3 l_n4 l_c5] w R :=
  calls_of_eq (ann := fun i => if i = 0 then [(8, .slice none 0 0), (9, .int .i64 0)] else []) (fn := Tryz.f93) (c := bodyOf Tryz.f93) (args := #[.int .u8 o_1, .int .u8 p_2, .slice l_p3 l_n4 l_c5]) 400 follows_mixed Tryz.func93 (by kernel_rfl) (by kernel_rfl)
end Go.Proofs.YtbaoihmffobneaaGreat
