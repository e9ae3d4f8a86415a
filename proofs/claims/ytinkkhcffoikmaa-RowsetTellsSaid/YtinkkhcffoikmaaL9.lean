/-
  Printed by a program (gen.py): what the functions of the program do, as formulas; each with the proof that its call is what the formula says.
-/
import Derived.Test.YtinkkhcffoikmaaCd
import Derived.Test.YtinkkhcffoikmaaProg
import Derived.Test.YtinkkhcffoikmaaS1
namespace Go.Proofs.Ytinkkhcffoikmaa
open Go Go.Sh
set_option maxRecDepth 100000 in
/-- joinery/joinerylaw05.RowsetAlgebra -/
def sh9 (o_1 : Int) (p_2 : Int) (a_p3 : Option Addr) (a_n4 : Nat) (a_c5 : Nat) (b_p6 : Option Addr) (b_n7 : Nat) (b_c8 : Nat) (R : Ending → World → Prop) (w : World) : Prop :=
 let K11 : Bool → World → Prop := fun (x9 : Bool) (w10 : World) => 
 ifB x9 (
 doCall Try.prog (.func (.func 53) #[] #[]) #[] w10 (retS (fun v13 w14 => ∃ (x12 : Bool), v13 = (.bool x12 : Value) ∧ (
 R (.returned (.bool x12)) w14)) (fun ch w => Kfn R ch [] w))) (
 7 ≠ (0 : Int) ∧ (
 3 ≠ (0 : Int) ∧ (
 doCall Try.prog (.func (.func 54) #[] #[]) #[.int .u8 (IntKind.wrap .u8 (1 + (Int.tmod o_1 7))), .slice a_p3 a_n4 a_c5, .slice b_p6 b_n7 b_c8, .slice none 0 0] w10 (retS (fun v25 w26 => ∃ (xp15 : Option Addr), ∃ (xn16 : Nat), ∃ (xc17 : Nat), ∃ (xp18 : Option Addr), ∃ (xn19 : Nat), ∃ (xc20 : Nat), ∃ (xp21 : Option Addr), ∃ (xn22 : Nat), ∃ (xc23 : Nat), ∃ (x24 : Bool), v25 = (.tuple #[.slice xp15 xn16 xc17, .slice xp18 xn19 xc20, .slice xp21 xn22 xc23, .bool x24] : Value) ∧ (
 doCall Try.prog (.func (.func 55) #[] #[]) #[.int .u8 (IntKind.wrap .u8 (1 + (Int.tmod o_1 7))), .int .u8 (IntKind.wrap .u8 (1 + (Int.tmod p_2 3))), .slice xp15 xn16 xc17, .slice xp18 xn19 xc20] w26 (retS (fun v31 w32 => ∃ (xp27 : Option Addr), ∃ (xn28 : Nat), ∃ (xc29 : Nat), ∃ (x30 : Int), v31 = (.tuple #[.slice xp27 xn28 xc29, .int .i64 x30] : Value) ∧ (
 doCall Try.prog (.func (.func 56) #[] #[]) #[.int .u8 (IntKind.wrap .u8 (1 + (Int.tmod o_1 7))), .int .u8 (IntKind.wrap .u8 (1 + (Int.tmod p_2 3))), .slice xp15 xn16 xc17, .slice xp18 xn19 xc20] w32 (retS (fun v37 w38 => ∃ (xp33 : Option Addr), ∃ (xn34 : Nat), ∃ (xc35 : Nat), ∃ (x36 : Int), v37 = (.tuple #[.slice xp33 xn34 xc35, .int .i64 x36] : Value) ∧ (
 doCall Try.prog (.func (.func 57) #[] #[]) #[.int .u8 (IntKind.wrap .u8 (1 + (Int.tmod o_1 7))), .slice xp15 xn16 xc17, .slice xp18 xn19 xc20] w38 (retS (fun v43 w44 => ∃ (xp39 : Option Addr), ∃ (xn40 : Nat), ∃ (xc41 : Nat), ∃ (x42 : Int), v43 = (.tuple #[.slice xp39 xn40 xc41, .int .i64 x42] : Value) ∧ (
 doCall Try.prog (.func (.func 57) #[] #[]) #[.int .u8 (IntKind.wrap .u8 (1 + (Int.tmod o_1 7))), .slice xp18 xn19 xc20, .slice xp15 xn16 xc17] w44 (retS (fun v49 w50 => ∃ (xp45 : Option Addr), ∃ (xn46 : Nat), ∃ (xc47 : Nat), ∃ (x48 : Int), v49 = (.tuple #[.slice xp45 xn46 xc47, .int .i64 x48] : Value) ∧ (
 doCall Try.prog (.func (.func 58) #[] #[]) #[.int .u8 (IntKind.wrap .u8 (1 + (Int.tmod o_1 7))), .slice xp15 xn16 xc17, .slice xp18 xn19 xc20] w50 (retS (fun v55 w56 => ∃ (xp51 : Option Addr), ∃ (xn52 : Nat), ∃ (xc53 : Nat), ∃ (x54 : Int), v55 = (.tuple #[.slice xp51 xn52 xc53, .int .i64 x54] : Value) ∧ (
 let K59 : Bool → World → Prop := fun (x57 : Bool) (w58 : World) => 
 ifB x57 (
 R (.returned (.bool false)) w58) (
 let K62 : Bool → World → Prop := fun (x60 : Bool) (w61 : World) => 
 ifB x60 (
 R (.returned (.bool false)) w61) (
 doCall Try.prog (.func (.func 55) #[] #[]) #[.int .u8 (IntKind.wrap .u8 (1 + (Int.tmod o_1 7))), .int .u8 (IntKind.wrap .u8 (1 + (Int.tmod p_2 3))), .slice xp39 xn40 xc41, .slice xp45 xn46 xc47] w61 (retS (fun v67 w68 => ∃ (xp63 : Option Addr), ∃ (xn64 : Nat), ∃ (xc65 : Nat), ∃ (x66 : Int), v67 = (.tuple #[.slice xp63 xn64 xc65, .int .i64 x66] : Value) ∧ (
 doCall Try.prog (.func (.func 55) #[] #[]) #[.int .u8 (IntKind.wrap .u8 (1 + (Int.tmod o_1 7))), .int .u8 (IntKind.wrap .u8 (1 + (Int.tmod p_2 3))), .slice xp33 xn34 xc35, .slice xp51 xn52 xc53] w68 (retS (fun v73 w74 => ∃ (xp69 : Option Addr), ∃ (xn70 : Nat), ∃ (xc71 : Nat), ∃ (x72 : Int), v73 = (.tuple #[.slice xp69 xn70 xc71, .int .i64 x72] : Value) ∧ (
 doCall Try.prog (.func (.func 57) #[] #[]) #[.int .u8 (IntKind.wrap .u8 (1 + (Int.tmod o_1 7))), .slice xp27 xn28 xc29, .slice xp33 xn34 xc35] w74 (retS (fun v79 w80 => ∃ (xp75 : Option Addr), ∃ (xn76 : Nat), ∃ (xc77 : Nat), ∃ (x78 : Int), v79 = (.tuple #[.slice xp75 xn76 xc77, .int .i64 x78] : Value) ∧ (
 let K83 : Bool → World → Prop := fun (x81 : Bool) (w82 : World) => 
 R (.returned (.bool x81)) w82
 ifB ((x66 : Int) == 0) (
 ifB ((x72 : Int) == 0) (
 ifB ((x78 : Int) == 0) (
 doCall Try.prog (.func (.func 50) #[] #[]) #[.slice xp63 xn64 xc65, .slice xp51 xn52 xc53] w80 (retS (fun v85 w86 => ∃ (x84 : Bool), v85 = (.bool x84 : Value) ∧ (
 ifB x84 (
 doCall Try.prog (.func (.func 50) #[] #[]) #[.slice xp69 xn70 xc71, .slice xp27 xn28 xc29] w86 (retS (fun v88 w89 => ∃ (x87 : Bool), v88 = (.bool x87 : Value) ∧ (
 ifB x87 (
 doCall Try.prog (.func (.func 50) #[] #[]) #[.slice xp75 xn76 xc77, .slice xp51 xn52 xc53] w89 (retS (fun v91 w92 => ∃ (x90 : Bool), v91 = (.bool x90 : Value) ∧ (
 ifB x90 (
 doCall Try.prog (.func (.func 53) #[] #[]) #[] w92 (retS (fun v94 w95 => ∃ (x93 : Bool), v94 = (.bool x93 : Value) ∧ (
 K83 x93 w95)) (fun ch w => Kfn R ch [] w))) (
 R (.returned (.bool false)) w92))) (fun ch w => Kfn R ch [] w))) (
 R (.returned (.bool false)) w89))) (fun ch w => Kfn R ch [] w))) (
 R (.returned (.bool false)) w86))) (fun ch w => Kfn R ch [] w))) (
 R (.returned (.bool false)) w80)) (
 R (.returned (.bool false)) w80)) (
 R (.returned (.bool false)) w80))) (fun ch w => Kfn R ch [] w)))) (fun ch w => Kfn R ch [] w)))) (fun ch w => Kfn R ch [] w)))
 ifB (((IntKind.wrap .i64 (((xn28 : Nat) : Int) + ((xn34 : Nat) : Int))) : Int) != (IntKind.wrap .i64 (((xn16 : Nat) : Int) + ((xn19 : Nat) : Int)))) (
 R (.returned (.bool false)) w58) (
 ifB (((IntKind.wrap .i64 (((xn52 : Nat) : Int) + ((xn34 : Nat) : Int))) : Int) != ((xn28 : Nat) : Int)) (
 R (.returned (.bool false)) w58) (
 ifB (((IntKind.wrap .i64 (((xn40 : Nat) : Int) + ((xn34 : Nat) : Int))) : Int) != ((xn16 : Nat) : Int)) (
 R (.returned (.bool false)) w58) (
 doCall Try.prog (.func (.func 40) #[] #[]) #[.int .u8 (IntKind.wrap .u8 (1 + (Int.tmod o_1 7))), .slice xp27 xn28 xc29] w58 (retS (fun v97 w98 => ∃ (x96 : Bool), v97 = (.bool x96 : Value) ∧ (
 ifB (!x96) (
 R (.returned (.bool false)) w98) (
 doCall Try.prog (.func (.func 40) #[] #[]) #[.int .u8 (IntKind.wrap .u8 (1 + (Int.tmod o_1 7))), .slice xp33 xn34 xc35] w98 (retS (fun v100 w101 => ∃ (x99 : Bool), v100 = (.bool x99 : Value) ∧ (
 ifB (!x99) (
 R (.returned (.bool false)) w101) (
 doCall Try.prog (.func (.func 40) #[] #[]) #[.int .u8 (IntKind.wrap .u8 (1 + (Int.tmod o_1 7))), .slice xp51 xn52 xc53] w101 (retS (fun v103 w104 => ∃ (x102 : Bool), v103 = (.bool x102 : Value) ∧ (
 K62 (!x102) w104)) (fun ch w => Kfn R ch [] w))))) (fun ch w => Kfn R ch [] w))))) (fun ch w => Kfn R ch [] w))))))
 ifB (!x24) (
 R (.returned (.bool false)) w56) (
 ifB ((x30 : Int) != 0) (
 R (.returned (.bool false)) w56) (
 ifB ((x36 : Int) != 0) (
 R (.returned (.bool false)) w56) (
 ifB ((x42 : Int) != 0) (
 R (.returned (.bool false)) w56) (
 ifB ((x48 : Int) != 0) (
 R (.returned (.bool false)) w56) (
 K59 ((x54 : Int) != 0) w56))))))) (fun ch w => Kfn R ch [] w)))) (fun ch w => Kfn R ch [] w)))) (fun ch w => Kfn R ch [] w)))) (fun ch w => Kfn R ch [] w)))) (fun ch w => Kfn R ch [] w)))) (fun ch w => Kfn R ch [] w)))))
 ifB (decide ((((a_n4 : Nat) : Int) : Int) > 100)) (
 doCall Try.prog (.func (.func 53) #[] #[]) #[] w (retS (fun v106 w107 => ∃ (x105 : Bool), v106 = (.bool x105 : Value) ∧ (
 R (.returned (.bool x105)) w107)) (fun ch w => Kfn R ch [] w))) (
 K11 (decide ((((b_n7 : Nat) : Int) : Int) > 100)) w)
set_option maxRecDepth 100000 in
theorem sh9_ok (o_1 : Int) (p_2 : Int) (a_p3 : Option Addr) (a_n4 : Nat) (a_c5 : Nat) (b_p6 : Option Addr) (b_n7 : Nat) (b_c8 : Nat) {R : Ending → World → Prop} {w : World} : sh9 o_1 p_2 a_p3 a_n4 a_c5 b_p6 b_n7 b_c8 R w → Calls Try.prog 9 #[.int .u8 o_1, .int .u8 p_2, .slice a_p3 a_n4 a_c5, .slice b_p6 b_n7 b_c8] w R :=
  calls_of_eq (ann := fun _ => []) (fn := Try.f9) (c := bodyOf Try.f9) (args := #[.int .u8 o_1, .int .u8 p_2, .slice a_p3 a_n4 a_c5, .slice b_p6 b_n7 b_c8]) 400 follows_mixed Try.func9 (by kernel_rfl) (by kernel_rfl)
end Go.Proofs.Ytinkkhcffoikmaa
