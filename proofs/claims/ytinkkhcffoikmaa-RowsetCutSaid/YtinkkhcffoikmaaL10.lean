/-
  Printed by a program (gen.py): what the functions of the program do, as formulas; each with the proof that its call is what the formula says.
-/
import Derived.Test.YtinkkhcffoikmaaCd
import Derived.Test.YtinkkhcffoikmaaProg
import Derived.Test.YtinkkhcffoikmaaS1
namespace Go.Proofs.Ytinkkhcffoikmaa
open Go Go.Sh
set_option maxRecDepth 100000 in
/-- joinery/joinerylaw05.RowsetThree -/
def sh10 (o_1 : Int) (p_2 : Int) (a_p3 : Option Addr) (a_n4 : Nat) (a_c5 : Nat) (b_p6 : Option Addr) (b_n7 : Nat) (b_c8 : Nat) (c_p9 : Option Addr) (c_n10 : Nat) (c_c11 : Nat) (R : Ending → World → Prop) (w : World) : Prop :=
 let K14 : Bool → World → Prop := fun (x12 : Bool) (w13 : World) => 
 ifB x12 (
 doCall Try.prog (.func (.func 53) #[] #[]) #[] w13 (retS (fun v16 w17 => ∃ (x15 : Bool), v16 = (.bool x15 : Value) ∧ (
 R (.returned (.bool x15)) w17)) (fun ch w => Kfn R ch [] w))) (
 7 ≠ (0 : Int) ∧ (
 3 ≠ (0 : Int) ∧ (
 doCall Try.prog (.func (.func 54) #[] #[]) #[.int .u8 (IntKind.wrap .u8 (1 + (Int.tmod o_1 7))), .slice a_p3 a_n4 a_c5, .slice b_p6 b_n7 b_c8, .slice c_p9 c_n10 c_c11] w13 (retS (fun v28 w29 => ∃ (xp18 : Option Addr), ∃ (xn19 : Nat), ∃ (xc20 : Nat), ∃ (xp21 : Option Addr), ∃ (xn22 : Nat), ∃ (xc23 : Nat), ∃ (xp24 : Option Addr), ∃ (xn25 : Nat), ∃ (xc26 : Nat), ∃ (x27 : Bool), v28 = (.tuple #[.slice xp18 xn19 xc20, .slice xp21 xn22 xc23, .slice xp24 xn25 xc26, .bool x27] : Value) ∧ (
 ifB (!x27) (
 R (.returned (.bool false)) w29) (
 doCall Try.prog (.func (.func 55) #[] #[]) #[.int .u8 (IntKind.wrap .u8 (1 + (Int.tmod o_1 7))), .int .u8 (IntKind.wrap .u8 (1 + (Int.tmod p_2 3))), .slice xp18 xn19 xc20, .slice xp21 xn22 xc23] w29 (retS (fun v34 w35 => ∃ (xp30 : Option Addr), ∃ (xn31 : Nat), ∃ (xc32 : Nat), ∃ (x33 : Int), v34 = (.tuple #[.slice xp30 xn31 xc32, .int .i64 x33] : Value) ∧ (
 doCall Try.prog (.func (.func 55) #[] #[]) #[.int .u8 (IntKind.wrap .u8 (1 + (Int.tmod o_1 7))), .int .u8 (IntKind.wrap .u8 (1 + (Int.tmod p_2 3))), .slice xp30 xn31 xc32, .slice xp24 xn25 xc26] w35 (retS (fun v40 w41 => ∃ (xp36 : Option Addr), ∃ (xn37 : Nat), ∃ (xc38 : Nat), ∃ (x39 : Int), v40 = (.tuple #[.slice xp36 xn37 xc38, .int .i64 x39] : Value) ∧ (
 doCall Try.prog (.func (.func 55) #[] #[]) #[.int .u8 (IntKind.wrap .u8 (1 + (Int.tmod o_1 7))), .int .u8 (IntKind.wrap .u8 (1 + (Int.tmod p_2 3))), .slice xp21 xn22 xc23, .slice xp24 xn25 xc26] w41 (retS (fun v46 w47 => ∃ (xp42 : Option Addr), ∃ (xn43 : Nat), ∃ (xc44 : Nat), ∃ (x45 : Int), v46 = (.tuple #[.slice xp42 xn43 xc44, .int .i64 x45] : Value) ∧ (
 doCall Try.prog (.func (.func 55) #[] #[]) #[.int .u8 (IntKind.wrap .u8 (1 + (Int.tmod o_1 7))), .int .u8 (IntKind.wrap .u8 (1 + (Int.tmod p_2 3))), .slice xp18 xn19 xc20, .slice xp42 xn43 xc44] w47 (retS (fun v52 w53 => ∃ (xp48 : Option Addr), ∃ (xn49 : Nat), ∃ (xc50 : Nat), ∃ (x51 : Int), v52 = (.tuple #[.slice xp48 xn49 xc50, .int .i64 x51] : Value) ∧ (
 doCall Try.prog (.func (.func 56) #[] #[]) #[.int .u8 (IntKind.wrap .u8 (1 + (Int.tmod o_1 7))), .int .u8 (IntKind.wrap .u8 (1 + (Int.tmod p_2 3))), .slice xp18 xn19 xc20, .slice xp21 xn22 xc23] w53 (retS (fun v58 w59 => ∃ (xp54 : Option Addr), ∃ (xn55 : Nat), ∃ (xc56 : Nat), ∃ (x57 : Int), v58 = (.tuple #[.slice xp54 xn55 xc56, .int .i64 x57] : Value) ∧ (
 doCall Try.prog (.func (.func 56) #[] #[]) #[.int .u8 (IntKind.wrap .u8 (1 + (Int.tmod o_1 7))), .int .u8 (IntKind.wrap .u8 (1 + (Int.tmod p_2 3))), .slice xp54 xn55 xc56, .slice xp24 xn25 xc26] w59 (retS (fun v64 w65 => ∃ (xp60 : Option Addr), ∃ (xn61 : Nat), ∃ (xc62 : Nat), ∃ (x63 : Int), v64 = (.tuple #[.slice xp60 xn61 xc62, .int .i64 x63] : Value) ∧ (
 doCall Try.prog (.func (.func 56) #[] #[]) #[.int .u8 (IntKind.wrap .u8 (1 + (Int.tmod o_1 7))), .int .u8 (IntKind.wrap .u8 (1 + (Int.tmod p_2 3))), .slice xp21 xn22 xc23, .slice xp24 xn25 xc26] w65 (retS (fun v70 w71 => ∃ (xp66 : Option Addr), ∃ (xn67 : Nat), ∃ (xc68 : Nat), ∃ (x69 : Int), v70 = (.tuple #[.slice xp66 xn67 xc68, .int .i64 x69] : Value) ∧ (
 doCall Try.prog (.func (.func 56) #[] #[]) #[.int .u8 (IntKind.wrap .u8 (1 + (Int.tmod o_1 7))), .int .u8 (IntKind.wrap .u8 (1 + (Int.tmod p_2 3))), .slice xp18 xn19 xc20, .slice xp66 xn67 xc68] w71 (retS (fun v76 w77 => ∃ (xp72 : Option Addr), ∃ (xn73 : Nat), ∃ (xc74 : Nat), ∃ (x75 : Int), v76 = (.tuple #[.slice xp72 xn73 xc74, .int .i64 x75] : Value) ∧ (
 doCall Try.prog (.func (.func 55) #[] #[]) #[.int .u8 (IntKind.wrap .u8 (1 + (Int.tmod o_1 7))), .int .u8 3, .slice xp18 xn19 xc20, .slice xp21 xn22 xc23] w77 (retS (fun v82 w83 => ∃ (xp78 : Option Addr), ∃ (xn79 : Nat), ∃ (xc80 : Nat), ∃ (x81 : Int), v82 = (.tuple #[.slice xp78 xn79 xc80, .int .i64 x81] : Value) ∧ (
 doCall Try.prog (.func (.func 55) #[] #[]) #[.int .u8 (IntKind.wrap .u8 (1 + (Int.tmod o_1 7))), .int .u8 3, .slice xp21 xn22 xc23, .slice xp18 xn19 xc20] w83 (retS (fun v88 w89 => ∃ (xp84 : Option Addr), ∃ (xn85 : Nat), ∃ (xc86 : Nat), ∃ (x87 : Int), v88 = (.tuple #[.slice xp84 xn85 xc86, .int .i64 x87] : Value) ∧ (
 doCall Try.prog (.func (.func 42) #[] #[]) #[.slice xp18 xn19 xc20] w89 (retS (fun v93 w94 => ∃ (xp90 : Option Addr), ∃ (xn91 : Nat), ∃ (xc92 : Nat), v93 = (.slice xp90 xn91 xc92 : Value) ∧ (
 doGo Try.prog (.builtin .append #[33, 33] 33 #[false, false]) #[.slice xp90 xn91 xc92, .slice xp21 xn22 xc23] w94 (retS (fun v98 w99 => ∃ (xp95 : Option Addr), ∃ (xn96 : Nat), ∃ (xc97 : Nat), v98 = (.slice xp95 xn96 xc97 : Value) ∧ (
 doGo Try.prog (.builtin .append #[33, 33] 33 #[false, false]) #[.slice xp95 xn96 xc97, .slice xp24 xn25 xc26] w99 (retS (fun v103 w104 => ∃ (xp100 : Option Addr), ∃ (xn101 : Nat), ∃ (xc102 : Nat), v103 = (.slice xp100 xn101 xc102 : Value) ∧ (
 doCall Try.prog (.func (.func 59) #[] #[]) #[.int .u8 (IntKind.wrap .u8 (1 + (Int.tmod o_1 7))), .int .u8 (IntKind.wrap .u8 (1 + (Int.tmod p_2 3))), .slice xp100 xn101 xc102] w104 (retS (fun v109 w110 => ∃ (xp105 : Option Addr), ∃ (xn106 : Nat), ∃ (xc107 : Nat), ∃ (x108 : Int), v109 = (.tuple #[.slice xp105 xn106 xc107, .int .i64 x108] : Value) ∧ (
 let K113 : Bool → World → Prop := fun (x111 : Bool) (w112 : World) => 
 ifB x111 (
 R (.returned (.bool false)) w112) (
 let K116 : Bool → World → Prop := fun (x114 : Bool) (w115 : World) => 
 R (.returned (.bool x114)) w115
 doCall Try.prog (.func (.func 50) #[] #[]) #[.slice xp36 xn37 xc38, .slice xp48 xn49 xc50] w112 (retS (fun v118 w119 => ∃ (x117 : Bool), v118 = (.bool x117 : Value) ∧ (
 ifB x117 (
 doCall Try.prog (.func (.func 50) #[] #[]) #[.slice xp60 xn61 xc62, .slice xp72 xn73 xc74] w119 (retS (fun v121 w122 => ∃ (x120 : Bool), v121 = (.bool x120 : Value) ∧ (
 ifB x120 (
 doCall Try.prog (.func (.func 50) #[] #[]) #[.slice xp78 xn79 xc80, .slice xp84 xn85 xc86] w122 (retS (fun v124 w125 => ∃ (x123 : Bool), v124 = (.bool x123 : Value) ∧ (
 ifB x123 (
 doCall Try.prog (.func (.func 50) #[] #[]) #[.slice xp105 xn106 xc107, .slice xp36 xn37 xc38] w125 (retS (fun v127 w128 => ∃ (x126 : Bool), v127 = (.bool x126 : Value) ∧ (
 ifB x126 (
 doCall Try.prog (.func (.func 53) #[] #[]) #[] w128 (retS (fun v130 w131 => ∃ (x129 : Bool), v130 = (.bool x129 : Value) ∧ (
 K116 x129 w131)) (fun ch w => Kfn R ch [] w))) (
 R (.returned (.bool false)) w128))) (fun ch w => Kfn R ch [] w))) (
 R (.returned (.bool false)) w125))) (fun ch w => Kfn R ch [] w))) (
 R (.returned (.bool false)) w122))) (fun ch w => Kfn R ch [] w))) (
 R (.returned (.bool false)) w119))) (fun ch w => Kfn R ch [] w)))
 ifB ((x39 : Int) != 0) (
 R (.returned (.bool false)) w110) (
 ifB ((x51 : Int) != 0) (
 R (.returned (.bool false)) w110) (
 ifB ((x63 : Int) != 0) (
 R (.returned (.bool false)) w110) (
 ifB ((x75 : Int) != 0) (
 R (.returned (.bool false)) w110) (
 ifB ((x81 : Int) != 0) (
 R (.returned (.bool false)) w110) (
 ifB ((x87 : Int) != 0) (
 R (.returned (.bool false)) w110) (
 K113 ((x108 : Int) != 0) w110)))))))) (fun ch w => Kfn R ch [] w)))) (fun ch w => Kfn R ch [] w)))) (fun ch w => Kfn R ch [] w)))) (fun ch w => Kfn R ch [] w)))) (fun ch w => Kfn R ch [] w)))) (fun ch w => Kfn R ch [] w)))) (fun ch w => Kfn R ch [] w)))) (fun ch w => Kfn R ch [] w)))) (fun ch w => Kfn R ch [] w)))) (fun ch w => Kfn R ch [] w)))) (fun ch w => Kfn R ch [] w)))) (fun ch w => Kfn R ch [] w)))) (fun ch w => Kfn R ch [] w)))) (fun ch w => Kfn R ch [] w))))) (fun ch w => Kfn R ch [] w)))))
 ifB (decide ((((a_n4 : Nat) : Int) : Int) > 100)) (
 doCall Try.prog (.func (.func 53) #[] #[]) #[] w (retS (fun v133 w134 => ∃ (x132 : Bool), v133 = (.bool x132 : Value) ∧ (
 R (.returned (.bool x132)) w134)) (fun ch w => Kfn R ch [] w))) (
 ifB (decide ((((b_n7 : Nat) : Int) : Int) > 100)) (
 doCall Try.prog (.func (.func 53) #[] #[]) #[] w (retS (fun v136 w137 => ∃ (x135 : Bool), v136 = (.bool x135 : Value) ∧ (
 R (.returned (.bool x135)) w137)) (fun ch w => Kfn R ch [] w))) (
 K14 (decide ((((c_n10 : Nat) : Int) : Int) > 100)) w))
set_option maxRecDepth 100000 in
theorem sh10_ok (o_1 : Int) (p_2 : Int) (a_p3 : Option Addr) (a_n4 : Nat) (a_c5 : Nat) (b_p6 : Option Addr) (b_n7 : Nat) (b_c8 : Nat) (c_p9 : Option Addr) (c_n10 : Nat) (c_c11 : Nat) {R : Ending → World → Prop} {w : World} : sh10 o_1 p_2 a_p3 a_n4 a_c5 b_p6 b_n7 b_c8 c_p9 c_n10 c_c11 R w → Calls Try.prog 10 #[.int .u8 o_1, .int .u8 p_2, .slice a_p3 a_n4 a_c5, .slice b_p6 b_n7 b_c8, .slice c_p9 c_n10 c_c11] w R :=
  calls_of_eq (ann := fun _ => []) (fn := Try.f10) (c := bodyOf Try.f10) (args := #[.int .u8 o_1, .int .u8 p_2, .slice a_p3 a_n4 a_c5, .slice b_p6 b_n7 b_c8, .slice c_p9 c_n10 c_c11]) 400 follows_mixed Try.func10 (by kernel_rfl) (by kernel_rfl)
end Go.Proofs.Ytinkkhcffoikmaa
