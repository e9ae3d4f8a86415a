/-
  Printed by a program (gen.py): what the functions of the program do, as formulas; each with the proof that its call is what the formula says.
-/
import Derived.Test.YtinkkhcffoikmaaCd
import Derived.Test.YtinkkhcffoikmaaProg
import Derived.Test.YtinkkhcffoikmaaS1
namespace Go.Proofs.Ytinkkhcffoikmaa
open Go Go.Sh
set_option maxRecDepth 100000 in
/-- joinery/joinerylaw04.RowTells -/
def sh8 (o_1 : Int) (p_2 : Int) (l_p3 : Option Addr) (l_n4 : Nat) (l_c5 : Nat) (x_6 : Int) (x_7 : Int) (R : Ending → World → Prop) (w : World) : Prop :=
 doAl (.cells #[.int .i64 x_6, .int .i64 x_7] 38) w (fun b8 w9 =>
 ifB (decide ((((l_n4 : Nat) : Int) : Int) > 200)) (
 doCall Try.prog (.func (.func 37) #[] #[]) #[] w9 (retS (fun v11 w12 => ∃ (x10 : Bool), v11 = (.bool x10 : Value) ∧ (
 R (.returned (.bool x10)) w12)) (fun ch w => Kfn R ch [] w))) (
 doCall Try.prog (.func (.func 42) #[] #[]) #[.slice l_p3 l_n4 l_c5] w9 (retS (fun v16 w17 => ∃ (xp13 : Option Addr), ∃ (xn14 : Nat), ∃ (xc15 : Nat), v16 = (.slice xp13 xn14 xc15 : Value) ∧ (
 ∃ (x18 : Int), World.cell? w17 ((blk b8).add 0) = some (.int .i64 x18) ∧ (
 doCall Try.prog (.func (.func 25) #[] #[]) #[.int .u8 o_1, .slice xp13 xn14 xc15, .int .i64 x18] w17 (retS (fun v21 w22 => ∃ (x19 : Int), ∃ (x20 : Bool), v21 = (.tuple #[.int .i64 x19, .bool x20] : Value) ∧ (
 ∃ (x23 : Int), World.cell? w22 ((blk b8).add 0) = some (.int .i64 x23) ∧ (
 doCall Try.prog (.func (.func 43) #[] #[]) #[.int .u8 o_1, .slice l_p3 l_n4 l_c5, .int .i64 x23] w22 (retS (fun v26 w27 => ∃ (x24 : Int), ∃ (x25 : Bool), v26 = (.tuple #[.int .i64 x24, .bool x25] : Value) ∧ (
 ∃ (x28 : Int), World.cell? w27 ((blk b8).add 0) = some (.int .i64 x28) ∧ (
 doCall Try.prog (.func (.func 28) #[] #[]) #[.int .u8 o_1, .slice xp13 xn14 xc15, .int .i64 x28] w27 (retS (fun v31 w32 => ∃ (x29 : Int), ∃ (x30 : Bool), v31 = (.tuple #[.int .i64 x29, .bool x30] : Value) ∧ (
 ∃ (x33 : Int), World.cell? w32 ((blk b8).add 0) = some (.int .i64 x33) ∧ (
 doCall Try.prog (.func (.func 44) #[] #[]) #[.int .u8 o_1, .slice l_p3 l_n4 l_c5, .int .i64 x33] w32 (retS (fun v36 w37 => ∃ (x34 : Int), ∃ (x35 : Bool), v36 = (.tuple #[.int .i64 x34, .bool x35] : Value) ∧ (
 ∃ (x38 : Int), World.cell? w37 ((blk b8).add 0) = some (.int .i64 x38) ∧ (
 ∃ (x39 : Int), World.cell? w37 ((blk b8).add 1) = some (.int .i64 x39) ∧ (
 doCall Try.prog (.func (.func 39) #[] #[]) #[.int .u8 o_1, .int .u8 p_2, .slice xp13 xn14 xc15, .agg #[.int .i64 x38, .int .i64 x39]] w37 (retS (fun v44 w45 => ∃ (xp40 : Option Addr), ∃ (xn41 : Nat), ∃ (xc42 : Nat), ∃ (x43 : Int), v44 = (.tuple #[.slice xp40 xn41 xc42, .int .i64 x43] : Value) ∧ (
 ∃ (x46 : Int), World.cell? w45 ((blk b8).add 0) = some (.int .i64 x46) ∧ (
 ∃ (x47 : Int), World.cell? w45 ((blk b8).add 1) = some (.int .i64 x47) ∧ (
 doCall Try.prog (.func (.func 45) #[] #[]) #[.int .u8 o_1, .int .u8 p_2, .slice l_p3 l_n4 l_c5, .agg #[.int .i64 x46, .int .i64 x47]] w45 (retS (fun v52 w53 => ∃ (xp48 : Option Addr), ∃ (xn49 : Nat), ∃ (xc50 : Nat), ∃ (x51 : Int), v52 = (.tuple #[.slice xp48 xn49 xc50, .int .i64 x51] : Value) ∧ (
 ∃ (x54 : Int), World.cell? w53 ((blk b8).add 0) = some (.int .i64 x54) ∧ (
 doCall Try.prog (.func (.func 38) #[] #[]) #[.int .u8 o_1, .slice xp13 xn14 xc15, .int .i64 x54] w53 (retS (fun v59 w60 => ∃ (xp55 : Option Addr), ∃ (xn56 : Nat), ∃ (xc57 : Nat), ∃ (x58 : Bool), v59 = (.tuple #[.slice xp55 xn56 xc57, .bool x58] : Value) ∧ (
 ∃ (x61 : Int), World.cell? w60 ((blk b8).add 0) = some (.int .i64 x61) ∧ (
 doCall Try.prog (.func (.func 46) #[] #[]) #[.int .u8 o_1, .slice l_p3 l_n4 l_c5, .int .i64 x61] w60 (retS (fun v66 w67 => ∃ (xp62 : Option Addr), ∃ (xn63 : Nat), ∃ (xc64 : Nat), ∃ (x65 : Bool), v66 = (.tuple #[.slice xp62 xn63 xc64, .bool x65] : Value) ∧ (
 ∃ (x68 : Int), World.cell? w67 ((blk b8).add 0) = some (.int .i64 x68) ∧ (
 doCall Try.prog (.func (.func 30) #[] #[]) #[.int .u8 o_1, .slice xp13 xn14 xc15, .int .i64 x68] w67 (retS (fun v72 w73 => ∃ (x69 : Int), ∃ (x70 : Int), ∃ (x71 : Bool), v72 = (.tuple #[.agg #[.int .i64 x69, .int .i64 x70], .bool x71] : Value) ∧ (
 doAl (.cells #[.int .i64 0, .int .i64 0] 38) w73 (fun b74 w75 =>
 doSt ((blk b74).add 0) (.int .i64 x69) w75 (fun w76 =>
 doSt ((blk b74).add 1) (.int .i64 x70) w76 (fun w77 =>
 ∃ (x78 : Int), World.cell? w77 ((blk b8).add 0) = some (.int .i64 x78) ∧ (
 doCall Try.prog (.func (.func 47) #[] #[]) #[.int .u8 o_1, .slice l_p3 l_n4 l_c5, .int .i64 x78] w77 (retS (fun v82 w83 => ∃ (x79 : Int), ∃ (x80 : Int), ∃ (x81 : Bool), v82 = (.tuple #[.agg #[.int .i64 x79, .int .i64 x80], .bool x81] : Value) ∧ (
 doAl (.cells #[.int .i64 0, .int .i64 0] 38) w83 (fun b84 w85 =>
 doSt ((blk b84).add 0) (.int .i64 x79) w85 (fun w86 =>
 doSt ((blk b84).add 1) (.int .i64 x80) w86 (fun w87 =>
 ∃ (x88 : Int), World.cell? w87 ((blk b8).add 0) = some (.int .i64 x88) ∧ (
 doCall Try.prog (.func (.func 32) #[] #[]) #[.int .u8 o_1, .slice xp13 xn14 xc15, .int .i64 x88] w87 (retS (fun v92 w93 => ∃ (x89 : Int), ∃ (x90 : Int), ∃ (x91 : Bool), v92 = (.tuple #[.agg #[.int .i64 x89, .int .i64 x90], .bool x91] : Value) ∧ (
 doAl (.cells #[.int .i64 0, .int .i64 0] 38) w93 (fun b94 w95 =>
 doSt ((blk b94).add 0) (.int .i64 x89) w95 (fun w96 =>
 doSt ((blk b94).add 1) (.int .i64 x90) w96 (fun w97 =>
 ∃ (x98 : Int), World.cell? w97 ((blk b8).add 0) = some (.int .i64 x98) ∧ (
 doCall Try.prog (.func (.func 48) #[] #[]) #[.int .u8 o_1, .slice l_p3 l_n4 l_c5, .int .i64 x98] w97 (retS (fun v102 w103 => ∃ (x99 : Int), ∃ (x100 : Int), ∃ (x101 : Bool), v102 = (.tuple #[.agg #[.int .i64 x99, .int .i64 x100], .bool x101] : Value) ∧ (
 doAl (.cells #[.int .i64 0, .int .i64 0] 38) w103 (fun b104 w105 =>
 doSt ((blk b104).add 0) (.int .i64 x99) w105 (fun w106 =>
 doSt ((blk b104).add 1) (.int .i64 x100) w106 (fun w107 =>
 let K110 : Bool → World → Prop := fun (x108 : Bool) (w109 : World) => 
 ifB x108 (
 R (.returned (.bool false)) w109) (
 let K113 : Bool → World → Prop := fun (x111 : Bool) (w112 : World) => 
 R (.returned (.bool x111)) w112
 doCall Try.prog (.func (.func 40) #[] #[]) #[.int .u8 o_1, .slice xp13 xn14 xc15] w109 (retS (fun v115 w116 => ∃ (x114 : Bool), v115 = (.bool x114 : Value) ∧ (
 doCall Try.prog (.func (.func 49) #[] #[]) #[.int .u8 o_1, .slice l_p3 l_n4 l_c5] w116 (retS (fun v118 w119 => ∃ (x117 : Bool), v118 = (.bool x117 : Value) ∧ (
 ifB (x114 == x117) (
 doCall Try.prog (.func (.func 50) #[] #[]) #[.slice xp40 xn41 xc42, .slice xp48 xn49 xc50] w119 (retS (fun v121 w122 => ∃ (x120 : Bool), v121 = (.bool x120 : Value) ∧ (
 ifB x120 (
 doCall Try.prog (.func (.func 50) #[] #[]) #[.slice xp55 xn56 xc57, .slice xp62 xn63 xc64] w122 (retS (fun v124 w125 => ∃ (x123 : Bool), v124 = (.bool x123 : Value) ∧ (
 ifB x123 (
 doCall Try.prog (.func (.func 51) #[] #[]) #[.slice xp13 xn14 xc15] w125 (retS (fun v127 w128 => ∃ (x126 : Int), v127 = (.int .i64 x126 : Value) ∧ (
 doCall Try.prog (.func (.func 52) #[] #[]) #[.slice l_p3 l_n4 l_c5] w128 (retS (fun v130 w131 => ∃ (x129 : Int), v130 = (.int .i64 x129 : Value) ∧ (
 ifB ((x126 : Int) == x129) (
 doCall Try.prog (.func (.func 50) #[] #[]) #[.slice xp13 xn14 xc15, .slice l_p3 l_n4 l_c5] w131 (retS (fun v133 w134 => ∃ (x132 : Bool), v133 = (.bool x132 : Value) ∧ (
 ifB x132 (
 doCall Try.prog (.func (.func 37) #[] #[]) #[] w134 (retS (fun v136 w137 => ∃ (x135 : Bool), v136 = (.bool x135 : Value) ∧ (
 K113 x135 w137)) (fun ch w => Kfn R ch [] w))) (
 R (.returned (.bool false)) w134))) (fun ch w => Kfn R ch [] w))) (
 R (.returned (.bool false)) w131))) (fun ch w => Kfn R ch [] w)))) (fun ch w => Kfn R ch [] w))) (
 R (.returned (.bool false)) w125))) (fun ch w => Kfn R ch [] w))) (
 R (.returned (.bool false)) w122))) (fun ch w => Kfn R ch [] w))) (
 R (.returned (.bool false)) w119))) (fun ch w => Kfn R ch [] w)))) (fun ch w => Kfn R ch [] w)))
 ifB ((x19 : Int) != x24) (
 R (.returned (.bool false)) w107) (
 ifB (!(x20 == x25)) (
 R (.returned (.bool false)) w107) (
 ifB ((x29 : Int) != x34) (
 R (.returned (.bool false)) w107) (
 ifB (!(x30 == x35)) (
 R (.returned (.bool false)) w107) (
 ifB ((x43 : Int) != x51) (
 R (.returned (.bool false)) w107) (
 ifB (!(x58 == x65)) (
 R (.returned (.bool false)) w107) (
 ∃ (x138 : Int), World.cell? w107 ((blk b74).add 0) = some (.int .i64 x138) ∧ (
 ∃ (x139 : Int), World.cell? w107 ((blk b74).add 1) = some (.int .i64 x139) ∧ (
 ∃ (x140 : Int), World.cell? w107 ((blk b84).add 0) = some (.int .i64 x140) ∧ (
 ∃ (x141 : Int), World.cell? w107 ((blk b84).add 1) = some (.int .i64 x141) ∧ (
 ifB (!(((x138 : Int) == x140) && (((x139 : Int) == x141) && true))) (
 R (.returned (.bool false)) w107) (
 ifB (!(x71 == x81)) (
 R (.returned (.bool false)) w107) (
 ∃ (x142 : Int), World.cell? w107 ((blk b94).add 0) = some (.int .i64 x142) ∧ (
 ∃ (x143 : Int), World.cell? w107 ((blk b94).add 1) = some (.int .i64 x143) ∧ (
 ∃ (x144 : Int), World.cell? w107 ((blk b104).add 0) = some (.int .i64 x144) ∧ (
 ∃ (x145 : Int), World.cell? w107 ((blk b104).add 1) = some (.int .i64 x145) ∧ (
 ifB (!(((x142 : Int) == x144) && (((x143 : Int) == x145) && true))) (
 R (.returned (.bool false)) w107) (
 K110 (!(x91 == x101)) w107)))))))))))))))))))))) (fun ch w => Kfn R ch [] w)))))))) (fun ch w => Kfn R ch [] w)))))))) (fun ch w => Kfn R ch [] w)))))))) (fun ch w => Kfn R ch [] w))))) (fun ch w => Kfn R ch [] w))))) (fun ch w => Kfn R ch [] w))))) (fun ch w => Kfn R ch [] w)))))) (fun ch w => Kfn R ch [] w)))))) (fun ch w => Kfn R ch [] w))))) (fun ch w => Kfn R ch [] w))))) (fun ch w => Kfn R ch [] w))))) (fun ch w => Kfn R ch [] w))))) (fun ch w => Kfn R ch [] w))))
set_option maxRecDepth 100000 in
theorem sh8_ok (o_1 : Int) (p_2 : Int) (l_p3 : Option Addr) (l_n4 : Nat) (l_c5 : Nat) (x_6 : Int) (x_7 : Int) {R : Ending → World → Prop} {w : World} : sh8 o_1 p_2 l_p3 l_n4 l_c5 x_6 x_7 R w → Calls Try.prog 8 #[.int .u8 o_1, .int .u8 p_2, .slice l_p3 l_n4 l_c5, .agg #[.int .i64 x_6, .int .i64 x_7]] w R :=
  calls_of_eq (ann := fun _ => []) (fn := Try.f8) (c := bodyOf Try.f8) (args := #[.int .u8 o_1, .int .u8 p_2, .slice l_p3 l_n4 l_c5, .agg #[.int .i64 x_6, .int .i64 x_7]]) 400 follows_mixed Try.func8 (by kernel_rfl) (by kernel_rfl)
end Go.Proofs.Ytinkkhcffoikmaa
