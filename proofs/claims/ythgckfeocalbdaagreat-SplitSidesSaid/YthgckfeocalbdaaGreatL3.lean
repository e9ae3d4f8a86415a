/-
  Printed by a program (gen.py): what the functions of the program do, as formulas; each with the proof that its call is what the formula says.
-/
import Derived.Test.YthgckfeocalbdaaGreatPb
import Derived.Test.YthgckfeocalbdaaGreatProg
import Derived.Test.YthgckfeocalbdaaGreatPd
namespace Go.Proofs.YthgckfeocalbdaaGreat
open Go Go.Sh
set_option maxRecDepth 100000 in
/-- joinery/joinerylaw24.SplitParts -/
def sh3 (code_1 : Int) (o_2 : Int) (l_p3 : Option Addr) (l_n4 : Nat) (l_c5 : Nat) (key_6 : Int) (R : Ending → World → Prop) (w : World) : Prop :=
 doCall Tryz.prog (.func (.func 10) #[] #[]) #[.int .u8 code_1] w (retS (fun v9 w10 => ∃ (x7 : Option Addr), ∃ (x8 : Bool), v9 = (.tuple #[.pointer x7, .bool x8] : Value) ∧ (
 let K13 : Bool → World → Prop := fun (x11 : Bool) (w12 : World) => 
 ifB x11 (
 let K16 : Bool → World → Prop := fun (x14 : Bool) (w15 : World) => 
 R (.returned (.bool x14)) w15
 doCall Tryz.prog (.func (.func 12) #[] #[]) #[.int .u8 code_1] w12 (retS (fun v18 w19 => ∃ (x17 : Bool), v18 = (.bool x17 : Value) ∧ (
 ifB (x8 == x17) (
 doCall Tryz.prog (.func (.func 13) #[] #[]) #[.int .u8 o_2] w19 (retS (fun v21 w22 => ∃ (x20 : Bool), v21 = (.bool x20 : Value) ∧ (
 ifB x20 (
 doCall Tryz.prog (.func (.func 14) #[] #[]) #[] w22 (retS (fun v24 w25 => ∃ (x23 : Bool), v24 = (.bool x23 : Value) ∧ (
 K16 x23 w25)) (fun ch w => Kfn R ch [] w))) (
 R (.returned (.bool false)) w22))) (fun ch w => Kfn R ch [] w))) (
 R (.returned (.bool false)) w19))) (fun ch w => Kfn R ch [] w))) (
 doCall Tryz.prog (.func (.func 15) #[] #[]) #[.slice l_p3 l_n4 l_c5] w12 (retS (fun v27 w28 => ∃ (x26 : Option Addr), v27 = (.pointer x26 : Value) ∧ (
 doCall Tryz.prog (.func (.func 16) #[] #[]) #[.pointer x7, .int .u8 o_2, .pointer x26, .int .i64 key_6] w28 (retS (fun v36 w37 => ∃ (x29 : Option Addr), ∃ (x30 : Int), ∃ (x31 : Int), ∃ (x32 : Int), ∃ (x33 : Bool), ∃ (x34 : Option Addr), ∃ (x35 : Int), v36 = (.tuple #[.pointer x29, .agg #[.int .i64 x30, .int .i64 x31, .int .u64 x32], .bool x33, .pointer x34, .int .i64 x35] : Value) ∧ (
 doAl (.cells #[.int .i64 0, .int .i64 0, .int .u64 0] 33) w37 (fun b38 w39 =>
 doSt ((blk b38).add 0) (.int .i64 x30) w39 (fun w40 =>
 doSt ((blk b38).add 1) (.int .i64 x31) w40 (fun w41 =>
 doSt ((blk b38).add 2) (.int .u64 x32) w41 (fun w42 =>
 doCall Tryz.prog (.func (.func 18) #[] #[]) #[.int .u8 code_1, .slice l_p3 l_n4 l_c5] w42 (retS (fun v46 w47 => ∃ (xp43 : Option Addr), ∃ (xn44 : Nat), ∃ (xc45 : Nat), v46 = (.slice xp43 xn44 xc45 : Value) ∧ (
 doCall Tryz.prog (.func (.func 17) #[] #[]) #[.int .u8 o_2, .slice xp43 xn44 xc45, .int .i64 key_6] w47 (retS (fun v58 w59 => ∃ (xp48 : Option Addr), ∃ (xn49 : Nat), ∃ (xc50 : Nat), ∃ (x51 : Int), ∃ (x52 : Int), ∃ (x53 : Int), ∃ (x54 : Bool), ∃ (xp55 : Option Addr), ∃ (xn56 : Nat), ∃ (xc57 : Nat), v58 = (.tuple #[.slice xp48 xn49 xc50, .agg #[.int .i64 x51, .int .i64 x52, .int .u64 x53], .bool x54, .slice xp55 xn56 xc57] : Value) ∧ (
 doAl (.cells #[.int .i64 0, .int .i64 0, .int .u64 0] 33) w59 (fun b60 w61 =>
 doSt ((blk b60).add 0) (.int .i64 x51) w61 (fun w62 =>
 doSt ((blk b60).add 1) (.int .i64 x52) w62 (fun w63 =>
 doSt ((blk b60).add 2) (.int .u64 x53) w63 (fun w64 =>
 let K67 : Bool → World → Prop := fun (x65 : Bool) (w66 : World) => 
 R (.returned (.bool x65)) w66
 ifB ((x35 : Int) == 0) (
 ∃ (x68 : Int), World.cell? w64 ((blk b38).add 0) = some (.int .i64 x68) ∧ (
 ∃ (x69 : Int), World.cell? w64 ((blk b38).add 1) = some (.int .i64 x69) ∧ (
 ∃ (x70 : Int), World.cell? w64 ((blk b38).add 2) = some (.int .u64 x70) ∧ (
 ∃ (x71 : Int), World.cell? w64 ((blk b60).add 0) = some (.int .i64 x71) ∧ (
 ∃ (x72 : Int), World.cell? w64 ((blk b60).add 1) = some (.int .i64 x72) ∧ (
 ∃ (x73 : Int), World.cell? w64 ((blk b60).add 2) = some (.int .u64 x73) ∧ (
 ifB (((x68 : Int) == x71) && (((x69 : Int) == x72) && (((x70 : Int) == x73) && true))) (
 ifB (x33 == x54) (
 doCall Tryz.prog (.func (.func 19) #[] #[]) #[.int .u8 code_1, .pointer x29, .slice xp48 xn49 xc50] w64 (retS (fun v75 w76 => ∃ (x74 : Bool), v75 = (.bool x74 : Value) ∧ (
 ifB x74 (
 doCall Tryz.prog (.func (.func 19) #[] #[]) #[.int .u8 code_1, .pointer x34, .slice xp55 xn56 xc57] w76 (retS (fun v78 w79 => ∃ (x77 : Bool), v78 = (.bool x77 : Value) ∧ (
 ifB x77 (
 doCall Tryz.prog (.func (.func 21) #[] #[]) #[.slice l_p3 l_n4 l_c5] w79 (retS (fun v83 w84 => ∃ (xp80 : Option Addr), ∃ (xn81 : Nat), ∃ (xc82 : Nat), v83 = (.slice xp80 xn81 xc82 : Value) ∧ (
 doCall Tryz.prog (.func (.func 20) #[] #[]) #[.pointer x26, .slice xp80 xn81 xc82] w84 (retS (fun v86 w87 => ∃ (x85 : Bool), v86 = (.bool x85 : Value) ∧ (
 ifB x85 (
 doCall Tryz.prog (.func (.func 13) #[] #[]) #[.int .u8 o_2] w87 (retS (fun v89 w90 => ∃ (x88 : Bool), v89 = (.bool x88 : Value) ∧ (
 ifB x88 (
 doCall Tryz.prog (.func (.func 14) #[] #[]) #[] w90 (retS (fun v92 w93 => ∃ (x91 : Bool), v92 = (.bool x91 : Value) ∧ (
 K67 x91 w93)) (fun ch w => Kfn R ch [] w))) (
 R (.returned (.bool false)) w90))) (fun ch w => Kfn R ch [] w))) (
 R (.returned (.bool false)) w87))) (fun ch w => Kfn R ch [] w)))) (fun ch w => Kfn R ch [] w))) (
 R (.returned (.bool false)) w79))) (fun ch w => Kfn R ch [] w))) (
 R (.returned (.bool false)) w76))) (fun ch w => Kfn R ch [] w))) (
 R (.returned (.bool false)) w64)) (
 R (.returned (.bool false)) w64)))))))) (
 R (.returned (.bool false)) w64))))))) (fun ch w => Kfn R ch [] w)))) (fun ch w => Kfn R ch [] w)))))))) (fun ch w => Kfn R ch [] w)))) (fun ch w => Kfn R ch [] w)))
 doCall Tryz.prog (.func (.func 11) #[] #[]) #[.int .u8 code_1, .int .u8 o_2, .slice l_p3 l_n4 l_c5] w10 (retS (fun v95 w96 => ∃ (x94 : Bool), v95 = (.bool x94 : Value) ∧ (
 ifB x94 (
 K13 true w96) (
 K13 (!x8) w96))) (fun ch w => Kfn R ch [] w)))) (fun ch w => Kfn R ch [] w))
set_option maxRecDepth 100000 in
theorem sh3_ok (code_1 : Int) (o_2 : Int) (l_p3 : Option Addr) (l_n4 : Nat) (l_c5 : Nat) (key_6 : Int) {R : Ending → World → Prop} {w : World} : sh3 code_1 o_2 l_p3 l_n4 l_c5 key_6 R w → Calls Tryz.prog 3 #[.int .u8 code_1, .int .u8 o_2, .slice l_p3 l_n4 l_c5, .int .i64 key_6] w R :=
  calls_of_eq (ann := fun _ => []) (fn := Tryz.f3) (c := bodyOf Tryz.f3) (args := #[.int .u8 code_1, .int .u8 o_2, .slice l_p3 l_n4 l_c5, .int .i64 key_6]) 400 follows_mixed Tryz.func3 (by kernel_rfl) (by kernel_rfl)
end Go.Proofs.YthgckfeocalbdaaGreat
