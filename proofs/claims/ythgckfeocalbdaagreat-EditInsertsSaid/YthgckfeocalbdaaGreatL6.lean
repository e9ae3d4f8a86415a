/-
  Printed by a program (gen.py): what the functions of the program do, as formulas; each with the proof that its call is what the formula says.
-/
import Derived.Test.YthgckfeocalbdaaGreatPb
import Derived.Test.YthgckfeocalbdaaGreatProg
import Derived.Test.YthgckfeocalbdaaGreatPd
namespace Go.Proofs.YthgckfeocalbdaaGreat
open Go Go.Sh
set_option maxRecDepth 100000 in
/-- joinery/joinerylaw26.EditInserts -/
def sh6 (code_1 : Int) (o_2 : Int) (p_3 : Int) (l_p4 : Option Addr) (l_n5 : Nat) (l_c6 : Nat) (x_7 : Int) (x_8 : Int) (x_9 : Int) (R : Ending → World → Prop) (w : World) : Prop :=
 doAl (.cells #[.int .i64 x_7, .int .i64 x_8, .int .u64 x_9] 33) w (fun b10 w11 =>
 doCall Tryz.prog (.func (.func 10) #[] #[]) #[.int .u8 code_1] w11 (retS (fun v14 w15 => ∃ (x12 : Option Addr), ∃ (x13 : Bool), v14 = (.tuple #[.pointer x12, .bool x13] : Value) ∧ (
 let K18 : Bool → World → Prop := fun (x16 : Bool) (w17 : World) => 
 ifB x16 (
 let K21 : Bool → World → Prop := fun (x19 : Bool) (w20 : World) => 
 R (.returned (.bool x19)) w20
 doCall Tryz.prog (.func (.func 12) #[] #[]) #[.int .u8 code_1] w17 (retS (fun v23 w24 => ∃ (x22 : Bool), v23 = (.bool x22 : Value) ∧ (
 ifB (x13 == x22) (
 doCall Tryz.prog (.func (.func 32) #[] #[]) #[.int .u8 o_2, .int .u8 p_3] w24 (retS (fun v26 w27 => ∃ (x25 : Bool), v26 = (.bool x25 : Value) ∧ (
 ifB x25 (
 doCall Tryz.prog (.func (.func 33) #[] #[]) #[] w27 (retS (fun v29 w30 => ∃ (x28 : Bool), v29 = (.bool x28 : Value) ∧ (
 K21 x28 w30)) (fun ch w => Kfn R ch [] w))) (
 R (.returned (.bool false)) w27))) (fun ch w => Kfn R ch [] w))) (
 R (.returned (.bool false)) w24))) (fun ch w => Kfn R ch [] w))) (
 doCall Tryz.prog (.func (.func 15) #[] #[]) #[.slice l_p4 l_n5 l_c6] w17 (retS (fun v32 w33 => ∃ (x31 : Option Addr), v32 = (.pointer x31 : Value) ∧ (
 ∃ (x34 : Int), World.cell? w33 ((blk b10).add 0) = some (.int .i64 x34) ∧ (
 ∃ (x35 : Int), World.cell? w33 ((blk b10).add 1) = some (.int .i64 x35) ∧ (
 ∃ (x36 : Int), World.cell? w33 ((blk b10).add 2) = some (.int .u64 x36) ∧ (
 doCall Tryz.prog (.func (.func 34) #[] #[]) #[.pointer x12, .int .u8 o_2, .int .u8 p_3, .pointer x31, .agg #[.int .i64 x34, .int .i64 x35, .int .u64 x36]] w33 (retS (fun v41 w42 => ∃ (x37 : Option Addr), ∃ (x38 : Int), ∃ (x39 : Bool), ∃ (x40 : Int), v41 = (.tuple #[.pointer x37, .int .i64 x38, .bool x39, .int .i64 x40] : Value) ∧ (
 doDr w42 (fun w44 =>
 ∃ (C43 : World → Prop), C43 w44 ∧ (
 ∃ (x45 : Int), (∀ w, C43 w → World.cell? w ((blk b10).add 0) = some (.int .i64 x45)) ∧ (
 ∃ (x46 : Int), (∀ w, C43 w → World.cell? w ((blk b10).add 1) = some (.int .i64 x46)) ∧ (
 ∃ (x47 : Int), (∀ w, C43 w → World.cell? w ((blk b10).add 2) = some (.int .u64 x47)) ∧ (
 doCall Tryz.prog (.func (.func 18) #[] #[]) #[.int .u8 code_1, .slice l_p4 l_n5 l_c6] w44 (retS (fun v51 w52 => ∃ (xp48 : Option Addr), ∃ (xn49 : Nat), ∃ (xc50 : Nat), v51 = (.slice xp48 xn49 xc50 : Value) ∧ (
 C43 w52 ∧ (
 doCall Tryz.prog (.func (.func 35) #[] #[]) #[.int .u8 o_2, .int .u8 p_3, .slice xp48 xn49 xc50, .agg #[.int .i64 x45, .int .i64 x46, .int .u64 x47]] w52 (retS (fun v58 w59 => ∃ (xp53 : Option Addr), ∃ (xn54 : Nat), ∃ (xc55 : Nat), ∃ (x56 : Int), ∃ (x57 : Bool), v58 = (.tuple #[.slice xp53 xn54 xc55, .int .i64 x56, .bool x57] : Value) ∧ (
 let K62 : Bool → World → Prop := fun (x60 : Bool) (w61 : World) => 
 R (.returned (.bool x60)) w61
 ifB ((x40 : Int) == 0) (
 ifB ((x38 : Int) == x56) (
 ifB (x39 == x57) (
 doCall Tryz.prog (.func (.func 19) #[] #[]) #[.int .u8 code_1, .pointer x37, .slice xp53 xn54 xc55] w59 (retS (fun v64 w65 => ∃ (x63 : Bool), v64 = (.bool x63 : Value) ∧ (
 ifB x63 (
 doCall Tryz.prog (.func (.func 21) #[] #[]) #[.slice l_p4 l_n5 l_c6] w65 (retS (fun v69 w70 => ∃ (xp66 : Option Addr), ∃ (xn67 : Nat), ∃ (xc68 : Nat), v69 = (.slice xp66 xn67 xc68 : Value) ∧ (
 doCall Tryz.prog (.func (.func 20) #[] #[]) #[.pointer x31, .slice xp66 xn67 xc68] w70 (retS (fun v72 w73 => ∃ (x71 : Bool), v72 = (.bool x71 : Value) ∧ (
 ifB x71 (
 doCall Tryz.prog (.func (.func 32) #[] #[]) #[.int .u8 o_2, .int .u8 p_3] w73 (retS (fun v75 w76 => ∃ (x74 : Bool), v75 = (.bool x74 : Value) ∧ (
 ifB x74 (
 doCall Tryz.prog (.func (.func 33) #[] #[]) #[] w76 (retS (fun v78 w79 => ∃ (x77 : Bool), v78 = (.bool x77 : Value) ∧ (
 K62 x77 w79)) (fun ch w => Kfn R ch [] w))) (
 R (.returned (.bool false)) w76))) (fun ch w => Kfn R ch [] w))) (
 R (.returned (.bool false)) w73))) (fun ch w => Kfn R ch [] w)))) (fun ch w => Kfn R ch [] w))) (
 R (.returned (.bool false)) w65))) (fun ch w => Kfn R ch [] w))) (
 R (.returned (.bool false)) w59)) (
 R (.returned (.bool false)) w59)) (
 R (.returned (.bool false)) w59))) (fun ch w => Kfn R ch [] w))))) (fun ch w => Kfn R ch [] w))))))))) (fun ch w => Kfn R ch [] w))))))) (fun ch w => Kfn R ch [] w)))
 doCall Tryz.prog (.func (.func 11) #[] #[]) #[.int .u8 code_1, .int .u8 o_2, .slice l_p4 l_n5 l_c6] w15 (retS (fun v81 w82 => ∃ (x80 : Bool), v81 = (.bool x80 : Value) ∧ (
 ifB x80 (
 K18 true w82) (
 ifB (!x13) (
 K18 true w82) (
 doCall Tryz.prog (.func (.func 31) #[] #[]) #[.int .u8 p_3] w82 (retS (fun v84 w85 => ∃ (x83 : Bool), v84 = (.bool x83 : Value) ∧ (
 K18 (!x83) w85)) (fun ch w => Kfn R ch [] w)))))) (fun ch w => Kfn R ch [] w)))) (fun ch w => Kfn R ch [] w)))
set_option maxRecDepth 100000 in
theorem sh6_ok (code_1 : Int) (o_2 : Int) (p_3 : Int) (l_p4 : Option Addr) (l_n5 : Nat) (l_c6 : Nat) (x_7 : Int) (x_8 : Int) (x_9 : Int) {R : Ending → World → Prop} {w : World} : sh6 code_1 o_2 p_3 l_p4 l_n5 l_c6 x_7 x_8 x_9 R w → Calls Tryz.prog 6 #[.int .u8 code_1, .int .u8 o_2, .int .u8 p_3, .slice l_p4 l_n5 l_c6, .agg #[.int .i64 x_7, .int .i64 x_8, .int .u64 x_9]] w R :=
  calls_of_eq (ann := fun _ => []) (fn := Tryz.f6) (c := bodyOf Tryz.f6) (args := #[.int .u8 code_1, .int .u8 o_2, .int .u8 p_3, .slice l_p4 l_n5 l_c6, .agg #[.int .i64 x_7, .int .i64 x_8, .int .u64 x_9]]) 400 follows_mixed Tryz.func6 (by kernel_rfl) (by kernel_rfl)
end Go.Proofs.YthgckfeocalbdaaGreat
