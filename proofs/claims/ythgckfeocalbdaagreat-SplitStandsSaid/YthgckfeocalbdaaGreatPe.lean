/-
  Printed by a program (gen.py): what the functions of the program do, as formulas; each with the proof that its call is what the formula says.
-/
/-
  Printed by a program (gen.py): what the functions of the program do, as formulas; each with the proof that its call is what the formula says.
-/
/-
  Printed by a program (gen.py): what the functions of the program do, as formulas; each with the proof that its call is what the formula says.
-/
import Derived.Test.YthgckfeocalbdaaGreatPb
import Derived.Test.YthgckfeocalbdaaGreatProg
import Derived.Test.YthgckfeocalbdaaGreatPd

namespace Go.Proofs.YthgckfeocalbdaaGreat
open Go Go.Sh
set_option maxRecDepth 100000 in
/-- joinery/fold.May -/
def sh71 (p_1 : Int) (R : Ending → World → Prop) (w : World) : Prop :=
 let K4 : Bool → World → Prop := fun (is_2 : Bool) (w3 : World) => 
 R (.returned (.bool is_2)) w3
 doCall Tryz.prog (.func (.func 100) #[] #[]) #[] w (retS (fun v6 w7 => ∃ (x5 : Option Nat), v6 = (.map x5 : Value) ∧ (
 doLk Tryz.prog 165 (.map x5) (.int .u8 p_1) true w7 (fun v12 => (∃ (xf8 : Fn), ∃ (xx9 : Array Value), ∃ (xc10 : Array Value), ∃ (x11 : Bool), v12 = (.tuple #[.agg #[.func xf8 xx9 xc10], .bool x11] : Value) ∧ (
 doAl (.cells #[.nilFunc] 163) w7 (fun b13 w14 =>
 doSt ((blk b13).add 0) (.func xf8 xx9 xc10) w14 (fun w15 =>
 K4 x11 w15)))) ∨ (v12 = (.tuple #[.agg #[.nilFunc], .bool false] : Value) ∧ (
 doAl (.cells #[.nilFunc] 163) w7 (fun b16 w17 =>
 doSt ((blk b16).add 0) (.nilFunc) w17 (fun w18 =>
 R (.returned (.bool false)) w18))))))) (fun ch w => Kfn R ch [] w))
set_option maxRecDepth 100000 in
theorem sh71_ok (p_1 : Int) {R : Ending → World → Prop} {w : World} : sh71 p_1 R w → Calls Tryz.prog 71 #[.int .u8 p_1] w R :=
  calls_of_eq (ann := fun _ => []) (fn := Tryz.f71) (c := bodyOf Tryz.f71) (args := #[.int .u8 p_1]) 400 follows_mixed Tryz.func71 (by kernel_rfl) (by kernel_rfl)
set_option maxRecDepth 100000 in
/-- joinery/edit.at -/
def sh72 (s_1 : Option Addr) (o_2 : Int) (t_3 : Option Addr) (key_4 : Int) (by_f5 : Fn) (by_x6 : Array Value) (by_c7 : Array Value) (R : Ending → World → Prop) (w : World) : Prop :=
 doCall Tryz.prog (.func (.func 16) #[] #[]) #[.pointer s_1, .int .u8 o_2, .pointer t_3, .int .i64 key_4] w (retS (fun v15 w16 => ∃ (x8 : Option Addr), ∃ (x9 : Int), ∃ (x10 : Int), ∃ (x11 : Int), ∃ (x12 : Bool), ∃ (x13 : Option Addr), ∃ (x14 : Int), v15 = (.tuple #[.pointer x8, .agg #[.int .i64 x9, .int .i64 x10, .int .u64 x11], .bool x12, .pointer x13, .int .i64 x14] : Value) ∧ (
 doAl (.cells #[.int .i64 0, .int .i64 0, .int .u64 0] 33) w16 (fun b17 w18 =>
 doSt ((blk b17).add 0) (.int .i64 x9) w18 (fun w19 =>
 doSt ((blk b17).add 1) (.int .i64 x10) w19 (fun w20 =>
 doSt ((blk b17).add 2) (.int .u64 x11) w20 (fun w21 =>
 ∃ (x22 : Int), World.cell? w21 ((blk b17).add 0) = some (.int .i64 x22) ∧ (
 ∃ (x23 : Int), World.cell? w21 ((blk b17).add 1) = some (.int .i64 x23) ∧ (
 ∃ (x24 : Int), World.cell? w21 ((blk b17).add 2) = some (.int .u64 x24) ∧ (
 doCall Tryz.prog (.func by_f5 by_x6 by_c7) #[.agg #[.int .i64 x22, .int .i64 x23, .int .u64 x24], .bool x12] w21 (retS (fun v29 w30 => ∃ (x25 : Int), ∃ (x26 : Int), ∃ (x27 : Int), ∃ (x28 : Bool), v29 = (.tuple #[.agg #[.int .i64 x25, .int .i64 x26, .int .u64 x27], .bool x28] : Value) ∧ (
 doAl (.cells #[.int .i64 0, .int .i64 0, .int .u64 0] 33) w30 (fun b31 w32 =>
 doSt ((blk b31).add 0) (.int .i64 x25) w32 (fun w33 =>
 doSt ((blk b31).add 1) (.int .i64 x26) w33 (fun w34 =>
 doSt ((blk b31).add 2) (.int .u64 x27) w34 (fun w35 =>
 ifB ((x14 : Int) != 0) (
 R (.returned (.tuple #[.pointer none, .int .i64 0, .bool false, .int .i64 x14])) w35) (
 ifB (!x28) (
 doDr w35 (fun w37 =>
 ∃ (C36 : World → Prop), C36 w37 ∧ (
 ∃ (x38 : Int), (∀ w, C36 w → World.cell? w ((blk b17).add 1) = some (.int .i64 x38)) ∧ (
 doCall Tryz.prog (.func (.func 61) #[] #[]) #[.pointer s_1, .pointer x8, .pointer x13] w37 (retS (fun v40 w41 => ∃ (x39 : Option Addr), v40 = (.pointer x39 : Value) ∧ (
 C36 w41 ∧ (
 R (.returned (.tuple #[.pointer x39, .int .i64 x38, .bool x12, .int .i64 0])) w41))) (fun ch w => Kfn R ch [] w)))))) (
 doDr w35 (fun w43 =>
 ∃ (C42 : World → Prop), C42 w43 ∧ (
 ∃ (x44 : Int), (∀ w, C42 w → World.cell? w ((blk b31).add 0) = some (.int .i64 x44)) ∧ (
 ∃ (x45 : Int), (∀ w, C42 w → World.cell? w ((blk b31).add 1) = some (.int .i64 x45)) ∧ (
 ∃ (x46 : Int), (∀ w, C42 w → World.cell? w ((blk b31).add 2) = some (.int .u64 x46)) ∧ (
 ∃ (x47 : Int), (∀ w, C42 w → World.cell? w ((blk b17).add 1) = some (.int .i64 x47)) ∧ (
 doCall Tryz.prog (.func (.func 51) #[] #[]) #[.pointer s_1, .pointer x8, .agg #[.int .i64 x44, .int .i64 x45, .int .u64 x46], .pointer x13] w43 (retS (fun v49 w50 => ∃ (x48 : Option Addr), v49 = (.pointer x48 : Value) ∧ (
 C42 w50 ∧ (
 R (.returned (.tuple #[.pointer x48, .int .i64 x47, .bool x12, .int .i64 0])) w50))) (fun ch w => Kfn R ch [] w)))))))))))))))) (fun ch w => Kfn R ch [] w))))))))))) (fun ch w => Kfn R ch [] w))
set_option maxRecDepth 100000 in
theorem sh72_ok (s_1 : Option Addr) (o_2 : Int) (t_3 : Option Addr) (key_4 : Int) (by_f5 : Fn) (by_x6 : Array Value) (by_c7 : Array Value) {R : Ending → World → Prop} {w : World} : sh72 s_1 o_2 t_3 key_4 by_f5 by_x6 by_c7 R w → Calls Tryz.prog 72 #[.pointer s_1, .int .u8 o_2, .pointer t_3, .int .i64 key_4, .func by_f5 by_x6 by_c7] w R :=
  calls_of_eq (ann := fun _ => []) (fn := Tryz.f72) (c := bodyOf Tryz.f72) (args := #[.pointer s_1, .int .u8 o_2, .pointer t_3, .int .i64 key_4, .func by_f5 by_x6 by_c7]) 400 follows_mixed Tryz.func72 (by kernel_rfl) (by kernel_rfl)
set_option maxRecDepth 100000 in
/-- joinery/edit.Insert$1 -/
def sh73 (y_1 : Int) (y_2 : Int) (y_3 : Int) (is_4 : Bool) (x5 : Addr) (x6 : Addr) (R : Ending → World → Prop) (w : World) : Prop :=
 doAl (.cells #[.int .i64 y_1, .int .i64 y_2, .int .u64 y_3] 33) w (fun b7 w8 =>
 doAl (.cells #[.int .i64 0, .int .i64 0, .int .u64 0] 33) w8 (fun b9 w10 =>
 ifB (!is_4) (
 ∃ (x11 : Int), World.cell? w10 (x5.add 0) = some (.int .i64 x11) ∧ (
 ∃ (x12 : Int), World.cell? w10 (x5.add 1) = some (.int .i64 x12) ∧ (
 ∃ (x13 : Int), World.cell? w10 (x5.add 2) = some (.int .u64 x13) ∧ (
 doSt ((blk b9).add 0) (.int .i64 x11) w10 (fun w14 =>
 doSt ((blk b9).add 1) (.int .i64 x12) w14 (fun w15 =>
 doSt ((blk b9).add 2) (.int .u64 x13) w15 (fun w16 =>
 ∃ (x17 : Int), World.cell? w16 ((blk b9).add 0) = some (.int .i64 x17) ∧ (
 ∃ (x18 : Int), World.cell? w16 ((blk b9).add 1) = some (.int .i64 x18) ∧ (
 ∃ (x19 : Int), World.cell? w16 ((blk b9).add 2) = some (.int .u64 x19) ∧ (
 R (.returned (.tuple #[.agg #[.int .i64 x17, .int .i64 x18, .int .u64 x19], .bool true])) w16)))))))))) (
 ∃ (x20 : Int), World.cell? w10 x6 = some (.int .u8 x20) ∧ (
 ∃ (x21 : Int), World.cell? w10 ((blk b7).add 1) = some (.int .i64 x21) ∧ (
 ∃ (x22 : Int), World.cell? w10 (x5.add 1) = some (.int .i64 x22) ∧ (
 doCall Tryz.prog (.func (.func 74) #[] #[]) #[.int .u8 x20, .int .i64 x21, .int .i64 x22] w10 (retS (fun v25 w26 => ∃ (x23 : Int), ∃ (x24 : Int), v25 = (.tuple #[.int .i64 x23, .int .i64 x24] : Value) ∧ (
 doSt (((blk b7).add 1).add 0) (.int .i64 x23) w26 (fun w27 =>
 ∃ (x28 : Int), World.cell? w27 ((blk b7).add 0) = some (.int .i64 x28) ∧ (
 ∃ (x29 : Int), World.cell? w27 ((blk b7).add 1) = some (.int .i64 x29) ∧ (
 ∃ (x30 : Int), World.cell? w27 ((blk b7).add 2) = some (.int .u64 x30) ∧ (
 doSt ((blk b9).add 0) (.int .i64 x28) w27 (fun w31 =>
 doSt ((blk b9).add 1) (.int .i64 x29) w31 (fun w32 =>
 doSt ((blk b9).add 2) (.int .u64 x30) w32 (fun w33 =>
 ∃ (x34 : Int), World.cell? w33 ((blk b9).add 0) = some (.int .i64 x34) ∧ (
 ∃ (x35 : Int), World.cell? w33 ((blk b9).add 1) = some (.int .i64 x35) ∧ (
 ∃ (x36 : Int), World.cell? w33 ((blk b9).add 2) = some (.int .u64 x36) ∧ (
 R (.returned (.tuple #[.agg #[.int .i64 x34, .int .i64 x35, .int .u64 x36], .bool true])) w33)))))))))))) (fun ch w => Kfn R ch [] w))))))))
set_option maxRecDepth 100000 in
theorem sh73_ok (y_1 : Int) (y_2 : Int) (y_3 : Int) (is_4 : Bool) (x5 : Addr) (x6 : Addr) {R : Ending → World → Prop} {w : World} : sh73 y_1 y_2 y_3 is_4 x5 x6 R w → Calls Tryz.prog 73 #[.agg #[.int .i64 y_1, .int .i64 y_2, .int .u64 y_3], .bool is_4, .pointer (some x5), .pointer (some x6)] w R :=
  calls_of_eq (ann := fun _ => []) (fn := Tryz.f73) (c := bodyOf Tryz.f73) (args := #[.agg #[.int .i64 y_1, .int .i64 y_2, .int .u64 y_3], .bool is_4, .pointer (some x5), .pointer (some x6)]) 400 follows_mixed Tryz.func73 (by kernel_rfl) (by kernel_rfl)
set_option maxRecDepth 100000 in
/-- joinery/fold.Combine -/
def sh74 (p_1 : Int) (a_2 : Int) (b_3 : Int) (R : Ending → World → Prop) (w : World) : Prop :=
 let K7 : Addr → Bool → World → Prop := fun (k_4 : Addr) (is_5 : Bool) (w6 : World) => 
 ifB (!is_5) (
 R (.returned (.tuple #[.int .i64 0, .int .i64 2])) w6) (
 ∃ (xf8 : Fn), ∃ (xx9 : Array Value), ∃ (xc10 : Array Value), World.cell? w6 (k_4.add 0) = some (.func xf8 xx9 xc10) ∧ (
 doCall Tryz.prog (.func xf8 xx9 xc10) #[.int .i64 a_2, .int .i64 b_3] w6 (retS (fun v12 w13 => ∃ (x11 : Int), v12 = (.int .i64 x11 : Value) ∧ (
 R (.returned (.tuple #[.int .i64 x11, .int .i64 0])) w13)) (fun ch w => Kfn R ch [] w))))
 doCall Tryz.prog (.func (.func 100) #[] #[]) #[] w (retS (fun v15 w16 => ∃ (x14 : Option Nat), v15 = (.map x14 : Value) ∧ (
 doLk Tryz.prog 165 (.map x14) (.int .u8 p_1) true w16 (fun v21 => (∃ (xf17 : Fn), ∃ (xx18 : Array Value), ∃ (xc19 : Array Value), ∃ (x20 : Bool), v21 = (.tuple #[.agg #[.func xf17 xx18 xc19], .bool x20] : Value) ∧ (
 doAl (.cells #[.nilFunc] 163) w16 (fun b22 w23 =>
 doSt ((blk b22).add 0) (.func xf17 xx18 xc19) w23 (fun w24 =>
 K7 (blk b22) x20 w24)))) ∨ (v21 = (.tuple #[.agg #[.nilFunc], .bool false] : Value) ∧ (
 doAl (.cells #[.nilFunc] 163) w16 (fun b25 w26 =>
 doSt ((blk b25).add 0) (.nilFunc) w26 (fun w27 =>
 K7 (blk b25) false w27))))))) (fun ch w => Kfn R ch [] w))
set_option maxRecDepth 100000 in
theorem sh74_ok (p_1 : Int) (a_2 : Int) (b_3 : Int) {R : Ending → World → Prop} {w : World} : sh74 p_1 a_2 b_3 R w → Calls Tryz.prog 74 #[.int .u8 p_1, .int .i64 a_2, .int .i64 b_3] w R :=
  calls_of_eq (ann := fun _ => []) (fn := Tryz.f74) (c := bodyOf Tryz.f74) (args := #[.int .u8 p_1, .int .i64 a_2, .int .i64 b_3]) 400 follows_mixed Tryz.func74 (by kernel_rfl) (by kernel_rfl)
set_option maxRecDepth 100000 in
/-- joinery/joineryref03.Combine -/
def sh75 (p_1 : Int) (a_2 : Int) (b_3 : Int) (R : Ending → World → Prop) (w : World) : Prop :=
 ifB ((p_1 : Int) == 1) (
 R (.returned (.int .i64 a_2)) w) (
 ifB ((p_1 : Int) == 2) (
 R (.returned (.int .i64 b_3)) w) (
 R (.returned (.int .i64 (IntKind.wrap .i64 (a_2 + b_3)))) w))
set_option maxRecDepth 100000 in
theorem sh75_ok (p_1 : Int) (a_2 : Int) (b_3 : Int) {R : Ending → World → Prop} {w : World} : sh75 p_1 a_2 b_3 R w → Calls Tryz.prog 75 #[.int .u8 p_1, .int .i64 a_2, .int .i64 b_3] w R :=
  calls_of_eq (ann := fun _ => []) (fn := Tryz.f75) (c := bodyOf Tryz.f75) (args := #[.int .u8 p_1, .int .i64 a_2, .int .i64 b_3]) 400 follows_mixed Tryz.func75 (by kernel_rfl) (by kernel_rfl)
set_option maxRecDepth 100000 in
/-- joinery/edit.Delete$1 -/
def sh76 (x_1 : Int) (x_2 : Int) (x_3 : Int) (_x4 : Bool) (R : Ending → World → Prop) (w : World) : Prop :=
 doAl (.cells #[.int .i64 x_1, .int .i64 x_2, .int .u64 x_3] 33) w (fun b5 w6 =>
 doAl (.cells #[.int .i64 0, .int .i64 0, .int .u64 0] 33) w6 (fun b7 w8 =>
 ∃ (x9 : Int), World.cell? w8 ((blk b5).add 0) = some (.int .i64 x9) ∧ (
 ∃ (x10 : Int), World.cell? w8 ((blk b5).add 1) = some (.int .i64 x10) ∧ (
 ∃ (x11 : Int), World.cell? w8 ((blk b5).add 2) = some (.int .u64 x11) ∧ (
 doSt ((blk b7).add 0) (.int .i64 x9) w8 (fun w12 =>
 doSt ((blk b7).add 1) (.int .i64 x10) w12 (fun w13 =>
 doSt ((blk b7).add 2) (.int .u64 x11) w13 (fun w14 =>
 ∃ (x15 : Int), World.cell? w14 ((blk b7).add 0) = some (.int .i64 x15) ∧ (
 ∃ (x16 : Int), World.cell? w14 ((blk b7).add 1) = some (.int .i64 x16) ∧ (
 ∃ (x17 : Int), World.cell? w14 ((blk b7).add 2) = some (.int .u64 x17) ∧ (
 R (.returned (.tuple #[.agg #[.int .i64 x15, .int .i64 x16, .int .u64 x17], .bool false])) w14)))))))))))
set_option maxRecDepth 100000 in
theorem sh76_ok (x_1 : Int) (x_2 : Int) (x_3 : Int) (x4 : Bool) {R : Ending → World → Prop} {w : World} : sh76 x_1 x_2 x_3 x4 R w → Calls Tryz.prog 76 #[.agg #[.int .i64 x_1, .int .i64 x_2, .int .u64 x_3], .bool x4] w R :=
  calls_of_eq (ann := fun _ => []) (fn := Tryz.f76) (c := bodyOf Tryz.f76) (args := #[.agg #[.int .i64 x_1, .int .i64 x_2, .int .u64 x_3], .bool x4]) 400 follows_mixed Tryz.func76 (by kernel_rfl) (by kernel_rfl)
set_option maxRecDepth 100000 in
/-- joinery/edit.Set$1 -/
def sh77 (x_1 : Int) (x_2 : Int) (x_3 : Int) (is_4 : Bool) (x5 : Addr) (R : Ending → World → Prop) (w : World) : Prop :=
 doAl (.cells #[.int .i64 x_1, .int .i64 x_2, .int .u64 x_3] 33) w (fun b6 w7 =>
 doAl (.cells #[.int .i64 0, .int .i64 0, .int .u64 0] 33) w7 (fun b8 w9 =>
 ∃ (x10 : Int), World.cell? w9 x5 = some (.int .i64 x10) ∧ (
 doSt (((blk b6).add 1).add 0) (.int .i64 x10) w9 (fun w11 =>
 ∃ (x12 : Int), World.cell? w11 ((blk b6).add 0) = some (.int .i64 x12) ∧ (
 ∃ (x13 : Int), World.cell? w11 ((blk b6).add 1) = some (.int .i64 x13) ∧ (
 ∃ (x14 : Int), World.cell? w11 ((blk b6).add 2) = some (.int .u64 x14) ∧ (
 doSt ((blk b8).add 0) (.int .i64 x12) w11 (fun w15 =>
 doSt ((blk b8).add 1) (.int .i64 x13) w15 (fun w16 =>
 doSt ((blk b8).add 2) (.int .u64 x14) w16 (fun w17 =>
 ∃ (x18 : Int), World.cell? w17 ((blk b8).add 0) = some (.int .i64 x18) ∧ (
 ∃ (x19 : Int), World.cell? w17 ((blk b8).add 1) = some (.int .i64 x19) ∧ (
 ∃ (x20 : Int), World.cell? w17 ((blk b8).add 2) = some (.int .u64 x20) ∧ (
 R (.returned (.tuple #[.agg #[.int .i64 x18, .int .i64 x19, .int .u64 x20], .bool is_4])) w17)))))))))))))
set_option maxRecDepth 100000 in
theorem sh77_ok (x_1 : Int) (x_2 : Int) (x_3 : Int) (is_4 : Bool) (x5 : Addr) {R : Ending → World → Prop} {w : World} : sh77 x_1 x_2 x_3 is_4 x5 R w → Calls Tryz.prog 77 #[.agg #[.int .i64 x_1, .int .i64 x_2, .int .u64 x_3], .bool is_4, .pointer (some x5)] w R :=
  calls_of_eq (ann := fun _ => []) (fn := Tryz.f77) (c := bodyOf Tryz.f77) (args := #[.agg #[.int .i64 x_1, .int .i64 x_2, .int .u64 x_3], .bool is_4, .pointer (some x5)]) 400 follows_mixed Tryz.func77 (by kernel_rfl) (by kernel_rfl)
set_option maxRecDepth 100000 in
/-- joinery/joinerylaw28.alive$1 -/
def sh78 (k_1 : Int) (v_2 : Int) (x3 : Addr) (R : Ending → World → Prop) (w : World) : Prop :=
 ∃ (x4 : Option Addr), World.cell? w x3 = some (.pointer x4) ∧ (
 doCall Tryz.prog (.func (.func 51) #[] #[]) #[.pointer x4, .pointer none, .agg #[.int .i64 k_1, .int .i64 v_2, .int .u64 0], .pointer none] w (retS (fun v6 w7 => ∃ (x5 : Option Addr), v6 = (.pointer x5 : Value) ∧ (
 R (.returned (.pointer x5)) w7)) (fun ch w => Kfn R ch [] w)))
set_option maxRecDepth 100000 in
theorem sh78_ok (k_1 : Int) (v_2 : Int) (x3 : Addr) {R : Ending → World → Prop} {w : World} : sh78 k_1 v_2 x3 R w → Calls Tryz.prog 78 #[.int .i64 k_1, .int .i64 v_2, .pointer (some x3)] w R :=
  calls_of_eq (ann := fun _ => []) (fn := Tryz.f78) (c := bodyOf Tryz.f78) (args := #[.int .i64 k_1, .int .i64 v_2, .pointer (some x3)]) 400 follows_mixed Tryz.func78 (by kernel_rfl) (by kernel_rfl)
set_option maxRecDepth 100000 in
/-- joinery/union.may -/
def sh79 (s_1 : Option Addr) (o_2 : Int) (p_3 : Int) (R : Ending → World → Prop) (w : World) : Prop :=
 doCall Tryz.prog (.func (.func 16) #[] #[]) #[.pointer s_1, .int .u8 o_2, .pointer none, .int .i64 0] w (retS (fun v11 w12 => ∃ (x4 : Option Addr), ∃ (x5 : Int), ∃ (x6 : Int), ∃ (x7 : Int), ∃ (x8 : Bool), ∃ (x9 : Option Addr), ∃ (x10 : Int), v11 = (.tuple #[.pointer x4, .agg #[.int .i64 x5, .int .i64 x6, .int .u64 x7], .bool x8, .pointer x9, .int .i64 x10] : Value) ∧ (
 doAl (.cells #[.int .i64 0, .int .i64 0, .int .u64 0] 33) w12 (fun b13 w14 =>
 doSt ((blk b13).add 0) (.int .i64 x5) w14 (fun w15 =>
 doSt ((blk b13).add 1) (.int .i64 x6) w15 (fun w16 =>
 doSt ((blk b13).add 2) (.int .u64 x7) w16 (fun w17 =>
 let K20 : Bool → World → Prop := fun (x18 : Bool) (w19 : World) => 
 R (.returned (.bool x18)) w19
 ifB ((x10 : Int) == 0) (
 doCall Tryz.prog (.func (.func 71) #[] #[]) #[.int .u8 p_3] w17 (retS (fun v22 w23 => ∃ (x21 : Bool), v22 = (.bool x21 : Value) ∧ (
 K20 x21 w23)) (fun ch w => Kfn R ch [] w))) (
 R (.returned (.bool false)) w17))))))) (fun ch w => Kfn R ch [] w))
set_option maxRecDepth 100000 in
theorem sh79_ok (s_1 : Option Addr) (o_2 : Int) (p_3 : Int) {R : Ending → World → Prop} {w : World} : sh79 s_1 o_2 p_3 R w → Calls Tryz.prog 79 #[.pointer s_1, .int .u8 o_2, .int .u8 p_3] w R :=
  calls_of_eq (ann := fun _ => []) (fn := Tryz.f79) (c := bodyOf Tryz.f79) (args := #[.pointer s_1, .int .u8 o_2, .int .u8 p_3]) 400 follows_mixed Tryz.func79 (by kernel_rfl) (by kernel_rfl)
set_option maxRecDepth 100000 in
/-- joinery/union.both -/
def sh80 (s_1 : Option Addr) (o_2 : Int) (come_f3 : Fn) (come_x4 : Array Value) (come_c5 : Array Value) (a_6 : Option Addr) (b_7 : Option Addr) (R : Ending → World → Prop) (w : World) : Prop :=
 doAl (.cells #[.pointer s_1] 23) w (fun b8 w9 =>
 doAl (.cells #[.int .u8 o_2] 5) w9 (fun b10 w11 =>
 doAl (.cells #[.func come_f3 come_x4 come_c5] 123) w11 (fun b12 w13 =>
 doAl (.cells #[.nilFunc] 168) w13 (fun b14 w15 =>
 doSt ((blk b14).add 0) (.func (.func 101) #[] #[.pointer (some (blk b8)), .pointer (some (blk b10)), .pointer (some (blk b14)), .pointer (some (blk b12))]) w15 (fun w16 =>
 ∃ (xf17 : Fn), ∃ (xx18 : Array Value), ∃ (xc19 : Array Value), World.cell? w16 (blk b14) = some (.func xf17 xx18 xc19) ∧ (
 doCall Tryz.prog (.func xf17 xx18 xc19) #[.pointer a_6, .pointer b_7] w16 (retS (fun v21 w22 => ∃ (x20 : Option Addr), v21 = (.pointer x20 : Value) ∧ (
 R (.returned (.pointer x20)) w22)) (fun ch w => Kfn R ch [] w))))))))
set_option maxRecDepth 100000 in
theorem sh80_ok (s_1 : Option Addr) (o_2 : Int) (come_f3 : Fn) (come_x4 : Array Value) (come_c5 : Array Value) (a_6 : Option Addr) (b_7 : Option Addr) {R : Ending → World → Prop} {w : World} : sh80 s_1 o_2 come_f3 come_x4 come_c5 a_6 b_7 R w → Calls Tryz.prog 80 #[.pointer s_1, .int .u8 o_2, .func come_f3 come_x4 come_c5, .pointer a_6, .pointer b_7] w R :=
  calls_of_eq (ann := fun _ => []) (fn := Tryz.f80) (c := bodyOf Tryz.f80) (args := #[.pointer s_1, .int .u8 o_2, .func come_f3 come_x4 come_c5, .pointer a_6, .pointer b_7]) 400 follows_mixed Tryz.func80 (by kernel_rfl) (by kernel_rfl)
set_option maxRecDepth 100000 in
/-- (joinery/union.policy).of -/
def sh81 (p_1 : Int) (x_2 : Int) (x_3 : Int) (x_4 : Int) (y_5 : Int) (y_6 : Int) (y_7 : Int) (is_8 : Bool) (R : Ending → World → Prop) (w : World) : Prop :=
 doAl (.cells #[.int .i64 x_2, .int .i64 x_3, .int .u64 x_4] 33) w (fun b9 w10 =>
 doAl (.cells #[.int .i64 y_5, .int .i64 y_6, .int .u64 y_7] 33) w10 (fun b11 w12 =>
 doAl (.cells #[.int .i64 0, .int .i64 0, .int .u64 0] 33) w12 (fun b13 w14 =>
 let K16 : World → Prop := fun (w15 : World) => 
 ∃ (x17 : Int), World.cell? w15 ((blk b9).add 0) = some (.int .i64 x17) ∧ (
 ∃ (x18 : Int), World.cell? w15 ((blk b9).add 1) = some (.int .i64 x18) ∧ (
 ∃ (x19 : Int), World.cell? w15 ((blk b9).add 2) = some (.int .u64 x19) ∧ (
 doSt ((blk b13).add 0) (.int .i64 x17) w15 (fun w20 =>
 doSt ((blk b13).add 1) (.int .i64 x18) w20 (fun w21 =>
 doSt ((blk b13).add 2) (.int .u64 x19) w21 (fun w22 =>
 ∃ (x23 : Int), World.cell? w22 ((blk b13).add 0) = some (.int .i64 x23) ∧ (
 ∃ (x24 : Int), World.cell? w22 ((blk b13).add 1) = some (.int .i64 x24) ∧ (
 ∃ (x25 : Int), World.cell? w22 ((blk b13).add 2) = some (.int .u64 x25) ∧ (
 R (.returned (.agg #[.int .i64 x23, .int .i64 x24, .int .u64 x25])) w22)))))))))
 ifB is_8 (
 ∃ (x26 : Int), World.cell? w14 ((blk b9).add 1) = some (.int .i64 x26) ∧ (
 ∃ (x27 : Int), World.cell? w14 ((blk b11).add 1) = some (.int .i64 x27) ∧ (
 doCall Tryz.prog (.func (.func 74) #[] #[]) #[.int .u8 p_1, .int .i64 x26, .int .i64 x27] w14 (retS (fun v30 w31 => ∃ (x28 : Int), ∃ (x29 : Int), v30 = (.tuple #[.int .i64 x28, .int .i64 x29] : Value) ∧ (
 doSt (((blk b9).add 1).add 0) (.int .i64 x28) w31 (fun w32 =>
 K16 w32))) (fun ch w => Kfn R ch [] w))))) (
 K16 w14))))
set_option maxRecDepth 100000 in
theorem sh81_ok (p_1 : Int) (x_2 : Int) (x_3 : Int) (x_4 : Int) (y_5 : Int) (y_6 : Int) (y_7 : Int) (is_8 : Bool) {R : Ending → World → Prop} {w : World} : sh81 p_1 x_2 x_3 x_4 y_5 y_6 y_7 is_8 R w → Calls Tryz.prog 81 #[.int .u8 p_1, .agg #[.int .i64 x_2, .int .i64 x_3, .int .u64 x_4], .agg #[.int .i64 y_5, .int .i64 y_6, .int .u64 y_7], .bool is_8] w R :=
  calls_of_eq (ann := fun _ => []) (fn := Tryz.f81) (c := bodyOf Tryz.f81) (args := #[.int .u8 p_1, .agg #[.int .i64 x_2, .int .i64 x_3, .int .u64 x_4], .agg #[.int .i64 y_5, .int .i64 y_6, .int .u64 y_7], .bool is_8]) 400 follows_mixed Tryz.func81 (by kernel_rfl) (by kernel_rfl)
set_option maxRecDepth 100000 in
/-- joinery/scheme.of -/
def sh82 (code_1 : Int) (R : Ending → World → Prop) (w : World) : Prop :=
 ifB ((code_1 : Int) == 1) (
 R (.returned (.iface 173 (.agg #[.string (⟨#[97, 118, 108]⟩ : ByteArray), .func (.func 102) #[] #[], .func (.func 103) #[] #[], .func (.func 104) #[] #[], .func (.func 105) #[] #[], .func (.func 106) #[] #[], .func (.func 107) #[] #[]]))) w) (
 ifB ((code_1 : Int) == 2) (
 R (.returned (.iface 173 (.agg #[.string (⟨#[114, 101, 100, 98, 108, 97, 99, 107]⟩ : ByteArray), .func (.func 108) #[] #[], .func (.func 109) #[] #[], .func (.func 110) #[] #[], .func (.func 111) #[] #[], .func (.func 112) #[] #[], .func (.func 113) #[] #[]]))) w) (
 ifB ((code_1 : Int) == 3) (
 R (.returned (.iface 173 (.agg #[.string (⟨#[119, 101, 105, 103, 104, 116]⟩ : ByteArray), .func (.func 114) #[] #[], .func (.func 115) #[] #[], .func (.func 116) #[] #[], .func (.func 117) #[] #[], .func (.func 118) #[] #[], .func (.func 107) #[] #[]]))) w) (
 ifB ((code_1 : Int) == 4) (
 R (.returned (.iface 174 (.agg #[]))) w) (
 R (.returned (.nilIface)) w))))
set_option maxRecDepth 100000 in
theorem sh82_ok (code_1 : Int) {R : Ending → World → Prop} {w : World} : sh82 code_1 R w → Calls Tryz.prog 82 #[.int .u8 code_1] w R :=
  calls_of_eq (ann := fun _ => []) (fn := Tryz.f82) (c := bodyOf Tryz.f82) (args := #[.int .u8 code_1]) 400 follows_mixed Tryz.func82 (by kernel_rfl) (by kernel_rfl)
set_option maxRecDepth 100000 in
/-- joinery/joineryref09.May -/
def sh83 (l_p1 : Option Addr) (l_n2 : Nat) (l_c3 : Nat) (R : Ending → World → Prop) (w : World) : Prop :=
 let K6 : Bool → World → Prop := fun (x4 : Bool) (w5 : World) => 
 R (.returned (.bool x4)) w5
 ifB ((((l_n2 : Nat) : Int) : Int) == 0) (
 R (.returned (.bool true)) w) (
 doCall Tryz.prog (.func (.func 87) #[] #[]) #[.slice l_p1 l_n2 l_c3, .int .i64 0, .int .i64 0] w (retS (fun v8 w9 => ∃ (x7 : Int), v8 = (.int .i64 x7 : Value) ∧ (
 K6 ((x7 : Int) == ((l_n2 : Nat) : Int)) w9)) (fun ch w => Kfn R ch [] w)))
set_option maxRecDepth 100000 in
theorem sh83_ok (l_p1 : Option Addr) (l_n2 : Nat) (l_c3 : Nat) {R : Ending → World → Prop} {w : World} : sh83 l_p1 l_n2 l_c3 R w → Calls Tryz.prog 83 #[.slice l_p1 l_n2 l_c3] w R :=
  calls_of_eq (ann := fun _ => []) (fn := Tryz.f83) (c := bodyOf Tryz.f83) (args := #[.slice l_p1 l_n2 l_c3]) 400 follows_mixed Tryz.func83 (by kernel_rfl) (by kernel_rfl)
set_option maxRecDepth 100000 in
/-- joinery/joineryref22.May -/
def sh84 (code_1 : Int) (l_p2 : Option Addr) (l_n3 : Nat) (l_c4 : Nat) (R : Ending → World → Prop) (w : World) : Prop :=
 doCall Tryz.prog (.func (.func 119) #[] #[]) #[.int .u8 code_1, .slice l_p2 l_n3 l_c4] w (retS (fun v7 w8 => ∃ (x5 : Int), ∃ (x6 : Int), v7 = (.tuple #[.int .i64 x5, .int .i64 x6] : Value) ∧ (
 R (.returned (.bool ((x6 : Int) == 0))) w8)) (fun ch w => Kfn R ch [] w))
set_option maxRecDepth 100000 in
theorem sh84_ok (code_1 : Int) (l_p2 : Option Addr) (l_n3 : Nat) (l_c4 : Nat) {R : Ending → World → Prop} {w : World} : sh84 code_1 l_p2 l_n3 l_c4 R w → Calls Tryz.prog 84 #[.int .u8 code_1, .slice l_p2 l_n3 l_c4] w R :=
  calls_of_eq (ann := fun _ => []) (fn := Tryz.f84) (c := bodyOf Tryz.f84) (args := #[.int .u8 code_1, .slice l_p2 l_n3 l_c4]) 400 follows_mixed Tryz.func84 (by kernel_rfl) (by kernel_rfl)
set_option maxRecDepth 100000 in
/-- joinery/joineryref12.Sound -/
def sh85 (o_1 : Int) (l_p2 : Option Addr) (l_n3 : Nat) (l_c4 : Nat) (R : Ending → World → Prop) (w : World) : Prop :=
 doCall Tryz.prog (.func (.func 121) #[] #[]) #[.slice l_p2 l_n3 l_c4] w (retS (fun v8 w9 => ∃ (xp5 : Option Addr), ∃ (xn6 : Nat), ∃ (xc7 : Nat), v8 = (.slice xp5 xn6 xc7 : Value) ∧ (
 doCall Tryz.prog (.func (.func 120) #[] #[]) #[.int .u8 o_1, .slice xp5 xn6 xc7] w9 (retS (fun v11 w12 => ∃ (x10 : Bool), v11 = (.bool x10 : Value) ∧ (
 R (.returned (.bool x10)) w12)) (fun ch w => Kfn R ch [] w)))) (fun ch w => Kfn R ch [] w))
set_option maxRecDepth 100000 in
theorem sh85_ok (o_1 : Int) (l_p2 : Option Addr) (l_n3 : Nat) (l_c4 : Nat) {R : Ending → World → Prop} {w : World} : sh85 o_1 l_p2 l_n3 l_c4 R w → Calls Tryz.prog 85 #[.int .u8 o_1, .slice l_p2 l_n3 l_c4] w R :=
  calls_of_eq (ann := fun _ => []) (fn := Tryz.f85) (c := bodyOf Tryz.f85) (args := #[.int .u8 o_1, .slice l_p2 l_n3 l_c4]) 400 follows_mixed Tryz.func85 (by kernel_rfl) (by kernel_rfl)
set_option maxRecDepth 100000 in
/-- (*sync/atomic.Uint64).Add -/
def sh86 (x_1 : Option Addr) (delta_2 : Int) (R : Ending → World → Prop) (w : World) : Prop :=
 ∃ (q3 : Addr), x_1 = some q3 ∧ (
 doCall Tryz.prog (.func (.func 122) #[] #[]) #[.pointer (some (q3.add 0)), .int .u64 delta_2] w (retS (fun v5 w6 => ∃ (x4 : Int), v5 = (.int .u64 x4 : Value) ∧ (
 R (.returned (.int .u64 x4)) w6)) (fun ch w => Kfn R ch [] w)))
set_option maxRecDepth 100000 in
theorem sh86_ok (x_1 : Option Addr) (delta_2 : Int) {R : Ending → World → Prop} {w : World} : sh86 x_1 delta_2 R w → Calls Tryz.prog 86 #[.pointer x_1, .int .u64 delta_2] w R :=
  calls_of_eq (ann := fun _ => []) (fn := Tryz.f86) (c := bodyOf Tryz.f86) (args := #[.pointer x_1, .int .u64 delta_2]) 400 follows_mixed Tryz.func86 (by kernel_rfl) (by kernel_rfl)
set_option maxRecDepth 100000 in
/-- joinery/joineryref09.ends -/
def sh87 (l_p1 : Option Addr) (l_n2 : Nat) (l_c3 : Nat) (at_4 : Int) (deep_5 : Int) (R : Ending → World → Prop) (w : World) : Prop :=
 let K8 : Bool → World → Prop := fun (x6 : Bool) (w7 : World) => 
 ifB x6 (
 R (.returned (.int .i64 (-1))) w7) (
 let K11 : Int → World → Prop := fun (n_9 : Int) (w10 : World) => 
 let K14 : Int → World → Prop := fun (n_12 : Int) (w13 : World) => 
 R (.returned (.int .i64 n_12)) w13
 doIx l_p1 l_n2 7 (at_4) (fun a15 =>
 ∃ (x16 : Bool), World.cell? w10 (a15.add 6) = some (.bool x16) ∧ (
 ifB x16 (
 doCall Tryz.prog (.func (.func 87) #[] #[]) #[.slice l_p1 l_n2 l_c3, .int .i64 (IntKind.wrap .i64 (at_4 + n_9)), .int .i64 (IntKind.wrap .i64 (deep_5 + 1))] w10 (retS (fun v18 w19 => ∃ (x17 : Int), v18 = (.int .i64 x17 : Value) ∧ (
 ifB (decide ((x17 : Int) < 0)) (
 R (.returned (.int .i64 (-1))) w19) (
 K14 (IntKind.wrap .i64 (n_9 + x17)) w19))) (fun ch w => Kfn R ch [] w))) (
 K14 n_9 w10)))
 doIx l_p1 l_n2 7 (at_4) (fun a20 =>
 ∃ (x21 : Bool), World.cell? w7 (a20.add 5) = some (.bool x21) ∧ (
 ifB x21 (
 doCall Tryz.prog (.func (.func 87) #[] #[]) #[.slice l_p1 l_n2 l_c3, .int .i64 (IntKind.wrap .i64 (at_4 + 1)), .int .i64 (IntKind.wrap .i64 (deep_5 + 1))] w7 (retS (fun v23 w24 => ∃ (x22 : Int), v23 = (.int .i64 x22 : Value) ∧ (
 ifB (decide ((x22 : Int) < 0)) (
 R (.returned (.int .i64 (-1))) w24) (
 K11 (IntKind.wrap .i64 (1 + x22)) w24))) (fun ch w => Kfn R ch [] w))) (
 K11 1 w7))))
 ifB (decide ((at_4 : Int) ≥ ((l_n2 : Nat) : Int))) (
 R (.returned (.int .i64 (-1))) w) (
 K8 (decide ((deep_5 : Int) > 5000)) w)
set_option maxRecDepth 100000 in
theorem sh87_ok (l_p1 : Option Addr) (l_n2 : Nat) (l_c3 : Nat) (at_4 : Int) (deep_5 : Int) {R : Ending → World → Prop} {w : World} : sh87 l_p1 l_n2 l_c3 at_4 deep_5 R w → Calls Tryz.prog 87 #[.slice l_p1 l_n2 l_c3, .int .i64 at_4, .int .i64 deep_5] w R :=
  calls_of_eq (ann := fun _ => []) (fn := Tryz.f87) (c := bodyOf Tryz.f87) (args := #[.slice l_p1 l_n2 l_c3, .int .i64 at_4, .int .i64 deep_5]) 400 follows_mixed Tryz.func87 (by kernel_rfl) (by kernel_rfl)
set_option maxRecDepth 100000 in
/-- joinery/order.Code -/
def sh88 (o_1 : Int) (key_2 : Int) (R : Ending → World → Prop) (w : World) : Prop :=
 let K6 : Addr → Bool → World → Prop := fun (k_3 : Addr) (is_4 : Bool) (w5 : World) => 
 ifB (!is_4) (
 R (.returned (.tuple #[.int .u64 0, .int .i64 2])) w5) (
 ∃ (xf7 : Fn), ∃ (xx8 : Array Value), ∃ (xc9 : Array Value), World.cell? w5 (k_3.add 1) = some (.func xf7 xx8 xc9) ∧ (
 doCall Tryz.prog (.func xf7 xx8 xc9) #[.int .i64 key_2] w5 (retS (fun v11 w12 => ∃ (x10 : Int), v11 = (.int .u64 x10 : Value) ∧ (
 R (.returned (.tuple #[.int .u64 x10, .int .i64 0])) w12)) (fun ch w => Kfn R ch [] w))))
 doCall Tryz.prog (.func (.func 123) #[] #[]) #[] w (retS (fun v14 w15 => ∃ (x13 : Option Nat), v14 = (.map x13 : Value) ∧ (
 doLk Tryz.prog 187 (.map x13) (.int .u8 o_1) true w15 (fun v24 => (∃ (x16 : ByteArray), ∃ (xf17 : Fn), ∃ (xx18 : Array Value), ∃ (xc19 : Array Value), ∃ (xf20 : Fn), ∃ (xx21 : Array Value), ∃ (xc22 : Array Value), ∃ (x23 : Bool), v24 = (.tuple #[.agg #[.string x16, .func xf17 xx18 xc19, .func xf20 xx21 xc22], .bool x23] : Value) ∧ (
 doAl (.cells #[.string (⟨#[]⟩ : ByteArray), .nilFunc, .nilFunc] 185) w15 (fun b25 w26 =>
 doSt ((blk b25).add 0) (.string x16) w26 (fun w27 =>
 doSt ((blk b25).add 1) (.func xf17 xx18 xc19) w27 (fun w28 =>
 doSt ((blk b25).add 2) (.func xf20 xx21 xc22) w28 (fun w29 =>
 K6 (blk b25) x23 w29)))))) ∨ (v24 = (.tuple #[.agg #[.string (⟨#[]⟩ : ByteArray), .nilFunc, .nilFunc], .bool false] : Value) ∧ (
 doAl (.cells #[.string (⟨#[]⟩ : ByteArray), .nilFunc, .nilFunc] 185) w15 (fun b30 w31 =>
 doSt ((blk b30).add 0) (.string (⟨#[]⟩ : ByteArray)) w31 (fun w32 =>
 doSt ((blk b30).add 1) (.nilFunc) w32 (fun w33 =>
 doSt ((blk b30).add 2) (.nilFunc) w33 (fun w34 =>
 K6 (blk b30) false w34))))))))) (fun ch w => Kfn R ch [] w))
set_option maxRecDepth 100000 in
theorem sh88_ok (o_1 : Int) (key_2 : Int) {R : Ending → World → Prop} {w : World} : sh88 o_1 key_2 R w → Calls Tryz.prog 88 #[.int .u8 o_1, .int .i64 key_2] w R :=
  calls_of_eq (ann := fun _ => []) (fn := Tryz.f88) (c := bodyOf Tryz.f88) (args := #[.int .u8 o_1, .int .i64 key_2]) 400 follows_mixed Tryz.func88 (by kernel_rfl) (by kernel_rfl)
end Go.Proofs.YthgckfeocalbdaaGreat

namespace Go.Proofs.YthgckfeocalbdaaGreat
open Go Go.Sh
set_option maxRecDepth 100000 in
/-- joinery/split.where$1 -/
def sh89 (k_1 : Int) (x2 : Addr) (x3 : Addr) (R : Ending → World → Prop) (w : World) : Prop :=
 ∃ (x4 : Int), World.cell? w x2 = some (.int .u8 x4) ∧ (
 doCall Tryz.prog (.func (.func 88) #[] #[]) #[.int .u8 x4, .int .i64 k_1] w (retS (fun v7 w8 => ∃ (x5 : Int), ∃ (x6 : Int), v7 = (.tuple #[.int .u64 x5, .int .i64 x6] : Value) ∧ (
 ∃ (x9 : Int), World.cell? w8 x3 = some (.int .u64 x9) ∧ (
 doCall Tryz.prog (.func (.func 90) #[] #[]) #[.int .u64 x5, .int .u64 x9] w8 (retS (fun v11 w12 => ∃ (x10 : Int), v11 = (.int .i64 x10 : Value) ∧ (
 R (.returned (.int .i64 x10)) w12)) (fun ch w => Kfn R ch [] w))))) (fun ch w => Kfn R ch [] w)))
set_option maxRecDepth 100000 in
theorem sh89_ok (k_1 : Int) (x2 : Addr) (x3 : Addr) {R : Ending → World → Prop} {w : World} : sh89 k_1 x2 x3 R w → Calls Tryz.prog 89 #[.int .i64 k_1, .pointer (some x2), .pointer (some x3)] w R :=
  calls_of_eq (ann := fun _ => []) (fn := Tryz.f89) (c := bodyOf Tryz.f89) (args := #[.int .i64 k_1, .pointer (some x2), .pointer (some x3)]) 400 follows_mixed Tryz.func89 (by kernel_rfl) (by kernel_rfl)
set_option maxRecDepth 100000 in
/-- cmp.Compare[uint64] -/
def sh90 (x_1 : Int) (y_2 : Int) (R : Ending → World → Prop) (w : World) : Prop :=
 doCall Tryz.prog (.func (.func 124) #[] #[]) #[.int .u64 x_1] w (retS (fun v4 w5 => ∃ (x3 : Bool), v4 = (.bool x3 : Value) ∧ (
 doCall Tryz.prog (.func (.func 124) #[] #[]) #[.int .u64 y_2] w5 (retS (fun v7 w8 => ∃ (x6 : Bool), v7 = (.bool x6 : Value) ∧ (
 ifB x3 (
 ifB x6 (
 R (.returned (.int .i64 0)) w8) (
 R (.returned (.int .i64 (-1))) w8)) (
 ifB x6 (
 R (.returned (.int .i64 1)) w8) (
 ifB (decide ((x_1 : Int) < y_2)) (
 R (.returned (.int .i64 (-1))) w8) (
 ifB (decide ((x_1 : Int) > y_2)) (
 R (.returned (.int .i64 1)) w8) (
 R (.returned (.int .i64 0)) w8)))))) (fun ch w => Kfn R ch [] w)))) (fun ch w => Kfn R ch [] w))
set_option maxRecDepth 100000 in
theorem sh90_ok (x_1 : Int) (y_2 : Int) {R : Ending → World → Prop} {w : World} : sh90 x_1 y_2 R w → Calls Tryz.prog 90 #[.int .u64 x_1, .int .u64 y_2] w R :=
  calls_of_eq (ann := fun _ => []) (fn := Tryz.f90) (c := bodyOf Tryz.f90) (args := #[.int .u64 x_1, .int .u64 y_2]) 400 follows_mixed Tryz.func90 (by kernel_rfl) (by kernel_rfl)
set_option maxRecDepth 100000 in
/-- (*joinery/scheme.Scheme).Whole -/
def sh91 (s_1 : Option Addr) (t_2 : Option Addr) (R : Ending → World → Prop) (w : World) : Prop :=
 ifB ((s_1).isNone) (
 R (.returned (.pointer none)) w) (
 doCall Tryz.prog (.func (.func 62) #[] #[]) #[.pointer s_1] w (retS (fun v23 w24 => ∃ (x3 : ByteArray), ∃ (xf4 : Fn), ∃ (xx5 : Array Value), ∃ (xc6 : Array Value), ∃ (xf7 : Fn), ∃ (xx8 : Array Value), ∃ (xc9 : Array Value), ∃ (xf10 : Fn), ∃ (xx11 : Array Value), ∃ (xc12 : Array Value), ∃ (xf13 : Fn), ∃ (xx14 : Array Value), ∃ (xc15 : Array Value), ∃ (xf16 : Fn), ∃ (xx17 : Array Value), ∃ (xc18 : Array Value), ∃ (xf19 : Fn), ∃ (xx20 : Array Value), ∃ (xc21 : Array Value), ∃ (x22 : Bool), v23 = (.agg #[.string x3, .func xf4 xx5 xc6, .func xf7 xx8 xc9, .func xf10 xx11 xc12, .func xf13 xx14 xc15, .func xf16 xx17 xc18, .func xf19 xx20 xc21, .bool x22] : Value) ∧ (
 doCall Tryz.prog (.func xf7 xx8 xc9) #[.pointer t_2] w24 (retS (fun v26 w27 => ∃ (x25 : Option Addr), v26 = (.pointer x25 : Value) ∧ (
 R (.returned (.pointer x25)) w27)) (fun ch w => Kfn R ch [] w)))) (fun ch w => Kfn R ch [] w)))
set_option maxRecDepth 100000 in
theorem sh91_ok (s_1 : Option Addr) (t_2 : Option Addr) {R : Ending → World → Prop} {w : World} : sh91 s_1 t_2 R w → Calls Tryz.prog 91 #[.pointer s_1, .pointer t_2] w R :=
  calls_of_eq (ann := fun _ => []) (fn := Tryz.f91) (c := bodyOf Tryz.f91) (args := #[.pointer s_1, .pointer t_2]) 400 follows_mixed Tryz.func91 (by kernel_rfl) (by kernel_rfl)
set_option maxRecDepth 100000 in
/-- (*joinery/scheme.Scheme).Item -/
def sh92 (s_1 : Option Addr) (t_2 : Option Addr) (R : Ending → World → Prop) (w : World) : Prop :=
 doAl (.cells #[.int .i64 0, .int .i64 0, .int .u64 0] 33) w (fun b3 w4 =>
 let K7 : Bool → World → Prop := fun (x5 : Bool) (w6 : World) => 
 ifB x5 (
 doSt ((blk b3).add 0) (.int .i64 0) w6 (fun w8 =>
 doSt ((blk b3).add 1) (.int .i64 0) w8 (fun w9 =>
 doSt ((blk b3).add 2) (.int .u64 0) w9 (fun w10 =>
 ∃ (x11 : Int), World.cell? w10 ((blk b3).add 0) = some (.int .i64 x11) ∧ (
 ∃ (x12 : Int), World.cell? w10 ((blk b3).add 1) = some (.int .i64 x12) ∧ (
 ∃ (x13 : Int), World.cell? w10 ((blk b3).add 2) = some (.int .u64 x13) ∧ (
 R (.returned (.agg #[.int .i64 x11, .int .i64 x12, .int .u64 x13])) w10))))))) (
 doCall Tryz.prog (.func (.func 67) #[] #[]) #[.pointer t_2] w6 (retS (fun v15 w16 => ∃ (x14 : Int), v15 = (.int .i64 x14 : Value) ∧ (
 doCall Tryz.prog (.func (.func 125) #[] #[]) #[.pointer t_2] w16 (retS (fun v18 w19 => ∃ (x17 : Int), v18 = (.int .i64 x17 : Value) ∧ (
 doAl (.cells #[.int .i64 0, .int .i64 0, .int .u64 0] 33) w19 (fun b20 w21 =>
 doSt ((blk b20).add 0) (.int .i64 x14) w21 (fun w22 =>
 doSt ((blk b20).add 1) (.int .i64 x17) w22 (fun w23 =>
 doSt ((blk b20).add 2) (.int .u64 0) w23 (fun w24 =>
 let K26 : World → Prop := fun (w25 : World) => 
 ∃ (x27 : Int), World.cell? w25 ((blk b20).add 0) = some (.int .i64 x27) ∧ (
 ∃ (x28 : Int), World.cell? w25 ((blk b20).add 1) = some (.int .i64 x28) ∧ (
 ∃ (x29 : Int), World.cell? w25 ((blk b20).add 2) = some (.int .u64 x29) ∧ (
 doSt ((blk b3).add 0) (.int .i64 x27) w25 (fun w30 =>
 doSt ((blk b3).add 1) (.int .i64 x28) w30 (fun w31 =>
 doSt ((blk b3).add 2) (.int .u64 x29) w31 (fun w32 =>
 ∃ (x33 : Int), World.cell? w32 ((blk b3).add 0) = some (.int .i64 x33) ∧ (
 ∃ (x34 : Int), World.cell? w32 ((blk b3).add 1) = some (.int .i64 x34) ∧ (
 ∃ (x35 : Int), World.cell? w32 ((blk b3).add 2) = some (.int .u64 x35) ∧ (
 R (.returned (.agg #[.int .i64 x33, .int .i64 x34, .int .u64 x35])) w32)))))))))
 doCall Tryz.prog (.func (.func 62) #[] #[]) #[.pointer s_1] w24 (retS (fun v56 w57 => ∃ (x36 : ByteArray), ∃ (xf37 : Fn), ∃ (xx38 : Array Value), ∃ (xc39 : Array Value), ∃ (xf40 : Fn), ∃ (xx41 : Array Value), ∃ (xc42 : Array Value), ∃ (xf43 : Fn), ∃ (xx44 : Array Value), ∃ (xc45 : Array Value), ∃ (xf46 : Fn), ∃ (xx47 : Array Value), ∃ (xc48 : Array Value), ∃ (xf49 : Fn), ∃ (xx50 : Array Value), ∃ (xc51 : Array Value), ∃ (xf52 : Fn), ∃ (xx53 : Array Value), ∃ (xc54 : Array Value), ∃ (x55 : Bool), v56 = (.agg #[.string x36, .func xf37 xx38 xc39, .func xf40 xx41 xc42, .func xf43 xx44 xc45, .func xf46 xx47 xc48, .func xf49 xx50 xc51, .func xf52 xx53 xc54, .bool x55] : Value) ∧ (
 ifB x55 (
 doCall Tryz.prog (.func (.func 126) #[] #[]) #[.pointer t_2] w57 (retS (fun v59 w60 => ∃ (x58 : Int), v59 = (.int .u64 x58 : Value) ∧ (
 doSt (((blk b20).add 2).add 0) (.int .u64 x58) w60 (fun w61 =>
 K26 w61))) (fun ch w => Kfn R ch [] w))) (
 K26 w57))) (fun ch w => Kfn R ch [] w)))))))) (fun ch w => Kfn R ch [] w)))) (fun ch w => Kfn R ch [] w)))
 ifB ((s_1).isNone) (
 K7 true w4) (
 K7 ((t_2).isNone) w4))
set_option maxRecDepth 100000 in
theorem sh92_ok (s_1 : Option Addr) (t_2 : Option Addr) {R : Ending → World → Prop} {w : World} : sh92 s_1 t_2 R w → Calls Tryz.prog 92 #[.pointer s_1, .pointer t_2] w R :=
  calls_of_eq (ann := fun _ => []) (fn := Tryz.f92) (c := bodyOf Tryz.f92) (args := #[.pointer s_1, .pointer t_2]) 400 follows_mixed Tryz.func92 (by kernel_rfl) (by kernel_rfl)
set_option maxRecDepth 100000 in
/-- joinery/joineryref02.Code -/
def sh93 (o_1 : Int) (k_2 : Int) (R : Ending → World → Prop) (w : World) : Prop :=
 ifB ((o_1 : Int) == 1) (
 doCall Tryz.prog (.func (.func 127) #[] #[]) #[.int .i64 k_2] w (retS (fun v4 w5 => ∃ (x3 : Int), v4 = (.int .u64 x3 : Value) ∧ (
 R (.returned (.int .u64 x3)) w5)) (fun ch w => Kfn R ch [] w))) (
 ifB ((o_1 : Int) == 2) (
 doCall Tryz.prog (.func (.func 127) #[] #[]) #[.int .i64 k_2] w (retS (fun v7 w8 => ∃ (x6 : Int), v7 = (.int .u64 x6 : Value) ∧ (
 R (.returned (.int .u64 (IntKind.wrap .u64 (18446744073709551615 - x6)))) w8)) (fun ch w => Kfn R ch [] w))) (
 ifB ((o_1 : Int) == 3) (
 ifB (decide ((k_2 : Int) < 0)) (
 R (.returned (.int .u64 (IntKind.wrap .u64 ((IntKind.wrap .u64 ((IntKind.wrap .u64 (IntKind.wrap .i64 (0 - (IntKind.wrap .i64 (k_2 + 1))))) * 2)) + 1)))) w) (
 R (.returned (.int .u64 (IntKind.wrap .u64 ((IntKind.wrap .u64 k_2) * 2)))) w)) (
 ifB ((o_1 : Int) == 4) (
 doCall Tryz.prog (.func (.func 128) #[] #[]) #[.int .u64 (IntKind.wrap .u64 k_2)] w (retS (fun v10 w11 => ∃ (x9 : Int), v10 = (.int .u64 x9 : Value) ∧ (
 R (.returned (.int .u64 x9)) w11)) (fun ch w => Kfn R ch [] w))) (
 ifB ((o_1 : Int) == 5) (
 doCall Tryz.prog (.func (.func 127) #[] #[]) #[.int .i64 k_2] w (retS (fun v13 w14 => ∃ (x12 : Int), v13 = (.int .u64 x12 : Value) ∧ (
 2 ≠ (0 : Int) ∧ (
 let K17 : Int → World → Prop := fun (half_15 : Int) (w16 : World) => 
 R (.returned (.int .u64 half_15)) w16
 2 ≠ (0 : Int) ∧ (
 ifB (((Int.tmod (IntKind.wrap .u64 k_2) 2) : Int) == 1) (
 K17 (IntKind.wrap .u64 ((IntKind.wrap .u64 (Int.tdiv x12 2)) + 9223372036854775808)) w14) (
 K17 (IntKind.wrap .u64 (Int.tdiv x12 2)) w14))))) (fun ch w => Kfn R ch [] w))) (
 ifB ((o_1 : Int) == 6) (
 doCall Tryz.prog (.func (.func 127) #[] #[]) #[.int .i64 k_2] w (retS (fun v19 w20 => ∃ (x18 : Int), v19 = (.int .u64 x18 : Value) ∧ (
 doCall Tryz.prog (.func (.func 129) #[] #[]) #[.int .u64 x18, .int .i64 32] w20 (retS (fun v22 w23 => ∃ (x21 : Int), v22 = (.int .u64 x21 : Value) ∧ (
 R (.returned (.int .u64 x21)) w23)) (fun ch w => Kfn R ch [] w)))) (fun ch w => Kfn R ch [] w))) (
 doCall Tryz.prog (.func (.func 130) #[] #[]) #[.int .u64 (IntKind.wrap .u64 k_2)] w (retS (fun v25 w26 => ∃ (x24 : Int), v25 = (.int .u64 x24 : Value) ∧ (
 R (.returned (.int .u64 x24)) w26)) (fun ch w => Kfn R ch [] w))))))))
set_option maxRecDepth 100000 in
theorem sh93_ok (o_1 : Int) (k_2 : Int) {R : Ending → World → Prop} {w : World} : sh93 o_1 k_2 R w → Calls Tryz.prog 93 #[.int .u8 o_1, .int .i64 k_2] w R :=
  calls_of_eq (ann := fun _ => []) (fn := Tryz.f93) (c := bodyOf Tryz.f93) (args := #[.int .u8 o_1, .int .i64 k_2]) 400 follows_mixed Tryz.func93 (by kernel_rfl) (by kernel_rfl)
set_option maxRecDepth 100000 in
/-- joinery/joineryref20.item -/
def sh94 (x_1 : Int) (x_2 : Int) (x_3 : Int) (x_4 : Int) (x_5 : Int) (x_6 : Bool) (x_7 : Bool) (R : Ending → World → Prop) (w : World) : Prop :=
 doAl (.cells #[.int .i64 x_1, .int .i64 x_2, .int .i64 x_3, .int .i64 x_4, .int .u64 x_5, .bool x_6, .bool x_7] 84) w (fun b8 w9 =>
 doAl (.cells #[.int .i64 0, .int .i64 0, .int .u64 0] 33) w9 (fun b10 w11 =>
 ∃ (x12 : Int), World.cell? w11 ((blk b8).add 0) = some (.int .i64 x12) ∧ (
 ∃ (x13 : Int), World.cell? w11 ((blk b8).add 1) = some (.int .i64 x13) ∧ (
 ∃ (x14 : Int), World.cell? w11 ((blk b8).add 4) = some (.int .u64 x14) ∧ (
 doSt ((blk b10).add 0) (.int .i64 x12) w11 (fun w15 =>
 doSt ((blk b10).add 1) (.int .i64 x13) w15 (fun w16 =>
 doSt ((blk b10).add 2) (.int .u64 x14) w16 (fun w17 =>
 ∃ (x18 : Int), World.cell? w17 ((blk b10).add 0) = some (.int .i64 x18) ∧ (
 ∃ (x19 : Int), World.cell? w17 ((blk b10).add 1) = some (.int .i64 x19) ∧ (
 ∃ (x20 : Int), World.cell? w17 ((blk b10).add 2) = some (.int .u64 x20) ∧ (
 R (.returned (.agg #[.int .i64 x18, .int .i64 x19, .int .u64 x20])) w17)))))))))))
set_option maxRecDepth 100000 in
theorem sh94_ok (x_1 : Int) (x_2 : Int) (x_3 : Int) (x_4 : Int) (x_5 : Int) (x_6 : Bool) (x_7 : Bool) {R : Ending → World → Prop} {w : World} : sh94 x_1 x_2 x_3 x_4 x_5 x_6 x_7 R w → Calls Tryz.prog 94 #[.agg #[.int .i64 x_1, .int .i64 x_2, .int .i64 x_3, .int .i64 x_4, .int .u64 x_5, .bool x_6, .bool x_7]] w R :=
  calls_of_eq (ann := fun _ => []) (fn := Tryz.f94) (c := bodyOf Tryz.f94) (args := #[.agg #[.int .i64 x_1, .int .i64 x_2, .int .i64 x_3, .int .i64 x_4, .int .u64 x_5, .bool x_6, .bool x_7]]) 400 follows_mixed Tryz.func94 (by kernel_rfl) (by kernel_rfl)
set_option maxRecDepth 100000 in
/-- joinery/joinerylaw09.see -/
def sh95 (t_1 : Option Addr) (l_p2 : Option Addr) (l_n3 : Nat) (l_c4 : Nat) (deep_5 : Int) (R : Ending → World → Prop) (w : World) : Prop :=
 ifB ((t_1).isNone) (
 R (.returned (.tuple #[.slice l_p2 l_n3 l_c4, .bool true])) w) (
 let K8 : Bool → World → Prop := fun (x6 : Bool) (w7 : World) => 
 ifB x6 (
 R (.returned (.tuple #[.slice l_p2 l_n3 l_c4, .bool false])) w7) (
 doCall Tryz.prog (.func (.func 67) #[] #[]) #[.pointer t_1] w7 (retS (fun v10 w11 => ∃ (x9 : Int), v10 = (.int .i64 x9 : Value) ∧ (
 doCall Tryz.prog (.func (.func 125) #[] #[]) #[.pointer t_1] w11 (retS (fun v13 w14 => ∃ (x12 : Int), v13 = (.int .i64 x12 : Value) ∧ (
 doCall Tryz.prog (.func (.func 126) #[] #[]) #[.pointer t_1] w14 (retS (fun v16 w17 => ∃ (x15 : Int), v16 = (.int .u64 x15 : Value) ∧ (
 doCall Tryz.prog (.func (.func 29) #[] #[]) #[.pointer t_1] w17 (retS (fun v19 w20 => ∃ (x18 : Int), v19 = (.int .i64 x18 : Value) ∧ (
 doCall Tryz.prog (.func (.func 30) #[] #[]) #[.pointer t_1] w20 (retS (fun v22 w23 => ∃ (x21 : Int), v22 = (.int .i64 x21 : Value) ∧ (
 doCall Tryz.prog (.func (.func 68) #[] #[]) #[.pointer t_1] w23 (retS (fun v25 w26 => ∃ (x24 : Option Addr), v25 = (.pointer x24 : Value) ∧ (
 doCall Tryz.prog (.func (.func 66) #[] #[]) #[.pointer t_1] w26 (retS (fun v28 w29 => ∃ (x27 : Option Addr), v28 = (.pointer x27 : Value) ∧ (
 doAl (.cells #[.int .i64 x9, .int .i64 x12, .int .i64 x21, .int .i64 x18, .int .u64 x15, .bool (!(x24).isNone), .bool (!(x27).isNone)] 84) w29 (fun b30 w31 =>
 doGo Tryz.prog (.builtin .append #[22, 22] 22 #[false, false]) #[.slice l_p2 l_n3 l_c4, .slice (some (blk b30)) 1 1] w31 (retS (fun v35 w36 => ∃ (xp32 : Option Addr), ∃ (xn33 : Nat), ∃ (xc34 : Nat), v35 = (.slice xp32 xn33 xc34 : Value) ∧ (
 doCall Tryz.prog (.func (.func 68) #[] #[]) #[.pointer t_1] w36 (retS (fun v38 w39 => ∃ (x37 : Option Addr), v38 = (.pointer x37 : Value) ∧ (
 doCall Tryz.prog (.func (.func 95) #[] #[]) #[.pointer x37, .slice xp32 xn33 xc34, .int .i64 (IntKind.wrap .i64 (deep_5 + 1))] w39 (retS (fun v44 w45 => ∃ (xp40 : Option Addr), ∃ (xn41 : Nat), ∃ (xc42 : Nat), ∃ (x43 : Bool), v44 = (.tuple #[.slice xp40 xn41 xc42, .bool x43] : Value) ∧ (
 ifB (!x43) (
 R (.returned (.tuple #[.slice xp40 xn41 xc42, .bool false])) w45) (
 doCall Tryz.prog (.func (.func 66) #[] #[]) #[.pointer t_1] w45 (retS (fun v47 w48 => ∃ (x46 : Option Addr), v47 = (.pointer x46 : Value) ∧ (
 doCall Tryz.prog (.func (.func 95) #[] #[]) #[.pointer x46, .slice xp40 xn41 xc42, .int .i64 (IntKind.wrap .i64 (deep_5 + 1))] w48 (retS (fun v53 w54 => ∃ (xp49 : Option Addr), ∃ (xn50 : Nat), ∃ (xc51 : Nat), ∃ (x52 : Bool), v53 = (.tuple #[.slice xp49 xn50 xc51, .bool x52] : Value) ∧ (
 R (.returned (.tuple #[.slice xp49 xn50 xc51, .bool x52])) w54)) (fun ch w => Kfn R ch [] w)))) (fun ch w => Kfn R ch [] w))))) (fun ch w => Kfn R ch [] w)))) (fun ch w => Kfn R ch [] w)))) (fun ch w => Kfn R ch [] w))))) (fun ch w => Kfn R ch [] w)))) (fun ch w => Kfn R ch [] w)))) (fun ch w => Kfn R ch [] w)))) (fun ch w => Kfn R ch [] w)))) (fun ch w => Kfn R ch [] w)))) (fun ch w => Kfn R ch [] w)))) (fun ch w => Kfn R ch [] w)))
 ifB (decide ((((l_n3 : Nat) : Int) : Int) > 5000)) (
 R (.returned (.tuple #[.slice l_p2 l_n3 l_c4, .bool false])) w) (
 K8 (decide ((deep_5 : Int) > 2000)) w))
set_option maxRecDepth 100000 in
theorem sh95_ok (t_1 : Option Addr) (l_p2 : Option Addr) (l_n3 : Nat) (l_c4 : Nat) (deep_5 : Int) {R : Ending → World → Prop} {w : World} : sh95 t_1 l_p2 l_n3 l_c4 deep_5 R w → Calls Tryz.prog 95 #[.pointer t_1, .slice l_p2 l_n3 l_c4, .int .i64 deep_5] w R :=
  calls_of_eq (ann := fun _ => []) (fn := Tryz.f95) (c := bodyOf Tryz.f95) (args := #[.pointer t_1, .slice l_p2 l_n3 l_c4, .int .i64 deep_5]) 400 follows_mixed Tryz.func95 (by kernel_rfl) (by kernel_rfl)
set_option maxRecDepth 100000 in
/-- joinery/cut.Last -/
def sh96 (s_1 : Option Addr) (t_2 : Option Addr) (R : Ending → World → Prop) (w : World) : Prop :=
 doAl (.cells #[.int .i64 0, .int .i64 0, .int .u64 0] 33) w (fun b3 w4 =>
 let K7 : Bool → World → Prop := fun (x5 : Bool) (w6 : World) => 
 ifB x5 (
 doSt ((blk b3).add 0) (.int .i64 0) w6 (fun w8 =>
 doSt ((blk b3).add 1) (.int .i64 0) w8 (fun w9 =>
 doSt ((blk b3).add 2) (.int .u64 0) w9 (fun w10 =>
 ∃ (x11 : Int), World.cell? w10 ((blk b3).add 0) = some (.int .i64 x11) ∧ (
 ∃ (x12 : Int), World.cell? w10 ((blk b3).add 1) = some (.int .i64 x12) ∧ (
 ∃ (x13 : Int), World.cell? w10 ((blk b3).add 2) = some (.int .u64 x13) ∧ (
 R (.returned (.tuple #[.pointer none, .agg #[.int .i64 x11, .int .i64 x12, .int .u64 x13], .bool false])) w10))))))) (
 doCall Tryz.prog (.func (.func 132) #[] #[]) #[.pointer s_1, .bool true] w6 (retS (fun v23 w24 => ∃ (xf14 : Fn), ∃ (xx15 : Array Value), ∃ (xc16 : Array Value), ∃ (xf17 : Fn), ∃ (xx18 : Array Value), ∃ (xc19 : Array Value), ∃ (xf20 : Fn), ∃ (xx21 : Array Value), ∃ (xc22 : Array Value), v23 = (.agg #[.func xf14 xx15 xc16, .func xf17 xx18 xc19, .func xf20 xx21 xc22] : Value) ∧ (
 doCall Tryz.prog (.func (.func 131) #[] #[]) #[.pointer s_1, .agg #[.func xf14 xx15 xc16, .func xf17 xx18 xc19, .func xf20 xx21 xc22], .pointer t_2] w24 (retS (fun v29 w30 => ∃ (x25 : Option Addr), ∃ (x26 : Int), ∃ (x27 : Int), ∃ (x28 : Int), v29 = (.tuple #[.pointer x25, .agg #[.int .i64 x26, .int .i64 x27, .int .u64 x28]] : Value) ∧ (
 doSt ((blk b3).add 0) (.int .i64 x26) w30 (fun w31 =>
 doSt ((blk b3).add 1) (.int .i64 x27) w31 (fun w32 =>
 doSt ((blk b3).add 2) (.int .u64 x28) w32 (fun w33 =>
 doDr w33 (fun w35 =>
 ∃ (C34 : World → Prop), C34 w35 ∧ (
 ∃ (x36 : Int), (∀ w, C34 w → World.cell? w ((blk b3).add 0) = some (.int .i64 x36)) ∧ (
 ∃ (x37 : Int), (∀ w, C34 w → World.cell? w ((blk b3).add 1) = some (.int .i64 x37)) ∧ (
 ∃ (x38 : Int), (∀ w, C34 w → World.cell? w ((blk b3).add 2) = some (.int .u64 x38)) ∧ (
 doSt ((blk b3).add 0) (.int .i64 x36) w35 (fun w39 =>
 doSt ((blk b3).add 1) (.int .i64 x37) w39 (fun w40 =>
 doSt ((blk b3).add 2) (.int .u64 x38) w40 (fun w41 =>
 ∃ (x42 : Int), World.cell? w41 ((blk b3).add 0) = some (.int .i64 x42) ∧ (
 ∃ (x43 : Int), World.cell? w41 ((blk b3).add 1) = some (.int .i64 x43) ∧ (
 ∃ (x44 : Int), World.cell? w41 ((blk b3).add 2) = some (.int .u64 x44) ∧ (
 R (.returned (.tuple #[.pointer x25, .agg #[.int .i64 x42, .int .i64 x43, .int .u64 x44], .bool true])) w41)))))))))))))))) (fun ch w => Kfn R ch [] w)))) (fun ch w => Kfn R ch [] w)))
 ifB ((s_1).isNone) (
 K7 true w4) (
 K7 ((t_2).isNone) w4))
set_option maxRecDepth 100000 in
theorem sh96_ok (s_1 : Option Addr) (t_2 : Option Addr) {R : Ending → World → Prop} {w : World} : sh96 s_1 t_2 R w → Calls Tryz.prog 96 #[.pointer s_1, .pointer t_2] w R :=
  calls_of_eq (ann := fun _ => []) (fn := Tryz.f96) (c := bodyOf Tryz.f96) (args := #[.pointer s_1, .pointer t_2]) 400 follows_mixed Tryz.func96 (by kernel_rfl) (by kernel_rfl)
set_option maxRecDepth 100000 in
/-- (*joinery/scheme.Scheme).face$1 -/
def sh98 (x1 : Addr) (R : Ending → World → Prop) (w : World) : Prop :=
 doDr w (fun w3 =>
 ∃ (C2 : World → Prop), C2 w3 ∧ (
 ∃ (x4 : Option Addr), (∀ w, C2 w → World.cell? w x1 = some (.pointer x4)) ∧ (
 ∃ (x5 : Option Addr), (∀ w, C2 w → World.cell? w x1 = some (.pointer x5)) ∧ (
 ∃ (q6 : Addr), x5 = some q6 ∧ (
 ∃ (x7 : Int), (∀ w, C2 w → World.cell? w (q6.add 0) = some (.int .u8 x7)) ∧ (
 doCall Tryz.prog (.func (.func 82) #[] #[]) #[.int .u8 x7] w3 (retS (fun v9 w10 => ∃ (x8 : Value), v9 = (x8 : Value) ∧ (
 C2 w10 ∧ (
 doGo Tryz.prog (.fn (.method "joinery/scheme.faces") #[]) #[x8] w10 (retS (fun v31 w32 => ∃ (x11 : ByteArray), ∃ (xf12 : Fn), ∃ (xx13 : Array Value), ∃ (xc14 : Array Value), ∃ (xf15 : Fn), ∃ (xx16 : Array Value), ∃ (xc17 : Array Value), ∃ (xf18 : Fn), ∃ (xx19 : Array Value), ∃ (xc20 : Array Value), ∃ (xf21 : Fn), ∃ (xx22 : Array Value), ∃ (xc23 : Array Value), ∃ (xf24 : Fn), ∃ (xx25 : Array Value), ∃ (xc26 : Array Value), ∃ (xf27 : Fn), ∃ (xx28 : Array Value), ∃ (xc29 : Array Value), ∃ (x30 : Bool), v31 = (.agg #[.string x11, .func xf12 xx13 xc14, .func xf15 xx16 xc17, .func xf18 xx19 xc20, .func xf21 xx22 xc23, .func xf24 xx25 xc26, .func xf27 xx28 xc29, .bool x30] : Value) ∧ (
 C2 w32 ∧ (
 ∃ (q33 : Addr), x4 = some q33 ∧ (
 doSt ((q33.add 4).add 0) (.string x11) w32 (fun w34 =>
 doSt ((q33.add 4).add 1) (.func xf12 xx13 xc14) w34 (fun w35 =>
 doSt ((q33.add 4).add 2) (.func xf15 xx16 xc17) w35 (fun w36 =>
 doSt ((q33.add 4).add 3) (.func xf18 xx19 xc20) w36 (fun w37 =>
 doSt ((q33.add 4).add 4) (.func xf21 xx22 xc23) w37 (fun w38 =>
 doSt ((q33.add 4).add 5) (.func xf24 xx25 xc26) w38 (fun w39 =>
 doSt ((q33.add 4).add 6) (.func xf27 xx28 xc29) w39 (fun w40 =>
 doSt ((q33.add 4).add 7) (.bool x30) w40 (fun w41 =>
 R (.returned (.tuple #[])) w41)))))))))))) (fun ch w => Kfn R ch [] w))))) (fun ch w => Kfn R ch [] w))))))))
set_option maxRecDepth 100000 in
theorem sh98_ok (x1 : Addr) {R : Ending → World → Prop} {w : World} : sh98 x1 R w → Calls Tryz.prog 98 #[.pointer (some x1)] w R :=
  calls_of_eq (ann := fun _ => []) (fn := Tryz.f98) (c := bodyOf Tryz.f98) (args := #[.pointer (some x1)]) 400 follows_mixed Tryz.func98 (by kernel_rfl) (by kernel_rfl)
set_option maxRecDepth 100000 in
/-- joinery/sound.beads -/
def sh99 (o_1 : Int) (t_2 : Option Addr) (R : Ending → World → Prop) (w : World) : Prop :=
 doAl (.cells #[.int .u8 o_1] 5) w (fun b3 w4 =>
 doAl (.cells #[.pointer t_2] 29) w4 (fun b5 w6 =>
 R (.returned (.func (.func 135) #[] #[.pointer (some (blk b3)), .pointer (some (blk b5))])) w6))
set_option maxRecDepth 100000 in
theorem sh99_ok (o_1 : Int) (t_2 : Option Addr) {R : Ending → World → Prop} {w : World} : sh99 o_1 t_2 R w → Calls Tryz.prog 99 #[.int .u8 o_1, .pointer t_2] w R :=
  calls_of_eq (ann := fun _ => []) (fn := Tryz.f99) (c := bodyOf Tryz.f99) (args := #[.int .u8 o_1, .pointer t_2]) 400 follows_mixed Tryz.func99 (by kernel_rfl) (by kernel_rfl)
set_option maxRecDepth 100000 in
/-- joinery/fold.kinds -/
def sh100  (R : Ending → World → Prop) (w : World) : Prop :=
 doAl (.map #[] 0) w (fun b1 w2 =>
 doMu Tryz.prog 165 (.map (some b1)) (.int .u8 1) (.agg #[.func (.func 140) #[] #[]]) w2 (fun w3 =>
 doMu Tryz.prog 165 (.map (some b1)) (.int .u8 2) (.agg #[.func (.func 141) #[] #[]]) w3 (fun w4 =>
 doMu Tryz.prog 165 (.map (some b1)) (.int .u8 3) (.agg #[.func (.func 142) #[] #[]]) w4 (fun w5 =>
 R (.returned (.map (some b1))) w5))))
set_option maxRecDepth 100000 in
theorem sh100_ok  {R : Ending → World → Prop} {w : World} : sh100  R w → Calls Tryz.prog 100 #[] w R :=
  calls_of_eq (ann := fun _ => []) (fn := Tryz.f100) (c := bodyOf Tryz.f100) (args := #[]) 400 follows_mixed Tryz.func100 (by kernel_rfl) (by kernel_rfl)
set_option maxRecDepth 100000 in
/-- joinery/union.both$1 -/
def sh101 (a_1 : Option Addr) (b_2 : Option Addr) (x3 : Addr) (x4 : Addr) (x5 : Addr) (x6 : Addr) (R : Ending → World → Prop) (w : World) : Prop :=
 ifB ((a_1).isNone) (
 R (.returned (.pointer b_2)) w) (
 ifB ((b_2).isNone) (
 ∃ (x7 : Option Addr), World.cell? w x3 = some (.pointer x7) ∧ (
 doCall Tryz.prog (.func (.func 91) #[] #[]) #[.pointer x7, .pointer a_1] w (retS (fun v9 w10 => ∃ (x8 : Option Addr), v9 = (.pointer x8 : Value) ∧ (
 R (.returned (.pointer x8)) w10)) (fun ch w => Kfn R ch [] w)))) (
 let K16 : (Option Addr) → Addr → Bool → (Option Addr) → World → Prop := fun (l_11 : Option Addr) (y_12 : Addr) (is_13 : Bool) (r_14 : Option Addr) (w15 : World) => 
 doDr w15 (fun w18 =>
 ∃ (C17 : World → Prop), C17 w18 ∧ (
 ∃ (x19 : Option Addr), (∀ w, C17 w → World.cell? w x3 = some (.pointer x19)) ∧ (
 ∃ (xf20 : Fn), ∃ (xx21 : Array Value), ∃ (xc22 : Array Value), (∀ w, C17 w → World.cell? w x5 = some (.func xf20 xx21 xc22)) ∧ (
 ∃ (xf23 : Fn), ∃ (xx24 : Array Value), ∃ (xc25 : Array Value), (∀ w, C17 w → World.cell? w x6 = some (.func xf23 xx24 xc25)) ∧ (
 ∃ (x26 : Option Addr), (∀ w, C17 w → World.cell? w x3 = some (.pointer x26)) ∧ (
 ∃ (x27 : Int), (∀ w, C17 w → World.cell? w (y_12.add 0) = some (.int .i64 x27)) ∧ (
 ∃ (x28 : Int), (∀ w, C17 w → World.cell? w (y_12.add 1) = some (.int .i64 x28)) ∧ (
 ∃ (x29 : Int), (∀ w, C17 w → World.cell? w (y_12.add 2) = some (.int .u64 x29)) ∧ (
 ∃ (xf30 : Fn), ∃ (xx31 : Array Value), ∃ (xc32 : Array Value), (∀ w, C17 w → World.cell? w x5 = some (.func xf30 xx31 xc32)) ∧ (
 doCall Tryz.prog (.func (.func 68) #[] #[]) #[.pointer a_1] w18 (retS (fun v34 w35 => ∃ (x33 : Option Addr), v34 = (.pointer x33 : Value) ∧ (
 C17 w35 ∧ (
 doCall Tryz.prog (.func xf20 xx21 xc22) #[.pointer x33, .pointer l_11] w35 (retS (fun v37 w38 => ∃ (x36 : Option Addr), v37 = (.pointer x36 : Value) ∧ (
 C17 w38 ∧ (
 doCall Tryz.prog (.func (.func 92) #[] #[]) #[.pointer x26, .pointer a_1] w38 (retS (fun v42 w43 => ∃ (x39 : Int), ∃ (x40 : Int), ∃ (x41 : Int), v42 = (.agg #[.int .i64 x39, .int .i64 x40, .int .u64 x41] : Value) ∧ (
 C17 w43 ∧ (
 doCall Tryz.prog (.func xf23 xx24 xc25) #[.agg #[.int .i64 x39, .int .i64 x40, .int .u64 x41], .agg #[.int .i64 x27, .int .i64 x28, .int .u64 x29], .bool is_13] w43 (retS (fun v47 w48 => ∃ (x44 : Int), ∃ (x45 : Int), ∃ (x46 : Int), v47 = (.agg #[.int .i64 x44, .int .i64 x45, .int .u64 x46] : Value) ∧ (
 C17 w48 ∧ (
 doCall Tryz.prog (.func (.func 66) #[] #[]) #[.pointer a_1] w48 (retS (fun v50 w51 => ∃ (x49 : Option Addr), v50 = (.pointer x49 : Value) ∧ (
 C17 w51 ∧ (
 doCall Tryz.prog (.func xf30 xx31 xc32) #[.pointer x49, .pointer r_14] w51 (retS (fun v53 w54 => ∃ (x52 : Option Addr), v53 = (.pointer x52 : Value) ∧ (
 C17 w54 ∧ (
 doCall Tryz.prog (.func (.func 51) #[] #[]) #[.pointer x19, .pointer x36, .agg #[.int .i64 x44, .int .i64 x45, .int .u64 x46], .pointer x52] w54 (retS (fun v56 w57 => ∃ (x55 : Option Addr), v56 = (.pointer x55 : Value) ∧ (
 C17 w57 ∧ (
 R (.returned (.pointer x55)) w57))) (fun ch w => Kfn R ch [] w))))) (fun ch w => Kfn R ch [] w))))) (fun ch w => Kfn R ch [] w))))) (fun ch w => Kfn R ch [] w))))) (fun ch w => Kfn R ch [] w))))) (fun ch w => Kfn R ch [] w))))) (fun ch w => Kfn R ch [] w))))))))))))
 doDr w (fun w59 =>
 ∃ (C58 : World → Prop), C58 w59 ∧ (
 ∃ (x60 : Option Addr), (∀ w, C58 w → World.cell? w x3 = some (.pointer x60)) ∧ (
 ∃ (x61 : Int), (∀ w, C58 w → World.cell? w x4 = some (.int .u8 x61)) ∧ (
 (doCall Tryz.prog (.func (.func 67) #[] #[]) #[.pointer a_1] w59 (retS (fun v63 w64 => ∃ (x62 : Int), v63 = (.int .i64 x62 : Value) ∧ (
 C58 w64 ∧ (
 (doCall Tryz.prog (.func (.func 16) #[] #[]) #[.pointer x60, .int .u8 x61, .pointer b_2, .int .i64 x62] w64 (retS (fun v72 w73 => ∃ (x65 : Option Addr), ∃ (x66 : Int), ∃ (x67 : Int), ∃ (x68 : Int), ∃ (x69 : Bool), ∃ (x70 : Option Addr), ∃ (x71 : Int), v72 = (.tuple #[.pointer x65, .agg #[.int .i64 x66, .int .i64 x67, .int .u64 x68], .bool x69, .pointer x70, .int .i64 x71] : Value) ∧ (
 doAl (.cells #[.int .i64 0, .int .i64 0, .int .u64 0] 33) w73 (fun b74 w75 =>
 C58 w75 ∧ (
 doSt ((blk b74).add 0) (.int .i64 x66) w75 (fun w76 =>
 doSt ((blk b74).add 1) (.int .i64 x67) w76 (fun w77 =>
 doSt ((blk b74).add 2) (.int .u64 x68) w77 (fun w78 =>
 K16 x65 (blk b74) x69 x70 w78))))))) (fun ch w => Kfn R ch [] w))) ∧ (doAl (.cells #[.int .i64 0, .int .i64 0, .int .u64 0] 33) w64 (fun b79 w80 =>
 C58 w80 ∧ (
 doCall Tryz.prog (.func (.func 16) #[] #[]) #[.pointer x60, .int .u8 x61, .pointer b_2, .int .i64 x62] w80 (retS (fun v88 w89 => ∃ (x81 : Option Addr), ∃ (x82 : Int), ∃ (x83 : Int), ∃ (x84 : Int), ∃ (x85 : Bool), ∃ (x86 : Option Addr), ∃ (x87 : Int), v88 = (.tuple #[.pointer x81, .agg #[.int .i64 x82, .int .i64 x83, .int .u64 x84], .bool x85, .pointer x86, .int .i64 x87] : Value) ∧ (
 doSt ((blk b79).add 0) (.int .i64 x82) w89 (fun w90 =>
 doSt ((blk b79).add 1) (.int .i64 x83) w90 (fun w91 =>
 doSt ((blk b79).add 2) (.int .u64 x84) w91 (fun w92 =>
 K16 x81 (blk b79) x85 x86 w92))))) (fun ch w => Kfn R ch [] w)))))))) (fun ch w => Kfn R ch [] w))) ∧ (doAl (.cells #[.int .i64 0, .int .i64 0, .int .u64 0] 33) w59 (fun b93 w94 =>
 C58 w94 ∧ (
 doCall Tryz.prog (.func (.func 67) #[] #[]) #[.pointer a_1] w94 (retS (fun v96 w97 => ∃ (x95 : Int), v96 = (.int .i64 x95 : Value) ∧ (
 C58 w97 ∧ (
 doCall Tryz.prog (.func (.func 16) #[] #[]) #[.pointer x60, .int .u8 x61, .pointer b_2, .int .i64 x95] w97 (retS (fun v105 w106 => ∃ (x98 : Option Addr), ∃ (x99 : Int), ∃ (x100 : Int), ∃ (x101 : Int), ∃ (x102 : Bool), ∃ (x103 : Option Addr), ∃ (x104 : Int), v105 = (.tuple #[.pointer x98, .agg #[.int .i64 x99, .int .i64 x100, .int .u64 x101], .bool x102, .pointer x103, .int .i64 x104] : Value) ∧ (
 doSt ((blk b93).add 0) (.int .i64 x99) w106 (fun w107 =>
 doSt ((blk b93).add 1) (.int .i64 x100) w107 (fun w108 =>
 doSt ((blk b93).add 2) (.int .u64 x101) w108 (fun w109 =>
 K16 x98 (blk b93) x102 x103 w109))))) (fun ch w => Kfn R ch [] w))))) (fun ch w => Kfn R ch [] w)))))))))))
set_option maxRecDepth 100000 in
theorem sh101_ok (a_1 : Option Addr) (b_2 : Option Addr) (x3 : Addr) (x4 : Addr) (x5 : Addr) (x6 : Addr) {R : Ending → World → Prop} {w : World} : sh101 a_1 b_2 x3 x4 x5 x6 R w → Calls Tryz.prog 101 #[.pointer a_1, .pointer b_2, .pointer (some x3), .pointer (some x4), .pointer (some x5), .pointer (some x6)] w R :=
  calls_of_eq (ann := fun _ => []) (fn := Tryz.f101) (c := bodyOf Tryz.f101) (args := #[.pointer a_1, .pointer b_2, .pointer (some x3), .pointer (some x4), .pointer (some x5), .pointer (some x6)]) 400 follows_mixed Tryz.func101 (by kernel_rfl) (by kernel_rfl)
set_option maxRecDepth 100000 in
/-- joinery/avljoin.Join -/
def sh102 (l_1 : Option Addr) (key_2 : Int) (val_3 : Int) (r_4 : Option Addr) (R : Ending → World → Prop) (w : World) : Prop :=
 doCall Tryz.prog (.func (.func 143) #[] #[]) #[.pointer none, .int .i64 key_2, .int .i64 val_3, .pointer none] w (retS (fun v6 w7 => ∃ (x5 : Option Addr), v6 = (.pointer x5 : Value) ∧ (
 doCall Tryz.prog (.func (.func 105) #[] #[]) #[.pointer l_1] w7 (retS (fun v9 w10 => ∃ (x8 : Int), v9 = (.int .i64 x8 : Value) ∧ (
 doCall Tryz.prog (.func (.func 105) #[] #[]) #[.pointer r_4] w10 (retS (fun v12 w13 => ∃ (x11 : Int), v12 = (.int .i64 x11 : Value) ∧ (
 ifB (decide ((x8 : Int) > (IntKind.wrap .i64 (x11 + 1)))) (
 doCall Tryz.prog (.func (.func 144) #[] #[]) #[] w13 (retS (fun v23 w24 => ∃ (xf14 : Fn), ∃ (xx15 : Array Value), ∃ (xc16 : Array Value), ∃ (xf17 : Fn), ∃ (xx18 : Array Value), ∃ (xc19 : Array Value), ∃ (xf20 : Fn), ∃ (xx21 : Array Value), ∃ (xc22 : Array Value), v23 = (.agg #[.func xf14 xx15 xc16, .func xf17 xx18 xc19, .func xf20 xx21 xc22] : Value) ∧ (
 doCall Tryz.prog (.func (.func 145) #[] #[]) #[.agg #[.func xf14 xx15 xc16, .func xf17 xx18 xc19, .func xf20 xx21 xc22], .pointer l_1, .pointer x5, .pointer r_4] w24 (retS (fun v26 w27 => ∃ (x25 : Option Addr), v26 = (.pointer x25 : Value) ∧ (
 R (.returned (.pointer x25)) w27)) (fun ch w => Kfn R ch [] w)))) (fun ch w => Kfn R ch [] w))) (
 ifB (decide ((x11 : Int) > (IntKind.wrap .i64 (x8 + 1)))) (
 doCall Tryz.prog (.func (.func 146) #[] #[]) #[] w13 (retS (fun v37 w38 => ∃ (xf28 : Fn), ∃ (xx29 : Array Value), ∃ (xc30 : Array Value), ∃ (xf31 : Fn), ∃ (xx32 : Array Value), ∃ (xc33 : Array Value), ∃ (xf34 : Fn), ∃ (xx35 : Array Value), ∃ (xc36 : Array Value), v37 = (.agg #[.func xf28 xx29 xc30, .func xf31 xx32 xc33, .func xf34 xx35 xc36] : Value) ∧ (
 doCall Tryz.prog (.func (.func 145) #[] #[]) #[.agg #[.func xf28 xx29 xc30, .func xf31 xx32 xc33, .func xf34 xx35 xc36], .pointer r_4, .pointer x5, .pointer l_1] w38 (retS (fun v40 w41 => ∃ (x39 : Option Addr), v40 = (.pointer x39 : Value) ∧ (
 R (.returned (.pointer x39)) w41)) (fun ch w => Kfn R ch [] w)))) (fun ch w => Kfn R ch [] w))) (
 doCall Tryz.prog (.func (.func 143) #[] #[]) #[.pointer l_1, .int .i64 key_2, .int .i64 val_3, .pointer r_4] w13 (retS (fun v43 w44 => ∃ (x42 : Option Addr), v43 = (.pointer x42 : Value) ∧ (
 R (.returned (.pointer x42)) w44)) (fun ch w => Kfn R ch [] w)))))) (fun ch w => Kfn R ch [] w)))) (fun ch w => Kfn R ch [] w)))) (fun ch w => Kfn R ch [] w))
set_option maxRecDepth 100000 in
theorem sh102_ok (l_1 : Option Addr) (key_2 : Int) (val_3 : Int) (r_4 : Option Addr) {R : Ending → World → Prop} {w : World} : sh102 l_1 key_2 val_3 r_4 R w → Calls Tryz.prog 102 #[.pointer l_1, .int .i64 key_2, .int .i64 val_3, .pointer r_4] w R :=
  calls_of_eq (ann := fun _ => []) (fn := Tryz.f102) (c := bodyOf Tryz.f102) (args := #[.pointer l_1, .int .i64 key_2, .int .i64 val_3, .pointer r_4]) 400 follows_mixed Tryz.func102 (by kernel_rfl) (by kernel_rfl)
set_option maxRecDepth 100000 in
/-- joinery/avl.Check -/
def sh103 (t_1 : Option Addr) (R : Ending → World → Prop) (w : World) : Prop :=
 doAl (.cells #[.int .i64 0] 3) w (fun b2 w3 =>
 doAl (.cells #[.int .i64 0] 34) w3 (fun b4 w5 =>
 doCall Tryz.prog (.func (.func 147) #[] #[]) #[] w5 (retS (fun v9 w10 => ∃ (xp6 : Option Addr), ∃ (xn7 : Nat), ∃ (xc8 : Nat), v9 = (.slice xp6 xn7 xc8 : Value) ∧ (
 doAl (.cells #[.slice none 0 0] 206) w10 (fun b11 w12 =>
 doSt ((blk b11).add 0) (.slice xp6 xn7 xc8) w12 (fun w13 =>
 let K15 : Nat → World → Prop := fun (dl16 : Nat) (w14 : World) => 
 doDr w14 (fun w18 =>
 ∃ (C17 : World → Prop), C17 w18 ∧ (
 ∃ (x19 : Int), (∀ w, C17 w → World.cell? w (blk b2) = some (.int .i64 x19)) ∧ (
 ∃ (x20 : Int), (∀ w, C17 w → World.cell? w (blk b4) = some (.int .i64 x20)) ∧ (
 doSt ((blk b2).add 0) (.int .i64 x19) w18 (fun w21 =>
 C17 w21 ∧ (
 doSt ((blk b4).add 0) (.int .i64 x20) w21 (fun w22 =>
 w22.heap[dl16]? = some (.deferred (some [])) ∧ (
 let w23 : World := w22.putObj dl16 (.deferred none)
 ∃ (x24 : Int), World.cell? w23 (blk b2) = some (.int .i64 x24) ∧ (
 ∃ (x25 : Int), World.cell? w23 (blk b4) = some (.int .i64 x25) ∧ (
 R (.returned (.tuple #[.int .i64 x24, .int .i64 x25])) w23))))))))))
 doCall Tryz.prog (.func (.func 148) #[] #[]) #[.pointer t_1] w13 (retS (fun v29 w30 => ∃ (xf26 : Fn), ∃ (xx27 : Array Value), ∃ (xc28 : Array Value), v29 = (.func xf26 xx27 xc28 : Value) ∧ (
 rfW Tryz.prog (.func xf26 xx27 xc28) (mkLoop #[.pointer t_1, undef, .pointer (some (blk b2)), .pointer (some (blk b4)), .pointer (some (blk b11)), undef, undef, undef, .slice xp6 xn7 xc8, .pointer t_1, .func xf26 xx27 xc28, undef, undef, undef, undef, undef, undef, undef, undef, undef, undef, undef, undef, undef, undef, undef, undef, undef, undef] (rfOf Tryz.f103 0).1 (rfOf Tryz.f103 0).2.1 (rfOf Tryz.f103 0).2.2)
 (fun w33 =>
 K15 w30.heap.size w33)
 (fun w34 =>
 w34.heap[w30.heap.size]? = some (.deferred (some [])) ∧ (
 let w35 : World := w34.putObj w30.heap.size (.deferred none)
 ∃ (x36 : Int), World.cell? w35 (blk b2) = some (.int .i64 x36) ∧ (
 ∃ (x37 : Int), World.cell? w35 (blk b4) = some (.int .i64 x37) ∧ (
 R (.returned (.tuple #[.int .i64 x36, .int .i64 x37])) w35))))
 [(2, (fun _ => False)), (0, (fun w32 =>
 K15 w30.heap.size w32))] w30)) (fun ch w => Kfn R ch [] w)))))) (fun ch w => Kfn R ch [] w))))
set_option maxRecDepth 100000 in
theorem sh103_ok (t_1 : Option Addr) {R : Ending → World → Prop} {w : World} : sh103 t_1 R w → Calls Tryz.prog 103 #[.pointer t_1] w R :=
  calls_of_eq (ann := fun _ => []) (fn := Tryz.f103) (c := bodyOf Tryz.f103) (args := #[.pointer t_1]) 400 follows_mixed Tryz.func103 (by kernel_rfl) (by kernel_rfl)
set_option maxRecDepth 100000 in
/-- joinery/avl.Check, a round of loop 0 -/
def sh103_0 (at_1 : Addr) (e_2 : Addr) (all_3 : Addr) (y30 : Option Addr) (l : Nat) (R : Ending → World → Prop) (w : World) : Prop :=
 ∃ (r31 : Loop), w.heap[l]? = some (.loop r31) ∧ r31.state = .ready ∧ (
 let w32 : World := w.putObj l (.loop { r31 with state := .busy })
 ∃ (xp33 : Option Addr), ∃ (xn34 : Nat), ∃ (xc35 : Nat), World.cell? w32 all_3 = some (.slice xp33 xn34 xc35) ∧ (
 ∃ (I36 : List Value → World → Prop) (μ37 : List Value → World → Nat), I36 [.int .i64 0] w32 ∧ (∀ (x40 : Int), ∀ (_j38 : Nat → Value) (w39 : World), I36 [.int .i64 x40] w39 → (
 ifB (decide ((x40 : Int) < ((xn34 : Nat) : Int))) (
 doIx xp33 xn34 2 (x40) (fun a41 =>
 ∃ (xf42 : Fn), ∃ (xx43 : Array Value), ∃ (xc44 : Array Value), World.cell? w39 (a41.add 0) = some (.func xf42 xx43 xc44) ∧ (
 ∃ (x45 : Int), World.cell? w39 (a41.add 1) = some (.int .i64 x45) ∧ (
 doAl (.cells #[.nilFunc, .int .i64 0] 212) w39 (fun b46 w47 =>
 doSt ((blk b46).add 0) (.func xf42 xx43 xc44) w47 (fun w48 =>
 doSt ((blk b46).add 1) (.int .i64 x45) w48 (fun w49 =>
 ∃ (xf50 : Fn), ∃ (xx51 : Array Value), ∃ (xc52 : Array Value), World.cell? w49 ((blk b46).add 0) = some (.func xf50 xx51 xc52) ∧ (
 doCall Tryz.prog (.func xf50 xx51 xc52) #[.pointer y30] w49 (retS (fun v54 w55 => ∃ (x53 : Bool), v54 = (.bool x53 : Value) ∧ (
 ifB x53 (
 ∃ (x56 : Int), World.cell? w55 ((blk b46).add 1) = some (.int .i64 x56) ∧ (
 doSt (e_2.add 0) (.int .i64 x56) w55 (fun w57 =>
 ∃ (r58 : Loop), w57.heap[l]? = some (.loop r58) ∧ R (.returned (.bool false)) (w57.putObj l (.loop { r58 with state := .done, pending := some (.exit 0) }))))) (
 I36 [.int .i64 (IntKind.wrap .i64 (x40 + 1))] w55 ∧ μ37 [.int .i64 (IntKind.wrap .i64 (x40 + 1))] w55 < μ37 [.int .i64 x40] w39))) (fun _ _ => False)))))))))) (
 ∃ (x59 : Int), World.cell? w39 at_1 = some (.int .i64 x59) ∧ (
 doSt (at_1.add 0) (.int .i64 (IntKind.wrap .i64 (x59 + 1))) w39 (fun w60 =>
 ∃ (r61 : Loop), w60.heap[l]? = some (.loop r61) ∧ R (.returned (.bool true)) (w60.putObj l (.loop { r61 with state := .ready, pending := none })))))))))
set_option maxRecDepth 100000 in
theorem sh103_0_ok {dd4 : Value} {dd5 : Value} {dd6 : Value} {dd7 : Value} {dd8 : Value} {dd9 : Value} {dd10 : Value} {dd11 : Value} {dd12 : Value} {dd13 : Value} {dd14 : Value} {dd15 : Value} {dd16 : Value} {dd17 : Value} {dd18 : Value} {dd19 : Value} {dd20 : Value} {dd21 : Value} {dd22 : Value} {dd23 : Value} {dd24 : Value} {dd25 : Value} {dd26 : Value} {dd27 : Value} {dd28 : Value} {dd29 : Value} {at_1 : Addr} {e_2 : Addr} {all_3 : Addr} {y30 : Option Addr} {l fn D : Nat} {R : Ending → World → Prop} {w : World} (hl : w.heap[l]? = some (.loop (mkLoop #[dd4, dd5, .pointer (some at_1), .pointer (some e_2), .pointer (some all_3), dd6, dd7, dd8, dd9, dd10, dd11, dd12, dd13, dd14, dd15, dd16, dd17, dd18, dd19, dd20, dd21, dd22, dd23, dd24, dd25, dd26, dd27, dd28, dd29] (rfOf Tryz.f103 0).1 (rfOf Tryz.f103 0).2.1 (rfOf Tryz.f103 0).2.2 fn D))) : sh103_0 at_1 e_2 all_3 y30 l R w → doCall Tryz.prog (.func (.yield l) #[] #[]) #[.pointer y30] w R :=
  fun h => ⟨round_of_eq (ann := fun i => if i = 2 then [(14, .int .i64 0)] else []) 400 follows_mixed hl (by kernel_rfl) (by kernel_rfl) h⟩
set_option maxRecDepth 100000 in
/-- joinery/avl.May -/
def sh104 (t_1 : Option Addr) (R : Ending → World → Prop) (w : World) : Prop :=
 doCall Tryz.prog (.func (.func 103) #[] #[]) #[.pointer t_1] w (retS (fun v4 w5 => ∃ (x2 : Int), ∃ (x3 : Int), v4 = (.tuple #[.int .i64 x2, .int .i64 x3] : Value) ∧ (
 R (.returned (.bool ((x3 : Int) == 0))) w5)) (fun ch w => Kfn R ch [] w))
set_option maxRecDepth 100000 in
theorem sh104_ok (t_1 : Option Addr) {R : Ending → World → Prop} {w : World} : sh104 t_1 R w → Calls Tryz.prog 104 #[.pointer t_1] w R :=
  calls_of_eq (ann := fun _ => []) (fn := Tryz.f104) (c := bodyOf Tryz.f104) (args := #[.pointer t_1]) 400 follows_mixed Tryz.func104 (by kernel_rfl) (by kernel_rfl)
set_option maxRecDepth 100000 in
/-- joinery/avl.Rank -/
def sh105 (t_1 : Option Addr) (R : Ending → World → Prop) (w : World) : Prop :=
 doCall Tryz.prog (.func (.func 126) #[] #[]) #[.pointer t_1] w (retS (fun v3 w4 => ∃ (x2 : Int), v3 = (.int .u64 x2 : Value) ∧ (
 R (.returned (.int .i64 (IntKind.wrap .i64 x2))) w4)) (fun ch w => Kfn R ch [] w))
set_option maxRecDepth 100000 in
theorem sh105_ok (t_1 : Option Addr) {R : Ending → World → Prop} {w : World} : sh105 t_1 R w → Calls Tryz.prog 105 #[.pointer t_1] w R :=
  calls_of_eq (ann := fun _ => []) (fn := Tryz.f105) (c := bodyOf Tryz.f105) (args := #[.pointer t_1]) 400 follows_mixed Tryz.func105 (by kernel_rfl) (by kernel_rfl)
set_option maxRecDepth 100000 in
/-- joinery/scheme.same -/
def sh107 (t_1 : Option Addr) (R : Ending → World → Prop) (w : World) : Prop :=
 R (.returned (.pointer t_1)) w
set_option maxRecDepth 100000 in
theorem sh107_ok (t_1 : Option Addr) {R : Ending → World → Prop} {w : World} : sh107 t_1 R w → Calls Tryz.prog 107 #[.pointer t_1] w R :=
  calls_of_eq (ann := fun _ => []) (fn := Tryz.f107) (c := bodyOf Tryz.f107) (args := #[.pointer t_1]) 400 follows_mixed Tryz.func107 (by kernel_rfl) (by kernel_rfl)
set_option maxRecDepth 100000 in
/-- joinery/rbjoin.Join -/
def sh108 (l_1 : Option Addr) (key_2 : Int) (val_3 : Int) (r_4 : Option Addr) (R : Ending → World → Prop) (w : World) : Prop :=
 doCall Tryz.prog (.func (.func 113) #[] #[]) #[.pointer l_1] w (retS (fun v6 w7 => ∃ (x5 : Option Addr), v6 = (.pointer x5 : Value) ∧ (
 doCall Tryz.prog (.func (.func 113) #[] #[]) #[.pointer r_4] w7 (retS (fun v9 w10 => ∃ (x8 : Option Addr), v9 = (.pointer x8 : Value) ∧ (
 doCall Tryz.prog (.func (.func 149) #[] #[]) #[.pointer none, .int .i64 key_2, .int .i64 val_3, .bool false, .pointer none] w10 (retS (fun v12 w13 => ∃ (x11 : Option Addr), v12 = (.pointer x11 : Value) ∧ (
 doCall Tryz.prog (.func (.func 150) #[] #[]) #[.pointer x5] w13 (retS (fun v15 w16 => ∃ (x14 : Int), v15 = (.int .i64 x14 : Value) ∧ (
 doCall Tryz.prog (.func (.func 150) #[] #[]) #[.pointer x8] w16 (retS (fun v18 w19 => ∃ (x17 : Int), v18 = (.int .i64 x17 : Value) ∧ (
 ifB (decide ((x14 : Int) > x17)) (
 doCall Tryz.prog (.func (.func 151) #[] #[]) #[.iface 217 (.agg #[]), .pointer x5, .pointer x11, .pointer x8] w19 (retS (fun v21 w22 => ∃ (x20 : Option Addr), v21 = (.pointer x20 : Value) ∧ (
 doCall Tryz.prog (.func (.func 113) #[] #[]) #[.pointer x20] w22 (retS (fun v24 w25 => ∃ (x23 : Option Addr), v24 = (.pointer x23 : Value) ∧ (
 R (.returned (.pointer x23)) w25)) (fun ch w => Kfn R ch [] w)))) (fun ch w => Kfn R ch [] w))) (
 ifB (decide ((x17 : Int) > x14)) (
 doCall Tryz.prog (.func (.func 151) #[] #[]) #[.iface 218 (.agg #[]), .pointer x8, .pointer x11, .pointer x5] w19 (retS (fun v27 w28 => ∃ (x26 : Option Addr), v27 = (.pointer x26 : Value) ∧ (
 doCall Tryz.prog (.func (.func 113) #[] #[]) #[.pointer x26] w28 (retS (fun v30 w31 => ∃ (x29 : Option Addr), v30 = (.pointer x29 : Value) ∧ (
 R (.returned (.pointer x29)) w31)) (fun ch w => Kfn R ch [] w)))) (fun ch w => Kfn R ch [] w))) (
 doCall Tryz.prog (.func (.func 149) #[] #[]) #[.pointer x5, .int .i64 key_2, .int .i64 val_3, .bool false, .pointer x8] w19 (retS (fun v33 w34 => ∃ (x32 : Option Addr), v33 = (.pointer x32 : Value) ∧ (
 R (.returned (.pointer x32)) w34)) (fun ch w => Kfn R ch [] w)))))) (fun ch w => Kfn R ch [] w)))) (fun ch w => Kfn R ch [] w)))) (fun ch w => Kfn R ch [] w)))) (fun ch w => Kfn R ch [] w)))) (fun ch w => Kfn R ch [] w))
set_option maxRecDepth 100000 in
theorem sh108_ok (l_1 : Option Addr) (key_2 : Int) (val_3 : Int) (r_4 : Option Addr) {R : Ending → World → Prop} {w : World} : sh108 l_1 key_2 val_3 r_4 R w → Calls Tryz.prog 108 #[.pointer l_1, .int .i64 key_2, .int .i64 val_3, .pointer r_4] w R :=
  calls_of_eq (ann := fun _ => []) (fn := Tryz.f108) (c := bodyOf Tryz.f108) (args := #[.pointer l_1, .int .i64 key_2, .int .i64 val_3, .pointer r_4]) 400 follows_mixed Tryz.func108 (by kernel_rfl) (by kernel_rfl)
end Go.Proofs.YthgckfeocalbdaaGreat

namespace Go.Proofs.YthgckfeocalbdaaGreat
open Go Go.Sh
set_option maxRecDepth 100000 in
/-- joinery/rb.Check -/
def sh109 (t_1 : Option Addr) (R : Ending → World → Prop) (w : World) : Prop :=
 doCall Tryz.prog (.func (.func 152) #[] #[]) #[.pointer t_1] w (retS (fun v4 w5 => ∃ (x2 : Int), ∃ (x3 : Int), v4 = (.tuple #[.int .i64 x2, .int .i64 x3] : Value) ∧ (
 let K7 : World → Prop := fun (w6 : World) => 
 R (.returned (.tuple #[.int .i64 x2, .int .i64 x3])) w6
 let K10 : Bool → World → Prop := fun (x8 : Bool) (w9 : World) => 
 ifB x8 (
 R (.returned (.tuple #[.int .i64 0, .int .i64 8])) w9) (
 K7 w9)
 ifB ((x3 : Int) == 0) (
 doCall Tryz.prog (.func (.func 153) #[] #[]) #[.pointer t_1] w5 (retS (fun v12 w13 => ∃ (x11 : Bool), v12 = (.bool x11 : Value) ∧ (
 K10 x11 w13)) (fun ch w => Kfn R ch [] w))) (
 K7 w5))) (fun ch w => Kfn R ch [] w))
set_option maxRecDepth 100000 in
theorem sh109_ok (t_1 : Option Addr) {R : Ending → World → Prop} {w : World} : sh109 t_1 R w → Calls Tryz.prog 109 #[.pointer t_1] w R :=
  calls_of_eq (ann := fun _ => []) (fn := Tryz.f109) (c := bodyOf Tryz.f109) (args := #[.pointer t_1]) 400 follows_mixed Tryz.func109 (by kernel_rfl) (by kernel_rfl)
set_option maxRecDepth 100000 in
/-- joinery/rb.Part -/
def sh110 (t_1 : Option Addr) (R : Ending → World → Prop) (w : World) : Prop :=
 doCall Tryz.prog (.func (.func 152) #[] #[]) #[.pointer t_1] w (retS (fun v4 w5 => ∃ (x2 : Int), ∃ (x3 : Int), v4 = (.tuple #[.int .i64 x2, .int .i64 x3] : Value) ∧ (
 R (.returned (.bool ((x3 : Int) == 0))) w5)) (fun ch w => Kfn R ch [] w))
set_option maxRecDepth 100000 in
theorem sh110_ok (t_1 : Option Addr) {R : Ending → World → Prop} {w : World} : sh110 t_1 R w → Calls Tryz.prog 110 #[.pointer t_1] w R :=
  calls_of_eq (ann := fun _ => []) (fn := Tryz.f110) (c := bodyOf Tryz.f110) (args := #[.pointer t_1]) 400 follows_mixed Tryz.func110 (by kernel_rfl) (by kernel_rfl)
set_option maxRecDepth 100000 in
/-- joinery/rb.Blacken -/
def sh113 (t_1 : Option Addr) (R : Ending → World → Prop) (w : World) : Prop :=
 doCall Tryz.prog (.func (.func 153) #[] #[]) #[.pointer t_1] w (retS (fun v3 w4 => ∃ (x2 : Bool), v3 = (.bool x2 : Value) ∧ (
 ifB (!x2) (
 R (.returned (.pointer t_1)) w4) (
 doCall Tryz.prog (.func (.func 68) #[] #[]) #[.pointer t_1] w4 (retS (fun v6 w7 => ∃ (x5 : Option Addr), v6 = (.pointer x5 : Value) ∧ (
 doCall Tryz.prog (.func (.func 67) #[] #[]) #[.pointer t_1] w7 (retS (fun v9 w10 => ∃ (x8 : Int), v9 = (.int .i64 x8 : Value) ∧ (
 doCall Tryz.prog (.func (.func 125) #[] #[]) #[.pointer t_1] w10 (retS (fun v12 w13 => ∃ (x11 : Int), v12 = (.int .i64 x11 : Value) ∧ (
 doCall Tryz.prog (.func (.func 126) #[] #[]) #[.pointer t_1] w13 (retS (fun v15 w16 => ∃ (x14 : Int), v15 = (.int .u64 x14 : Value) ∧ (
 doCall Tryz.prog (.func (.func 66) #[] #[]) #[.pointer t_1] w16 (retS (fun v18 w19 => ∃ (x17 : Option Addr), v18 = (.pointer x17 : Value) ∧ (
 doCall Tryz.prog (.func (.func 27) #[] #[]) #[.pointer x5, .int .i64 x8, .int .i64 x11, .int .u64 (IntKind.wrap .u64 (x14 + 1)), .pointer x17] w19 (retS (fun v21 w22 => ∃ (x20 : Option Addr), v21 = (.pointer x20 : Value) ∧ (
 R (.returned (.pointer x20)) w22)) (fun ch w => Kfn R ch [] w)))) (fun ch w => Kfn R ch [] w)))) (fun ch w => Kfn R ch [] w)))) (fun ch w => Kfn R ch [] w)))) (fun ch w => Kfn R ch [] w)))) (fun ch w => Kfn R ch [] w))))) (fun ch w => Kfn R ch [] w))
set_option maxRecDepth 100000 in
theorem sh113_ok (t_1 : Option Addr) {R : Ending → World → Prop} {w : World} : sh113 t_1 R w → Calls Tryz.prog 113 #[.pointer t_1] w R :=
  calls_of_eq (ann := fun _ => []) (fn := Tryz.f113) (c := bodyOf Tryz.f113) (args := #[.pointer t_1]) 400 follows_mixed Tryz.func113 (by kernel_rfl) (by kernel_rfl)
set_option maxRecDepth 100000 in
/-- joinery/wbjoin.Join -/
def sh114 (l_1 : Option Addr) (key_2 : Int) (val_3 : Int) (r_4 : Option Addr) (R : Ending → World → Prop) (w : World) : Prop :=
 doCall Tryz.prog (.func (.func 154) #[] #[]) #[.pointer none, .int .i64 key_2, .int .i64 val_3, .pointer none] w (retS (fun v6 w7 => ∃ (x5 : Option Addr), v6 = (.pointer x5 : Value) ∧ (
 doCall Tryz.prog (.func (.func 155) #[] #[]) #[.pointer l_1] w7 (retS (fun v9 w10 => ∃ (x8 : Int), v9 = (.int .i64 x8 : Value) ∧ (
 doCall Tryz.prog (.func (.func 155) #[] #[]) #[.pointer r_4] w10 (retS (fun v12 w13 => ∃ (x11 : Int), v12 = (.int .i64 x11 : Value) ∧ (
 ifB (decide ((x8 : Int) < x11)) (
 doCall Tryz.prog (.func (.func 156) #[] #[]) #[.int .i64 0, .pointer r_4, .pointer x5, .pointer l_1] w13 (retS (fun v15 w16 => ∃ (x14 : Option Addr), v15 = (.pointer x14 : Value) ∧ (
 R (.returned (.pointer x14)) w16)) (fun ch w => Kfn R ch [] w))) (
 doCall Tryz.prog (.func (.func 156) #[] #[]) #[.int .i64 1, .pointer l_1, .pointer x5, .pointer r_4] w13 (retS (fun v18 w19 => ∃ (x17 : Option Addr), v18 = (.pointer x17 : Value) ∧ (
 R (.returned (.pointer x17)) w19)) (fun ch w => Kfn R ch [] w))))) (fun ch w => Kfn R ch [] w)))) (fun ch w => Kfn R ch [] w)))) (fun ch w => Kfn R ch [] w))
set_option maxRecDepth 100000 in
theorem sh114_ok (l_1 : Option Addr) (key_2 : Int) (val_3 : Int) (r_4 : Option Addr) {R : Ending → World → Prop} {w : World} : sh114 l_1 key_2 val_3 r_4 R w → Calls Tryz.prog 114 #[.pointer l_1, .int .i64 key_2, .int .i64 val_3, .pointer r_4] w R :=
  calls_of_eq (ann := fun _ => []) (fn := Tryz.f114) (c := bodyOf Tryz.f114) (args := #[.pointer l_1, .int .i64 key_2, .int .i64 val_3, .pointer r_4]) 400 follows_mixed Tryz.func114 (by kernel_rfl) (by kernel_rfl)
set_option maxRecDepth 100000 in
/-- joinery/wb.Check -/
def sh115 (t_1 : Option Addr) (R : Ending → World → Prop) (w : World) : Prop :=
 doAl (.cells #[.pointer t_1] 29) w (fun b2 w3 =>
 let K7 : Int → Int → World → Prop := fun (at_4 : Int) (e_5 : Int) (w6 : World) => 
 R (.returned (.tuple #[.int .i64 at_4, .int .i64 e_5])) w6
 ∃ (I8 : List Value → World → Prop) (μ9 : List Value → World → Nat), I8 [.int .i64 0, .int .i64 0, .slice (some (blk b2)) 1 1] w3 ∧ (∀ (at_12 : Int), ∀ (e_13 : Int), ∀ (rest_p14 : Option Addr), ∀ (rest_n15 : Nat), ∀ (rest_c16 : Nat), ∀ (_j10 : Nat → Value) (w11 : World), I8 [.int .i64 at_12, .int .i64 e_13, .slice rest_p14 rest_n15 rest_c16] w11 → (
 ifB (decide ((((rest_n15 : Nat) : Int) : Int) > 0)) (
 doIx rest_p14 rest_n15 1 (IntKind.wrap .i64 (((rest_n15 : Nat) : Int) - 1)) (fun a17 =>
 ∃ (x18 : Option Addr), World.cell? w11 a17 = some (.pointer x18) ∧ (
 doSl rest_p14 rest_c16 1 (0) (IntKind.wrap .i64 (((rest_n15 : Nat) : Int) - 1)) (fun p19 n20 c21 =>
 ifB ((x18).isNone) (
 I8 [.int .i64 at_12, .int .i64 e_13, .slice p19 n20 c21] w11 ∧ μ9 [.int .i64 at_12, .int .i64 e_13, .slice p19 n20 c21] w11 < μ9 [.int .i64 at_12, .int .i64 e_13, .slice rest_p14 rest_n15 rest_c16] w11) (
 doCall Tryz.prog (.func (.func 126) #[] #[]) #[.pointer x18] w11 (retS (fun v23 w24 => ∃ (x22 : Int), v23 = (.int .u64 x22 : Value) ∧ (
 ifB ((x22 : Int) != 0) (
 K7 at_12 140 w24) (
 doCall Tryz.prog (.func (.func 68) #[] #[]) #[.pointer x18] w24 (retS (fun v26 w27 => ∃ (x25 : Option Addr), v26 = (.pointer x25 : Value) ∧ (
 doCall Tryz.prog (.func (.func 155) #[] #[]) #[.pointer x25] w27 (retS (fun v29 w30 => ∃ (x28 : Int), v29 = (.int .i64 x28 : Value) ∧ (
 doCall Tryz.prog (.func (.func 66) #[] #[]) #[.pointer x18] w30 (retS (fun v32 w33 => ∃ (x31 : Option Addr), v32 = (.pointer x31 : Value) ∧ (
 doCall Tryz.prog (.func (.func 155) #[] #[]) #[.pointer x31] w33 (retS (fun v35 w36 => ∃ (x34 : Int), v35 = (.int .i64 x34 : Value) ∧ (
 doCall Tryz.prog (.func (.func 157) #[] #[]) #[.int .i64 x28, .int .i64 x34] w36 (retS (fun v38 w39 => ∃ (x37 : Bool), v38 = (.bool x37 : Value) ∧ (
 ifB (!x37) (
 K7 at_12 8 w39) (
 doCall Tryz.prog (.func (.func 66) #[] #[]) #[.pointer x18] w39 (retS (fun v41 w42 => ∃ (x40 : Option Addr), v41 = (.pointer x40 : Value) ∧ (
 doCall Tryz.prog (.func (.func 68) #[] #[]) #[.pointer x18] w42 (retS (fun v44 w45 => ∃ (x43 : Option Addr), v44 = (.pointer x43 : Value) ∧ (
 doAl (.cells #[.pointer x40, .pointer x43] 29) w45 (fun b46 w47 =>
 doGo Tryz.prog (.builtin .append #[74, 74] 74 #[false, false]) #[.slice p19 n20 c21, .slice (some (blk b46)) 2 2] w47 (retS (fun v51 w52 => ∃ (xp48 : Option Addr), ∃ (xn49 : Nat), ∃ (xc50 : Nat), v51 = (.slice xp48 xn49 xc50 : Value) ∧ (
 I8 [.int .i64 (IntKind.wrap .i64 (at_12 + 1)), .int .i64 e_13, .slice xp48 xn49 xc50] w52 ∧ μ9 [.int .i64 (IntKind.wrap .i64 (at_12 + 1)), .int .i64 e_13, .slice xp48 xn49 xc50] w52 < μ9 [.int .i64 at_12, .int .i64 e_13, .slice rest_p14 rest_n15 rest_c16] w11)) (fun ch w => Kfn R ch [] w))))) (fun ch w => Kfn R ch [] w)))) (fun ch w => Kfn R ch [] w))))) (fun ch w => Kfn R ch [] w)))) (fun ch w => Kfn R ch [] w)))) (fun ch w => Kfn R ch [] w)))) (fun ch w => Kfn R ch [] w)))) (fun ch w => Kfn R ch [] w))))) (fun ch w => Kfn R ch [] w))))))) (
 K7 at_12 e_13 w11))))
set_option maxRecDepth 100000 in
theorem sh115_ok (t_1 : Option Addr) {R : Ending → World → Prop} {w : World} : sh115 t_1 R w → Calls Tryz.prog 115 #[.pointer t_1] w R :=
  calls_of_eq (ann := fun i => if i = 0 then [(2, .int .i64 0), (3, .int .i64 0), (4, .slice none 0 0)] else []) (fn := Tryz.f115) (c := bodyOf Tryz.f115) (args := #[.pointer t_1]) 400 follows_mixed Tryz.func115 (by kernel_rfl) (by kernel_rfl)
set_option maxRecDepth 100000 in
/-- joinery/wb.May -/
def sh116 (t_1 : Option Addr) (R : Ending → World → Prop) (w : World) : Prop :=
 doCall Tryz.prog (.func (.func 115) #[] #[]) #[.pointer t_1] w (retS (fun v4 w5 => ∃ (x2 : Int), ∃ (x3 : Int), v4 = (.tuple #[.int .i64 x2, .int .i64 x3] : Value) ∧ (
 R (.returned (.bool ((x3 : Int) == 0))) w5)) (fun ch w => Kfn R ch [] w))
set_option maxRecDepth 100000 in
theorem sh116_ok (t_1 : Option Addr) {R : Ending → World → Prop} {w : World} : sh116 t_1 R w → Calls Tryz.prog 116 #[.pointer t_1] w R :=
  calls_of_eq (ann := fun _ => []) (fn := Tryz.f116) (c := bodyOf Tryz.f116) (args := #[.pointer t_1]) 400 follows_mixed Tryz.func116 (by kernel_rfl) (by kernel_rfl)
set_option maxRecDepth 100000 in
/-- joinery/joineryref22.Check -/
def sh119 (code_1 : Int) (l_p2 : Option Addr) (l_n3 : Nat) (l_c4 : Nat) (R : Ending → World → Prop) (w : World) : Prop :=
 ifB ((code_1 : Int) == 1) (
 doCall Tryz.prog (.func (.func 158) #[] #[]) #[.slice l_p2 l_n3 l_c4] w (retS (fun v7 w8 => ∃ (x5 : Int), ∃ (x6 : Int), v7 = (.tuple #[.int .i64 x5, .int .i64 x6] : Value) ∧ (
 R (.returned (.tuple #[.int .i64 x5, .int .i64 x6])) w8)) (fun ch w => Kfn R ch [] w))) (
 ifB ((code_1 : Int) == 2) (
 doCall Tryz.prog (.func (.func 159) #[] #[]) #[.slice l_p2 l_n3 l_c4] w (retS (fun v11 w12 => ∃ (x9 : Int), ∃ (x10 : Int), v11 = (.tuple #[.int .i64 x9, .int .i64 x10] : Value) ∧ (
 R (.returned (.tuple #[.int .i64 x9, .int .i64 x10])) w12)) (fun ch w => Kfn R ch [] w))) (
 ifB ((code_1 : Int) == 3) (
 doCall Tryz.prog (.func (.func 160) #[] #[]) #[.slice l_p2 l_n3 l_c4] w (retS (fun v15 w16 => ∃ (x13 : Int), ∃ (x14 : Int), v15 = (.tuple #[.int .i64 x13, .int .i64 x14] : Value) ∧ (
 R (.returned (.tuple #[.int .i64 x13, .int .i64 x14])) w16)) (fun ch w => Kfn R ch [] w))) (
 doCall Tryz.prog (.func (.func 161) #[] #[]) #[.slice l_p2 l_n3 l_c4] w (retS (fun v19 w20 => ∃ (x17 : Int), ∃ (x18 : Int), v19 = (.tuple #[.int .i64 x17, .int .i64 x18] : Value) ∧ (
 R (.returned (.tuple #[.int .i64 x17, .int .i64 x18])) w20)) (fun ch w => Kfn R ch [] w)))))
set_option maxRecDepth 100000 in
theorem sh119_ok (code_1 : Int) (l_p2 : Option Addr) (l_n3 : Nat) (l_c4 : Nat) {R : Ending → World → Prop} {w : World} : sh119 code_1 l_p2 l_n3 l_c4 R w → Calls Tryz.prog 119 #[.int .u8 code_1, .slice l_p2 l_n3 l_c4] w R :=
  calls_of_eq (ann := fun _ => []) (fn := Tryz.f119) (c := bodyOf Tryz.f119) (args := #[.int .u8 code_1, .slice l_p2 l_n3 l_c4]) 400 follows_mixed Tryz.func119 (by kernel_rfl) (by kernel_rfl)
set_option maxRecDepth 100000 in
/-- joinery/joineryref12.Rises -/
def sh120 (o_1 : Int) (l_p2 : Option Addr) (l_n3 : Nat) (_l_c4 : Nat) (R : Ending → World → Prop) (w : World) : Prop :=
 ∃ (I5 : List Value → World → Prop) (μ6 : List Value → World → Nat), I5 [.int .i64 1] w ∧ (∀ (i_9 : Int), ∀ (_j7 : Nat → Value) (w8 : World), I5 [.int .i64 i_9] w8 → (
 ifB (decide ((i_9 : Int) < ((l_n3 : Nat) : Int))) (
 doDr w8 (fun w11 =>
 ∃ (C10 : World → Prop), C10 w11 ∧ (
 doIx l_p2 l_n3 2 (IntKind.wrap .i64 (i_9 - 1)) (fun a12 =>
 ∃ (x13 : Int), (∀ w, C10 w → World.cell? w (a12.add 0) = some (.int .i64 x13)) ∧ (
 doIx l_p2 l_n3 2 (i_9) (fun a14 =>
 ∃ (x15 : Int), (∀ w, C10 w → World.cell? w (a14.add 0) = some (.int .i64 x15)) ∧ (
 doCall Tryz.prog (.func (.func 55) #[] #[]) #[.int .u8 o_1, .int .i64 x13, .int .i64 x15] w11 (retS (fun v17 w18 => ∃ (x16 : Int), v17 = (.int .i64 x16 : Value) ∧ (
 ifB (decide ((x16 : Int) ≥ 0)) (
 R (.returned (.bool false)) w18) (
 I5 [.int .i64 (IntKind.wrap .i64 (i_9 + 1))] w18 ∧ μ6 [.int .i64 (IntKind.wrap .i64 (i_9 + 1))] w18 < μ6 [.int .i64 i_9] w8))) (fun ch w => Kfn R ch [] w))))))))) (
 R (.returned (.bool true)) w8)))
set_option maxRecDepth 100000 in
theorem sh120_ok (o_1 : Int) (l_p2 : Option Addr) (l_n3 : Nat) (l_c4 : Nat) {R : Ending → World → Prop} {w : World} : sh120 o_1 l_p2 l_n3 l_c4 R w → Calls Tryz.prog 120 #[.int .u8 o_1, .slice l_p2 l_n3 l_c4] w R :=
  calls_of_eq (ann := fun i => if i = 0 then [(5, .int .i64 0)] else []) (fn := Tryz.f120) (c := bodyOf Tryz.f120) (args := #[.int .u8 o_1, .slice l_p2 l_n3 l_c4]) 400 follows_mixed Tryz.func120 (by kernel_rfl) (by kernel_rfl)
set_option maxRecDepth 100000 in
/-- joinery/joineryref09.Pairs -/
def sh121 (l_p1 : Option Addr) (l_n2 : Nat) (l_c3 : Nat) (R : Ending → World → Prop) (w : World) : Prop :=
 ifB ((((l_n2 : Nat) : Int) : Int) == 0) (
 R (.returned (.slice none 0 0)) w) (
 doCall Tryz.prog (.func (.func 52) #[] #[]) #[.slice l_p1 l_n2 l_c3] w (retS (fun v17 w18 => ∃ (x4 : Int), ∃ (x5 : Int), ∃ (x6 : Int), ∃ (x7 : Int), ∃ (x8 : Int), ∃ (x9 : Bool), ∃ (x10 : Bool), ∃ (xp11 : Option Addr), ∃ (xn12 : Nat), ∃ (xc13 : Nat), ∃ (xp14 : Option Addr), ∃ (xn15 : Nat), ∃ (xc16 : Nat), v17 = (.tuple #[.agg #[.int .i64 x4, .int .i64 x5, .int .i64 x6, .int .i64 x7, .int .u64 x8, .bool x9, .bool x10], .slice xp11 xn12 xc13, .slice xp14 xn15 xc16] : Value) ∧ (
 doAl (.cells #[.int .i64 0, .int .i64 0, .int .i64 0, .int .i64 0, .int .u64 0, .bool false, .bool false] 84) w18 (fun b19 w20 =>
 doSt ((blk b19).add 0) (.int .i64 x4) w20 (fun w21 =>
 doSt ((blk b19).add 1) (.int .i64 x5) w21 (fun w22 =>
 doSt ((blk b19).add 2) (.int .i64 x6) w22 (fun w23 =>
 doSt ((blk b19).add 3) (.int .i64 x7) w23 (fun w24 =>
 doSt ((blk b19).add 4) (.int .u64 x8) w24 (fun w25 =>
 doSt ((blk b19).add 5) (.bool x9) w25 (fun w26 =>
 doSt ((blk b19).add 6) (.bool x10) w26 (fun w27 =>
 let K32 : (Option Addr) → Nat → Nat → World → Prop := fun (out_p28 : Option Addr) (out_n29 : Nat) (out_c30 : Nat) (w31 : World) => 
 doCall Tryz.prog (.func (.func 121) #[] #[]) #[.slice xp14 xn15 xc16] w31 (retS (fun v36 w37 => ∃ (xp33 : Option Addr), ∃ (xn34 : Nat), ∃ (xc35 : Nat), v36 = (.slice xp33 xn34 xc35 : Value) ∧ (
 doGo Tryz.prog (.builtin .append #[177, 177] 177 #[false, false]) #[.slice out_p28 out_n29 out_c30, .slice xp33 xn34 xc35] w37 (retS (fun v41 w42 => ∃ (xp38 : Option Addr), ∃ (xn39 : Nat), ∃ (xc40 : Nat), v41 = (.slice xp38 xn39 xc40 : Value) ∧ (
 R (.returned (.slice xp38 xn39 xc40)) w42)) (fun ch w => Kfn R ch [] w)))) (fun ch w => Kfn R ch [] w))
 doDr w27 (fun w44 =>
 ∃ (C43 : World → Prop), C43 w44 ∧ (
 ∃ (x45 : Int), (∀ w, C43 w → World.cell? w ((blk b19).add 0) = some (.int .i64 x45)) ∧ (
 ∃ (x46 : Int), (∀ w, C43 w → World.cell? w ((blk b19).add 1) = some (.int .i64 x46)) ∧ (
 (doCall Tryz.prog (.func (.func 121) #[] #[]) #[.slice xp11 xn12 xc13] w44 (retS (fun v50 w51 => ∃ (xp47 : Option Addr), ∃ (xn48 : Nat), ∃ (xc49 : Nat), v50 = (.slice xp47 xn48 xc49 : Value) ∧ (
 C43 w51 ∧ (
 doAl (.cells #[.int .i64 x45, .int .i64 x46] 223) w51 (fun b52 w53 =>
 C43 w53 ∧ (
 doGo Tryz.prog (.builtin .append #[177, 177] 177 #[false, false]) #[.slice xp47 xn48 xc49, .slice (some (blk b52)) 1 1] w53 (retS (fun v57 w58 => ∃ (xp54 : Option Addr), ∃ (xn55 : Nat), ∃ (xc56 : Nat), v57 = (.slice xp54 xn55 xc56 : Value) ∧ (
 C43 w58 ∧ (
 K32 xp54 xn55 xc56 w58))) (fun ch w => Kfn R ch [] w))))))) (fun ch w => Kfn R ch [] w))) ∧ (doAl (.cells #[.int .i64 x45, .int .i64 x46] 223) w44 (fun b59 w60 =>
 C43 w60 ∧ (
 doCall Tryz.prog (.func (.func 121) #[] #[]) #[.slice xp11 xn12 xc13] w60 (retS (fun v64 w65 => ∃ (xp61 : Option Addr), ∃ (xn62 : Nat), ∃ (xc63 : Nat), v64 = (.slice xp61 xn62 xc63 : Value) ∧ (
 C43 w65 ∧ (
 doGo Tryz.prog (.builtin .append #[177, 177] 177 #[false, false]) #[.slice xp61 xn62 xc63, .slice (some (blk b59)) 1 1] w65 (retS (fun v69 w70 => ∃ (xp66 : Option Addr), ∃ (xn67 : Nat), ∃ (xc68 : Nat), v69 = (.slice xp66 xn67 xc68 : Value) ∧ (
 C43 w70 ∧ (
 K32 xp66 xn67 xc68 w70))) (fun ch w => Kfn R ch [] w))))) (fun ch w => Kfn R ch [] w))))))))))))))))))) (fun ch w => Kfn R ch [] w)))
set_option maxRecDepth 100000 in
theorem sh121_ok (l_p1 : Option Addr) (l_n2 : Nat) (l_c3 : Nat) {R : Ending → World → Prop} {w : World} : sh121 l_p1 l_n2 l_c3 R w → Calls Tryz.prog 121 #[.slice l_p1 l_n2 l_c3] w R :=
  calls_of_eq (ann := fun _ => []) (fn := Tryz.f121) (c := bodyOf Tryz.f121) (args := #[.slice l_p1 l_n2 l_c3]) 400 follows_mixed Tryz.func121 (by kernel_rfl) (by kernel_rfl)
set_option maxRecDepth 100000 in
/-- joinery/order.kinds -/
def sh123  (R : Ending → World → Prop) (w : World) : Prop :=
 doAl (.map #[] 0) w (fun b1 w2 =>
 doMu Tryz.prog 187 (.map (some b1)) (.int .u8 1) (.agg #[.string (⟨#[117, 112]⟩ : ByteArray), .func (.func 162) #[] #[], .func (.func 163) #[] #[]]) w2 (fun w3 =>
 doMu Tryz.prog 187 (.map (some b1)) (.int .u8 2) (.agg #[.string (⟨#[100, 111, 119, 110]⟩ : ByteArray), .func (.func 164) #[] #[], .func (.func 165) #[] #[]]) w3 (fun w4 =>
 doMu Tryz.prog 187 (.map (some b1)) (.int .u8 3) (.agg #[.string (⟨#[115, 105, 122, 101]⟩ : ByteArray), .func (.func 166) #[] #[], .func (.func 167) #[] #[]]) w4 (fun w5 =>
 doMu Tryz.prog 187 (.map (some b1)) (.int .u8 4) (.agg #[.string (⟨#[98, 105, 116, 115]⟩ : ByteArray), .func (.func 168) #[] #[], .func (.func 170) #[] #[]]) w5 (fun w6 =>
 doMu Tryz.prog 187 (.map (some b1)) (.int .u8 5) (.agg #[.string (⟨#[101, 118, 101, 110]⟩ : ByteArray), .func (.func 171) #[] #[], .func (.func 173) #[] #[]]) w6 (fun w7 =>
 doMu Tryz.prog 187 (.map (some b1)) (.int .u8 6) (.agg #[.string (⟨#[108, 111, 119]⟩ : ByteArray), .func (.func 174) #[] #[], .func (.func 175) #[] #[]]) w7 (fun w8 =>
 doMu Tryz.prog 187 (.map (some b1)) (.int .u8 7) (.agg #[.string (⟨#[109, 105, 120]⟩ : ByteArray), .func (.func 176) #[] #[], .func (.func 178) #[] #[]]) w8 (fun w9 =>
 R (.returned (.map (some b1))) w9))))))))
set_option maxRecDepth 100000 in
theorem sh123_ok  {R : Ending → World → Prop} {w : World} : sh123  R w → Calls Tryz.prog 123 #[] w R :=
  calls_of_eq (ann := fun _ => []) (fn := Tryz.f123) (c := bodyOf Tryz.f123) (args := #[]) 400 follows_mixed Tryz.func123 (by kernel_rfl) (by kernel_rfl)
set_option maxRecDepth 100000 in
/-- cmp.isNaN[uint64] -/
def sh124 (x_1 : Int) (R : Ending → World → Prop) (w : World) : Prop :=
 R (.returned (.bool ((x_1 : Int) != x_1))) w
set_option maxRecDepth 100000 in
theorem sh124_ok (x_1 : Int) {R : Ending → World → Prop} {w : World} : sh124 x_1 R w → Calls Tryz.prog 124 #[.int .u64 x_1] w R :=
  calls_of_eq (ann := fun _ => []) (fn := Tryz.f124) (c := bodyOf Tryz.f124) (args := #[.int .u64 x_1]) 400 follows_mixed Tryz.func124 (by kernel_rfl) (by kernel_rfl)
set_option maxRecDepth 100000 in
/-- (*joinery/node.Node).Val -/
def sh125 (n_1 : Option Addr) (R : Ending → World → Prop) (w : World) : Prop :=
 doCall Tryz.prog (.func (.func 69) #[] #[]) #[.pointer n_1] w (retS (fun v7 w8 => ∃ (x2 : Int), ∃ (x3 : Int), ∃ (x4 : Int), ∃ (x5 : Int), ∃ (x6 : Int), v7 = (.agg #[.int .i64 x2, .int .i64 x3, .int .i64 x4, .int .u64 x5, .int .i64 x6] : Value) ∧ (
 R (.returned (.int .i64 x3)) w8)) (fun ch w => Kfn R ch [] w))
set_option maxRecDepth 100000 in
theorem sh125_ok (n_1 : Option Addr) {R : Ending → World → Prop} {w : World} : sh125 n_1 R w → Calls Tryz.prog 125 #[.pointer n_1] w R :=
  calls_of_eq (ann := fun _ => []) (fn := Tryz.f125) (c := bodyOf Tryz.f125) (args := #[.pointer n_1]) 400 follows_mixed Tryz.func125 (by kernel_rfl) (by kernel_rfl)
set_option maxRecDepth 100000 in
/-- (*joinery/node.Node).Tag -/
def sh126 (n_1 : Option Addr) (R : Ending → World → Prop) (w : World) : Prop :=
 doCall Tryz.prog (.func (.func 69) #[] #[]) #[.pointer n_1] w (retS (fun v7 w8 => ∃ (x2 : Int), ∃ (x3 : Int), ∃ (x4 : Int), ∃ (x5 : Int), ∃ (x6 : Int), v7 = (.agg #[.int .i64 x2, .int .i64 x3, .int .i64 x4, .int .u64 x5, .int .i64 x6] : Value) ∧ (
 R (.returned (.int .u64 x5)) w8)) (fun ch w => Kfn R ch [] w))
set_option maxRecDepth 100000 in
theorem sh126_ok (n_1 : Option Addr) {R : Ending → World → Prop} {w : World} : sh126 n_1 R w → Calls Tryz.prog 126 #[.pointer n_1] w R :=
  calls_of_eq (ann := fun _ => []) (fn := Tryz.f126) (c := bodyOf Tryz.f126) (args := #[.pointer n_1]) 400 follows_mixed Tryz.func126 (by kernel_rfl) (by kernel_rfl)
set_option maxRecDepth 100000 in
/-- joinery/joineryref02.up -/
def sh127 (k_1 : Int) (R : Ending → World → Prop) (w : World) : Prop :=
 R (.returned (.int .u64 (IntKind.wrap .u64 ((IntKind.wrap .u64 k_1) + 9223372036854775808)))) w
set_option maxRecDepth 100000 in
theorem sh127_ok (k_1 : Int) {R : Ending → World → Prop} {w : World} : sh127 k_1 R w → Calls Tryz.prog 127 #[.int .i64 k_1] w R :=
  calls_of_eq (ann := fun _ => []) (fn := Tryz.f127) (c := bodyOf Tryz.f127) (args := #[.int .i64 k_1]) 400 follows_mixed Tryz.func127 (by kernel_rfl) (by kernel_rfl)
set_option maxRecDepth 100000 in
/-- joinery/joineryref01.Flip -/
def sh128 (x_1 : Int) (R : Ending → World → Prop) (w : World) : Prop :=
 ∃ (I2 : List Value → World → Prop) (μ3 : List Value → World → Nat), I2 [.int .u64 x_1, .int .u64 0, .int .i64 0] w ∧ (∀ (x_6 : Int), ∀ (y_7 : Int), ∀ (i_8 : Int), ∀ (_j4 : Nat → Value) (w5 : World), I2 [.int .u64 x_6, .int .u64 y_7, .int .i64 i_8] w5 → (
 ifB (decide ((i_8 : Int) < 64)) (
 2 ≠ (0 : Int) ∧ (
 2 ≠ (0 : Int) ∧ (
 I2 [.int .u64 (IntKind.wrap .u64 (Int.tdiv x_6 2)), .int .u64 (IntKind.wrap .u64 ((IntKind.wrap .u64 (y_7 * 2)) + (Int.tmod x_6 2))), .int .i64 (IntKind.wrap .i64 (i_8 + 1))] w5 ∧ μ3 [.int .u64 (IntKind.wrap .u64 (Int.tdiv x_6 2)), .int .u64 (IntKind.wrap .u64 ((IntKind.wrap .u64 (y_7 * 2)) + (Int.tmod x_6 2))), .int .i64 (IntKind.wrap .i64 (i_8 + 1))] w5 < μ3 [.int .u64 x_6, .int .u64 y_7, .int .i64 i_8] w5))) (
 R (.returned (.int .u64 y_7)) w5)))
set_option maxRecDepth 100000 in
theorem sh128_ok (x_1 : Int) {R : Ending → World → Prop} {w : World} : sh128 x_1 R w → Calls Tryz.prog 128 #[.int .u64 x_1] w R :=
  calls_of_eq (ann := fun i => if i = 0 then [(0, .int .u64 0), (3, .int .u64 0), (4, .int .i64 0)] else []) (fn := Tryz.f128) (c := bodyOf Tryz.f128) (args := #[.int .u64 x_1]) 400 follows_mixed Tryz.func128 (by kernel_rfl) (by kernel_rfl)
set_option maxRecDepth 100000 in
/-- joinery/joineryref01.Turn -/
def sh129 (x_1 : Int) (n_2 : Int) (R : Ending → World → Prop) (w : World) : Prop :=
 64 ≠ (0 : Int) ∧ (
 64 ≠ (0 : Int) ∧ (
 ∃ (I3 : List Value → World → Prop) (μ4 : List Value → World → Nat), I3 [.int .u64 0, .int .i64 0] w ∧ (∀ (y_7 : Int), ∀ (i_8 : Int), ∀ (_j5 : Nat → Value) (w6 : World), I3 [.int .u64 y_7, .int .i64 i_8] w6 → (
 ifB (decide ((i_8 : Int) < 64)) (
 (0 : Int) ≤ (IntKind.wrap .u64 i_8) ∧ (
 2 ≠ (0 : Int) ∧ (
 64 ≠ (0 : Int) ∧ (
 (0 : Int) ≤ (IntKind.wrap .u64 (Int.tmod (IntKind.wrap .i64 (i_8 + (Int.tmod (IntKind.wrap .i64 ((Int.tmod n_2 64) + 64)) 64))) 64)) ∧ (
 I3 [.int .u64 (IntKind.wrap .u64 (y_7 + (IntKind.wrap .u64 ((Int.tmod (Int.fdiv x_1 (2 ^ (min ((IntKind.wrap .u64 i_8) : Int).toNat (IntKind.bits .u64)))) 2) * 2 ^ (min ((IntKind.wrap .u64 (Int.tmod (IntKind.wrap .i64 (i_8 + (Int.tmod (IntKind.wrap .i64 ((Int.tmod n_2 64) + 64)) 64))) 64)) : Int).toNat (IntKind.bits .u64)))))), .int .i64 (IntKind.wrap .i64 (i_8 + 1))] w6 ∧ μ4 [.int .u64 (IntKind.wrap .u64 (y_7 + (IntKind.wrap .u64 ((Int.tmod (Int.fdiv x_1 (2 ^ (min ((IntKind.wrap .u64 i_8) : Int).toNat (IntKind.bits .u64)))) 2) * 2 ^ (min ((IntKind.wrap .u64 (Int.tmod (IntKind.wrap .i64 (i_8 + (Int.tmod (IntKind.wrap .i64 ((Int.tmod n_2 64) + 64)) 64))) 64)) : Int).toNat (IntKind.bits .u64)))))), .int .i64 (IntKind.wrap .i64 (i_8 + 1))] w6 < μ4 [.int .u64 y_7, .int .i64 i_8] w6))))) (
 R (.returned (.int .u64 y_7)) w6)))))
set_option maxRecDepth 100000 in
theorem sh129_ok (x_1 : Int) (n_2 : Int) {R : Ending → World → Prop} {w : World} : sh129 x_1 n_2 R w → Calls Tryz.prog 129 #[.int .u64 x_1, .int .i64 n_2] w R :=
  calls_of_eq (ann := fun i => if i = 0 then [(5, .int .u64 0), (6, .int .i64 0)] else []) (fn := Tryz.f129) (c := bodyOf Tryz.f129) (args := #[.int .u64 x_1, .int .i64 n_2]) 400 follows_mixed Tryz.func129 (by kernel_rfl) (by kernel_rfl)
set_option maxRecDepth 100000 in
/-- joinery/joineryref01.Mix -/
def sh130 (x_1 : Int) (R : Ending → World → Prop) (w : World) : Prop :=
 1073741824 ≠ (0 : Int) ∧ (
 134217728 ≠ (0 : Int) ∧ (
 2147483648 ≠ (0 : Int) ∧ (
 R (.returned (.int .u64 (bXor .u64 (IntKind.wrap .u64 ((bXor .u64 (IntKind.wrap .u64 ((bXor .u64 x_1 (IntKind.wrap .u64 (Int.tdiv x_1 1073741824))) * 13787848793156543929)) (IntKind.wrap .u64 (Int.tdiv (IntKind.wrap .u64 ((bXor .u64 x_1 (IntKind.wrap .u64 (Int.tdiv x_1 1073741824))) * 13787848793156543929)) 134217728))) * 10723151780598845931)) (IntKind.wrap .u64 (Int.tdiv (IntKind.wrap .u64 ((bXor .u64 (IntKind.wrap .u64 ((bXor .u64 x_1 (IntKind.wrap .u64 (Int.tdiv x_1 1073741824))) * 13787848793156543929)) (IntKind.wrap .u64 (Int.tdiv (IntKind.wrap .u64 ((bXor .u64 x_1 (IntKind.wrap .u64 (Int.tdiv x_1 1073741824))) * 13787848793156543929)) 134217728))) * 10723151780598845931)) 2147483648))))) w)))
set_option maxRecDepth 100000 in
theorem sh130_ok (x_1 : Int) {R : Ending → World → Prop} {w : World} : sh130 x_1 R w → Calls Tryz.prog 130 #[.int .u64 x_1] w R :=
  calls_of_eq (ann := fun _ => []) (fn := Tryz.f130) (c := bodyOf Tryz.f130) (args := #[.int .u64 x_1]) 400 follows_mixed Tryz.func130 (by kernel_rfl) (by kernel_rfl)
set_option maxRecDepth 100000 in
/-- joinery/cut.end -/
def sh131 (s_1 : Option Addr) (w_f2 : Fn) (w_x3 : Array Value) (w_c4 : Array Value) (w_f5 : Fn) (w_x6 : Array Value) (w_c7 : Array Value) (w_f8 : Fn) (w_x9 : Array Value) (w_c10 : Array Value) (t_11 : Option Addr) (R : Ending → World → Prop) (w : World) : Prop :=
 doAl (.cells #[.func w_f2 w_x3 w_c4, .func w_f5 w_x6 w_c7, .func w_f8 w_x9 w_c10] 195) w (fun b12 w13 =>
 doAl (.cells #[.int .i64 0, .int .i64 0, .int .u64 0] 33) w13 (fun b14 w15 =>
 ∃ (xf16 : Fn), ∃ (xx17 : Array Value), ∃ (xc18 : Array Value), World.cell? w15 ((blk b12).add 0) = some (.func xf16 xx17 xc18) ∧ (
 doCall Tryz.prog (.func xf16 xx17 xc18) #[.pointer t_11] w15 (retS (fun v20 w21 => ∃ (x19 : Option Addr), v20 = (.pointer x19 : Value) ∧ (
 ifB ((x19).isNone) (
 ∃ (xf22 : Fn), ∃ (xx23 : Array Value), ∃ (xc24 : Array Value), World.cell? w21 ((blk b12).add 1) = some (.func xf22 xx23 xc24) ∧ (
 doCall Tryz.prog (.func xf22 xx23 xc24) #[.pointer t_11] w21 (retS (fun v26 w27 => ∃ (x25 : Option Addr), v26 = (.pointer x25 : Value) ∧ (
 doCall Tryz.prog (.func (.func 91) #[] #[]) #[.pointer s_1, .pointer x25] w27 (retS (fun v29 w30 => ∃ (x28 : Option Addr), v29 = (.pointer x28 : Value) ∧ (
 doCall Tryz.prog (.func (.func 92) #[] #[]) #[.pointer s_1, .pointer t_11] w30 (retS (fun v34 w35 => ∃ (x31 : Int), ∃ (x32 : Int), ∃ (x33 : Int), v34 = (.agg #[.int .i64 x31, .int .i64 x32, .int .u64 x33] : Value) ∧ (
 doSt ((blk b14).add 0) (.int .i64 x31) w35 (fun w36 =>
 doSt ((blk b14).add 1) (.int .i64 x32) w36 (fun w37 =>
 doSt ((blk b14).add 2) (.int .u64 x33) w37 (fun w38 =>
 ∃ (x39 : Int), World.cell? w38 ((blk b14).add 0) = some (.int .i64 x39) ∧ (
 ∃ (x40 : Int), World.cell? w38 ((blk b14).add 1) = some (.int .i64 x40) ∧ (
 ∃ (x41 : Int), World.cell? w38 ((blk b14).add 2) = some (.int .u64 x41) ∧ (
 R (.returned (.tuple #[.pointer x28, .agg #[.int .i64 x39, .int .i64 x40, .int .u64 x41]])) w38)))))))) (fun ch w => Kfn R ch [] w)))) (fun ch w => Kfn R ch [] w)))) (fun ch w => Kfn R ch [] w)))) (
 let K45 : (Option Addr) → Addr → World → Prop := fun (rest_42 : Option Addr) (x_43 : Addr) (w44 : World) => 
 doDr w44 (fun w47 =>
 ∃ (C46 : World → Prop), C46 w47 ∧ (
 ∃ (xf48 : Fn), ∃ (xx49 : Array Value), ∃ (xc50 : Array Value), (∀ w, C46 w → World.cell? w ((blk b12).add 2) = some (.func xf48 xx49 xc50)) ∧ (
 ∃ (xf51 : Fn), ∃ (xx52 : Array Value), ∃ (xc53 : Array Value), (∀ w, C46 w → World.cell? w ((blk b12).add 1) = some (.func xf51 xx52 xc53)) ∧ (
 ∃ (x54 : Int), (∀ w, C46 w → World.cell? w (x_43.add 0) = some (.int .i64 x54)) ∧ (
 ∃ (x55 : Int), (∀ w, C46 w → World.cell? w (x_43.add 1) = some (.int .i64 x55)) ∧ (
 ∃ (x56 : Int), (∀ w, C46 w → World.cell? w (x_43.add 2) = some (.int .u64 x56)) ∧ (
 doCall Tryz.prog (.func (.func 92) #[] #[]) #[.pointer s_1, .pointer t_11] w47 (retS (fun v60 w61 => ∃ (x57 : Int), ∃ (x58 : Int), ∃ (x59 : Int), v60 = (.agg #[.int .i64 x57, .int .i64 x58, .int .u64 x59] : Value) ∧ (
 C46 w61 ∧ (
 doCall Tryz.prog (.func xf51 xx52 xc53) #[.pointer t_11] w61 (retS (fun v63 w64 => ∃ (x62 : Option Addr), v63 = (.pointer x62 : Value) ∧ (
 C46 w64 ∧ (
 doCall Tryz.prog (.func xf48 xx49 xc50) #[.pointer rest_42, .agg #[.int .i64 x57, .int .i64 x58, .int .u64 x59], .pointer x62] w64 (retS (fun v66 w67 => ∃ (x65 : Option Addr), v66 = (.pointer x65 : Value) ∧ (
 C46 w67 ∧ (
 doSt ((blk b14).add 0) (.int .i64 x54) w67 (fun w68 =>
 doSt ((blk b14).add 1) (.int .i64 x55) w68 (fun w69 =>
 doSt ((blk b14).add 2) (.int .u64 x56) w69 (fun w70 =>
 ∃ (x71 : Int), World.cell? w70 ((blk b14).add 0) = some (.int .i64 x71) ∧ (
 ∃ (x72 : Int), World.cell? w70 ((blk b14).add 1) = some (.int .i64 x72) ∧ (
 ∃ (x73 : Int), World.cell? w70 ((blk b14).add 2) = some (.int .u64 x73) ∧ (
 R (.returned (.tuple #[.pointer x65, .agg #[.int .i64 x71, .int .i64 x72, .int .u64 x73]])) w70))))))))) (fun ch w => Kfn R ch [] w))))) (fun ch w => Kfn R ch [] w))))) (fun ch w => Kfn R ch [] w)))))))))
 doDr w21 (fun w75 =>
 ∃ (C74 : World → Prop), C74 w75 ∧ (
 ∃ (xf76 : Fn), ∃ (xx77 : Array Value), ∃ (xc78 : Array Value), (∀ w, C74 w → World.cell? w ((blk b12).add 0) = some (.func xf76 xx77 xc78)) ∧ (
 ∃ (xf79 : Fn), ∃ (xx80 : Array Value), ∃ (xc81 : Array Value), (∀ w, C74 w → World.cell? w ((blk b12).add 1) = some (.func xf79 xx80 xc81)) ∧ (
 ∃ (xf82 : Fn), ∃ (xx83 : Array Value), ∃ (xc84 : Array Value), (∀ w, C74 w → World.cell? w ((blk b12).add 2) = some (.func xf82 xx83 xc84)) ∧ (
 ∃ (xf85 : Fn), ∃ (xx86 : Array Value), ∃ (xc87 : Array Value), (∀ w, C74 w → World.cell? w ((blk b12).add 0) = some (.func xf85 xx86 xc87)) ∧ (
 (doCall Tryz.prog (.func xf85 xx86 xc87) #[.pointer t_11] w75 (retS (fun v89 w90 => ∃ (x88 : Option Addr), v89 = (.pointer x88 : Value) ∧ (
 C74 w90 ∧ (
 (doCall Tryz.prog (.func (.func 131) #[] #[]) #[.pointer s_1, .agg #[.func xf76 xx77 xc78, .func xf79 xx80 xc81, .func xf82 xx83 xc84], .pointer x88] w90 (retS (fun v95 w96 => ∃ (x91 : Option Addr), ∃ (x92 : Int), ∃ (x93 : Int), ∃ (x94 : Int), v95 = (.tuple #[.pointer x91, .agg #[.int .i64 x92, .int .i64 x93, .int .u64 x94]] : Value) ∧ (
 C74 w96 ∧ (
 doAl (.cells #[.int .i64 0, .int .i64 0, .int .u64 0] 33) w96 (fun b97 w98 =>
 C74 w98 ∧ (
 doSt ((blk b97).add 0) (.int .i64 x92) w98 (fun w99 =>
 doSt ((blk b97).add 1) (.int .i64 x93) w99 (fun w100 =>
 doSt ((blk b97).add 2) (.int .u64 x94) w100 (fun w101 =>
 K45 x91 (blk b97) w101)))))))) (fun ch w => Kfn R ch [] w))) ∧ (doAl (.cells #[.int .i64 0, .int .i64 0, .int .u64 0] 33) w90 (fun b102 w103 =>
 C74 w103 ∧ (
 doCall Tryz.prog (.func (.func 131) #[] #[]) #[.pointer s_1, .agg #[.func xf76 xx77 xc78, .func xf79 xx80 xc81, .func xf82 xx83 xc84], .pointer x88] w103 (retS (fun v108 w109 => ∃ (x104 : Option Addr), ∃ (x105 : Int), ∃ (x106 : Int), ∃ (x107 : Int), v108 = (.tuple #[.pointer x104, .agg #[.int .i64 x105, .int .i64 x106, .int .u64 x107]] : Value) ∧ (
 C74 w109 ∧ (
 doSt ((blk b102).add 0) (.int .i64 x105) w109 (fun w110 =>
 doSt ((blk b102).add 1) (.int .i64 x106) w110 (fun w111 =>
 doSt ((blk b102).add 2) (.int .u64 x107) w111 (fun w112 =>
 K45 x104 (blk b102) w112)))))) (fun ch w => Kfn R ch [] w)))))))) (fun ch w => Kfn R ch [] w))) ∧ (doAl (.cells #[.int .i64 0, .int .i64 0, .int .u64 0] 33) w75 (fun b113 w114 =>
 C74 w114 ∧ (
 doCall Tryz.prog (.func xf85 xx86 xc87) #[.pointer t_11] w114 (retS (fun v116 w117 => ∃ (x115 : Option Addr), v116 = (.pointer x115 : Value) ∧ (
 C74 w117 ∧ (
 doCall Tryz.prog (.func (.func 131) #[] #[]) #[.pointer s_1, .agg #[.func xf76 xx77 xc78, .func xf79 xx80 xc81, .func xf82 xx83 xc84], .pointer x115] w117 (retS (fun v122 w123 => ∃ (x118 : Option Addr), ∃ (x119 : Int), ∃ (x120 : Int), ∃ (x121 : Int), v122 = (.tuple #[.pointer x118, .agg #[.int .i64 x119, .int .i64 x120, .int .u64 x121]] : Value) ∧ (
 C74 w123 ∧ (
 doSt ((blk b113).add 0) (.int .i64 x119) w123 (fun w124 =>
 doSt ((blk b113).add 1) (.int .i64 x120) w124 (fun w125 =>
 doSt ((blk b113).add 2) (.int .u64 x121) w125 (fun w126 =>
 K45 x118 (blk b113) w126)))))) (fun ch w => Kfn R ch [] w))))) (fun ch w => Kfn R ch [] w)))))))))))))) (fun ch w => Kfn R ch [] w)))))
set_option maxRecDepth 100000 in
theorem sh131_ok (s_1 : Option Addr) (w_f2 : Fn) (w_x3 : Array Value) (w_c4 : Array Value) (w_f5 : Fn) (w_x6 : Array Value) (w_c7 : Array Value) (w_f8 : Fn) (w_x9 : Array Value) (w_c10 : Array Value) (t_11 : Option Addr) {R : Ending → World → Prop} {w : World} : sh131 s_1 w_f2 w_x3 w_c4 w_f5 w_x6 w_c7 w_f8 w_x9 w_c10 t_11 R w → Calls Tryz.prog 131 #[.pointer s_1, .agg #[.func w_f2 w_x3 w_c4, .func w_f5 w_x6 w_c7, .func w_f8 w_x9 w_c10], .pointer t_11] w R :=
  calls_of_eq (ann := fun _ => []) (fn := Tryz.f131) (c := bodyOf Tryz.f131) (args := #[.pointer s_1, .agg #[.func w_f2 w_x3 w_c4, .func w_f5 w_x6 w_c7, .func w_f8 w_x9 w_c10], .pointer t_11]) 400 follows_mixed Tryz.func131 (by kernel_rfl) (by kernel_rfl)
end Go.Proofs.YthgckfeocalbdaaGreat
