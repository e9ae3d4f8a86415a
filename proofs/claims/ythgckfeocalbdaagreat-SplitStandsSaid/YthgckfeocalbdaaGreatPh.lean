/-
  Printed by a program (gen.py): what the functions of the program do, as formulas; each with the proof that its call is what the formula says.
-/
/-
  Printed by a program (gen.py): what the functions of the program do, as formulas; each with the proof that its call is what the formula says.
-/
/-
  Printed by a program (gen.py): what the functions of the program do, as formulas; each with the proof that its call is what the formula says.
-/
/-
  Printed by a program (gen.py): what the functions of the program do, as formulas; each with the proof that its call is what the formula says.
-/
/-
  Printed by a program (gen.py): what the functions of the program do, as formulas; each with the proof that its call is what the formula says.
-/
import Derived.Test.YthgckfeocalbdaaGreatPb
import Derived.Test.YthgckfeocalbdaaGreatProg
import Derived.Test.YthgckfeocalbdaaGreatPd

namespace Go.Proofs.YthgckfeocalbdaaGreat
open Go Go.Sh
set_option maxRecDepth 100000 in
/-- joinery/split.parts -/
def sh54 (s_1 : Option Addr) (at_f2 : Fn) (at_x3 : Array Value) (at_c4 : Array Value) (t_5 : Option Addr) (R : Ending → World → Prop) (w : World) : Prop :=
 doAl (.cells #[.int .i64 0, .int .i64 0, .int .u64 0] 33) w (fun b6 w7 =>
 ifB ((t_5).isNone) (
 doDr w7 (fun w9 =>
 ∃ (C8 : World → Prop), C8 w9 ∧ (
 ∃ (x10 : Int), (∀ w, C8 w → World.cell? w ((blk b6).add 0) = some (.int .i64 x10)) ∧ (
 ∃ (x11 : Int), (∀ w, C8 w → World.cell? w ((blk b6).add 1) = some (.int .i64 x11)) ∧ (
 ∃ (x12 : Int), (∀ w, C8 w → World.cell? w ((blk b6).add 2) = some (.int .u64 x12)) ∧ (
 doSt ((blk b6).add 0) (.int .i64 x10) w9 (fun w13 =>
 doSt ((blk b6).add 1) (.int .i64 x11) w13 (fun w14 =>
 doSt ((blk b6).add 2) (.int .u64 x12) w14 (fun w15 =>
 ∃ (x16 : Int), World.cell? w15 ((blk b6).add 0) = some (.int .i64 x16) ∧ (
 ∃ (x17 : Int), World.cell? w15 ((blk b6).add 1) = some (.int .i64 x17) ∧ (
 ∃ (x18 : Int), World.cell? w15 ((blk b6).add 2) = some (.int .u64 x18) ∧ (
 R (.returned (.tuple #[.pointer none, .agg #[.int .i64 x16, .int .i64 x17, .int .u64 x18], .bool false, .pointer none])) w15)))))))))))) (
 doCall Tryz.prog (.func (.func 67) #[] #[]) #[.pointer t_5] w7 (retS (fun v20 w21 => ∃ (x19 : Int), v20 = (.int .i64 x19 : Value) ∧ (
 doCall Tryz.prog (.func at_f2 at_x3 at_c4) #[.int .i64 x19] w21 (retS (fun v23 w24 => ∃ (x22 : Int), v23 = (.int .i64 x22 : Value) ∧ (
 ifB (decide ((x22 : Int) < 0)) (
 doCall Tryz.prog (.func (.func 66) #[] #[]) #[.pointer t_5] w24 (retS (fun v26 w27 => ∃ (x25 : Option Addr), v26 = (.pointer x25 : Value) ∧ (
 doCall Tryz.prog (.func (.func 54) #[] #[]) #[.pointer s_1, .func at_f2 at_x3 at_c4, .pointer x25] w27 (retS (fun v34 w35 => ∃ (x28 : Option Addr), ∃ (x29 : Int), ∃ (x30 : Int), ∃ (x31 : Int), ∃ (x32 : Bool), ∃ (x33 : Option Addr), v34 = (.tuple #[.pointer x28, .agg #[.int .i64 x29, .int .i64 x30, .int .u64 x31], .bool x32, .pointer x33] : Value) ∧ (
 doSt ((blk b6).add 0) (.int .i64 x29) w35 (fun w36 =>
 doSt ((blk b6).add 1) (.int .i64 x30) w36 (fun w37 =>
 doSt ((blk b6).add 2) (.int .u64 x31) w37 (fun w38 =>
 doDr w38 (fun w40 =>
 ∃ (C39 : World → Prop), C39 w40 ∧ (
 ∃ (x41 : Int), (∀ w, C39 w → World.cell? w ((blk b6).add 0) = some (.int .i64 x41)) ∧ (
 ∃ (x42 : Int), (∀ w, C39 w → World.cell? w ((blk b6).add 1) = some (.int .i64 x42)) ∧ (
 ∃ (x43 : Int), (∀ w, C39 w → World.cell? w ((blk b6).add 2) = some (.int .u64 x43)) ∧ (
 doCall Tryz.prog (.func (.func 68) #[] #[]) #[.pointer t_5] w40 (retS (fun v45 w46 => ∃ (x44 : Option Addr), v45 = (.pointer x44 : Value) ∧ (
 C39 w46 ∧ (
 doCall Tryz.prog (.func (.func 92) #[] #[]) #[.pointer s_1, .pointer t_5] w46 (retS (fun v50 w51 => ∃ (x47 : Int), ∃ (x48 : Int), ∃ (x49 : Int), v50 = (.agg #[.int .i64 x47, .int .i64 x48, .int .u64 x49] : Value) ∧ (
 C39 w51 ∧ (
 doCall Tryz.prog (.func (.func 51) #[] #[]) #[.pointer s_1, .pointer x44, .agg #[.int .i64 x47, .int .i64 x48, .int .u64 x49], .pointer x28] w51 (retS (fun v53 w54 => ∃ (x52 : Option Addr), v53 = (.pointer x52 : Value) ∧ (
 C39 w54 ∧ (
 doSt ((blk b6).add 0) (.int .i64 x41) w54 (fun w55 =>
 doSt ((blk b6).add 1) (.int .i64 x42) w55 (fun w56 =>
 doSt ((blk b6).add 2) (.int .u64 x43) w56 (fun w57 =>
 ∃ (x58 : Int), World.cell? w57 ((blk b6).add 0) = some (.int .i64 x58) ∧ (
 ∃ (x59 : Int), World.cell? w57 ((blk b6).add 1) = some (.int .i64 x59) ∧ (
 ∃ (x60 : Int), World.cell? w57 ((blk b6).add 2) = some (.int .u64 x60) ∧ (
 R (.returned (.tuple #[.pointer x52, .agg #[.int .i64 x58, .int .i64 x59, .int .u64 x60], .bool x32, .pointer x33])) w57))))))))) (fun ch w => Kfn R ch [] w))))) (fun ch w => Kfn R ch [] w))))) (fun ch w => Kfn R ch [] w)))))))))))) (fun ch w => Kfn R ch [] w)))) (fun ch w => Kfn R ch [] w))) (
 ifB (decide ((x22 : Int) > 0)) (
 doCall Tryz.prog (.func (.func 68) #[] #[]) #[.pointer t_5] w24 (retS (fun v62 w63 => ∃ (x61 : Option Addr), v62 = (.pointer x61 : Value) ∧ (
 doCall Tryz.prog (.func (.func 54) #[] #[]) #[.pointer s_1, .func at_f2 at_x3 at_c4, .pointer x61] w63 (retS (fun v70 w71 => ∃ (x64 : Option Addr), ∃ (x65 : Int), ∃ (x66 : Int), ∃ (x67 : Int), ∃ (x68 : Bool), ∃ (x69 : Option Addr), v70 = (.tuple #[.pointer x64, .agg #[.int .i64 x65, .int .i64 x66, .int .u64 x67], .bool x68, .pointer x69] : Value) ∧ (
 doSt ((blk b6).add 0) (.int .i64 x65) w71 (fun w72 =>
 doSt ((blk b6).add 1) (.int .i64 x66) w72 (fun w73 =>
 doSt ((blk b6).add 2) (.int .u64 x67) w73 (fun w74 =>
 doDr w74 (fun w76 =>
 ∃ (C75 : World → Prop), C75 w76 ∧ (
 ∃ (x77 : Int), (∀ w, C75 w → World.cell? w ((blk b6).add 0) = some (.int .i64 x77)) ∧ (
 ∃ (x78 : Int), (∀ w, C75 w → World.cell? w ((blk b6).add 1) = some (.int .i64 x78)) ∧ (
 ∃ (x79 : Int), (∀ w, C75 w → World.cell? w ((blk b6).add 2) = some (.int .u64 x79)) ∧ (
 doCall Tryz.prog (.func (.func 92) #[] #[]) #[.pointer s_1, .pointer t_5] w76 (retS (fun v83 w84 => ∃ (x80 : Int), ∃ (x81 : Int), ∃ (x82 : Int), v83 = (.agg #[.int .i64 x80, .int .i64 x81, .int .u64 x82] : Value) ∧ (
 C75 w84 ∧ (
 doCall Tryz.prog (.func (.func 66) #[] #[]) #[.pointer t_5] w84 (retS (fun v86 w87 => ∃ (x85 : Option Addr), v86 = (.pointer x85 : Value) ∧ (
 C75 w87 ∧ (
 doCall Tryz.prog (.func (.func 51) #[] #[]) #[.pointer s_1, .pointer x69, .agg #[.int .i64 x80, .int .i64 x81, .int .u64 x82], .pointer x85] w87 (retS (fun v89 w90 => ∃ (x88 : Option Addr), v89 = (.pointer x88 : Value) ∧ (
 C75 w90 ∧ (
 doSt ((blk b6).add 0) (.int .i64 x77) w90 (fun w91 =>
 doSt ((blk b6).add 1) (.int .i64 x78) w91 (fun w92 =>
 doSt ((blk b6).add 2) (.int .u64 x79) w92 (fun w93 =>
 ∃ (x94 : Int), World.cell? w93 ((blk b6).add 0) = some (.int .i64 x94) ∧ (
 ∃ (x95 : Int), World.cell? w93 ((blk b6).add 1) = some (.int .i64 x95) ∧ (
 ∃ (x96 : Int), World.cell? w93 ((blk b6).add 2) = some (.int .u64 x96) ∧ (
 R (.returned (.tuple #[.pointer x64, .agg #[.int .i64 x94, .int .i64 x95, .int .u64 x96], .bool x68, .pointer x88])) w93))))))))) (fun ch w => Kfn R ch [] w))))) (fun ch w => Kfn R ch [] w))))) (fun ch w => Kfn R ch [] w)))))))))))) (fun ch w => Kfn R ch [] w)))) (fun ch w => Kfn R ch [] w))) (
 doCall Tryz.prog (.func (.func 68) #[] #[]) #[.pointer t_5] w24 (retS (fun v98 w99 => ∃ (x97 : Option Addr), v98 = (.pointer x97 : Value) ∧ (
 doCall Tryz.prog (.func (.func 91) #[] #[]) #[.pointer s_1, .pointer x97] w99 (retS (fun v101 w102 => ∃ (x100 : Option Addr), v101 = (.pointer x100 : Value) ∧ (
 doCall Tryz.prog (.func (.func 92) #[] #[]) #[.pointer s_1, .pointer t_5] w102 (retS (fun v106 w107 => ∃ (x103 : Int), ∃ (x104 : Int), ∃ (x105 : Int), v106 = (.agg #[.int .i64 x103, .int .i64 x104, .int .u64 x105] : Value) ∧ (
 doCall Tryz.prog (.func (.func 66) #[] #[]) #[.pointer t_5] w107 (retS (fun v109 w110 => ∃ (x108 : Option Addr), v109 = (.pointer x108 : Value) ∧ (
 doCall Tryz.prog (.func (.func 91) #[] #[]) #[.pointer s_1, .pointer x108] w110 (retS (fun v112 w113 => ∃ (x111 : Option Addr), v112 = (.pointer x111 : Value) ∧ (
 doSt ((blk b6).add 0) (.int .i64 x103) w113 (fun w114 =>
 doSt ((blk b6).add 1) (.int .i64 x104) w114 (fun w115 =>
 doSt ((blk b6).add 2) (.int .u64 x105) w115 (fun w116 =>
 ∃ (x117 : Int), World.cell? w116 ((blk b6).add 0) = some (.int .i64 x117) ∧ (
 ∃ (x118 : Int), World.cell? w116 ((blk b6).add 1) = some (.int .i64 x118) ∧ (
 ∃ (x119 : Int), World.cell? w116 ((blk b6).add 2) = some (.int .u64 x119) ∧ (
 R (.returned (.tuple #[.pointer x100, .agg #[.int .i64 x117, .int .i64 x118, .int .u64 x119], .bool true, .pointer x111])) w116)))))))) (fun ch w => Kfn R ch [] w)))) (fun ch w => Kfn R ch [] w)))) (fun ch w => Kfn R ch [] w)))) (fun ch w => Kfn R ch [] w)))) (fun ch w => Kfn R ch [] w)))))) (fun ch w => Kfn R ch [] w)))) (fun ch w => Kfn R ch [] w))))
set_option maxRecDepth 100000 in
theorem sh54_ok (s_1 : Option Addr) (at_f2 : Fn) (at_x3 : Array Value) (at_c4 : Array Value) (t_5 : Option Addr) {R : Ending → World → Prop} {w : World} : sh54 s_1 at_f2 at_x3 at_c4 t_5 R w → Calls Tryz.prog 54 #[.pointer s_1, .func at_f2 at_x3 at_c4, .pointer t_5] w R :=
  calls_of_eq (ann := fun _ => []) (fn := Tryz.f54) (c := bodyOf Tryz.f54) (args := #[.pointer s_1, .func at_f2 at_x3 at_c4, .pointer t_5]) 400 follows_mixed Tryz.func54 (by kernel_rfl) (by kernel_rfl)
set_option maxRecDepth 100000 in
/-- joinery/joinerylaw28.alive -/
def sh42  (R : Ending → World → Prop) (w : World) : Prop :=
 doCall Tryz.prog (.func (.func 10) #[] #[]) #[.int .u8 1] w (retS (fun v3 w4 => ∃ (x1 : Option Addr), ∃ (x2 : Bool), v3 = (.tuple #[.pointer x1, .bool x2] : Value) ∧ (
 doAl (.cells #[.pointer none] 23) w4 (fun b5 w6 =>
 doSt ((blk b5).add 0) (.pointer x1) w6 (fun w7 =>
 ifB (!x2) (
 R (.returned (.bool false)) w7) (
 doDr w7 (fun w9 =>
 ∃ (C8 : World → Prop), C8 w9 ∧ (
 ∃ (x10 : Option Addr), (∀ w, C8 w → World.cell? w (blk b5) = some (.pointer x10)) ∧ (
 ∃ (x11 : Option Addr), (∀ w, C8 w → World.cell? w (blk b5) = some (.pointer x11)) ∧ (
 doCall Tryz.prog (.func (.func 78) #[] #[.pointer (some (blk b5))]) #[.int .i64 1, .int .i64 10] w9 (retS (fun v13 w14 => ∃ (x12 : Option Addr), v13 = (.pointer x12 : Value) ∧ (
 C8 w14 ∧ (
 doCall Tryz.prog (.func (.func 78) #[] #[.pointer (some (blk b5))]) #[.int .i64 2, .int .i64 20] w14 (retS (fun v16 w17 => ∃ (x15 : Option Addr), v16 = (.pointer x15 : Value) ∧ (
 C8 w17 ∧ (
 doCall Tryz.prog (.func (.func 61) #[] #[]) #[.pointer x10, .pointer x12, .pointer x15] w17 (retS (fun v19 w20 => ∃ (x18 : Option Addr), v19 = (.pointer x18 : Value) ∧ (
 C8 w20 ∧ (
 doCall Tryz.prog (.func (.func 78) #[] #[.pointer (some (blk b5))]) #[.int .i64 2, .int .i64 5] w20 (retS (fun v22 w23 => ∃ (x21 : Option Addr), v22 = (.pointer x21 : Value) ∧ (
 C8 w23 ∧ (
 doCall Tryz.prog (.func (.func 78) #[] #[.pointer (some (blk b5))]) #[.int .i64 3, .int .i64 30] w23 (retS (fun v25 w26 => ∃ (x24 : Option Addr), v25 = (.pointer x24 : Value) ∧ (
 C8 w26 ∧ (
 doCall Tryz.prog (.func (.func 61) #[] #[]) #[.pointer x11, .pointer x21, .pointer x24] w26 (retS (fun v28 w29 => ∃ (x27 : Option Addr), v28 = (.pointer x27 : Value) ∧ (
 C8 w29 ∧ (
 ∃ (x30 : Option Addr), World.cell? w29 (blk b5) = some (.pointer x30) ∧ (
 doCall Tryz.prog (.func (.func 43) #[] #[]) #[.pointer x30, .int .u8 1, .int .u8 3, .pointer x18, .pointer x27] w29 (retS (fun v33 w34 => ∃ (x31 : Option Addr), ∃ (x32 : Int), v33 = (.tuple #[.pointer x31, .int .i64 x32] : Value) ∧ (
 ∃ (x35 : Option Addr), World.cell? w34 (blk b5) = some (.pointer x35) ∧ (
 doCall Tryz.prog (.func (.func 43) #[] #[]) #[.pointer x35, .int .u8 1, .int .u8 0, .pointer x18, .pointer x27] w34 (retS (fun v38 w39 => ∃ (x36 : Option Addr), ∃ (x37 : Int), v38 = (.tuple #[.pointer x36, .int .i64 x37] : Value) ∧ (
 let K42 : Bool → World → Prop := fun (x40 : Bool) (w41 : World) => 
 R (.returned (.bool x40)) w41
 ifB ((x32 : Int) == 0) (
 ifB ((x37 : Int) == 2) (
 doAl (.cells #[.int .i64 1, .int .i64 10, .int .u64 0, .int .i64 2, .int .i64 25, .int .u64 0, .int .i64 3, .int .i64 30, .int .u64 0] 33) w39 (fun b43 w44 =>
 doCall Tryz.prog (.func (.func 19) #[] #[]) #[.int .u8 1, .pointer x31, .slice (some (blk b43)) 3 3] w44 (retS (fun v46 w47 => ∃ (x45 : Bool), v46 = (.bool x45 : Value) ∧ (
 K42 x45 w47)) (fun ch w => Kfn R ch [] w)))) (
 R (.returned (.bool false)) w39)) (
 R (.returned (.bool false)) w39))) (fun ch w => Kfn R ch [] w))))) (fun ch w => Kfn R ch [] w)))))) (fun ch w => Kfn R ch [] w))))) (fun ch w => Kfn R ch [] w))))) (fun ch w => Kfn R ch [] w))))) (fun ch w => Kfn R ch [] w))))) (fun ch w => Kfn R ch [] w))))) (fun ch w => Kfn R ch [] w))))))))))) (fun ch w => Kfn R ch [] w))
set_option maxRecDepth 100000 in
theorem sh42_ok  {R : Ending → World → Prop} {w : World} : sh42  R w → Calls Tryz.prog 42 #[] w R :=
  calls_of_eq (ann := fun _ => []) (fn := Tryz.f42) (c := bodyOf Tryz.f42) (args := #[]) 400 follows_mixed Tryz.func42 (by kernel_rfl) (by kernel_rfl)
set_option maxRecDepth 100000 in
/-- joinery/joinerylaw28.nothing -/
def sh41 (o_1 : Int) (p_2 : Int) (R : Ending → World → Prop) (w : World) : Prop :=
 doCall Tryz.prog (.func (.func 10) #[] #[]) #[.int .u8 4] w (retS (fun v5 w6 => ∃ (x3 : Option Addr), ∃ (x4 : Bool), v5 = (.tuple #[.pointer x3, .bool x4] : Value) ∧ (
 doCall Tryz.prog (.func (.func 27) #[] #[]) #[.pointer none, .int .i64 1, .int .i64 1, .int .u64 1, .pointer none] w6 (retS (fun v8 w9 => ∃ (x7 : Option Addr), v8 = (.pointer x7 : Value) ∧ (
 doCall Tryz.prog (.func (.func 43) #[] #[]) #[.pointer none, .int .u8 1, .int .u8 3, .pointer x7, .pointer x7] w9 (retS (fun v12 w13 => ∃ (x10 : Option Addr), ∃ (x11 : Int), v12 = (.tuple #[.pointer x10, .int .i64 x11] : Value) ∧ (
 doCall Tryz.prog (.func (.func 45) #[] #[]) #[.pointer none, .int .u8 1, .int .u8 3, .slice none 0 0] w13 (retS (fun v16 w17 => ∃ (x14 : Option Addr), ∃ (x15 : Int), v16 = (.tuple #[.pointer x14, .int .i64 x15] : Value) ∧ (
 doCall Tryz.prog (.func (.func 43) #[] #[]) #[.pointer x3, .int .u8 o_1, .int .u8 p_2, .pointer x7, .pointer none] w17 (retS (fun v20 w21 => ∃ (x18 : Option Addr), ∃ (x19 : Int), v20 = (.tuple #[.pointer x18, .int .i64 x19] : Value) ∧ (
 doAl (.cells #[.pointer x7] 29) w21 (fun b22 w23 =>
 doCall Tryz.prog (.func (.func 45) #[] #[]) #[.pointer x3, .int .u8 o_1, .int .u8 p_2, .slice (some (blk b22)) 1 1] w23 (retS (fun v26 w27 => ∃ (x24 : Option Addr), ∃ (x25 : Int), v26 = (.tuple #[.pointer x24, .int .i64 x25] : Value) ∧ (
 let K30 : Bool → World → Prop := fun (x28 : Bool) (w29 : World) => 
 ifB x28 (
 R (.returned (.bool false)) w29) (
 let K33 : Bool → World → Prop := fun (x31 : Bool) (w32 : World) => 
 R (.returned (.bool x31)) w32
 doCall Tryz.prog (.func (.func 70) #[] #[]) #[.int .u8 o_1] w29 (retS (fun v35 w36 => ∃ (x34 : Bool), v35 = (.bool x34 : Value) ∧ (
 ifB x34 (
 doCall Tryz.prog (.func (.func 31) #[] #[]) #[.int .u8 p_2] w36 (retS (fun v38 w39 => ∃ (x37 : Bool), v38 = (.bool x37 : Value) ∧ (
 ifB x37 (
 R (.returned (.bool true)) w39) (
 ifB ((x18).isNone) (
 ifB ((x19 : Int) == 2) (
 ifB ((x24).isNone) (
 K33 ((x25 : Int) == 2) w39) (
 R (.returned (.bool false)) w39)) (
 R (.returned (.bool false)) w39)) (
 R (.returned (.bool false)) w39)))) (fun ch w => Kfn R ch [] w))) (
 ifB ((x18).isNone) (
 ifB ((x19 : Int) == 2) (
 ifB ((x24).isNone) (
 K33 ((x25 : Int) == 2) w36) (
 R (.returned (.bool false)) w36)) (
 R (.returned (.bool false)) w36)) (
 R (.returned (.bool false)) w36)))) (fun ch w => Kfn R ch [] w)))
 ifB (!(x10).isNone) (
 R (.returned (.bool false)) w27) (
 ifB ((x11 : Int) != 2) (
 R (.returned (.bool false)) w27) (
 ifB (!(x14).isNone) (
 R (.returned (.bool false)) w27) (
 K30 ((x15 : Int) != 2) w27))))) (fun ch w => Kfn R ch [] w))))) (fun ch w => Kfn R ch [] w)))) (fun ch w => Kfn R ch [] w)))) (fun ch w => Kfn R ch [] w)))) (fun ch w => Kfn R ch [] w)))) (fun ch w => Kfn R ch [] w))
set_option maxRecDepth 100000 in
theorem sh41_ok (o_1 : Int) (p_2 : Int) {R : Ending → World → Prop} {w : World} : sh41 o_1 p_2 R w → Calls Tryz.prog 41 #[.int .u8 o_1, .int .u8 p_2] w R :=
  calls_of_eq (ann := fun _ => []) (fn := Tryz.f41) (c := bodyOf Tryz.f41) (args := #[.int .u8 o_1, .int .u8 p_2]) 400 follows_mixed Tryz.func41 (by kernel_rfl) (by kernel_rfl)
end Go.Proofs.YthgckfeocalbdaaGreat

namespace Go.Proofs.YthgckfeocalbdaaGreat
open Go Go.Sh
set_option maxRecDepth 100000 in
/-- joinery/joinerylaw24.nothing -/
def sh13 (o_1 : Int) (R : Ending → World → Prop) (w : World) : Prop :=
 doCall Tryz.prog (.func (.func 10) #[] #[]) #[.int .u8 4] w (retS (fun v4 w5 => ∃ (x2 : Option Addr), ∃ (x3 : Bool), v4 = (.tuple #[.pointer x2, .bool x3] : Value) ∧ (
 doCall Tryz.prog (.func (.func 16) #[] #[]) #[.pointer none, .int .u8 1, .pointer none, .int .i64 1] w5 (retS (fun v13 w14 => ∃ (x6 : Option Addr), ∃ (x7 : Int), ∃ (x8 : Int), ∃ (x9 : Int), ∃ (x10 : Bool), ∃ (x11 : Option Addr), ∃ (x12 : Int), v13 = (.tuple #[.pointer x6, .agg #[.int .i64 x7, .int .i64 x8, .int .u64 x9], .bool x10, .pointer x11, .int .i64 x12] : Value) ∧ (
 doAl (.cells #[.int .i64 0, .int .i64 0, .int .u64 0] 33) w14 (fun b15 w16 =>
 doSt ((blk b15).add 0) (.int .i64 x7) w16 (fun w17 =>
 doSt ((blk b15).add 1) (.int .i64 x8) w17 (fun w18 =>
 doSt ((blk b15).add 2) (.int .u64 x9) w18 (fun w19 =>
 doCall Tryz.prog (.func (.func 27) #[] #[]) #[.pointer none, .int .i64 1, .int .i64 1, .int .u64 1, .pointer none] w19 (retS (fun v21 w22 => ∃ (x20 : Option Addr), v21 = (.pointer x20 : Value) ∧ (
 doCall Tryz.prog (.func (.func 16) #[] #[]) #[.pointer x2, .int .u8 o_1, .pointer x20, .int .i64 1] w22 (retS (fun v30 w31 => ∃ (x23 : Option Addr), ∃ (x24 : Int), ∃ (x25 : Int), ∃ (x26 : Int), ∃ (x27 : Bool), ∃ (x28 : Option Addr), ∃ (x29 : Int), v30 = (.tuple #[.pointer x23, .agg #[.int .i64 x24, .int .i64 x25, .int .u64 x26], .bool x27, .pointer x28, .int .i64 x29] : Value) ∧ (
 doAl (.cells #[.int .i64 0, .int .i64 0, .int .u64 0] 33) w31 (fun b32 w33 =>
 doSt ((blk b32).add 0) (.int .i64 x24) w33 (fun w34 =>
 doSt ((blk b32).add 1) (.int .i64 x25) w34 (fun w35 =>
 doSt ((blk b32).add 2) (.int .u64 x26) w35 (fun w36 =>
 doCall Tryz.prog (.func (.func 22) #[] #[]) #[.pointer none, .int .u8 1, .pointer none, .int .i64 1, .bool true] w36 (retS (fun v39 w40 => ∃ (x37 : Option Addr), ∃ (x38 : Int), v39 = (.tuple #[.pointer x37, .int .i64 x38] : Value) ∧ (
 doCall Tryz.prog (.func (.func 23) #[] #[]) #[.pointer none, .int .u8 1, .pointer none, .int .i64 1, .bool true] w40 (retS (fun v43 w44 => ∃ (x41 : Option Addr), ∃ (x42 : Int), v43 = (.tuple #[.pointer x41, .int .i64 x42] : Value) ∧ (
 doCall Tryz.prog (.func (.func 22) #[] #[]) #[.pointer x2, .int .u8 o_1, .pointer none, .int .i64 1, .bool true] w44 (retS (fun v47 w48 => ∃ (x45 : Option Addr), ∃ (x46 : Int), v47 = (.tuple #[.pointer x45, .int .i64 x46] : Value) ∧ (
 let K51 : Bool → World → Prop := fun (x49 : Bool) (w50 : World) => 
 ifB x49 (
 R (.returned (.bool false)) w50) (
 let K54 : Bool → World → Prop := fun (x52 : Bool) (w53 : World) => 
 R (.returned (.bool x52)) w53
 doCall Tryz.prog (.func (.func 50) #[] #[]) #[.int .u8 o_1] w50 (retS (fun v56 w57 => ∃ (x55 : Bool), v56 = (.bool x55 : Value) ∧ (
 ifB x55 (
 R (.returned (.bool true)) w57) (
 ifB ((x23).isNone) (
 ifB ((x28).isNone) (
 ifB (!x27) (
 ∃ (x58 : Int), World.cell? w57 ((blk b32).add 0) = some (.int .i64 x58) ∧ (
 ∃ (x59 : Int), World.cell? w57 ((blk b32).add 1) = some (.int .i64 x59) ∧ (
 ∃ (x60 : Int), World.cell? w57 ((blk b32).add 2) = some (.int .u64 x60) ∧ (
 ifB (((x58 : Int) == 0) && (((x59 : Int) == 0) && (((x60 : Int) == 0) && true))) (
 ifB ((x29 : Int) == 2) (
 ifB ((x45).isNone) (
 K54 ((x46 : Int) == 2) w57) (
 R (.returned (.bool false)) w57)) (
 R (.returned (.bool false)) w57)) (
 R (.returned (.bool false)) w57))))) (
 R (.returned (.bool false)) w57)) (
 R (.returned (.bool false)) w57)) (
 R (.returned (.bool false)) w57)))) (fun ch w => Kfn R ch [] w)))
 ifB (!(x6).isNone) (
 R (.returned (.bool false)) w48) (
 ifB (!(x11).isNone) (
 R (.returned (.bool false)) w48) (
 ifB x10 (
 R (.returned (.bool false)) w48) (
 ∃ (x61 : Int), World.cell? w48 ((blk b15).add 0) = some (.int .i64 x61) ∧ (
 ∃ (x62 : Int), World.cell? w48 ((blk b15).add 1) = some (.int .i64 x62) ∧ (
 ∃ (x63 : Int), World.cell? w48 ((blk b15).add 2) = some (.int .u64 x63) ∧ (
 ifB (!(((x61 : Int) == 0) && (((x62 : Int) == 0) && (((x63 : Int) == 0) && true)))) (
 R (.returned (.bool false)) w48) (
 ifB ((x12 : Int) != 2) (
 R (.returned (.bool false)) w48) (
 ifB (!(x37).isNone) (
 R (.returned (.bool false)) w48) (
 ifB ((x38 : Int) != 2) (
 R (.returned (.bool false)) w48) (
 ifB (!(x41).isNone) (
 R (.returned (.bool false)) w48) (
 K51 ((x42 : Int) != 2) w48))))))))))))) (fun ch w => Kfn R ch [] w)))) (fun ch w => Kfn R ch [] w)))) (fun ch w => Kfn R ch [] w)))))))) (fun ch w => Kfn R ch [] w)))) (fun ch w => Kfn R ch [] w)))))))) (fun ch w => Kfn R ch [] w)))) (fun ch w => Kfn R ch [] w))
set_option maxRecDepth 100000 in
theorem sh13_ok (o_1 : Int) {R : Ending → World → Prop} {w : World} : sh13 o_1 R w → Calls Tryz.prog 13 #[.int .u8 o_1] w R :=
  calls_of_eq (ann := fun _ => []) (fn := Tryz.f13) (c := bodyOf Tryz.f13) (args := #[.int .u8 o_1]) 400 follows_mixed Tryz.func13 (by kernel_rfl) (by kernel_rfl)
end Go.Proofs.YthgckfeocalbdaaGreat

namespace Go.Proofs.YthgckfeocalbdaaGreat
open Go Go.Sh
set_option maxRecDepth 100000 in
/-- joinery/joinerylaw24.alive -/
def sh14  (R : Ending → World → Prop) (w : World) : Prop :=
 doCall Tryz.prog (.func (.func 10) #[] #[]) #[.int .u8 2] w (retS (fun v3 w4 => ∃ (x1 : Option Addr), ∃ (x2 : Bool), v3 = (.tuple #[.pointer x1, .bool x2] : Value) ∧ (
 ifB (!x2) (
 R (.returned (.bool false)) w4) (
 ∃ (I5 : List Value → World → Prop) (μ6 : List Value → World → Nat), I5 [.pointer none, .int .i64 1] w4 ∧ (∀ (t_9 : Option Addr), ∀ (k_10 : Int), ∀ (_j7 : Nat → Value) (w8 : World), I5 [.pointer t_9, .int .i64 k_10] w8 → (
 ifB (decide ((k_10 : Int) ≤ 4)) (
 doCall Tryz.prog (.func (.func 51) #[] #[]) #[.pointer x1, .pointer t_9, .agg #[.int .i64 k_10, .int .i64 0, .int .u64 0], .pointer none] w8 (retS (fun v12 w13 => ∃ (x11 : Option Addr), v12 = (.pointer x11 : Value) ∧ (
 I5 [.pointer x11, .int .i64 (IntKind.wrap .i64 (k_10 + 1))] w13 ∧ μ6 [.pointer x11, .int .i64 (IntKind.wrap .i64 (k_10 + 1))] w13 < μ6 [.pointer t_9, .int .i64 k_10] w8)) (fun ch w => Kfn R ch [] w))) (
 doCall Tryz.prog (.func (.func 16) #[] #[]) #[.pointer x1, .int .u8 1, .pointer t_9, .int .i64 3] w8 (retS (fun v21 w22 => ∃ (x14 : Option Addr), ∃ (x15 : Int), ∃ (x16 : Int), ∃ (x17 : Int), ∃ (x18 : Bool), ∃ (x19 : Option Addr), ∃ (x20 : Int), v21 = (.tuple #[.pointer x14, .agg #[.int .i64 x15, .int .i64 x16, .int .u64 x17], .bool x18, .pointer x19, .int .i64 x20] : Value) ∧ (
 doAl (.cells #[.int .i64 0, .int .i64 0, .int .u64 0] 33) w22 (fun b23 w24 =>
 doSt ((blk b23).add 0) (.int .i64 x15) w24 (fun w25 =>
 doSt ((blk b23).add 1) (.int .i64 x16) w25 (fun w26 =>
 doSt ((blk b23).add 2) (.int .u64 x17) w26 (fun w27 =>
 doCall Tryz.prog (.func (.func 16) #[] #[]) #[.pointer x1, .int .u8 8, .pointer t_9, .int .i64 3] w27 (retS (fun v35 w36 => ∃ (x28 : Option Addr), ∃ (x29 : Int), ∃ (x30 : Int), ∃ (x31 : Int), ∃ (x32 : Bool), ∃ (x33 : Option Addr), ∃ (x34 : Int), v35 = (.tuple #[.pointer x28, .agg #[.int .i64 x29, .int .i64 x30, .int .u64 x31], .bool x32, .pointer x33, .int .i64 x34] : Value) ∧ (
 doAl (.cells #[.int .i64 0, .int .i64 0, .int .u64 0] 33) w36 (fun b37 w38 =>
 doSt ((blk b37).add 0) (.int .i64 x29) w38 (fun w39 =>
 doSt ((blk b37).add 1) (.int .i64 x30) w39 (fun w40 =>
 doSt ((blk b37).add 2) (.int .u64 x31) w40 (fun w41 =>
 doCall Tryz.prog (.func (.func 16) #[] #[]) #[.pointer x1, .int .u8 1, .pointer t_9, .int .i64 0] w41 (retS (fun v49 w50 => ∃ (x42 : Option Addr), ∃ (x43 : Int), ∃ (x44 : Int), ∃ (x45 : Int), ∃ (x46 : Bool), ∃ (x47 : Option Addr), ∃ (x48 : Int), v49 = (.tuple #[.pointer x42, .agg #[.int .i64 x43, .int .i64 x44, .int .u64 x45], .bool x46, .pointer x47, .int .i64 x48] : Value) ∧ (
 doAl (.cells #[.int .i64 0, .int .i64 0, .int .u64 0] 33) w50 (fun b51 w52 =>
 doSt ((blk b51).add 0) (.int .i64 x43) w52 (fun w53 =>
 doSt ((blk b51).add 1) (.int .i64 x44) w53 (fun w54 =>
 doSt ((blk b51).add 2) (.int .u64 x45) w54 (fun w55 =>
 let K58 : Bool → World → Prop := fun (x56 : Bool) (w57 : World) => 
 R (.returned (.bool x56)) w57
 ifB x18 (
 ifB (!x46) (
 ∃ (x59 : Int), World.cell? w55 ((blk b23).add 0) = some (.int .i64 x59) ∧ (
 ifB ((x59 : Int) == 3) (
 ifB ((x20 : Int) == 0) (
 ifB ((x34 : Int) == 2) (
 doAl (.cells #[.int .i64 1, .int .i64 0, .int .u64 0, .int .i64 2, .int .i64 0, .int .u64 0] 33) w55 (fun b60 w61 =>
 doCall Tryz.prog (.func (.func 19) #[] #[]) #[.int .u8 2, .pointer x14, .slice (some (blk b60)) 2 2] w61 (retS (fun v63 w64 => ∃ (x62 : Bool), v63 = (.bool x62 : Value) ∧ (
 ifB x62 (
 doAl (.cells #[.int .i64 4, .int .i64 0, .int .u64 0] 33) w64 (fun b65 w66 =>
 doCall Tryz.prog (.func (.func 19) #[] #[]) #[.int .u8 2, .pointer x19, .slice (some (blk b65)) 1 1] w66 (retS (fun v68 w69 => ∃ (x67 : Bool), v68 = (.bool x67 : Value) ∧ (
 ifB x67 (
 doCall Tryz.prog (.func (.func 29) #[] #[]) #[.pointer x47] w69 (retS (fun v71 w72 => ∃ (x70 : Int), v71 = (.int .i64 x70 : Value) ∧ (
 K58 ((x70 : Int) == 4) w72)) (fun ch w => Kfn R ch [] w))) (
 R (.returned (.bool false)) w69))) (fun ch w => Kfn R ch [] w)))) (
 R (.returned (.bool false)) w64))) (fun ch w => Kfn R ch [] w)))) (
 R (.returned (.bool false)) w55)) (
 R (.returned (.bool false)) w55)) (
 R (.returned (.bool false)) w55))) (
 R (.returned (.bool false)) w55)) (
 R (.returned (.bool false)) w55))))))) (fun ch w => Kfn R ch [] w)))))))) (fun ch w => Kfn R ch [] w)))))))) (fun ch w => Kfn R ch [] w)))))))) (fun ch w => Kfn R ch [] w))
set_option maxRecDepth 100000 in
theorem sh14_ok  {R : Ending → World → Prop} {w : World} : sh14  R w → Calls Tryz.prog 14 #[] w R :=
  calls_of_eq (ann := fun i => if i = 0 then [(3, .pointer none), (4, .int .i64 0)] else []) (fn := Tryz.f14) (c := bodyOf Tryz.f14) (args := #[]) 400 follows_mixed Tryz.func14 (by kernel_rfl) (by kernel_rfl)
end Go.Proofs.YthgckfeocalbdaaGreat

namespace Go.Proofs.YthgckfeocalbdaaGreat
open Go Go.Sh
set_option maxRecDepth 100000 in
/-- joinery/joinerylaw26.nothing -/
def sh32 (o_1 : Int) (p_2 : Int) (R : Ending → World → Prop) (w : World) : Prop :=
 doCall Tryz.prog (.func (.func 10) #[] #[]) #[.int .u8 1] w (retS (fun v5 w6 => ∃ (x3 : Option Addr), ∃ (x4 : Bool), v5 = (.tuple #[.pointer x3, .bool x4] : Value) ∧ (
 doCall Tryz.prog (.func (.func 27) #[] #[]) #[.pointer none, .int .i64 1, .int .i64 1, .int .u64 1, .pointer none] w6 (retS (fun v8 w9 => ∃ (x7 : Option Addr), v8 = (.pointer x7 : Value) ∧ (
 doCall Tryz.prog (.func (.func 34) #[] #[]) #[.pointer none, .int .u8 1, .int .u8 3, .pointer x7, .agg #[.int .i64 1, .int .i64 0, .int .u64 0]] w9 (retS (fun v14 w15 => ∃ (x10 : Option Addr), ∃ (x11 : Int), ∃ (x12 : Bool), ∃ (x13 : Int), v14 = (.tuple #[.pointer x10, .int .i64 x11, .bool x12, .int .i64 x13] : Value) ∧ (
 doCall Tryz.prog (.func (.func 34) #[] #[]) #[.pointer x3, .int .u8 o_1, .int .u8 p_2, .pointer x7, .agg #[.int .i64 1, .int .i64 0, .int .u64 0]] w15 (retS (fun v20 w21 => ∃ (x16 : Option Addr), ∃ (x17 : Int), ∃ (x18 : Bool), ∃ (x19 : Int), v20 = (.tuple #[.pointer x16, .int .i64 x17, .bool x18, .int .i64 x19] : Value) ∧ (
 doCall Tryz.prog (.func (.func 36) #[] #[]) #[.pointer x3, .int .u8 o_1, .pointer x7, .int .i64 1] w21 (retS (fun v26 w27 => ∃ (x22 : Option Addr), ∃ (x23 : Int), ∃ (x24 : Bool), ∃ (x25 : Int), v26 = (.tuple #[.pointer x22, .int .i64 x23, .bool x24, .int .i64 x25] : Value) ∧ (
 doCall Tryz.prog (.func (.func 38) #[] #[]) #[.pointer none, .int .u8 1, .pointer x7, .int .i64 1, .int .i64 1] w27 (retS (fun v31 w32 => ∃ (x28 : Option Addr), ∃ (x29 : Bool), ∃ (x30 : Int), v31 = (.tuple #[.pointer x28, .bool x29, .int .i64 x30] : Value) ∧ (
 let K35 : Bool → World → Prop := fun (x33 : Bool) (w34 : World) => 
 ifB x33 (
 R (.returned (.bool false)) w34) (
 let K37 : World → Prop := fun (w36 : World) => 
 let K40 : Bool → World → Prop := fun (x38 : Bool) (w39 : World) => 
 R (.returned (.bool x38)) w39
 doCall Tryz.prog (.func (.func 70) #[] #[]) #[.int .u8 o_1] w36 (retS (fun v42 w43 => ∃ (x41 : Bool), v42 = (.bool x41 : Value) ∧ (
 ifB x41 (
 doCall Tryz.prog (.func (.func 31) #[] #[]) #[.int .u8 p_2] w43 (retS (fun v45 w46 => ∃ (x44 : Bool), v45 = (.bool x44 : Value) ∧ (
 ifB x44 (
 R (.returned (.bool true)) w46) (
 ifB ((x16).isNone) (
 ifB ((x17 : Int) == 0) (
 ifB (!x18) (
 K40 ((x19 : Int) == 2) w46) (
 R (.returned (.bool false)) w46)) (
 R (.returned (.bool false)) w46)) (
 R (.returned (.bool false)) w46)))) (fun ch w => Kfn R ch [] w))) (
 ifB ((x16).isNone) (
 ifB ((x17 : Int) == 0) (
 ifB (!x18) (
 K40 ((x19 : Int) == 2) w43) (
 R (.returned (.bool false)) w43)) (
 R (.returned (.bool false)) w43)) (
 R (.returned (.bool false)) w43)))) (fun ch w => Kfn R ch [] w))
 let K49 : Bool → World → Prop := fun (x47 : Bool) (w48 : World) => 
 ifB x47 (
 R (.returned (.bool false)) w48) (
 K37 w48)
 doCall Tryz.prog (.func (.func 70) #[] #[]) #[.int .u8 o_1] w34 (retS (fun v51 w52 => ∃ (x50 : Bool), v51 = (.bool x50 : Value) ∧ (
 ifB (!x50) (
 ifB (!(x22).isNone) (
 R (.returned (.bool false)) w52) (
 ifB ((x23 : Int) != 0) (
 R (.returned (.bool false)) w52) (
 ifB x24 (
 R (.returned (.bool false)) w52) (
 K49 ((x25 : Int) != 2) w52)))) (
 K37 w52))) (fun ch w => Kfn R ch [] w)))
 ifB (!(x10).isNone) (
 R (.returned (.bool false)) w32) (
 ifB ((x11 : Int) != 0) (
 R (.returned (.bool false)) w32) (
 ifB x12 (
 R (.returned (.bool false)) w32) (
 ifB ((x13 : Int) != 2) (
 R (.returned (.bool false)) w32) (
 ifB (!(x28).isNone) (
 R (.returned (.bool false)) w32) (
 ifB x29 (
 R (.returned (.bool false)) w32) (
 K35 ((x30 : Int) != 2) w32)))))))) (fun ch w => Kfn R ch [] w)))) (fun ch w => Kfn R ch [] w)))) (fun ch w => Kfn R ch [] w)))) (fun ch w => Kfn R ch [] w)))) (fun ch w => Kfn R ch [] w)))) (fun ch w => Kfn R ch [] w))
set_option maxRecDepth 100000 in
theorem sh32_ok (o_1 : Int) (p_2 : Int) {R : Ending → World → Prop} {w : World} : sh32 o_1 p_2 R w → Calls Tryz.prog 32 #[.int .u8 o_1, .int .u8 p_2] w R :=
  calls_of_eq (ann := fun _ => []) (fn := Tryz.f32) (c := bodyOf Tryz.f32) (args := #[.int .u8 o_1, .int .u8 p_2]) 400 follows_mixed Tryz.func32 (by kernel_rfl) (by kernel_rfl)
end Go.Proofs.YthgckfeocalbdaaGreat

namespace Go.Proofs.YthgckfeocalbdaaGreat
open Go Go.Sh
set_option maxRecDepth 100000 in
/-- joinery/joinerylaw26.alive -/
def sh33  (R : Ending → World → Prop) (w : World) : Prop :=
 doCall Tryz.prog (.func (.func 10) #[] #[]) #[.int .u8 2] w (retS (fun v3 w4 => ∃ (x1 : Option Addr), ∃ (x2 : Bool), v3 = (.tuple #[.pointer x1, .bool x2] : Value) ∧ (
 ifB (!x2) (
 R (.returned (.bool false)) w4) (
 doCall Tryz.prog (.func (.func 51) #[] #[]) #[.pointer x1, .pointer none, .agg #[.int .i64 1, .int .i64 10, .int .u64 0], .pointer none] w4 (retS (fun v6 w7 => ∃ (x5 : Option Addr), v6 = (.pointer x5 : Value) ∧ (
 doCall Tryz.prog (.func (.func 34) #[] #[]) #[.pointer x1, .int .u8 1, .int .u8 3, .pointer x5, .agg #[.int .i64 1, .int .i64 5, .int .u64 0]] w7 (retS (fun v12 w13 => ∃ (x8 : Option Addr), ∃ (x9 : Int), ∃ (x10 : Bool), ∃ (x11 : Int), v12 = (.tuple #[.pointer x8, .int .i64 x9, .bool x10, .int .i64 x11] : Value) ∧ (
 doCall Tryz.prog (.func (.func 34) #[] #[]) #[.pointer x1, .int .u8 1, .int .u8 3, .pointer x5, .agg #[.int .i64 2, .int .i64 5, .int .u64 0]] w13 (retS (fun v18 w19 => ∃ (x14 : Option Addr), ∃ (x15 : Int), ∃ (x16 : Bool), ∃ (x17 : Int), v18 = (.tuple #[.pointer x14, .int .i64 x15, .bool x16, .int .i64 x17] : Value) ∧ (
 doCall Tryz.prog (.func (.func 36) #[] #[]) #[.pointer x1, .int .u8 1, .pointer x5, .int .i64 1] w19 (retS (fun v24 w25 => ∃ (x20 : Option Addr), ∃ (x21 : Int), ∃ (x22 : Bool), ∃ (x23 : Int), v24 = (.tuple #[.pointer x20, .int .i64 x21, .bool x22, .int .i64 x23] : Value) ∧ (
 doCall Tryz.prog (.func (.func 34) #[] #[]) #[.pointer x1, .int .u8 1, .int .u8 4, .pointer x5, .agg #[.int .i64 2, .int .i64 0, .int .u64 0]] w25 (retS (fun v30 w31 => ∃ (x26 : Option Addr), ∃ (x27 : Int), ∃ (x28 : Bool), ∃ (x29 : Int), v30 = (.tuple #[.pointer x26, .int .i64 x27, .bool x28, .int .i64 x29] : Value) ∧ (
 let K34 : Bool → World → Prop := fun (x32 : Bool) (w33 : World) => 
 R (.returned (.bool x32)) w33
 doCall Tryz.prog (.func (.func 30) #[] #[]) #[.pointer x8] w31 (retS (fun v36 w37 => ∃ (x35 : Int), v36 = (.int .i64 x35 : Value) ∧ (
 ifB ((x35 : Int) == 15) (
 ifB ((x9 : Int) == 10) (
 ifB x10 (
 ifB ((x11 : Int) == 0) (
 doCall Tryz.prog (.func (.func 29) #[] #[]) #[.pointer x14] w37 (retS (fun v39 w40 => ∃ (x38 : Int), v39 = (.int .i64 x38 : Value) ∧ (
 ifB ((x38 : Int) == 2) (
 ifB ((x15 : Int) == 0) (
 ifB (!x16) (
 ifB ((x17 : Int) == 0) (
 ifB ((x20).isNone) (
 ifB ((x21 : Int) == 10) (
 ifB x22 (
 ifB ((x23 : Int) == 0) (
 K34 ((x29 : Int) == 2) w40) (
 R (.returned (.bool false)) w40)) (
 R (.returned (.bool false)) w40)) (
 R (.returned (.bool false)) w40)) (
 R (.returned (.bool false)) w40)) (
 R (.returned (.bool false)) w40)) (
 R (.returned (.bool false)) w40)) (
 R (.returned (.bool false)) w40)) (
 R (.returned (.bool false)) w40))) (fun ch w => Kfn R ch [] w))) (
 R (.returned (.bool false)) w37)) (
 R (.returned (.bool false)) w37)) (
 R (.returned (.bool false)) w37)) (
 R (.returned (.bool false)) w37))) (fun ch w => Kfn R ch [] w)))) (fun ch w => Kfn R ch [] w)))) (fun ch w => Kfn R ch [] w)))) (fun ch w => Kfn R ch [] w)))) (fun ch w => Kfn R ch [] w)))) (fun ch w => Kfn R ch [] w))))) (fun ch w => Kfn R ch [] w))
set_option maxRecDepth 100000 in
theorem sh33_ok  {R : Ending → World → Prop} {w : World} : sh33  R w → Calls Tryz.prog 33 #[] w R :=
  calls_of_eq (ann := fun _ => []) (fn := Tryz.f33) (c := bodyOf Tryz.f33) (args := #[]) 400 follows_mixed Tryz.func33 (by kernel_rfl) (by kernel_rfl)
end Go.Proofs.YthgckfeocalbdaaGreat
