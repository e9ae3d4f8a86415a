/-
  Printed by a program (gen.py): what the functions of the program do, as formulas; each with the proof that its call is what the formula says.
-/
/-
  Printed by a program (gen.py): what the functions of the program do, as formulas; each with the proof that its call is what the formula says.
-/
/-
  Printed by a program (gen.py): what the functions of the program do, as formulas; each with the proof that its call is what the formula says.
-/
/-
  Printed by a program (gen.py): what the functions of the program do, as formulas; each with the proof that its call is what the formula says.
-/
/-
  Printed by a program (gen.py): what the functions of the program do, as formulas; each with the proof that its call is what the formula says.
-/
import Derived.Test.YtbaoihmffobneaaGreatPb
import Derived.Test.YtbaoihmffobneaaGreatProg
import Derived.Test.YtbaoihmffobneaaGreatPd

namespace Go.Proofs.YtbaoihmffobneaaGreat
open Go Go.Sh
set_option maxRecDepth 100000 in
/-- joinery/split.parts -/
def sh164 (s_1 : Option Addr) (at_f2 : Fn) (at_x3 : Array Value) (at_c4 : Array Value) (t_5 : Option Addr) (R : Ending → World → Prop) (w : World) : Prop :=
 doAl (.cells #[.int .i64 0, .int .i64 0, .int .u64 0] 93) w (fun b6 w7 =>
 ifB ((t_5).isNone) (
 doDr w7 (fun w9 =>
 ∃ (C8 : World → Prop), C8 w9 ∧ (
 ∃ (x10 : Int), (∀ w, C8 w → World.cell? w ((blk b6).add 0) = some (.int .i64 x10)) ∧ (
 ∃ (x11 : Int), (∀ w, C8 w → World.cell? w ((blk b6).add 1) = some (.int .i64 x11)) ∧ (
 ∃ (x12 : Int), (∀ w, C8 w → World.cell? w ((blk b6).add 2) = some (.int .u64 x12)) ∧ (
 doSt ((blk b6).add 0) (.int .i64 x10) w9 (fun w13 =>
 doSt ((blk b6).add 1) (.int .i64 x11) w13 (fun w14 =>
 doSt ((blk b6).add 2) (.int .u64 x12) w14 (fun w15 =>
 ∃ (x16 : Int), World.cell? w15 ((blk b6).add 0) = some (.int .i64 x16) ∧ (
 ∃ (x17 : Int), World.cell? w15 ((blk b6).add 1) = some (.int .i64 x17) ∧ (
 ∃ (x18 : Int), World.cell? w15 ((blk b6).add 2) = some (.int .u64 x18) ∧ (
 R (.returned (.tuple #[.pointer none, .agg #[.int .i64 x16, .int .i64 x17, .int .u64 x18], .bool false, .pointer none])) w15)))))))))))) (
 doCall Tryz.prog (.func (.func 107) #[] #[]) #[.pointer t_5] w7 (retS (fun v20 w21 => ∃ (x19 : Int), v20 = (.int .i64 x19 : Value) ∧ (
 doCall Tryz.prog (.func at_f2 at_x3 at_c4) #[.int .i64 x19] w21 (retS (fun v23 w24 => ∃ (x22 : Int), v23 = (.int .i64 x22 : Value) ∧ (
 ifB (decide ((x22 : Int) < 0)) (
 doCall Tryz.prog (.func (.func 109) #[] #[]) #[.pointer t_5] w24 (retS (fun v26 w27 => ∃ (x25 : Option Addr), v26 = (.pointer x25 : Value) ∧ (
 doCall Tryz.prog (.func (.func 164) #[] #[]) #[.pointer s_1, .func at_f2 at_x3 at_c4, .pointer x25] w27 (retS (fun v34 w35 => ∃ (x28 : Option Addr), ∃ (x29 : Int), ∃ (x30 : Int), ∃ (x31 : Int), ∃ (x32 : Bool), ∃ (x33 : Option Addr), v34 = (.tuple #[.pointer x28, .agg #[.int .i64 x29, .int .i64 x30, .int .u64 x31], .bool x32, .pointer x33] : Value) ∧ (
 doSt ((blk b6).add 0) (.int .i64 x29) w35 (fun w36 =>
 doSt ((blk b6).add 1) (.int .i64 x30) w36 (fun w37 =>
 doSt ((blk b6).add 2) (.int .u64 x31) w37 (fun w38 =>
 doDr w38 (fun w40 =>
 ∃ (C39 : World → Prop), C39 w40 ∧ (
 ∃ (x41 : Int), (∀ w, C39 w → World.cell? w ((blk b6).add 0) = some (.int .i64 x41)) ∧ (
 ∃ (x42 : Int), (∀ w, C39 w → World.cell? w ((blk b6).add 1) = some (.int .i64 x42)) ∧ (
 ∃ (x43 : Int), (∀ w, C39 w → World.cell? w ((blk b6).add 2) = some (.int .u64 x43)) ∧ (
 doCall Tryz.prog (.func (.func 108) #[] #[]) #[.pointer t_5] w40 (retS (fun v45 w46 => ∃ (x44 : Option Addr), v45 = (.pointer x44 : Value) ∧ (
 C39 w46 ∧ (
 doCall Tryz.prog (.func (.func 110) #[] #[]) #[.pointer s_1, .pointer t_5] w46 (retS (fun v50 w51 => ∃ (x47 : Int), ∃ (x48 : Int), ∃ (x49 : Int), v50 = (.agg #[.int .i64 x47, .int .i64 x48, .int .u64 x49] : Value) ∧ (
 C39 w51 ∧ (
 doCall Tryz.prog (.func (.func 62) #[] #[]) #[.pointer s_1, .pointer x44, .agg #[.int .i64 x47, .int .i64 x48, .int .u64 x49], .pointer x28] w51 (retS (fun v53 w54 => ∃ (x52 : Option Addr), v53 = (.pointer x52 : Value) ∧ (
 C39 w54 ∧ (
 doSt ((blk b6).add 0) (.int .i64 x41) w54 (fun w55 =>
 doSt ((blk b6).add 1) (.int .i64 x42) w55 (fun w56 =>
 doSt ((blk b6).add 2) (.int .u64 x43) w56 (fun w57 =>
 ∃ (x58 : Int), World.cell? w57 ((blk b6).add 0) = some (.int .i64 x58) ∧ (
 ∃ (x59 : Int), World.cell? w57 ((blk b6).add 1) = some (.int .i64 x59) ∧ (
 ∃ (x60 : Int), World.cell? w57 ((blk b6).add 2) = some (.int .u64 x60) ∧ (
 R (.returned (.tuple #[.pointer x52, .agg #[.int .i64 x58, .int .i64 x59, .int .u64 x60], .bool x32, .pointer x33])) w57))))))))) (fun ch w => Kfn R ch [] w))))) (fun ch w => Kfn R ch [] w))))) (fun ch w => Kfn R ch [] w)))))))))))) (fun ch w => Kfn R ch [] w)))) (fun ch w => Kfn R ch [] w))) (
 ifB (decide ((x22 : Int) > 0)) (
 doCall Tryz.prog (.func (.func 108) #[] #[]) #[.pointer t_5] w24 (retS (fun v62 w63 => ∃ (x61 : Option Addr), v62 = (.pointer x61 : Value) ∧ (
 doCall Tryz.prog (.func (.func 164) #[] #[]) #[.pointer s_1, .func at_f2 at_x3 at_c4, .pointer x61] w63 (retS (fun v70 w71 => ∃ (x64 : Option Addr), ∃ (x65 : Int), ∃ (x66 : Int), ∃ (x67 : Int), ∃ (x68 : Bool), ∃ (x69 : Option Addr), v70 = (.tuple #[.pointer x64, .agg #[.int .i64 x65, .int .i64 x66, .int .u64 x67], .bool x68, .pointer x69] : Value) ∧ (
 doSt ((blk b6).add 0) (.int .i64 x65) w71 (fun w72 =>
 doSt ((blk b6).add 1) (.int .i64 x66) w72 (fun w73 =>
 doSt ((blk b6).add 2) (.int .u64 x67) w73 (fun w74 =>
 doDr w74 (fun w76 =>
 ∃ (C75 : World → Prop), C75 w76 ∧ (
 ∃ (x77 : Int), (∀ w, C75 w → World.cell? w ((blk b6).add 0) = some (.int .i64 x77)) ∧ (
 ∃ (x78 : Int), (∀ w, C75 w → World.cell? w ((blk b6).add 1) = some (.int .i64 x78)) ∧ (
 ∃ (x79 : Int), (∀ w, C75 w → World.cell? w ((blk b6).add 2) = some (.int .u64 x79)) ∧ (
 doCall Tryz.prog (.func (.func 110) #[] #[]) #[.pointer s_1, .pointer t_5] w76 (retS (fun v83 w84 => ∃ (x80 : Int), ∃ (x81 : Int), ∃ (x82 : Int), v83 = (.agg #[.int .i64 x80, .int .i64 x81, .int .u64 x82] : Value) ∧ (
 C75 w84 ∧ (
 doCall Tryz.prog (.func (.func 109) #[] #[]) #[.pointer t_5] w84 (retS (fun v86 w87 => ∃ (x85 : Option Addr), v86 = (.pointer x85 : Value) ∧ (
 C75 w87 ∧ (
 doCall Tryz.prog (.func (.func 62) #[] #[]) #[.pointer s_1, .pointer x69, .agg #[.int .i64 x80, .int .i64 x81, .int .u64 x82], .pointer x85] w87 (retS (fun v89 w90 => ∃ (x88 : Option Addr), v89 = (.pointer x88 : Value) ∧ (
 C75 w90 ∧ (
 doSt ((blk b6).add 0) (.int .i64 x77) w90 (fun w91 =>
 doSt ((blk b6).add 1) (.int .i64 x78) w91 (fun w92 =>
 doSt ((blk b6).add 2) (.int .u64 x79) w92 (fun w93 =>
 ∃ (x94 : Int), World.cell? w93 ((blk b6).add 0) = some (.int .i64 x94) ∧ (
 ∃ (x95 : Int), World.cell? w93 ((blk b6).add 1) = some (.int .i64 x95) ∧ (
 ∃ (x96 : Int), World.cell? w93 ((blk b6).add 2) = some (.int .u64 x96) ∧ (
 R (.returned (.tuple #[.pointer x64, .agg #[.int .i64 x94, .int .i64 x95, .int .u64 x96], .bool x68, .pointer x88])) w93))))))))) (fun ch w => Kfn R ch [] w))))) (fun ch w => Kfn R ch [] w))))) (fun ch w => Kfn R ch [] w)))))))))))) (fun ch w => Kfn R ch [] w)))) (fun ch w => Kfn R ch [] w))) (
 doCall Tryz.prog (.func (.func 108) #[] #[]) #[.pointer t_5] w24 (retS (fun v98 w99 => ∃ (x97 : Option Addr), v98 = (.pointer x97 : Value) ∧ (
 doCall Tryz.prog (.func (.func 70) #[] #[]) #[.pointer s_1, .pointer x97] w99 (retS (fun v101 w102 => ∃ (x100 : Option Addr), v101 = (.pointer x100 : Value) ∧ (
 doCall Tryz.prog (.func (.func 110) #[] #[]) #[.pointer s_1, .pointer t_5] w102 (retS (fun v106 w107 => ∃ (x103 : Int), ∃ (x104 : Int), ∃ (x105 : Int), v106 = (.agg #[.int .i64 x103, .int .i64 x104, .int .u64 x105] : Value) ∧ (
 doCall Tryz.prog (.func (.func 109) #[] #[]) #[.pointer t_5] w107 (retS (fun v109 w110 => ∃ (x108 : Option Addr), v109 = (.pointer x108 : Value) ∧ (
 doCall Tryz.prog (.func (.func 70) #[] #[]) #[.pointer s_1, .pointer x108] w110 (retS (fun v112 w113 => ∃ (x111 : Option Addr), v112 = (.pointer x111 : Value) ∧ (
 doSt ((blk b6).add 0) (.int .i64 x103) w113 (fun w114 =>
 doSt ((blk b6).add 1) (.int .i64 x104) w114 (fun w115 =>
 doSt ((blk b6).add 2) (.int .u64 x105) w115 (fun w116 =>
 ∃ (x117 : Int), World.cell? w116 ((blk b6).add 0) = some (.int .i64 x117) ∧ (
 ∃ (x118 : Int), World.cell? w116 ((blk b6).add 1) = some (.int .i64 x118) ∧ (
 ∃ (x119 : Int), World.cell? w116 ((blk b6).add 2) = some (.int .u64 x119) ∧ (
 R (.returned (.tuple #[.pointer x100, .agg #[.int .i64 x117, .int .i64 x118, .int .u64 x119], .bool true, .pointer x111])) w116)))))))) (fun ch w => Kfn R ch [] w)))) (fun ch w => Kfn R ch [] w)))) (fun ch w => Kfn R ch [] w)))) (fun ch w => Kfn R ch [] w)))) (fun ch w => Kfn R ch [] w)))))) (fun ch w => Kfn R ch [] w)))) (fun ch w => Kfn R ch [] w))))
set_option maxRecDepth 100000 in
theorem sh164_ok (s_1 : Option Addr) (at_f2 : Fn) (at_x3 : Array Value) (at_c4 : Array Value) (t_5 : Option Addr) {R : Ending → World → Prop} {w : World} : sh164 s_1 at_f2 at_x3 at_c4 t_5 R w → Calls Tryz.prog 164 #[.pointer s_1, .func at_f2 at_x3 at_c4, .pointer t_5] w R :=
  calls_of_eq (ann := fun _ => []) (fn := Tryz.f164) (c := bodyOf Tryz.f164) (args := #[.pointer s_1, .func at_f2 at_x3 at_c4, .pointer t_5]) 400 follows_mixed Tryz.func164 (by kernel_rfl) (by kernel_rfl)
end Go.Proofs.YtbaoihmffobneaaGreat

namespace Go.Proofs.YtbaoihmffobneaaGreat
open Go Go.Sh
set_option maxRecDepth 100000 in
/-- joinery/joinerylaw29.nothing -/
def sh13 (o_1 : Int) (p_2 : Int) (R : Ending → World → Prop) (w : World) : Prop :=
 doCall Tryz.prog (.func (.func 9) #[] #[]) #[.int .u8 1] w (retS (fun v5 w6 => ∃ (x3 : Option Addr), ∃ (x4 : Bool), v5 = (.tuple #[.pointer x3, .bool x4] : Value) ∧ (
 doCall Tryz.prog (.func (.func 60) #[] #[]) #[.pointer none, .int .i64 1, .int .i64 1, .int .u64 1, .pointer none] w6 (retS (fun v8 w9 => ∃ (x7 : Option Addr), v8 = (.pointer x7 : Value) ∧ (
 doCall Tryz.prog (.func (.func 17) #[] #[]) #[.pointer none, .int .u8 1, .int .u8 3, .pointer x7, .pointer x7] w9 (retS (fun v12 w13 => ∃ (x10 : Option Addr), ∃ (x11 : Int), v12 = (.tuple #[.pointer x10, .int .i64 x11] : Value) ∧ (
 doCall Tryz.prog (.func (.func 18) #[] #[]) #[.pointer none, .int .u8 1, .pointer x7, .pointer none] w13 (retS (fun v16 w17 => ∃ (x14 : Option Addr), ∃ (x15 : Int), v16 = (.tuple #[.pointer x14, .int .i64 x15] : Value) ∧ (
 doCall Tryz.prog (.func (.func 19) #[] #[]) #[.pointer x3, .int .u8 o_1, .pointer x7, .pointer none] w17 (retS (fun v20 w21 => ∃ (x18 : Option Addr), ∃ (x19 : Int), v20 = (.tuple #[.pointer x18, .int .i64 x19] : Value) ∧ (
 doCall Tryz.prog (.func (.func 20) #[] #[]) #[.pointer x3, .int .u8 o_1, .pointer none, .pointer x7] w21 (retS (fun v24 w25 => ∃ (x22 : Bool), ∃ (x23 : Int), v24 = (.tuple #[.bool x22, .int .i64 x23] : Value) ∧ (
 doCall Tryz.prog (.func (.func 17) #[] #[]) #[.pointer x3, .int .u8 o_1, .int .u8 p_2, .pointer x7, .pointer x7] w25 (retS (fun v28 w29 => ∃ (x26 : Option Addr), ∃ (x27 : Int), v28 = (.tuple #[.pointer x26, .int .i64 x27] : Value) ∧ (
 let K32 : Bool → World → Prop := fun (x30 : Bool) (w31 : World) => 
 ifB x30 (
 R (.returned (.bool false)) w31) (
 let K34 : World → Prop := fun (w33 : World) => 
 let K37 : Bool → World → Prop := fun (x35 : Bool) (w36 : World) => 
 R (.returned (.bool x35)) w36
 doCall Tryz.prog (.func (.func 42) #[] #[]) #[.int .u8 o_1] w33 (retS (fun v39 w40 => ∃ (x38 : Bool), v39 = (.bool x38 : Value) ∧ (
 ifB x38 (
 doCall Tryz.prog (.func (.func 11) #[] #[]) #[.int .u8 p_2] w40 (retS (fun v42 w43 => ∃ (x41 : Bool), v42 = (.bool x41 : Value) ∧ (
 ifB x41 (
 R (.returned (.bool true)) w43) (
 ifB ((x26).isNone) (
 K37 ((x27 : Int) == 2) w43) (
 R (.returned (.bool false)) w43)))) (fun ch w => Kfn R ch [] w))) (
 ifB ((x26).isNone) (
 K37 ((x27 : Int) == 2) w40) (
 R (.returned (.bool false)) w40)))) (fun ch w => Kfn R ch [] w))
 let K46 : Bool → World → Prop := fun (x44 : Bool) (w45 : World) => 
 ifB x44 (
 R (.returned (.bool false)) w45) (
 K34 w45)
 doCall Tryz.prog (.func (.func 42) #[] #[]) #[.int .u8 o_1] w31 (retS (fun v48 w49 => ∃ (x47 : Bool), v48 = (.bool x47 : Value) ∧ (
 ifB (!x47) (
 ifB (!(x18).isNone) (
 R (.returned (.bool false)) w49) (
 ifB ((x19 : Int) != 2) (
 R (.returned (.bool false)) w49) (
 ifB x22 (
 R (.returned (.bool false)) w49) (
 K46 ((x23 : Int) != 2) w49)))) (
 K34 w49))) (fun ch w => Kfn R ch [] w)))
 ifB (!(x10).isNone) (
 R (.returned (.bool false)) w29) (
 ifB ((x11 : Int) != 2) (
 R (.returned (.bool false)) w29) (
 ifB (!(x14).isNone) (
 R (.returned (.bool false)) w29) (
 K32 ((x15 : Int) != 2) w29))))) (fun ch w => Kfn R ch [] w)))) (fun ch w => Kfn R ch [] w)))) (fun ch w => Kfn R ch [] w)))) (fun ch w => Kfn R ch [] w)))) (fun ch w => Kfn R ch [] w)))) (fun ch w => Kfn R ch [] w)))) (fun ch w => Kfn R ch [] w))
set_option maxRecDepth 100000 in
theorem sh13_ok (o_1 : Int) (p_2 : Int) {R : Ending → World → Prop} {w : World} : sh13 o_1 p_2 R w → Calls Tryz.prog 13 #[.int .u8 o_1, .int .u8 p_2] w R :=
  calls_of_eq (ann := fun _ => []) (fn := Tryz.f13) (c := bodyOf Tryz.f13) (args := #[.int .u8 o_1, .int .u8 p_2]) 400 follows_mixed Tryz.func13 (by kernel_rfl) (by kernel_rfl)
end Go.Proofs.YtbaoihmffobneaaGreat

namespace Go.Proofs.YtbaoihmffobneaaGreat
open Go Go.Sh
set_option maxRecDepth 100000 in
/-- joinery/joinerylaw29.alive -/
def sh14  (R : Ending → World → Prop) (w : World) : Prop :=
 doCall Tryz.prog (.func (.func 9) #[] #[]) #[.int .u8 2] w (retS (fun v3 w4 => ∃ (x1 : Option Addr), ∃ (x2 : Bool), v3 = (.tuple #[.pointer x1, .bool x2] : Value) ∧ (
 doAl (.cells #[.pointer none] 23) w4 (fun b5 w6 =>
 doSt ((blk b5).add 0) (.pointer x1) w6 (fun w7 =>
 ifB (!x2) (
 R (.returned (.bool false)) w7) (
 doDr w7 (fun w9 =>
 ∃ (C8 : World → Prop), C8 w9 ∧ (
 ∃ (x10 : Option Addr), (∀ w, C8 w → World.cell? w (blk b5) = some (.pointer x10)) ∧ (
 ∃ (x11 : Option Addr), (∀ w, C8 w → World.cell? w (blk b5) = some (.pointer x11)) ∧ (
 doCall Tryz.prog (.func (.func 61) #[] #[.pointer (some (blk b5))]) #[.int .i64 1, .int .i64 10] w9 (retS (fun v13 w14 => ∃ (x12 : Option Addr), v13 = (.pointer x12 : Value) ∧ (
 C8 w14 ∧ (
 doCall Tryz.prog (.func (.func 61) #[] #[.pointer (some (blk b5))]) #[.int .i64 2, .int .i64 20] w14 (retS (fun v16 w17 => ∃ (x15 : Option Addr), v16 = (.pointer x15 : Value) ∧ (
 C8 w17 ∧ (
 doCall Tryz.prog (.func (.func 63) #[] #[]) #[.pointer x10, .pointer x12, .pointer x15] w17 (retS (fun v19 w20 => ∃ (x18 : Option Addr), v19 = (.pointer x18 : Value) ∧ (
 C8 w20 ∧ (
 doCall Tryz.prog (.func (.func 61) #[] #[.pointer (some (blk b5))]) #[.int .i64 2, .int .i64 5] w20 (retS (fun v22 w23 => ∃ (x21 : Option Addr), v22 = (.pointer x21 : Value) ∧ (
 C8 w23 ∧ (
 doCall Tryz.prog (.func (.func 61) #[] #[.pointer (some (blk b5))]) #[.int .i64 3, .int .i64 30] w23 (retS (fun v25 w26 => ∃ (x24 : Option Addr), v25 = (.pointer x24 : Value) ∧ (
 C8 w26 ∧ (
 doCall Tryz.prog (.func (.func 63) #[] #[]) #[.pointer x11, .pointer x21, .pointer x24] w26 (retS (fun v28 w29 => ∃ (x27 : Option Addr), v28 = (.pointer x27 : Value) ∧ (
 C8 w29 ∧ (
 ∃ (x30 : Option Addr), World.cell? w29 (blk b5) = some (.pointer x30) ∧ (
 doCall Tryz.prog (.func (.func 17) #[] #[]) #[.pointer x30, .int .u8 1, .int .u8 3, .pointer x18, .pointer x27] w29 (retS (fun v33 w34 => ∃ (x31 : Option Addr), ∃ (x32 : Int), v33 = (.tuple #[.pointer x31, .int .i64 x32] : Value) ∧ (
 ∃ (x35 : Option Addr), World.cell? w34 (blk b5) = some (.pointer x35) ∧ (
 doCall Tryz.prog (.func (.func 18) #[] #[]) #[.pointer x35, .int .u8 1, .pointer x18, .pointer x27] w34 (retS (fun v38 w39 => ∃ (x36 : Option Addr), ∃ (x37 : Int), v38 = (.tuple #[.pointer x36, .int .i64 x37] : Value) ∧ (
 ∃ (x40 : Option Addr), World.cell? w39 (blk b5) = some (.pointer x40) ∧ (
 doCall Tryz.prog (.func (.func 19) #[] #[]) #[.pointer x40, .int .u8 1, .pointer x18, .pointer x27] w39 (retS (fun v43 w44 => ∃ (x41 : Option Addr), ∃ (x42 : Int), v43 = (.tuple #[.pointer x41, .int .i64 x42] : Value) ∧ (
 ∃ (x45 : Option Addr), World.cell? w44 (blk b5) = some (.pointer x45) ∧ (
 doCall Tryz.prog (.func (.func 20) #[] #[]) #[.pointer x45, .int .u8 1, .pointer x18, .pointer x27] w44 (retS (fun v48 w49 => ∃ (x46 : Bool), ∃ (x47 : Int), v48 = (.tuple #[.bool x46, .int .i64 x47] : Value) ∧ (
 let K52 : Bool → World → Prop := fun (x50 : Bool) (w51 : World) => 
 R (.returned (.bool x50)) w51
 ifB ((x32 : Int) == 0) (
 ifB ((x37 : Int) == 0) (
 ifB ((x42 : Int) == 0) (
 ifB ((x47 : Int) == 0) (
 ifB (!x46) (
 doAl (.cells #[.int .i64 2, .int .i64 25, .int .u64 0] 93) w49 (fun b53 w54 =>
 doCall Tryz.prog (.func (.func 22) #[] #[]) #[.int .u8 2, .pointer x31, .slice (some (blk b53)) 1 1] w54 (retS (fun v56 w57 => ∃ (x55 : Bool), v56 = (.bool x55 : Value) ∧ (
 ifB x55 (
 doAl (.cells #[.int .i64 1, .int .i64 10, .int .u64 0] 93) w57 (fun b58 w59 =>
 doCall Tryz.prog (.func (.func 22) #[] #[]) #[.int .u8 2, .pointer x36, .slice (some (blk b58)) 1 1] w59 (retS (fun v61 w62 => ∃ (x60 : Bool), v61 = (.bool x60 : Value) ∧ (
 ifB x60 (
 doAl (.cells #[.int .i64 1, .int .i64 10, .int .u64 0, .int .i64 3, .int .i64 30, .int .u64 0] 93) w62 (fun b63 w64 =>
 doCall Tryz.prog (.func (.func 22) #[] #[]) #[.int .u8 2, .pointer x41, .slice (some (blk b63)) 2 2] w64 (retS (fun v66 w67 => ∃ (x65 : Bool), v66 = (.bool x65 : Value) ∧ (
 K52 x65 w67)) (fun ch w => Kfn R ch [] w)))) (
 R (.returned (.bool false)) w62))) (fun ch w => Kfn R ch [] w)))) (
 R (.returned (.bool false)) w57))) (fun ch w => Kfn R ch [] w)))) (
 R (.returned (.bool false)) w49)) (
 R (.returned (.bool false)) w49)) (
 R (.returned (.bool false)) w49)) (
 R (.returned (.bool false)) w49)) (
 R (.returned (.bool false)) w49))) (fun ch w => Kfn R ch [] w))))) (fun ch w => Kfn R ch [] w))))) (fun ch w => Kfn R ch [] w))))) (fun ch w => Kfn R ch [] w)))))) (fun ch w => Kfn R ch [] w))))) (fun ch w => Kfn R ch [] w))))) (fun ch w => Kfn R ch [] w))))) (fun ch w => Kfn R ch [] w))))) (fun ch w => Kfn R ch [] w))))) (fun ch w => Kfn R ch [] w))))))))))) (fun ch w => Kfn R ch [] w))
set_option maxRecDepth 100000 in
theorem sh14_ok  {R : Ending → World → Prop} {w : World} : sh14  R w → Calls Tryz.prog 14 #[] w R :=
  calls_of_eq (ann := fun _ => []) (fn := Tryz.f14) (c := bodyOf Tryz.f14) (args := #[]) 400 follows_mixed Tryz.func14 (by kernel_rfl) (by kernel_rfl)
end Go.Proofs.YtbaoihmffobneaaGreat

namespace Go.Proofs.YtbaoihmffobneaaGreat
open Go Go.Sh
set_option maxRecDepth 100000 in
/-- joinery/joinerylaw33.nothing -/
def sh29 (o_1 : Int) (lo_2 : Int) (hi_3 : Int) (R : Ending → World → Prop) (w : World) : Prop :=
 doCall Tryz.prog (.func (.func 9) #[] #[]) #[.int .u8 4] w (retS (fun v6 w7 => ∃ (x4 : Option Addr), ∃ (x5 : Bool), v6 = (.tuple #[.pointer x4, .bool x5] : Value) ∧ (
 doCall Tryz.prog (.func (.func 60) #[] #[]) #[.pointer none, .int .i64 lo_2, .int .i64 1, .int .u64 1, .pointer none] w7 (retS (fun v9 w10 => ∃ (x8 : Option Addr), v9 = (.pointer x8 : Value) ∧ (
 doCall Tryz.prog (.func (.func 31) #[] #[]) #[.pointer none, .int .u8 1, .pointer x8, .int .i64 1, .int .i64 1] w10 (retS (fun v13 w14 => ∃ (x11 : Option Addr), ∃ (x12 : Int), v13 = (.tuple #[.pointer x11, .int .i64 x12] : Value) ∧ (
 doCall Tryz.prog (.func (.func 32) #[] #[]) #[.pointer none, .int .u8 1, .pointer x8, .int .i64 1, .int .i64 1] w14 (retS (fun v17 w18 => ∃ (x15 : Option Addr), ∃ (x16 : Int), v17 = (.tuple #[.pointer x15, .int .i64 x16] : Value) ∧ (
 let K21 : Bool → World → Prop := fun (x19 : Bool) (w20 : World) => 
 ifB x19 (
 R (.returned (.bool false)) w20) (
 doCall Tryz.prog (.func (.func 33) #[] #[]) #[.int .u8 o_1, .int .i64 lo_2, .int .i64 hi_3] w20 (retS (fun v23 w24 => ∃ (x22 : Int), v23 = (.int .i64 x22 : Value) ∧ (
 doCall Tryz.prog (.func (.func 31) #[] #[]) #[.pointer x4, .int .u8 o_1, .pointer x8, .int .i64 lo_2, .int .i64 hi_3] w24 (retS (fun v27 w28 => ∃ (x25 : Option Addr), ∃ (x26 : Int), v27 = (.tuple #[.pointer x25, .int .i64 x26] : Value) ∧ (
 doCall Tryz.prog (.func (.func 32) #[] #[]) #[.pointer x4, .int .u8 o_1, .pointer x8, .int .i64 lo_2, .int .i64 hi_3] w28 (retS (fun v31 w32 => ∃ (x29 : Option Addr), ∃ (x30 : Int), v31 = (.tuple #[.pointer x29, .int .i64 x30] : Value) ∧ (
 doCall Tryz.prog (.func (.func 38) #[] #[]) #[.int .u8 o_1, .pointer x8, .int .i64 lo_2, .int .i64 hi_3] w32 (retS (fun v35 w36 => ∃ (x33 : Int), ∃ (x34 : Int), v35 = (.tuple #[.int .i64 x33, .int .i64 x34] : Value) ∧ (
 doCall Tryz.prog (.func (.func 39) #[] #[]) #[.int .u8 o_1, .pointer x8, .int .i64 lo_2, .int .i64 hi_3] w36 (retS (fun v39 w40 => ∃ (x37 : Int), ∃ (x38 : Int), v39 = (.tuple #[.int .i64 x37, .int .i64 x38] : Value) ∧ (
 let K43 : Bool → World → Prop := fun (x41 : Bool) (w42 : World) => 
 ifB x41 (
 R (.returned (.bool false)) w42) (
 let K46 : Bool → World → Prop := fun (x44 : Bool) (w45 : World) => 
 R (.returned (.bool x44)) w45
 ifB ((x22 : Int) == 0) (
 R (.returned (.bool true)) w42) (
 ifB ((x25).isNone) (
 ifB ((x29).isNone) (
 ifB ((x33 : Int) == 0) (
 K46 ((x37 : Int) == 0) w42) (
 R (.returned (.bool false)) w42)) (
 R (.returned (.bool false)) w42)) (
 R (.returned (.bool false)) w42)))
 ifB ((x26 : Int) != x22) (
 R (.returned (.bool false)) w40) (
 ifB ((x30 : Int) != x22) (
 R (.returned (.bool false)) w40) (
 ifB ((x34 : Int) != x22) (
 R (.returned (.bool false)) w40) (
 K43 ((x38 : Int) != x22) w40))))) (fun ch w => Kfn R ch [] w)))) (fun ch w => Kfn R ch [] w)))) (fun ch w => Kfn R ch [] w)))) (fun ch w => Kfn R ch [] w)))) (fun ch w => Kfn R ch [] w)))
 ifB (!(x11).isNone) (
 R (.returned (.bool false)) w18) (
 ifB ((x12 : Int) != 2) (
 R (.returned (.bool false)) w18) (
 ifB (!(x15).isNone) (
 R (.returned (.bool false)) w18) (
 K21 ((x16 : Int) != 2) w18))))) (fun ch w => Kfn R ch [] w)))) (fun ch w => Kfn R ch [] w)))) (fun ch w => Kfn R ch [] w)))) (fun ch w => Kfn R ch [] w))
set_option maxRecDepth 100000 in
theorem sh29_ok (o_1 : Int) (lo_2 : Int) (hi_3 : Int) {R : Ending → World → Prop} {w : World} : sh29 o_1 lo_2 hi_3 R w → Calls Tryz.prog 29 #[.int .u8 o_1, .int .i64 lo_2, .int .i64 hi_3] w R :=
  calls_of_eq (ann := fun _ => []) (fn := Tryz.f29) (c := bodyOf Tryz.f29) (args := #[.int .u8 o_1, .int .i64 lo_2, .int .i64 hi_3]) 400 follows_mixed Tryz.func29 (by kernel_rfl) (by kernel_rfl)
end Go.Proofs.YtbaoihmffobneaaGreat

namespace Go.Proofs.YtbaoihmffobneaaGreat
open Go Go.Sh
set_option maxRecDepth 100000 in
/-- joinery/joinerylaw33.alive -/
def sh30  (R : Ending → World → Prop) (w : World) : Prop :=
 doCall Tryz.prog (.func (.func 9) #[] #[]) #[.int .u8 1] w (retS (fun v3 w4 => ∃ (x1 : Option Addr), ∃ (x2 : Bool), v3 = (.tuple #[.pointer x1, .bool x2] : Value) ∧ (
 ifB (!x2) (
 R (.returned (.bool false)) w4) (
 ∃ (I5 : List Value → World → Prop) (μ6 : List Value → World → Nat), I5 [.pointer none, .int .i64 1] w4 ∧ (∀ (t_9 : Option Addr), ∀ (k_10 : Int), ∀ (_j7 : Nat → Value) (w8 : World), I5 [.pointer t_9, .int .i64 k_10] w8 → (
 ifB (decide ((k_10 : Int) ≤ 4)) (
 doCall Tryz.prog (.func (.func 62) #[] #[]) #[.pointer x1, .pointer t_9, .agg #[.int .i64 k_10, .int .i64 (IntKind.wrap .i64 (10 * k_10)), .int .u64 0], .pointer none] w8 (retS (fun v12 w13 => ∃ (x11 : Option Addr), v12 = (.pointer x11 : Value) ∧ (
 I5 [.pointer x11, .int .i64 (IntKind.wrap .i64 (k_10 + 1))] w13 ∧ μ6 [.pointer x11, .int .i64 (IntKind.wrap .i64 (k_10 + 1))] w13 < μ6 [.pointer t_9, .int .i64 k_10] w8)) (fun ch w => Kfn R ch [] w))) (
 doCall Tryz.prog (.func (.func 38) #[] #[]) #[.int .u8 1, .pointer t_9, .int .i64 2, .int .i64 3] w8 (retS (fun v16 w17 => ∃ (x14 : Int), ∃ (x15 : Int), v16 = (.tuple #[.int .i64 x14, .int .i64 x15] : Value) ∧ (
 doCall Tryz.prog (.func (.func 39) #[] #[]) #[.int .u8 1, .pointer t_9, .int .i64 2, .int .i64 3] w17 (retS (fun v20 w21 => ∃ (x18 : Int), ∃ (x19 : Int), v20 = (.tuple #[.int .i64 x18, .int .i64 x19] : Value) ∧ (
 doCall Tryz.prog (.func (.func 38) #[] #[]) #[.int .u8 1, .pointer t_9, .int .i64 3, .int .i64 2] w21 (retS (fun v24 w25 => ∃ (x22 : Int), ∃ (x23 : Int), v24 = (.tuple #[.int .i64 x22, .int .i64 x23] : Value) ∧ (
 doCall Tryz.prog (.func (.func 38) #[] #[]) #[.int .u8 1, .pointer t_9, .int .i64 5, .int .i64 9] w25 (retS (fun v28 w29 => ∃ (x26 : Int), ∃ (x27 : Int), v28 = (.tuple #[.int .i64 x26, .int .i64 x27] : Value) ∧ (
 doCall Tryz.prog (.func (.func 31) #[] #[]) #[.pointer x1, .int .u8 1, .pointer t_9, .int .i64 2, .int .i64 3] w29 (retS (fun v32 w33 => ∃ (x30 : Option Addr), ∃ (x31 : Int), v32 = (.tuple #[.pointer x30, .int .i64 x31] : Value) ∧ (
 let K36 : Bool → World → Prop := fun (x34 : Bool) (w35 : World) => 
 R (.returned (.bool x34)) w35
 ifB ((x14 : Int) == 2) (
 ifB ((x15 : Int) == 0) (
 ifB ((x18 : Int) == 50) (
 ifB ((x19 : Int) == 0) (
 ifB ((x23 : Int) == 330) (
 ifB ((x26 : Int) == 0) (
 ifB ((x27 : Int) == 0) (
 doCall Tryz.prog (.func (.func 80) #[] #[]) #[.pointer x30] w33 (retS (fun v38 w39 => ∃ (x37 : Int), v38 = (.int .i64 x37 : Value) ∧ (
 ifB ((x37 : Int) == 2) (
 K36 ((x31 : Int) == 0) w39) (
 R (.returned (.bool false)) w39))) (fun ch w => Kfn R ch [] w))) (
 R (.returned (.bool false)) w33)) (
 R (.returned (.bool false)) w33)) (
 R (.returned (.bool false)) w33)) (
 R (.returned (.bool false)) w33)) (
 R (.returned (.bool false)) w33)) (
 R (.returned (.bool false)) w33)) (
 R (.returned (.bool false)) w33))) (fun ch w => Kfn R ch [] w)))) (fun ch w => Kfn R ch [] w)))) (fun ch w => Kfn R ch [] w)))) (fun ch w => Kfn R ch [] w)))) (fun ch w => Kfn R ch [] w)))))))) (fun ch w => Kfn R ch [] w))
set_option maxRecDepth 100000 in
theorem sh30_ok  {R : Ending → World → Prop} {w : World} : sh30  R w → Calls Tryz.prog 30 #[] w R :=
  calls_of_eq (ann := fun i => if i = 0 then [(3, .pointer none), (4, .int .i64 0)] else []) (fn := Tryz.f30) (c := bodyOf Tryz.f30) (args := #[]) 400 follows_mixed Tryz.func30 (by kernel_rfl) (by kernel_rfl)
end Go.Proofs.YtbaoihmffobneaaGreat
