/-
  Printed by a program (gen.py): what the functions of the program do, as formulas; each with the proof that its call is what the formula says.
-/
/-
  Printed by a program (gen.py): what the functions of the program do, as formulas; each with the proof that its call is what the formula says.
-/
import Derived.Test.YtlddfgfmkapoiaaGreatZ02
import Derived.Test.YtlddfgfmkapoiaaGreatProg
import Derived.Test.YtlddfgfmkapoiaaGreatZ04

namespace Go.Proofs.YtlddfgfmkapoiaaGreat
open Go Go.Sh
set_option maxRecDepth 100000 in
/-- (joinery/meet.way).goes$1 -/
def sh214 (a_1 : Option Addr) (b_2 : Option Addr) (x3 : Addr) (x4 : Addr) (x5 : Addr) (x6 : Addr) (R : Ending → World → Prop) (w : World) : Prop :=
 ifB ((a_1).isNone) (
 ∃ (xf7 : Fn), ∃ (xx8 : Array Value), ∃ (xc9 : Array Value), World.cell? w (x3.add 1) = some (.func xf7 xx8 xc9) ∧ (
 doCall Tryz.prog (.func xf7 xx8 xc9) #[.pointer b_2] w (retS (fun v11 w12 => ∃ (x10 : Option Addr), v11 = (.pointer x10 : Value) ∧ (
 R (.returned (.pointer x10)) w12)) (fun ch w => Kfn R ch [] w)))) (
 ifB ((b_2).isNone) (
 ∃ (xf13 : Fn), ∃ (xx14 : Array Value), ∃ (xc15 : Array Value), World.cell? w (x3.add 0) = some (.func xf13 xx14 xc15) ∧ (
 doCall Tryz.prog (.func xf13 xx14 xc15) #[.pointer a_1] w (retS (fun v17 w18 => ∃ (x16 : Option Addr), v17 = (.pointer x16 : Value) ∧ (
 R (.returned (.pointer x16)) w18)) (fun ch w => Kfn R ch [] w)))) (
 let K24 : (Option Addr) → Addr → Bool → (Option Addr) → World → Prop := fun (l_19 : Option Addr) (y_20 : Addr) (is_21 : Bool) (r_22 : Option Addr) (w23 : World) => 
 doDr w23 (fun w26 =>
 ∃ (C25 : World → Prop), C25 w26 ∧ (
 ∃ (xf27 : Fn), ∃ (xx28 : Array Value), ∃ (xc29 : Array Value), (∀ w, C25 w → World.cell? w x6 = some (.func xf27 xx28 xc29)) ∧ (
 ∃ (xf30 : Fn), ∃ (xx31 : Array Value), ∃ (xc32 : Array Value), (∀ w, C25 w → World.cell? w x6 = some (.func xf30 xx31 xc32)) ∧ (
 doCall Tryz.prog (.func (.func 123) #[] #[]) #[.pointer a_1] w26 (retS (fun v34 w35 => ∃ (x33 : Option Addr), v34 = (.pointer x33 : Value) ∧ (
 C25 w35 ∧ (
 doCall Tryz.prog (.func xf27 xx28 xc29) #[.pointer x33, .pointer l_19] w35 (retS (fun v37 w38 => ∃ (x36 : Option Addr), v37 = (.pointer x36 : Value) ∧ (
 C25 w38 ∧ (
 doCall Tryz.prog (.func (.func 125) #[] #[]) #[.pointer a_1] w38 (retS (fun v40 w41 => ∃ (x39 : Option Addr), v40 = (.pointer x39 : Value) ∧ (
 C25 w41 ∧ (
 doCall Tryz.prog (.func xf30 xx31 xc32) #[.pointer x39, .pointer r_22] w41 (retS (fun v43 w44 => ∃ (x42 : Option Addr), v43 = (.pointer x42 : Value) ∧ (
 C25 w44 ∧ (
 let K48 : Addr → Bool → World → Prop := fun (x_45 : Addr) (stays_46 : Bool) (w47 : World) => 
 ifB stays_46 (
 ∃ (x49 : Option Addr), World.cell? w47 x4 = some (.pointer x49) ∧ (
 ∃ (x50 : Int), World.cell? w47 (x_45.add 0) = some (.int .i64 x50) ∧ (
 ∃ (x51 : Int), World.cell? w47 (x_45.add 1) = some (.int .i64 x51) ∧ (
 ∃ (x52 : Int), World.cell? w47 (x_45.add 2) = some (.int .u64 x52) ∧ (
 doCall Tryz.prog (.func (.func 106) #[] #[]) #[.pointer x49, .pointer x36, .agg #[.int .i64 x50, .int .i64 x51, .int .u64 x52], .pointer x42] w47 (retS (fun v54 w55 => ∃ (x53 : Option Addr), v54 = (.pointer x53 : Value) ∧ (
 R (.returned (.pointer x53)) w55)) (fun ch w => Kfn R ch [] w))))))) (
 ∃ (x56 : Option Addr), World.cell? w47 x4 = some (.pointer x56) ∧ (
 doCall Tryz.prog (.func (.func 211) #[] #[]) #[.pointer x56, .pointer x36, .pointer x42] w47 (retS (fun v58 w59 => ∃ (x57 : Option Addr), v58 = (.pointer x57 : Value) ∧ (
 R (.returned (.pointer x57)) w59)) (fun ch w => Kfn R ch [] w))))
 doDr w44 (fun w61 =>
 ∃ (C60 : World → Prop), C60 w61 ∧ (
 ∃ (xf62 : Fn), ∃ (xx63 : Array Value), ∃ (xc64 : Array Value), (∀ w, C60 w → World.cell? w (x3.add 2) = some (.func xf62 xx63 xc64)) ∧ (
 ∃ (x65 : Option Addr), (∀ w, C60 w → World.cell? w x4 = some (.pointer x65)) ∧ (
 ∃ (x66 : Int), (∀ w, C60 w → World.cell? w (y_20.add 0) = some (.int .i64 x66)) ∧ (
 ∃ (x67 : Int), (∀ w, C60 w → World.cell? w (y_20.add 1) = some (.int .i64 x67)) ∧ (
 ∃ (x68 : Int), (∀ w, C60 w → World.cell? w (y_20.add 2) = some (.int .u64 x68)) ∧ (
 (doCall Tryz.prog (.func (.func 213) #[] #[]) #[.pointer x65, .pointer a_1] w61 (retS (fun v72 w73 => ∃ (x69 : Int), ∃ (x70 : Int), ∃ (x71 : Int), v72 = (.agg #[.int .i64 x69, .int .i64 x70, .int .u64 x71] : Value) ∧ (
 C60 w73 ∧ (
 (doCall Tryz.prog (.func xf62 xx63 xc64) #[.agg #[.int .i64 x69, .int .i64 x70, .int .u64 x71], .agg #[.int .i64 x66, .int .i64 x67, .int .u64 x68], .bool is_21] w73 (retS (fun v78 w79 => ∃ (x74 : Int), ∃ (x75 : Int), ∃ (x76 : Int), ∃ (x77 : Bool), v78 = (.tuple #[.agg #[.int .i64 x74, .int .i64 x75, .int .u64 x76], .bool x77] : Value) ∧ (
 C60 w79 ∧ (
 doAl (.cells #[.int .i64 0, .int .i64 0, .int .u64 0] 114) w79 (fun b80 w81 =>
 C60 w81 ∧ (
 doSt ((blk b80).add 0) (.int .i64 x74) w81 (fun w82 =>
 doSt ((blk b80).add 1) (.int .i64 x75) w82 (fun w83 =>
 doSt ((blk b80).add 2) (.int .u64 x76) w83 (fun w84 =>
 K48 (blk b80) x77 w84)))))))) (fun ch w => Kfn R ch [] w))) ∧ (doAl (.cells #[.int .i64 0, .int .i64 0, .int .u64 0] 114) w73 (fun b85 w86 =>
 C60 w86 ∧ (
 doCall Tryz.prog (.func xf62 xx63 xc64) #[.agg #[.int .i64 x69, .int .i64 x70, .int .u64 x71], .agg #[.int .i64 x66, .int .i64 x67, .int .u64 x68], .bool is_21] w86 (retS (fun v91 w92 => ∃ (x87 : Int), ∃ (x88 : Int), ∃ (x89 : Int), ∃ (x90 : Bool), v91 = (.tuple #[.agg #[.int .i64 x87, .int .i64 x88, .int .u64 x89], .bool x90] : Value) ∧ (
 C60 w92 ∧ (
 doSt ((blk b85).add 0) (.int .i64 x87) w92 (fun w93 =>
 doSt ((blk b85).add 1) (.int .i64 x88) w93 (fun w94 =>
 doSt ((blk b85).add 2) (.int .u64 x89) w94 (fun w95 =>
 K48 (blk b85) x90 w95)))))) (fun ch w => Kfn R ch [] w)))))))) (fun ch w => Kfn R ch [] w))) ∧ (doAl (.cells #[.int .i64 0, .int .i64 0, .int .u64 0] 114) w61 (fun b96 w97 =>
 C60 w97 ∧ (
 doCall Tryz.prog (.func (.func 213) #[] #[]) #[.pointer x65, .pointer a_1] w97 (retS (fun v101 w102 => ∃ (x98 : Int), ∃ (x99 : Int), ∃ (x100 : Int), v101 = (.agg #[.int .i64 x98, .int .i64 x99, .int .u64 x100] : Value) ∧ (
 C60 w102 ∧ (
 doCall Tryz.prog (.func xf62 xx63 xc64) #[.agg #[.int .i64 x98, .int .i64 x99, .int .u64 x100], .agg #[.int .i64 x66, .int .i64 x67, .int .u64 x68], .bool is_21] w102 (retS (fun v107 w108 => ∃ (x103 : Int), ∃ (x104 : Int), ∃ (x105 : Int), ∃ (x106 : Bool), v107 = (.tuple #[.agg #[.int .i64 x103, .int .i64 x104, .int .u64 x105], .bool x106] : Value) ∧ (
 C60 w108 ∧ (
 doSt ((blk b96).add 0) (.int .i64 x103) w108 (fun w109 =>
 doSt ((blk b96).add 1) (.int .i64 x104) w109 (fun w110 =>
 doSt ((blk b96).add 2) (.int .u64 x105) w110 (fun w111 =>
 K48 (blk b96) x106 w111)))))) (fun ch w => Kfn R ch [] w))))) (fun ch w => Kfn R ch [] w))))))))))))))) (fun ch w => Kfn R ch [] w))))) (fun ch w => Kfn R ch [] w))))) (fun ch w => Kfn R ch [] w))))) (fun ch w => Kfn R ch [] w))))))
 doDr w (fun w113 =>
 ∃ (C112 : World → Prop), C112 w113 ∧ (
 ∃ (x114 : Option Addr), (∀ w, C112 w → World.cell? w x4 = some (.pointer x114)) ∧ (
 ∃ (x115 : Int), (∀ w, C112 w → World.cell? w x5 = some (.int .u8 x115)) ∧ (
 (doCall Tryz.prog (.func (.func 108) #[] #[]) #[.pointer a_1] w113 (retS (fun v117 w118 => ∃ (x116 : Int), v117 = (.int .i64 x116 : Value) ∧ (
 C112 w118 ∧ (
 (doCall Tryz.prog (.func (.func 89) #[] #[]) #[.pointer x114, .int .u8 x115, .pointer b_2, .int .i64 x116] w118 (retS (fun v126 w127 => ∃ (x119 : Option Addr), ∃ (x120 : Int), ∃ (x121 : Int), ∃ (x122 : Int), ∃ (x123 : Bool), ∃ (x124 : Option Addr), ∃ (x125 : Int), v126 = (.tuple #[.pointer x119, .agg #[.int .i64 x120, .int .i64 x121, .int .u64 x122], .bool x123, .pointer x124, .int .i64 x125] : Value) ∧ (
 doAl (.cells #[.int .i64 0, .int .i64 0, .int .u64 0] 114) w127 (fun b128 w129 =>
 C112 w129 ∧ (
 doSt ((blk b128).add 0) (.int .i64 x120) w129 (fun w130 =>
 doSt ((blk b128).add 1) (.int .i64 x121) w130 (fun w131 =>
 doSt ((blk b128).add 2) (.int .u64 x122) w131 (fun w132 =>
 K24 x119 (blk b128) x123 x124 w132))))))) (fun ch w => Kfn R ch [] w))) ∧ (doAl (.cells #[.int .i64 0, .int .i64 0, .int .u64 0] 114) w118 (fun b133 w134 =>
 C112 w134 ∧ (
 doCall Tryz.prog (.func (.func 89) #[] #[]) #[.pointer x114, .int .u8 x115, .pointer b_2, .int .i64 x116] w134 (retS (fun v142 w143 => ∃ (x135 : Option Addr), ∃ (x136 : Int), ∃ (x137 : Int), ∃ (x138 : Int), ∃ (x139 : Bool), ∃ (x140 : Option Addr), ∃ (x141 : Int), v142 = (.tuple #[.pointer x135, .agg #[.int .i64 x136, .int .i64 x137, .int .u64 x138], .bool x139, .pointer x140, .int .i64 x141] : Value) ∧ (
 doSt ((blk b133).add 0) (.int .i64 x136) w143 (fun w144 =>
 doSt ((blk b133).add 1) (.int .i64 x137) w144 (fun w145 =>
 doSt ((blk b133).add 2) (.int .u64 x138) w145 (fun w146 =>
 K24 x135 (blk b133) x139 x140 w146))))) (fun ch w => Kfn R ch [] w)))))))) (fun ch w => Kfn R ch [] w))) ∧ (doAl (.cells #[.int .i64 0, .int .i64 0, .int .u64 0] 114) w113 (fun b147 w148 =>
 C112 w148 ∧ (
 doCall Tryz.prog (.func (.func 108) #[] #[]) #[.pointer a_1] w148 (retS (fun v150 w151 => ∃ (x149 : Int), v150 = (.int .i64 x149 : Value) ∧ (
 C112 w151 ∧ (
 doCall Tryz.prog (.func (.func 89) #[] #[]) #[.pointer x114, .int .u8 x115, .pointer b_2, .int .i64 x149] w151 (retS (fun v159 w160 => ∃ (x152 : Option Addr), ∃ (x153 : Int), ∃ (x154 : Int), ∃ (x155 : Int), ∃ (x156 : Bool), ∃ (x157 : Option Addr), ∃ (x158 : Int), v159 = (.tuple #[.pointer x152, .agg #[.int .i64 x153, .int .i64 x154, .int .u64 x155], .bool x156, .pointer x157, .int .i64 x158] : Value) ∧ (
 doSt ((blk b147).add 0) (.int .i64 x153) w160 (fun w161 =>
 doSt ((blk b147).add 1) (.int .i64 x154) w161 (fun w162 =>
 doSt ((blk b147).add 2) (.int .u64 x155) w162 (fun w163 =>
 K24 x152 (blk b147) x156 x157 w163))))) (fun ch w => Kfn R ch [] w))))) (fun ch w => Kfn R ch [] w)))))))))))
set_option maxRecDepth 100000 in
theorem sh214_ok (a_1 : Option Addr) (b_2 : Option Addr) (x3 : Addr) (x4 : Addr) (x5 : Addr) (x6 : Addr) {R : Ending → World → Prop} {w : World} : sh214 a_1 b_2 x3 x4 x5 x6 R w → Calls Tryz.prog 214 #[.pointer a_1, .pointer b_2, .pointer (some x3), .pointer (some x4), .pointer (some x5), .pointer (some x6)] w R :=
  calls_of_eq (ann := fun _ => []) (fn := Tryz.f214) (c := bodyOf Tryz.f214) (args := #[.pointer a_1, .pointer b_2, .pointer (some x3), .pointer (some x4), .pointer (some x5), .pointer (some x6)]) 400 follows_mixed Tryz.func214 (by kernel_rfl) (by kernel_rfl)
set_option maxRecDepth 100000 in
/-- joinery/order.Code -/
def sh215 (o_1 : Int) (key_2 : Int) (R : Ending → World → Prop) (w : World) : Prop :=
 let K6 : Addr → Bool → World → Prop := fun (k_3 : Addr) (is_4 : Bool) (w5 : World) => 
 ifB (!is_4) (
 R (.returned (.tuple #[.int .u64 0, .int .i64 2])) w5) (
 ∃ (xf7 : Fn), ∃ (xx8 : Array Value), ∃ (xc9 : Array Value), World.cell? w5 (k_3.add 1) = some (.func xf7 xx8 xc9) ∧ (
 doCall Tryz.prog (.func xf7 xx8 xc9) #[.int .i64 key_2] w5 (retS (fun v11 w12 => ∃ (x10 : Int), v11 = (.int .u64 x10 : Value) ∧ (
 R (.returned (.tuple #[.int .u64 x10, .int .i64 0])) w12)) (fun ch w => Kfn R ch [] w))))
 doCall Tryz.prog (.func (.func 235) #[] #[]) #[] w (retS (fun v14 w15 => ∃ (x13 : Option Nat), v14 = (.map x13 : Value) ∧ (
 doLk Tryz.prog 300 (.map x13) (.int .u8 o_1) true w15 (fun v24 => (∃ (x16 : ByteArray), ∃ (xf17 : Fn), ∃ (xx18 : Array Value), ∃ (xc19 : Array Value), ∃ (xf20 : Fn), ∃ (xx21 : Array Value), ∃ (xc22 : Array Value), ∃ (x23 : Bool), v24 = (.tuple #[.agg #[.string x16, .func xf17 xx18 xc19, .func xf20 xx21 xc22], .bool x23] : Value) ∧ (
 doAl (.cells #[.string (⟨#[]⟩ : ByteArray), .nilFunc, .nilFunc] 299) w15 (fun b25 w26 =>
 doSt ((blk b25).add 0) (.string x16) w26 (fun w27 =>
 doSt ((blk b25).add 1) (.func xf17 xx18 xc19) w27 (fun w28 =>
 doSt ((blk b25).add 2) (.func xf20 xx21 xc22) w28 (fun w29 =>
 K6 (blk b25) x23 w29)))))) ∨ (v24 = (.tuple #[.agg #[.string (⟨#[]⟩ : ByteArray), .nilFunc, .nilFunc], .bool false] : Value) ∧ (
 doAl (.cells #[.string (⟨#[]⟩ : ByteArray), .nilFunc, .nilFunc] 299) w15 (fun b30 w31 =>
 doSt ((blk b30).add 0) (.string (⟨#[]⟩ : ByteArray)) w31 (fun w32 =>
 doSt ((blk b30).add 1) (.nilFunc) w32 (fun w33 =>
 doSt ((blk b30).add 2) (.nilFunc) w33 (fun w34 =>
 K6 (blk b30) false w34))))))))) (fun ch w => Kfn R ch [] w))
set_option maxRecDepth 100000 in
theorem sh215_ok (o_1 : Int) (key_2 : Int) {R : Ending → World → Prop} {w : World} : sh215 o_1 key_2 R w → Calls Tryz.prog 215 #[.int .u8 o_1, .int .i64 key_2] w R :=
  calls_of_eq (ann := fun _ => []) (fn := Tryz.f215) (c := bodyOf Tryz.f215) (args := #[.int .u8 o_1, .int .i64 key_2]) 400 follows_mixed Tryz.func215 (by kernel_rfl) (by kernel_rfl)
set_option maxRecDepth 100000 in
/-- joinery/split.where$1 -/
def sh216 (k_1 : Int) (x2 : Addr) (x3 : Addr) (R : Ending → World → Prop) (w : World) : Prop :=
 ∃ (x4 : Int), World.cell? w x2 = some (.int .u8 x4) ∧ (
 doCall Tryz.prog (.func (.func 215) #[] #[]) #[.int .u8 x4, .int .i64 k_1] w (retS (fun v7 w8 => ∃ (x5 : Int), ∃ (x6 : Int), v7 = (.tuple #[.int .u64 x5, .int .i64 x6] : Value) ∧ (
 ∃ (x9 : Int), World.cell? w8 x3 = some (.int .u64 x9) ∧ (
 doCall Tryz.prog (.func (.func 217) #[] #[]) #[.int .u64 x5, .int .u64 x9] w8 (retS (fun v11 w12 => ∃ (x10 : Int), v11 = (.int .i64 x10 : Value) ∧ (
 R (.returned (.int .i64 x10)) w12)) (fun ch w => Kfn R ch [] w))))) (fun ch w => Kfn R ch [] w)))
set_option maxRecDepth 100000 in
theorem sh216_ok (k_1 : Int) (x2 : Addr) (x3 : Addr) {R : Ending → World → Prop} {w : World} : sh216 k_1 x2 x3 R w → Calls Tryz.prog 216 #[.int .i64 k_1, .pointer (some x2), .pointer (some x3)] w R :=
  calls_of_eq (ann := fun _ => []) (fn := Tryz.f216) (c := bodyOf Tryz.f216) (args := #[.int .i64 k_1, .pointer (some x2), .pointer (some x3)]) 400 follows_mixed Tryz.func216 (by kernel_rfl) (by kernel_rfl)
set_option maxRecDepth 100000 in
/-- cmp.Compare[uint64] -/
def sh217 (x_1 : Int) (y_2 : Int) (R : Ending → World → Prop) (w : World) : Prop :=
 doCall Tryz.prog (.func (.func 264) #[] #[]) #[.int .u64 x_1] w (retS (fun v4 w5 => ∃ (x3 : Bool), v4 = (.bool x3 : Value) ∧ (
 doCall Tryz.prog (.func (.func 264) #[] #[]) #[.int .u64 y_2] w5 (retS (fun v7 w8 => ∃ (x6 : Bool), v7 = (.bool x6 : Value) ∧ (
 ifB x3 (
 ifB x6 (
 R (.returned (.int .i64 0)) w8) (
 R (.returned (.int .i64 (-1))) w8)) (
 ifB x6 (
 R (.returned (.int .i64 1)) w8) (
 ifB (decide ((x_1 : Int) < y_2)) (
 R (.returned (.int .i64 (-1))) w8) (
 ifB (decide ((x_1 : Int) > y_2)) (
 R (.returned (.int .i64 1)) w8) (
 R (.returned (.int .i64 0)) w8)))))) (fun ch w => Kfn R ch [] w)))) (fun ch w => Kfn R ch [] w))
set_option maxRecDepth 100000 in
theorem sh217_ok (x_1 : Int) (y_2 : Int) {R : Ending → World → Prop} {w : World} : sh217 x_1 y_2 R w → Calls Tryz.prog 217 #[.int .u64 x_1, .int .u64 y_2] w R :=
  calls_of_eq (ann := fun _ => []) (fn := Tryz.f217) (c := bodyOf Tryz.f217) (args := #[.int .u64 x_1, .int .u64 y_2]) 400 follows_mixed Tryz.func217 (by kernel_rfl) (by kernel_rfl)
set_option maxRecDepth 100000 in
/-- joinery/avljoin.Join -/
def sh218 (l_1 : Option Addr) (key_2 : Int) (val_3 : Int) (r_4 : Option Addr) (R : Ending → World → Prop) (w : World) : Prop :=
 doCall Tryz.prog (.func (.func 265) #[] #[]) #[.pointer none, .int .i64 key_2, .int .i64 val_3, .pointer none] w (retS (fun v6 w7 => ∃ (x5 : Option Addr), v6 = (.pointer x5 : Value) ∧ (
 doCall Tryz.prog (.func (.func 221) #[] #[]) #[.pointer l_1] w7 (retS (fun v9 w10 => ∃ (x8 : Int), v9 = (.int .i64 x8 : Value) ∧ (
 doCall Tryz.prog (.func (.func 221) #[] #[]) #[.pointer r_4] w10 (retS (fun v12 w13 => ∃ (x11 : Int), v12 = (.int .i64 x11 : Value) ∧ (
 ifB (decide ((x8 : Int) > (IntKind.wrap .i64 (x11 + 1)))) (
 doCall Tryz.prog (.func (.func 266) #[] #[]) #[] w13 (retS (fun v23 w24 => ∃ (xf14 : Fn), ∃ (xx15 : Array Value), ∃ (xc16 : Array Value), ∃ (xf17 : Fn), ∃ (xx18 : Array Value), ∃ (xc19 : Array Value), ∃ (xf20 : Fn), ∃ (xx21 : Array Value), ∃ (xc22 : Array Value), v23 = (.agg #[.func xf14 xx15 xc16, .func xf17 xx18 xc19, .func xf20 xx21 xc22] : Value) ∧ (
 doCall Tryz.prog (.func (.func 267) #[] #[]) #[.agg #[.func xf14 xx15 xc16, .func xf17 xx18 xc19, .func xf20 xx21 xc22], .pointer l_1, .pointer x5, .pointer r_4] w24 (retS (fun v26 w27 => ∃ (x25 : Option Addr), v26 = (.pointer x25 : Value) ∧ (
 R (.returned (.pointer x25)) w27)) (fun ch w => Kfn R ch [] w)))) (fun ch w => Kfn R ch [] w))) (
 ifB (decide ((x11 : Int) > (IntKind.wrap .i64 (x8 + 1)))) (
 doCall Tryz.prog (.func (.func 268) #[] #[]) #[] w13 (retS (fun v37 w38 => ∃ (xf28 : Fn), ∃ (xx29 : Array Value), ∃ (xc30 : Array Value), ∃ (xf31 : Fn), ∃ (xx32 : Array Value), ∃ (xc33 : Array Value), ∃ (xf34 : Fn), ∃ (xx35 : Array Value), ∃ (xc36 : Array Value), v37 = (.agg #[.func xf28 xx29 xc30, .func xf31 xx32 xc33, .func xf34 xx35 xc36] : Value) ∧ (
 doCall Tryz.prog (.func (.func 267) #[] #[]) #[.agg #[.func xf28 xx29 xc30, .func xf31 xx32 xc33, .func xf34 xx35 xc36], .pointer r_4, .pointer x5, .pointer l_1] w38 (retS (fun v40 w41 => ∃ (x39 : Option Addr), v40 = (.pointer x39 : Value) ∧ (
 R (.returned (.pointer x39)) w41)) (fun ch w => Kfn R ch [] w)))) (fun ch w => Kfn R ch [] w))) (
 doCall Tryz.prog (.func (.func 265) #[] #[]) #[.pointer l_1, .int .i64 key_2, .int .i64 val_3, .pointer r_4] w13 (retS (fun v43 w44 => ∃ (x42 : Option Addr), v43 = (.pointer x42 : Value) ∧ (
 R (.returned (.pointer x42)) w44)) (fun ch w => Kfn R ch [] w)))))) (fun ch w => Kfn R ch [] w)))) (fun ch w => Kfn R ch [] w)))) (fun ch w => Kfn R ch [] w))
set_option maxRecDepth 100000 in
theorem sh218_ok (l_1 : Option Addr) (key_2 : Int) (val_3 : Int) (r_4 : Option Addr) {R : Ending → World → Prop} {w : World} : sh218 l_1 key_2 val_3 r_4 R w → Calls Tryz.prog 218 #[.pointer l_1, .int .i64 key_2, .int .i64 val_3, .pointer r_4] w R :=
  calls_of_eq (ann := fun _ => []) (fn := Tryz.f218) (c := bodyOf Tryz.f218) (args := #[.pointer l_1, .int .i64 key_2, .int .i64 val_3, .pointer r_4]) 400 follows_mixed Tryz.func218 (by kernel_rfl) (by kernel_rfl)
set_option maxRecDepth 100000 in
/-- joinery/avl.Rank -/
def sh221 (t_1 : Option Addr) (R : Ending → World → Prop) (w : World) : Prop :=
 doCall Tryz.prog (.func (.func 196) #[] #[]) #[.pointer t_1] w (retS (fun v3 w4 => ∃ (x2 : Int), v3 = (.int .u64 x2 : Value) ∧ (
 R (.returned (.int .i64 (IntKind.wrap .i64 x2))) w4)) (fun ch w => Kfn R ch [] w))
set_option maxRecDepth 100000 in
theorem sh221_ok (t_1 : Option Addr) {R : Ending → World → Prop} {w : World} : sh221 t_1 R w → Calls Tryz.prog 221 #[.pointer t_1] w R :=
  calls_of_eq (ann := fun _ => []) (fn := Tryz.f221) (c := bodyOf Tryz.f221) (args := #[.pointer t_1]) 400 follows_mixed Tryz.func221 (by kernel_rfl) (by kernel_rfl)
set_option maxRecDepth 100000 in
/-- joinery/scheme.same -/
def sh223 (t_1 : Option Addr) (R : Ending → World → Prop) (w : World) : Prop :=
 R (.returned (.pointer t_1)) w
set_option maxRecDepth 100000 in
theorem sh223_ok (t_1 : Option Addr) {R : Ending → World → Prop} {w : World} : sh223 t_1 R w → Calls Tryz.prog 223 #[.pointer t_1] w R :=
  calls_of_eq (ann := fun _ => []) (fn := Tryz.f223) (c := bodyOf Tryz.f223) (args := #[.pointer t_1]) 400 follows_mixed Tryz.func223 (by kernel_rfl) (by kernel_rfl)
set_option maxRecDepth 100000 in
/-- joinery/rbjoin.Join -/
def sh224 (l_1 : Option Addr) (key_2 : Int) (val_3 : Int) (r_4 : Option Addr) (R : Ending → World → Prop) (w : World) : Prop :=
 doCall Tryz.prog (.func (.func 229) #[] #[]) #[.pointer l_1] w (retS (fun v6 w7 => ∃ (x5 : Option Addr), v6 = (.pointer x5 : Value) ∧ (
 doCall Tryz.prog (.func (.func 229) #[] #[]) #[.pointer r_4] w7 (retS (fun v9 w10 => ∃ (x8 : Option Addr), v9 = (.pointer x8 : Value) ∧ (
 doCall Tryz.prog (.func (.func 271) #[] #[]) #[.pointer none, .int .i64 key_2, .int .i64 val_3, .bool false, .pointer none] w10 (retS (fun v12 w13 => ∃ (x11 : Option Addr), v12 = (.pointer x11 : Value) ∧ (
 doCall Tryz.prog (.func (.func 272) #[] #[]) #[.pointer x5] w13 (retS (fun v15 w16 => ∃ (x14 : Int), v15 = (.int .i64 x14 : Value) ∧ (
 doCall Tryz.prog (.func (.func 272) #[] #[]) #[.pointer x8] w16 (retS (fun v18 w19 => ∃ (x17 : Int), v18 = (.int .i64 x17 : Value) ∧ (
 ifB (decide ((x14 : Int) > x17)) (
 doCall Tryz.prog (.func (.func 273) #[] #[]) #[.iface 341 (.agg #[]), .pointer x5, .pointer x11, .pointer x8] w19 (retS (fun v21 w22 => ∃ (x20 : Option Addr), v21 = (.pointer x20 : Value) ∧ (
 doCall Tryz.prog (.func (.func 229) #[] #[]) #[.pointer x20] w22 (retS (fun v24 w25 => ∃ (x23 : Option Addr), v24 = (.pointer x23 : Value) ∧ (
 R (.returned (.pointer x23)) w25)) (fun ch w => Kfn R ch [] w)))) (fun ch w => Kfn R ch [] w))) (
 ifB (decide ((x17 : Int) > x14)) (
 doCall Tryz.prog (.func (.func 273) #[] #[]) #[.iface 342 (.agg #[]), .pointer x8, .pointer x11, .pointer x5] w19 (retS (fun v27 w28 => ∃ (x26 : Option Addr), v27 = (.pointer x26 : Value) ∧ (
 doCall Tryz.prog (.func (.func 229) #[] #[]) #[.pointer x26] w28 (retS (fun v30 w31 => ∃ (x29 : Option Addr), v30 = (.pointer x29 : Value) ∧ (
 R (.returned (.pointer x29)) w31)) (fun ch w => Kfn R ch [] w)))) (fun ch w => Kfn R ch [] w))) (
 doCall Tryz.prog (.func (.func 271) #[] #[]) #[.pointer x5, .int .i64 key_2, .int .i64 val_3, .bool false, .pointer x8] w19 (retS (fun v33 w34 => ∃ (x32 : Option Addr), v33 = (.pointer x32 : Value) ∧ (
 R (.returned (.pointer x32)) w34)) (fun ch w => Kfn R ch [] w)))))) (fun ch w => Kfn R ch [] w)))) (fun ch w => Kfn R ch [] w)))) (fun ch w => Kfn R ch [] w)))) (fun ch w => Kfn R ch [] w)))) (fun ch w => Kfn R ch [] w))
set_option maxRecDepth 100000 in
theorem sh224_ok (l_1 : Option Addr) (key_2 : Int) (val_3 : Int) (r_4 : Option Addr) {R : Ending → World → Prop} {w : World} : sh224 l_1 key_2 val_3 r_4 R w → Calls Tryz.prog 224 #[.pointer l_1, .int .i64 key_2, .int .i64 val_3, .pointer r_4] w R :=
  calls_of_eq (ann := fun _ => []) (fn := Tryz.f224) (c := bodyOf Tryz.f224) (args := #[.pointer l_1, .int .i64 key_2, .int .i64 val_3, .pointer r_4]) 400 follows_mixed Tryz.func224 (by kernel_rfl) (by kernel_rfl)
set_option maxRecDepth 100000 in
/-- joinery/rb.Blacken -/
def sh229 (t_1 : Option Addr) (R : Ending → World → Prop) (w : World) : Prop :=
 doCall Tryz.prog (.func (.func 275) #[] #[]) #[.pointer t_1] w (retS (fun v3 w4 => ∃ (x2 : Bool), v3 = (.bool x2 : Value) ∧ (
 ifB (!x2) (
 R (.returned (.pointer t_1)) w4) (
 doCall Tryz.prog (.func (.func 123) #[] #[]) #[.pointer t_1] w4 (retS (fun v6 w7 => ∃ (x5 : Option Addr), v6 = (.pointer x5 : Value) ∧ (
 doCall Tryz.prog (.func (.func 108) #[] #[]) #[.pointer t_1] w7 (retS (fun v9 w10 => ∃ (x8 : Int), v9 = (.int .i64 x8 : Value) ∧ (
 doCall Tryz.prog (.func (.func 126) #[] #[]) #[.pointer t_1] w10 (retS (fun v12 w13 => ∃ (x11 : Int), v12 = (.int .i64 x11 : Value) ∧ (
 doCall Tryz.prog (.func (.func 196) #[] #[]) #[.pointer t_1] w13 (retS (fun v15 w16 => ∃ (x14 : Int), v15 = (.int .u64 x14 : Value) ∧ (
 doCall Tryz.prog (.func (.func 125) #[] #[]) #[.pointer t_1] w16 (retS (fun v18 w19 => ∃ (x17 : Option Addr), v18 = (.pointer x17 : Value) ∧ (
 doCall Tryz.prog (.func (.func 105) #[] #[]) #[.pointer x5, .int .i64 x8, .int .i64 x11, .int .u64 (IntKind.wrap .u64 (x14 + 1)), .pointer x17] w19 (retS (fun v21 w22 => ∃ (x20 : Option Addr), v21 = (.pointer x20 : Value) ∧ (
 R (.returned (.pointer x20)) w22)) (fun ch w => Kfn R ch [] w)))) (fun ch w => Kfn R ch [] w)))) (fun ch w => Kfn R ch [] w)))) (fun ch w => Kfn R ch [] w)))) (fun ch w => Kfn R ch [] w)))) (fun ch w => Kfn R ch [] w))))) (fun ch w => Kfn R ch [] w))
set_option maxRecDepth 100000 in
theorem sh229_ok (t_1 : Option Addr) {R : Ending → World → Prop} {w : World} : sh229 t_1 R w → Calls Tryz.prog 229 #[.pointer t_1] w R :=
  calls_of_eq (ann := fun _ => []) (fn := Tryz.f229) (c := bodyOf Tryz.f229) (args := #[.pointer t_1]) 400 follows_mixed Tryz.func229 (by kernel_rfl) (by kernel_rfl)
set_option maxRecDepth 100000 in
/-- joinery/wbjoin.Join -/
def sh230 (l_1 : Option Addr) (key_2 : Int) (val_3 : Int) (r_4 : Option Addr) (R : Ending → World → Prop) (w : World) : Prop :=
 doCall Tryz.prog (.func (.func 276) #[] #[]) #[.pointer none, .int .i64 key_2, .int .i64 val_3, .pointer none] w (retS (fun v6 w7 => ∃ (x5 : Option Addr), v6 = (.pointer x5 : Value) ∧ (
 doCall Tryz.prog (.func (.func 277) #[] #[]) #[.pointer l_1] w7 (retS (fun v9 w10 => ∃ (x8 : Int), v9 = (.int .i64 x8 : Value) ∧ (
 doCall Tryz.prog (.func (.func 277) #[] #[]) #[.pointer r_4] w10 (retS (fun v12 w13 => ∃ (x11 : Int), v12 = (.int .i64 x11 : Value) ∧ (
 ifB (decide ((x8 : Int) < x11)) (
 doCall Tryz.prog (.func (.func 278) #[] #[]) #[.int .i64 0, .pointer r_4, .pointer x5, .pointer l_1] w13 (retS (fun v15 w16 => ∃ (x14 : Option Addr), v15 = (.pointer x14 : Value) ∧ (
 R (.returned (.pointer x14)) w16)) (fun ch w => Kfn R ch [] w))) (
 doCall Tryz.prog (.func (.func 278) #[] #[]) #[.int .i64 1, .pointer l_1, .pointer x5, .pointer r_4] w13 (retS (fun v18 w19 => ∃ (x17 : Option Addr), v18 = (.pointer x17 : Value) ∧ (
 R (.returned (.pointer x17)) w19)) (fun ch w => Kfn R ch [] w))))) (fun ch w => Kfn R ch [] w)))) (fun ch w => Kfn R ch [] w)))) (fun ch w => Kfn R ch [] w))
set_option maxRecDepth 100000 in
theorem sh230_ok (l_1 : Option Addr) (key_2 : Int) (val_3 : Int) (r_4 : Option Addr) {R : Ending → World → Prop} {w : World} : sh230 l_1 key_2 val_3 r_4 R w → Calls Tryz.prog 230 #[.pointer l_1, .int .i64 key_2, .int .i64 val_3, .pointer r_4] w R :=
  calls_of_eq (ann := fun _ => []) (fn := Tryz.f230) (c := bodyOf Tryz.f230) (args := #[.pointer l_1, .int .i64 key_2, .int .i64 val_3, .pointer r_4]) 400 follows_mixed Tryz.func230 (by kernel_rfl) (by kernel_rfl)
set_option maxRecDepth 100000 in
/-- joinery/order.kinds -/
def sh235  (R : Ending → World → Prop) (w : World) : Prop :=
 doAl (.map #[] 0) w (fun b1 w2 =>
 doMu Tryz.prog 300 (.map (some b1)) (.int .u8 1) (.agg #[.string (⟨#[117, 112]⟩ : ByteArray), .func (.func 280) #[] #[], .func (.func 281) #[] #[]]) w2 (fun w3 =>
 doMu Tryz.prog 300 (.map (some b1)) (.int .u8 2) (.agg #[.string (⟨#[100, 111, 119, 110]⟩ : ByteArray), .func (.func 282) #[] #[], .func (.func 283) #[] #[]]) w3 (fun w4 =>
 doMu Tryz.prog 300 (.map (some b1)) (.int .u8 3) (.agg #[.string (⟨#[115, 105, 122, 101]⟩ : ByteArray), .func (.func 284) #[] #[], .func (.func 285) #[] #[]]) w4 (fun w5 =>
 doMu Tryz.prog 300 (.map (some b1)) (.int .u8 4) (.agg #[.string (⟨#[98, 105, 116, 115]⟩ : ByteArray), .func (.func 286) #[] #[], .func (.func 288) #[] #[]]) w5 (fun w6 =>
 doMu Tryz.prog 300 (.map (some b1)) (.int .u8 5) (.agg #[.string (⟨#[101, 118, 101, 110]⟩ : ByteArray), .func (.func 289) #[] #[], .func (.func 290) #[] #[]]) w6 (fun w7 =>
 doMu Tryz.prog 300 (.map (some b1)) (.int .u8 6) (.agg #[.string (⟨#[108, 111, 119]⟩ : ByteArray), .func (.func 291) #[] #[], .func (.func 292) #[] #[]]) w7 (fun w8 =>
 doMu Tryz.prog 300 (.map (some b1)) (.int .u8 7) (.agg #[.string (⟨#[109, 105, 120]⟩ : ByteArray), .func (.func 293) #[] #[], .func (.func 294) #[] #[]]) w8 (fun w9 =>
 R (.returned (.map (some b1))) w9))))))))
set_option maxRecDepth 100000 in
theorem sh235_ok  {R : Ending → World → Prop} {w : World} : sh235  R w → Calls Tryz.prog 235 #[] w R :=
  calls_of_eq (ann := fun _ => []) (fn := Tryz.f235) (c := bodyOf Tryz.f235) (args := #[]) 400 follows_mixed Tryz.func235 (by kernel_rfl) (by kernel_rfl)
set_option maxRecDepth 100000 in
/-- slices.stableCmpFunc[joinery/api.Pair] -/
def sh236 (data_p1 : Option Addr) (data_n2 : Nat) (data_c3 : Nat) (n_4 : Int) (cmp_f5 : Fn) (cmp_x6 : Array Value) (cmp_c7 : Array Value) (R : Ending → World → Prop) (w : World) : Prop :=
 ∃ (I8 : List Value → World → Prop) (μ9 : List Value → World → Nat), I8 [.int .i64 0, .int .i64 20] w ∧ (∀ (a_12 : Int), ∀ (b_13 : Int), ∀ (_j10 : Nat → Value) (w11 : World), I8 [.int .i64 a_12, .int .i64 b_13] w11 → (
 ifB (decide ((b_13 : Int) ≤ n_4)) (
 doCall Tryz.prog (.func (.func 296) #[] #[]) #[.slice data_p1 data_n2 data_c3, .int .i64 a_12, .int .i64 b_13, .func cmp_f5 cmp_x6 cmp_c7] w11 (retS (fun v14 w15 => v14 = (.tuple #[] : Value) ∧ (
 I8 [.int .i64 b_13, .int .i64 (IntKind.wrap .i64 (b_13 + 20))] w15 ∧ μ9 [.int .i64 b_13, .int .i64 (IntKind.wrap .i64 (b_13 + 20))] w15 < μ9 [.int .i64 a_12, .int .i64 b_13] w11)) (fun ch w => Kfn R ch [] w))) (
 doCall Tryz.prog (.func (.func 296) #[] #[]) #[.slice data_p1 data_n2 data_c3, .int .i64 a_12, .int .i64 n_4, .func cmp_f5 cmp_x6 cmp_c7] w11 (retS (fun v16 w17 => v16 = (.tuple #[] : Value) ∧ (
 ∃ (I18 : List Value → World → Prop) (μ19 : List Value → World → Nat), I18 [.int .i64 20] w17 ∧ (∀ (blockSize_22 : Int), ∀ (_j20 : Nat → Value) (w21 : World), I18 [.int .i64 blockSize_22] w21 → (
 ifB (decide ((blockSize_22 : Int) < n_4)) (
 ∃ (I23 : List Value → World → Prop) (μ24 : List Value → World → Nat), I23 [.int .i64 0, .int .i64 (IntKind.wrap .i64 (2 * blockSize_22))] w21 ∧ (∀ (a_27 : Int), ∀ (b_28 : Int), ∀ (_j25 : Nat → Value) (w26 : World), I23 [.int .i64 a_27, .int .i64 b_28] w26 → (
 ifB (decide ((b_28 : Int) ≤ n_4)) (
 doCall Tryz.prog (.func (.func 297) #[] #[]) #[.slice data_p1 data_n2 data_c3, .int .i64 a_27, .int .i64 (IntKind.wrap .i64 (a_27 + blockSize_22)), .int .i64 b_28, .func cmp_f5 cmp_x6 cmp_c7] w26 (retS (fun v29 w30 => v29 = (.tuple #[] : Value) ∧ (
 I23 [.int .i64 b_28, .int .i64 (IntKind.wrap .i64 (b_28 + (IntKind.wrap .i64 (2 * blockSize_22))))] w30 ∧ μ24 [.int .i64 b_28, .int .i64 (IntKind.wrap .i64 (b_28 + (IntKind.wrap .i64 (2 * blockSize_22))))] w30 < μ24 [.int .i64 a_27, .int .i64 b_28] w26)) (fun ch w => Kfn R ch [] w))) (
 let K32 : World → Prop := fun (w31 : World) => 
 I18 [.int .i64 (IntKind.wrap .i64 (blockSize_22 * 2))] w31 ∧ μ19 [.int .i64 (IntKind.wrap .i64 (blockSize_22 * 2))] w31 < μ19 [.int .i64 blockSize_22] w21
 ifB (decide (((IntKind.wrap .i64 (a_27 + blockSize_22)) : Int) < n_4)) (
 doCall Tryz.prog (.func (.func 297) #[] #[]) #[.slice data_p1 data_n2 data_c3, .int .i64 a_27, .int .i64 (IntKind.wrap .i64 (a_27 + blockSize_22)), .int .i64 n_4, .func cmp_f5 cmp_x6 cmp_c7] w26 (retS (fun v33 w34 => v33 = (.tuple #[] : Value) ∧ (
 K32 w34)) (fun ch w => Kfn R ch [] w))) (
 K32 w26))))) (
 R (.returned (.tuple #[])) w21))))) (fun ch w => Kfn R ch [] w)))))
set_option maxRecDepth 100000 in
theorem sh236_ok (data_p1 : Option Addr) (data_n2 : Nat) (data_c3 : Nat) (n_4 : Int) (cmp_f5 : Fn) (cmp_x6 : Array Value) (cmp_c7 : Array Value) {R : Ending → World → Prop} {w : World} : sh236 data_p1 data_n2 data_c3 n_4 cmp_f5 cmp_x6 cmp_c7 R w → Calls Tryz.prog 236 #[.slice data_p1 data_n2 data_c3, .int .i64 n_4, .func cmp_f5 cmp_x6 cmp_c7] w R :=
  calls_of_eq (ann := fun i => if i = 4 then [(7, .int .i64 0), (8, .int .i64 0)] else if i = 2 then [(6, .int .i64 0)] else if i = 0 then [(7, .int .i64 0), (8, .int .i64 0)] else []) (fn := Tryz.f236) (c := bodyOf Tryz.f236) (args := #[.slice data_p1 data_n2 data_c3, .int .i64 n_4, .func cmp_f5 cmp_x6 cmp_c7]) 400 follows_mixed Tryz.func236 (by kernel_rfl) (by kernel_rfl)
end Go.Proofs.YtlddfgfmkapoiaaGreat

namespace Go.Proofs.YtlddfgfmkapoiaaGreat
open Go Go.Sh
set_option maxRecDepth 100000 in
/-- joinery/look.pairs$1 -/
def sh240 (yield_f1 : Fn) (yield_x2 : Array Value) (yield_c3 : Array Value) (x4 : Addr) (R : Ending → World → Prop) (w : World) : Prop :=
 doAl (.cells #[.func yield_f1 yield_x2 yield_c3] 307) w (fun b5 w6 =>
 ∃ (xf7 : Fn), ∃ (xx8 : Array Value), ∃ (xc9 : Array Value), World.cell? w6 x4 = some (.func xf7 xx8 xc9) ∧ (
 rfW Tryz.prog (.func xf7 xx8 xc9) (mkLoop #[.func yield_f1 yield_x2 yield_c3, .pointer (some x4), .pointer (some (blk b5)), undef, .func xf7 xx8 xc9, undef, undef, undef, undef, undef, undef, undef, undef] (rfOf Tryz.f240 0).1 (rfOf Tryz.f240 0).2.1 (rfOf Tryz.f240 0).2.2)
 (fun w10 =>
 w10.heap[w6.heap.size]? = some (.deferred (some [])) ∧ (
 let w11 : World := w10.putObj w6.heap.size (.deferred none)
 R (.returned (.tuple #[])) w11))
 (fun w12 =>
 w12.heap[w6.heap.size]? = some (.deferred (some [])) ∧ (
 let w13 : World := w12.putObj w6.heap.size (.deferred none)
 R (.returned (.tuple #[])) w13))
 [] w6))
set_option maxRecDepth 100000 in
theorem sh240_ok (yield_f1 : Fn) (yield_x2 : Array Value) (yield_c3 : Array Value) (x4 : Addr) {R : Ending → World → Prop} {w : World} : sh240 yield_f1 yield_x2 yield_c3 x4 R w → Calls Tryz.prog 240 #[.func yield_f1 yield_x2 yield_c3, .pointer (some x4)] w R :=
  calls_of_eq (ann := fun _ => []) (fn := Tryz.f240) (c := bodyOf Tryz.f240) (args := #[.func yield_f1 yield_x2 yield_c3, .pointer (some x4)]) 400 follows_mixed Tryz.func240 (by kernel_rfl) (by kernel_rfl)
set_option maxRecDepth 100000 in
/-- joinery/look.pairs$1, a round of loop 0 -/
def sh240_0 (yield_1 : Addr) (y14 : Option Addr) (l : Nat) (R : Ending → World → Prop) (w : World) : Prop :=
 ∃ (r15 : Loop), w.heap[l]? = some (.loop r15) ∧ r15.state = .ready ∧ (
 let w16 : World := w.putObj l (.loop { r15 with state := .busy })
 doDr w16 (fun w18 =>
 ∃ (C17 : World → Prop), C17 w18 ∧ (
 ∃ (xf19 : Fn), ∃ (xx20 : Array Value), ∃ (xc21 : Array Value), (∀ w, C17 w → World.cell? w yield_1 = some (.func xf19 xx20 xc21)) ∧ (
 doCall Tryz.prog (.func (.func 108) #[] #[]) #[.pointer y14] w18 (retS (fun v23 w24 => ∃ (x22 : Int), v23 = (.int .i64 x22 : Value) ∧ (
 C17 w24 ∧ (
 doCall Tryz.prog (.func (.func 126) #[] #[]) #[.pointer y14] w24 (retS (fun v26 w27 => ∃ (x25 : Int), v26 = (.int .i64 x25 : Value) ∧ (
 C17 w27 ∧ (
 doCall Tryz.prog (.func xf19 xx20 xc21) #[.int .i64 x22, .int .i64 x25] w27 (retS (fun v29 w30 => ∃ (x28 : Bool), v29 = (.bool x28 : Value) ∧ (
 ifB (!x28) (
 ∃ (r31 : Loop), w30.heap[l]? = some (.loop r31) ∧ R (.returned (.bool false)) (w30.putObj l (.loop { r31 with state := .done, pending := some .ret }))) (
 ∃ (r32 : Loop), w30.heap[l]? = some (.loop r32) ∧ R (.returned (.bool true)) (w30.putObj l (.loop { r32 with state := .ready, pending := none }))))) (fun _ _ => False))))) (fun _ _ => False))))) (fun _ _ => False))))))
set_option maxRecDepth 100000 in
theorem sh240_0_ok {dd2 : Value} {dd3 : Value} {dd4 : Value} {dd5 : Value} {dd6 : Value} {dd7 : Value} {dd8 : Value} {dd9 : Value} {dd10 : Value} {dd11 : Value} {dd12 : Value} {dd13 : Value} {yield_1 : Addr} {y14 : Option Addr} {l fn D : Nat} {R : Ending → World → Prop} {w : World} (hl : w.heap[l]? = some (.loop (mkLoop #[dd2, dd3, .pointer (some yield_1), dd4, dd5, dd6, dd7, dd8, dd9, dd10, dd11, dd12, dd13] (rfOf Tryz.f240 0).1 (rfOf Tryz.f240 0).2.1 (rfOf Tryz.f240 0).2.2 fn D))) : sh240_0 yield_1 y14 l R w → doCall Tryz.prog (.func (.yield l) #[] #[]) #[.pointer y14] w R :=
  fun h => ⟨round_of_eq (ann := fun _ => []) 400 follows_mixed hl (by kernel_rfl) (by kernel_rfl) h⟩
set_option maxRecDepth 100000 in
/-- joinery/look.goes -/
def sh241 (t_1 : Option Addr) (ahead_f2 : Fn) (ahead_x3 : Array Value) (ahead_c4 : Array Value) (behind_f5 : Fn) (behind_x6 : Array Value) (behind_c7 : Array Value) (R : Ending → World → Prop) (w : World) : Prop :=
 doAl (.cells #[.pointer t_1] 35) w (fun b8 w9 =>
 doAl (.cells #[.func ahead_f2 ahead_x3 ahead_c4] 195) w9 (fun b10 w11 =>
 doAl (.cells #[.func behind_f5 behind_x6 behind_c7] 195) w11 (fun b12 w13 =>
 R (.returned (.func (.func 301) #[] #[.pointer (some (blk b10)), .pointer (some (blk b12)), .pointer (some (blk b8))])) w13)))
set_option maxRecDepth 100000 in
theorem sh241_ok (t_1 : Option Addr) (ahead_f2 : Fn) (ahead_x3 : Array Value) (ahead_c4 : Array Value) (behind_f5 : Fn) (behind_x6 : Array Value) (behind_c7 : Array Value) {R : Ending → World → Prop} {w : World} : sh241 t_1 ahead_f2 ahead_x3 ahead_c4 behind_f5 behind_x6 behind_c7 R w → Calls Tryz.prog 241 #[.pointer t_1, .func ahead_f2 ahead_x3 ahead_c4, .func behind_f5 behind_x6 behind_c7] w R :=
  calls_of_eq (ann := fun _ => []) (fn := Tryz.f241) (c := bodyOf Tryz.f241) (args := #[.pointer t_1, .func ahead_f2 ahead_x3 ahead_c4, .func behind_f5 behind_x6 behind_c7]) 400 follows_mixed Tryz.func241 (by kernel_rfl) (by kernel_rfl)
set_option maxRecDepth 100000 in
/-- joinery/row.two$1 -/
def sh242 (yield_f1 : Fn) (yield_x2 : Array Value) (yield_c3 : Array Value) (x4 : Addr) (R : Ending → World → Prop) (w : World) : Prop :=
 ∃ (xp5 : Option Addr), ∃ (xn6 : Nat), ∃ (xc7 : Nat), World.cell? w x4 = some (.slice xp5 xn6 xc7) ∧ (
 ∃ (I8 : List Value → World → Prop) (μ9 : List Value → World → Nat), I8 [.int .i64 0] w ∧ (∀ (x12 : Int), ∀ (_j10 : Nat → Value) (w11 : World), I8 [.int .i64 x12] w11 → (
 ifB (decide ((x12 : Int) < ((xn6 : Nat) : Int))) (
 let K14 : World → Prop := fun (w13 : World) => 
 I8 [.int .i64 (IntKind.wrap .i64 (x12 + 1))] w13 ∧ μ9 [.int .i64 (IntKind.wrap .i64 (x12 + 1))] w13 < μ9 [.int .i64 x12] w11
 let K17 : Bool → World → Prop := fun (x15 : Bool) (w16 : World) => 
 ifB x15 (
 R (.returned (.tuple #[])) w16) (
 K14 w16)
 doDr w11 (fun w19 =>
 ∃ (C18 : World → Prop), C18 w19 ∧ (
 ifB (decide ((x12 : Int) > 0)) (
 ∃ (xp20 : Option Addr), ∃ (xn21 : Nat), ∃ (xc22 : Nat), (∀ w, C18 w → World.cell? w x4 = some (.slice xp20 xn21 xc22)) ∧ (
 doIx xp20 xn21 2 (IntKind.wrap .i64 (x12 - 1)) (fun a23 =>
 ∃ (x24 : Int), (∀ w, C18 w → World.cell? w (a23.add 0) = some (.int .i64 x24)) ∧ (
 ∃ (x25 : Int), (∀ w, C18 w → World.cell? w (a23.add 1) = some (.int .i64 x25)) ∧ (
 ∃ (xp26 : Option Addr), ∃ (xn27 : Nat), ∃ (xc28 : Nat), (∀ w, C18 w → World.cell? w x4 = some (.slice xp26 xn27 xc28)) ∧ (
 doIx xp26 xn27 2 (x12) (fun a29 =>
 ∃ (x30 : Int), (∀ w, C18 w → World.cell? w (a29.add 0) = some (.int .i64 x30)) ∧ (
 ∃ (x31 : Int), (∀ w, C18 w → World.cell? w (a29.add 1) = some (.int .i64 x31)) ∧ (
 doCall Tryz.prog (.func yield_f1 yield_x2 yield_c3) #[.agg #[.int .i64 x24, .int .i64 x25], .agg #[.int .i64 x30, .int .i64 x31]] w19 (retS (fun v33 w34 => ∃ (x32 : Bool), v33 = (.bool x32 : Value) ∧ (
 C18 w34 ∧ (
 K17 (!x32) w34))) (fun ch w => Kfn R ch [] w))))))))))) (
 K14 w19)))) (
 R (.returned (.tuple #[])) w11))))
set_option maxRecDepth 100000 in
theorem sh242_ok (yield_f1 : Fn) (yield_x2 : Array Value) (yield_c3 : Array Value) (x4 : Addr) {R : Ending → World → Prop} {w : World} : sh242 yield_f1 yield_x2 yield_c3 x4 R w → Calls Tryz.prog 242 #[.func yield_f1 yield_x2 yield_c3, .pointer (some x4)] w R :=
  calls_of_eq (ann := fun i => if i = 0 then [(6, .int .i64 0)] else []) (fn := Tryz.f242) (c := bodyOf Tryz.f242) (args := #[.func yield_f1 yield_x2 yield_c3, .pointer (some x4)]) 400 follows_mixed Tryz.func242 (by kernel_rfl) (by kernel_rfl)
set_option maxRecDepth 100000 in
/-- (*joinery/scheme.Scheme).face$1 -/
def sh245 (x1 : Addr) (R : Ending → World → Prop) (w : World) : Prop :=
 doDr w (fun w3 =>
 ∃ (C2 : World → Prop), C2 w3 ∧ (
 ∃ (x4 : Option Addr), (∀ w, C2 w → World.cell? w x1 = some (.pointer x4)) ∧ (
 ∃ (x5 : Option Addr), (∀ w, C2 w → World.cell? w x1 = some (.pointer x5)) ∧ (
 ∃ (q6 : Addr), x5 = some q6 ∧ (
 ∃ (x7 : Int), (∀ w, C2 w → World.cell? w (q6.add 0) = some (.int .u8 x7)) ∧ (
 doCall Tryz.prog (.func (.func 167) #[] #[]) #[.int .u8 x7] w3 (retS (fun v9 w10 => ∃ (x8 : Value), v9 = (x8 : Value) ∧ (
 C2 w10 ∧ (
 doGo Tryz.prog (.fn (.method "joinery/scheme.faces") #[]) #[x8] w10 (retS (fun v31 w32 => ∃ (x11 : ByteArray), ∃ (xf12 : Fn), ∃ (xx13 : Array Value), ∃ (xc14 : Array Value), ∃ (xf15 : Fn), ∃ (xx16 : Array Value), ∃ (xc17 : Array Value), ∃ (xf18 : Fn), ∃ (xx19 : Array Value), ∃ (xc20 : Array Value), ∃ (xf21 : Fn), ∃ (xx22 : Array Value), ∃ (xc23 : Array Value), ∃ (xf24 : Fn), ∃ (xx25 : Array Value), ∃ (xc26 : Array Value), ∃ (xf27 : Fn), ∃ (xx28 : Array Value), ∃ (xc29 : Array Value), ∃ (x30 : Bool), v31 = (.agg #[.string x11, .func xf12 xx13 xc14, .func xf15 xx16 xc17, .func xf18 xx19 xc20, .func xf21 xx22 xc23, .func xf24 xx25 xc26, .func xf27 xx28 xc29, .bool x30] : Value) ∧ (
 C2 w32 ∧ (
 ∃ (q33 : Addr), x4 = some q33 ∧ (
 doSt ((q33.add 4).add 0) (.string x11) w32 (fun w34 =>
 doSt ((q33.add 4).add 1) (.func xf12 xx13 xc14) w34 (fun w35 =>
 doSt ((q33.add 4).add 2) (.func xf15 xx16 xc17) w35 (fun w36 =>
 doSt ((q33.add 4).add 3) (.func xf18 xx19 xc20) w36 (fun w37 =>
 doSt ((q33.add 4).add 4) (.func xf21 xx22 xc23) w37 (fun w38 =>
 doSt ((q33.add 4).add 5) (.func xf24 xx25 xc26) w38 (fun w39 =>
 doSt ((q33.add 4).add 6) (.func xf27 xx28 xc29) w39 (fun w40 =>
 doSt ((q33.add 4).add 7) (.bool x30) w40 (fun w41 =>
 R (.returned (.tuple #[])) w41)))))))))))) (fun ch w => Kfn R ch [] w))))) (fun ch w => Kfn R ch [] w))))))))
set_option maxRecDepth 100000 in
theorem sh245_ok (x1 : Addr) {R : Ending → World → Prop} {w : World} : sh245 x1 R w → Calls Tryz.prog 245 #[.pointer (some x1)] w R :=
  calls_of_eq (ann := fun _ => []) (fn := Tryz.f245) (c := bodyOf Tryz.f245) (args := #[.pointer (some x1)]) 400 follows_mixed Tryz.func245 (by kernel_rfl) (by kernel_rfl)
set_option maxRecDepth 100000 in
/-- joinery/sound.beads$1 -/
def sh247 (yield_f1 : Fn) (yield_x2 : Array Value) (yield_c3 : Array Value) (x4 : Addr) (x5 : Addr) (R : Ending → World → Prop) (w : World) : Prop :=
 doAl (.cells #[.func yield_f1 yield_x2 yield_c3] 317) w (fun b6 w7 =>
 doAl (.cells #[.nilFunc] 318) w7 (fun b8 w9 =>
 doSt ((blk b8).add 0) (.func (.func 248) #[] #[.pointer (some x4), .pointer (some (blk b6)), .pointer (some (blk b8))]) w9 (fun w10 =>
 ∃ (xf11 : Fn), ∃ (xx12 : Array Value), ∃ (xc13 : Array Value), World.cell? w10 (blk b8) = some (.func xf11 xx12 xc13) ∧ (
 ∃ (x14 : Option Addr), World.cell? w10 x5 = some (.pointer x14) ∧ (
 doCall Tryz.prog (.func xf11 xx12 xc13) #[.pointer x14, .func (.func 251) #[] #[]] w10 (retS (fun v16 w17 => ∃ (x15 : Bool), v16 = (.bool x15 : Value) ∧ (
 R (.returned (.tuple #[])) w17)) (fun ch w => Kfn R ch [] w)))))))
set_option maxRecDepth 100000 in
theorem sh247_ok (yield_f1 : Fn) (yield_x2 : Array Value) (yield_c3 : Array Value) (x4 : Addr) (x5 : Addr) {R : Ending → World → Prop} {w : World} : sh247 yield_f1 yield_x2 yield_c3 x4 x5 R w → Calls Tryz.prog 247 #[.func yield_f1 yield_x2 yield_c3, .pointer (some x4), .pointer (some x5)] w R :=
  calls_of_eq (ann := fun _ => []) (fn := Tryz.f247) (c := bodyOf Tryz.f247) (args := #[.func yield_f1 yield_x2 yield_c3, .pointer (some x4), .pointer (some x5)]) 400 follows_mixed Tryz.func247 (by kernel_rfl) (by kernel_rfl)
set_option maxRecDepth 100000 in
/-- joinery/sound.beads$1$1 -/
def sh248 (n_1 : Option Addr) (may_f2 : Fn) (may_x3 : Array Value) (may_c4 : Array Value) (x5 : Addr) (x6 : Addr) (x7 : Addr) (R : Ending → World → Prop) (w : World) : Prop :=
 doAl (.cells #[.pointer n_1] 35) w (fun b8 w9 =>
 doAl (.cells #[.func may_f2 may_x3 may_c4] 319) w9 (fun b10 w11 =>
 ∃ (x12 : Option Addr), World.cell? w11 (blk b8) = some (.pointer x12) ∧ (
 ifB ((x12).isNone) (
 R (.returned (.bool true)) w11) (
 let K15 : Bool → World → Prop := fun (x13 : Bool) (w14 : World) => 
 R (.returned (.bool x13)) w14
 doDr w11 (fun w17 =>
 ∃ (C16 : World → Prop), C16 w17 ∧ (
 ∃ (xf18 : Fn), ∃ (xx19 : Array Value), ∃ (xc20 : Array Value), (∀ w, C16 w → World.cell? w x6 = some (.func xf18 xx19 xc20)) ∧ (
 ∃ (x21 : Option Addr), (∀ w, C16 w → World.cell? w (blk b8) = some (.pointer x21)) ∧ (
 ∃ (xf22 : Fn), ∃ (xx23 : Array Value), ∃ (xc24 : Array Value), (∀ w, C16 w → World.cell? w (blk b10) = some (.func xf22 xx23 xc24)) ∧ (
 ∃ (x25 : Option Addr), (∀ w, C16 w → World.cell? w (blk b8) = some (.pointer x25)) ∧ (
 doCall Tryz.prog (.func (.func 108) #[] #[]) #[.pointer x25] w17 (retS (fun v27 w28 => ∃ (x26 : Int), v27 = (.int .i64 x26 : Value) ∧ (
 C16 w28 ∧ (
 doCall Tryz.prog (.func xf22 xx23 xc24) #[.int .i64 x26] w28 (retS (fun v30 w31 => ∃ (x29 : Bool), v30 = (.bool x29 : Value) ∧ (
 C16 w31 ∧ (
 doCall Tryz.prog (.func xf18 xx19 xc20) #[.pointer x21, .bool (!x29)] w31 (retS (fun v33 w34 => ∃ (x32 : Bool), v33 = (.bool x32 : Value) ∧ (
 C16 w34 ∧ (
 ifB x32 (
 ∃ (xf35 : Fn), ∃ (xx36 : Array Value), ∃ (xc37 : Array Value), (∀ w, C16 w → World.cell? w x7 = some (.func xf35 xx36 xc37)) ∧ (
 ∃ (x38 : Option Addr), (∀ w, C16 w → World.cell? w (blk b8) = some (.pointer x38)) ∧ (
 doCall Tryz.prog (.func (.func 123) #[] #[]) #[.pointer x38] w34 (retS (fun v40 w41 => ∃ (x39 : Option Addr), v40 = (.pointer x39 : Value) ∧ (
 C16 w41 ∧ (
 doCall Tryz.prog (.func xf35 xx36 xc37) #[.pointer x39, .func (.func 249) #[] #[.pointer (some (blk b10)), .pointer (some x5), .pointer (some (blk b8))]] w41 (retS (fun v43 w44 => ∃ (x42 : Bool), v43 = (.bool x42 : Value) ∧ (
 C16 w44 ∧ (
 ifB x42 (
 ∃ (xf45 : Fn), ∃ (xx46 : Array Value), ∃ (xc47 : Array Value), (∀ w, C16 w → World.cell? w x7 = some (.func xf45 xx46 xc47)) ∧ (
 ∃ (x48 : Option Addr), (∀ w, C16 w → World.cell? w (blk b8) = some (.pointer x48)) ∧ (
 doCall Tryz.prog (.func (.func 125) #[] #[]) #[.pointer x48] w44 (retS (fun v50 w51 => ∃ (x49 : Option Addr), v50 = (.pointer x49 : Value) ∧ (
 C16 w51 ∧ (
 doCall Tryz.prog (.func xf45 xx46 xc47) #[.pointer x49, .func (.func 250) #[] #[.pointer (some (blk b10)), .pointer (some x5), .pointer (some (blk b8))]] w51 (retS (fun v53 w54 => ∃ (x52 : Bool), v53 = (.bool x52 : Value) ∧ (
 C16 w54 ∧ (
 K15 x52 w54))) (fun ch w => Kfn R ch [] w))))) (fun ch w => Kfn R ch [] w))))) (
 R (.returned (.bool false)) w44)))) (fun ch w => Kfn R ch [] w))))) (fun ch w => Kfn R ch [] w))))) (
 R (.returned (.bool false)) w34)))) (fun ch w => Kfn R ch [] w))))) (fun ch w => Kfn R ch [] w))))) (fun ch w => Kfn R ch [] w))))))))))))
set_option maxRecDepth 100000 in
theorem sh248_ok (n_1 : Option Addr) (may_f2 : Fn) (may_x3 : Array Value) (may_c4 : Array Value) (x5 : Addr) (x6 : Addr) (x7 : Addr) {R : Ending → World → Prop} {w : World} : sh248 n_1 may_f2 may_x3 may_c4 x5 x6 x7 R w → Calls Tryz.prog 248 #[.pointer n_1, .func may_f2 may_x3 may_c4, .pointer (some x5), .pointer (some x6), .pointer (some x7)] w R :=
  calls_of_eq (ann := fun _ => []) (fn := Tryz.f248) (c := bodyOf Tryz.f248) (args := #[.pointer n_1, .func may_f2 may_x3 may_c4, .pointer (some x5), .pointer (some x6), .pointer (some x7)]) 400 follows_mixed Tryz.func248 (by kernel_rfl) (by kernel_rfl)
set_option maxRecDepth 100000 in
/-- joinery/sound.beads$1$1$1 -/
def sh249 (key_1 : Int) (x2 : Addr) (x3 : Addr) (x4 : Addr) (R : Ending → World → Prop) (w : World) : Prop :=
 let K7 : Bool → World → Prop := fun (x5 : Bool) (w6 : World) => 
 R (.returned (.bool x5)) w6
 doDr w (fun w9 =>
 ∃ (C8 : World → Prop), C8 w9 ∧ (
 ∃ (xf10 : Fn), ∃ (xx11 : Array Value), ∃ (xc12 : Array Value), (∀ w, C8 w → World.cell? w x2 = some (.func xf10 xx11 xc12)) ∧ (
 doCall Tryz.prog (.func xf10 xx11 xc12) #[.int .i64 key_1] w9 (retS (fun v14 w15 => ∃ (x13 : Bool), v14 = (.bool x13 : Value) ∧ (
 C8 w15 ∧ (
 ifB x13 (
 ∃ (x16 : Int), (∀ w, C8 w → World.cell? w x3 = some (.int .u8 x16)) ∧ (
 ∃ (x17 : Option Addr), (∀ w, C8 w → World.cell? w x4 = some (.pointer x17)) ∧ (
 doCall Tryz.prog (.func (.func 108) #[] #[]) #[.pointer x17] w15 (retS (fun v19 w20 => ∃ (x18 : Int), v19 = (.int .i64 x18 : Value) ∧ (
 C8 w20 ∧ (
 doCall Tryz.prog (.func (.func 176) #[] #[]) #[.int .u8 x16, .int .i64 key_1, .int .i64 x18] w20 (retS (fun v22 w23 => ∃ (x21 : Int), v22 = (.int .i64 x21 : Value) ∧ (
 C8 w23 ∧ (
 K7 (decide ((x21 : Int) < 0)) w23))) (fun ch w => Kfn R ch [] w))))) (fun ch w => Kfn R ch [] w))))) (
 R (.returned (.bool false)) w15)))) (fun ch w => Kfn R ch [] w)))))
set_option maxRecDepth 100000 in
theorem sh249_ok (key_1 : Int) (x2 : Addr) (x3 : Addr) (x4 : Addr) {R : Ending → World → Prop} {w : World} : sh249 key_1 x2 x3 x4 R w → Calls Tryz.prog 249 #[.int .i64 key_1, .pointer (some x2), .pointer (some x3), .pointer (some x4)] w R :=
  calls_of_eq (ann := fun _ => []) (fn := Tryz.f249) (c := bodyOf Tryz.f249) (args := #[.int .i64 key_1, .pointer (some x2), .pointer (some x3), .pointer (some x4)]) 400 follows_mixed Tryz.func249 (by kernel_rfl) (by kernel_rfl)
set_option maxRecDepth 100000 in
/-- joinery/sound.beads$1$1$2 -/
def sh250 (key_1 : Int) (x2 : Addr) (x3 : Addr) (x4 : Addr) (R : Ending → World → Prop) (w : World) : Prop :=
 let K7 : Bool → World → Prop := fun (x5 : Bool) (w6 : World) => 
 R (.returned (.bool x5)) w6
 doDr w (fun w9 =>
 ∃ (C8 : World → Prop), C8 w9 ∧ (
 ∃ (xf10 : Fn), ∃ (xx11 : Array Value), ∃ (xc12 : Array Value), (∀ w, C8 w → World.cell? w x2 = some (.func xf10 xx11 xc12)) ∧ (
 doCall Tryz.prog (.func xf10 xx11 xc12) #[.int .i64 key_1] w9 (retS (fun v14 w15 => ∃ (x13 : Bool), v14 = (.bool x13 : Value) ∧ (
 C8 w15 ∧ (
 ifB x13 (
 ∃ (x16 : Int), (∀ w, C8 w → World.cell? w x3 = some (.int .u8 x16)) ∧ (
 ∃ (x17 : Option Addr), (∀ w, C8 w → World.cell? w x4 = some (.pointer x17)) ∧ (
 doCall Tryz.prog (.func (.func 108) #[] #[]) #[.pointer x17] w15 (retS (fun v19 w20 => ∃ (x18 : Int), v19 = (.int .i64 x18 : Value) ∧ (
 C8 w20 ∧ (
 doCall Tryz.prog (.func (.func 176) #[] #[]) #[.int .u8 x16, .int .i64 key_1, .int .i64 x18] w20 (retS (fun v22 w23 => ∃ (x21 : Int), v22 = (.int .i64 x21 : Value) ∧ (
 C8 w23 ∧ (
 K7 (decide ((x21 : Int) > 0)) w23))) (fun ch w => Kfn R ch [] w))))) (fun ch w => Kfn R ch [] w))))) (
 R (.returned (.bool false)) w15)))) (fun ch w => Kfn R ch [] w)))))
set_option maxRecDepth 100000 in
theorem sh250_ok (key_1 : Int) (x2 : Addr) (x3 : Addr) (x4 : Addr) {R : Ending → World → Prop} {w : World} : sh250 key_1 x2 x3 x4 R w → Calls Tryz.prog 250 #[.int .i64 key_1, .pointer (some x2), .pointer (some x3), .pointer (some x4)] w R :=
  calls_of_eq (ann := fun _ => []) (fn := Tryz.f250) (c := bodyOf Tryz.f250) (args := #[.int .i64 key_1, .pointer (some x2), .pointer (some x3), .pointer (some x4)]) 400 follows_mixed Tryz.func250 (by kernel_rfl) (by kernel_rfl)
set_option maxRecDepth 100000 in
/-- joinery/sound.beads$1$2 -/
def sh251 (_x1 : Int) (R : Ending → World → Prop) (w : World) : Prop :=
 R (.returned (.bool true)) w
set_option maxRecDepth 100000 in
theorem sh251_ok (x1 : Int) {R : Ending → World → Prop} {w : World} : sh251 x1 R w → Calls Tryz.prog 251 #[.int .i64 x1] w R :=
  calls_of_eq (ann := fun _ => []) (fn := Tryz.f251) (c := bodyOf Tryz.f251) (args := #[.int .i64 x1]) 400 follows_mixed Tryz.func251 (by kernel_rfl) (by kernel_rfl)
set_option maxRecDepth 100000 in
/-- joinery/treap.Check$1 -/
def sh252 (n_1 : Option Addr) (x2 : Addr) (x3 : Addr) (R : Ending → World → Prop) (w : World) : Prop :=
 ifB ((n_1).isNone) (
 R (.returned (.bool true)) w) (
 let K6 : Bool → World → Prop := fun (x4 : Bool) (w5 : World) => 
 ifB x4 (
 R (.returned (.bool false)) w5) (
 ∃ (x7 : Int), World.cell? w5 x2 = some (.int .i64 x7) ∧ (
 doSt (x2.add 0) (.int .i64 (IntKind.wrap .i64 (x7 + 1))) w5 (fun w8 =>
 let K11 : Bool → World → Prop := fun (x9 : Bool) (w10 : World) => 
 R (.returned (.bool x9)) w10
 doDr w8 (fun w13 =>
 ∃ (C12 : World → Prop), C12 w13 ∧ (
 ∃ (xf14 : Fn), ∃ (xx15 : Array Value), ∃ (xc16 : Array Value), (∀ w, C12 w → World.cell? w x3 = some (.func xf14 xx15 xc16)) ∧ (
 doCall Tryz.prog (.func (.func 123) #[] #[]) #[.pointer n_1] w13 (retS (fun v18 w19 => ∃ (x17 : Option Addr), v18 = (.pointer x17 : Value) ∧ (
 C12 w19 ∧ (
 doCall Tryz.prog (.func xf14 xx15 xc16) #[.pointer x17] w19 (retS (fun v21 w22 => ∃ (x20 : Bool), v21 = (.bool x20 : Value) ∧ (
 C12 w22 ∧ (
 ifB x20 (
 ∃ (xf23 : Fn), ∃ (xx24 : Array Value), ∃ (xc25 : Array Value), (∀ w, C12 w → World.cell? w x3 = some (.func xf23 xx24 xc25)) ∧ (
 doCall Tryz.prog (.func (.func 125) #[] #[]) #[.pointer n_1] w22 (retS (fun v27 w28 => ∃ (x26 : Option Addr), v27 = (.pointer x26 : Value) ∧ (
 C12 w28 ∧ (
 doCall Tryz.prog (.func xf23 xx24 xc25) #[.pointer x26] w28 (retS (fun v30 w31 => ∃ (x29 : Bool), v30 = (.bool x29 : Value) ∧ (
 C12 w31 ∧ (
 K11 x29 w31))) (fun ch w => Kfn R ch [] w))))) (fun ch w => Kfn R ch [] w)))) (
 R (.returned (.bool false)) w22)))) (fun ch w => Kfn R ch [] w))))) (fun ch w => Kfn R ch [] w))))))))
 doCall Tryz.prog (.func (.func 123) #[] #[]) #[.pointer n_1] w (retS (fun v33 w34 => ∃ (x32 : Option Addr), v33 = (.pointer x32 : Value) ∧ (
 doCall Tryz.prog (.func (.func 253) #[] #[]) #[.pointer x32, .pointer n_1] w34 (retS (fun v36 w37 => ∃ (x35 : Bool), v36 = (.bool x35 : Value) ∧ (
 ifB x35 (
 R (.returned (.bool false)) w37) (
 doCall Tryz.prog (.func (.func 125) #[] #[]) #[.pointer n_1] w37 (retS (fun v39 w40 => ∃ (x38 : Option Addr), v39 = (.pointer x38 : Value) ∧ (
 doCall Tryz.prog (.func (.func 253) #[] #[]) #[.pointer x38, .pointer n_1] w40 (retS (fun v42 w43 => ∃ (x41 : Bool), v42 = (.bool x41 : Value) ∧ (
 K6 x41 w43)) (fun ch w => Kfn R ch [] w)))) (fun ch w => Kfn R ch [] w))))) (fun ch w => Kfn R ch [] w)))) (fun ch w => Kfn R ch [] w)))
set_option maxRecDepth 100000 in
theorem sh252_ok (n_1 : Option Addr) (x2 : Addr) (x3 : Addr) {R : Ending → World → Prop} {w : World} : sh252 n_1 x2 x3 R w → Calls Tryz.prog 252 #[.pointer n_1, .pointer (some x2), .pointer (some x3)] w R :=
  calls_of_eq (ann := fun _ => []) (fn := Tryz.f252) (c := bodyOf Tryz.f252) (args := #[.pointer n_1, .pointer (some x2), .pointer (some x3)]) 400 follows_mixed Tryz.func252 (by kernel_rfl) (by kernel_rfl)
set_option maxRecDepth 100000 in
/-- joinery/treap.Above -/
def sh253 (a_1 : Option Addr) (b_2 : Option Addr) (R : Ending → World → Prop) (w : World) : Prop :=
 let K5 : Bool → World → Prop := fun (x3 : Bool) (w4 : World) => 
 R (.returned (.bool x3)) w4
 ifB (!(a_1).isNone) (
 ifB (!(b_2).isNone) (
 doCall Tryz.prog (.func (.func 306) #[] #[]) #[.pointer a_1] w (retS (fun v9 w10 => ∃ (x6 : Int), ∃ (x7 : Int), ∃ (x8 : Int), v9 = (.agg #[.int .i64 x6, .int .i64 x7, .int .u64 x8] : Value) ∧ (
 doCall Tryz.prog (.func (.func 306) #[] #[]) #[.pointer b_2] w10 (retS (fun v14 w15 => ∃ (x11 : Int), ∃ (x12 : Int), ∃ (x13 : Int), v14 = (.agg #[.int .i64 x11, .int .i64 x12, .int .u64 x13] : Value) ∧ (
 doCall Tryz.prog (.func (.func 305) #[] #[]) #[.agg #[.int .i64 x6, .int .i64 x7, .int .u64 x8], .agg #[.int .i64 x11, .int .i64 x12, .int .u64 x13]] w15 (retS (fun v17 w18 => ∃ (x16 : Bool), v17 = (.bool x16 : Value) ∧ (
 K5 x16 w18)) (fun ch w => Kfn R ch [] w)))) (fun ch w => Kfn R ch [] w)))) (fun ch w => Kfn R ch [] w))) (
 R (.returned (.bool false)) w)) (
 R (.returned (.bool false)) w)
set_option maxRecDepth 100000 in
theorem sh253_ok (a_1 : Option Addr) (b_2 : Option Addr) {R : Ending → World → Prop} {w : World} : sh253 a_1 b_2 R w → Calls Tryz.prog 253 #[.pointer a_1, .pointer b_2] w R :=
  calls_of_eq (ann := fun _ => []) (fn := Tryz.f253) (c := bodyOf Tryz.f253) (args := #[.pointer a_1, .pointer b_2]) 400 follows_mixed Tryz.func253 (by kernel_rfl) (by kernel_rfl)
set_option maxRecDepth 100000 in
/-- joinery/mix.all -/
def sh254  (R : Ending → World → Prop) (w : World) : Prop :=
 doAl (.cells #[.int .i64 0, .int .u64 0, .int .i64 0, .int .u64 0, .int .i64 0, .int .u64 0] 320) w (fun b1 w2 =>
 doSt ((blk b1).add 0) (.int .i64 30) w2 (fun w3 =>
 doSt ((blk b1).add 1) (.int .u64 13787848793156543929) w3 (fun w4 =>
 doSt ((blk b1).add 2) (.int .i64 27) w4 (fun w5 =>
 doSt ((blk b1).add 3) (.int .u64 10723151780598845931) w5 (fun w6 =>
 doSt ((blk b1).add 4) (.int .i64 31) w6 (fun w7 =>
 doSt ((blk b1).add 5) (.int .u64 1) w7 (fun w8 =>
 ∃ (x9 : Int), World.cell? w8 ((blk b1).add 0) = some (.int .i64 x9) ∧ (
 ∃ (x10 : Int), World.cell? w8 ((blk b1).add 1) = some (.int .u64 x10) ∧ (
 ∃ (x11 : Int), World.cell? w8 ((blk b1).add 2) = some (.int .i64 x11) ∧ (
 ∃ (x12 : Int), World.cell? w8 ((blk b1).add 3) = some (.int .u64 x12) ∧ (
 ∃ (x13 : Int), World.cell? w8 ((blk b1).add 4) = some (.int .i64 x13) ∧ (
 ∃ (x14 : Int), World.cell? w8 ((blk b1).add 5) = some (.int .u64 x14) ∧ (
 R (.returned (.agg #[.int .i64 x9, .int .u64 x10, .int .i64 x11, .int .u64 x12, .int .i64 x13, .int .u64 x14])) w8)))))))))))))
set_option maxRecDepth 100000 in
theorem sh254_ok  {R : Ending → World → Prop} {w : World} : sh254  R w → Calls Tryz.prog 254 #[] w R :=
  calls_of_eq (ann := fun _ => []) (fn := Tryz.f254) (c := bodyOf Tryz.f254) (args := #[]) 400 follows_mixed Tryz.func254 (by kernel_rfl) (by kernel_rfl)
set_option maxRecDepth 100000 in
/-- joinery/mix.steps$1 -/
def sh255 (yield_f1 : Fn) (yield_x2 : Array Value) (yield_c3 : Array Value) (x4 : Addr) (x5 : Addr) (R : Ending → World → Prop) (w : World) : Prop :=
 ∃ (I6 : List Value → World → Prop) (μ7 : List Value → World → Nat), I6 [.int .i64 0] w ∧ (∀ (x10 : Int), ∀ (_j8 : Nat → Value) (w9 : World), I6 [.int .i64 x10] w9 → (
 ifB (decide ((x10 : Int) < 3)) (
 let K13 : Int → World → Prop := fun (k_11 : Int) (w12 : World) => 
 doIx (some x5) 3 2 (k_11) (fun a14 =>
 ∃ (x15 : Int), World.cell? w12 (a14.add 0) = some (.int .i64 x15) ∧ (
 ∃ (x16 : Int), World.cell? w12 (a14.add 1) = some (.int .u64 x16) ∧ (
 doCall Tryz.prog (.func yield_f1 yield_x2 yield_c3) #[.agg #[.int .i64 x15, .int .u64 x16]] w12 (retS (fun v18 w19 => ∃ (x17 : Bool), v18 = (.bool x17 : Value) ∧ (
 ifB (!x17) (
 R (.returned (.tuple #[])) w19) (
 I6 [.int .i64 (IntKind.wrap .i64 (x10 + 1))] w19 ∧ μ7 [.int .i64 (IntKind.wrap .i64 (x10 + 1))] w19 < μ7 [.int .i64 x10] w9))) (fun ch w => Kfn R ch [] w)))))
 ∃ (x20 : Bool), World.cell? w9 x4 = some (.bool x20) ∧ (
 ifB x20 (
 K13 (IntKind.wrap .i64 (2 - x10)) w9) (
 K13 x10 w9))) (
 R (.returned (.tuple #[])) w9)))
set_option maxRecDepth 100000 in
theorem sh255_ok (yield_f1 : Fn) (yield_x2 : Array Value) (yield_c3 : Array Value) (x4 : Addr) (x5 : Addr) {R : Ending → World → Prop} {w : World} : sh255 yield_f1 yield_x2 yield_c3 x4 x5 R w → Calls Tryz.prog 255 #[.func yield_f1 yield_x2 yield_c3, .pointer (some x4), .pointer (some x5)] w R :=
  calls_of_eq (ann := fun i => if i = 0 then [(5, .int .i64 0)] else []) (fn := Tryz.f255) (c := bodyOf Tryz.f255) (args := #[.func yield_f1 yield_x2 yield_c3, .pointer (some x4), .pointer (some x5)]) 400 follows_mixed Tryz.func255 (by kernel_rfl) (by kernel_rfl)
end Go.Proofs.YtlddfgfmkapoiaaGreat

