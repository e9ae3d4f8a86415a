/-
  Printed by a program (gen.py): what the functions of the program do, as formulas; each with the proof that its call is what the formula says.
-/
/-
  Printed by a program (gen.py): what the functions of the program do, as formulas; each with the proof that its call is what the formula says.
-/
/-
  Printed by a program (gen.py): what the functions of the program do, as formulas; each with the proof that its call is what the formula says.
-/
/- All printed texts. -/
import Derived.Test.YtlddfgfmkapoiaaGreatZ02
import Derived.Test.YtlddfgfmkapoiaaGreatProg
import Derived.Test.YtlddfgfmkapoiaaGreatZ03
import Derived.Test.YtlddfgfmkapoiaaGreatZ04
import Derived.Test.YtlddfgfmkapoiaaGreatZ05
import Derived.Test.YtlddfgfmkapoiaaGreatZ06
import Derived.Test.YtlddfgfmkapoiaaGreatZ07
import Derived.Test.YtlddfgfmkapoiaaGreatZ08
import Derived.Test.YtlddfgfmkapoiaaGreatZ09

namespace Go.Proofs.YtlddfgfmkapoiaaGreat
open Go Go.Sh
set_option maxRecDepth 100000 in
/-- (joinery/scheme.plain).faces -/
def sh384 (p_1 : ByteArray) (p_f2 : Fn) (p_x3 : Array Value) (p_c4 : Array Value) (p_f5 : Fn) (p_x6 : Array Value) (p_c7 : Array Value) (p_f8 : Fn) (p_x9 : Array Value) (p_c10 : Array Value) (p_f11 : Fn) (p_x12 : Array Value) (p_c13 : Array Value) (p_f14 : Fn) (p_x15 : Array Value) (p_c16 : Array Value) (p_f17 : Fn) (p_x18 : Array Value) (p_c19 : Array Value) (R : Ending → World → Prop) (w : World) : Prop :=
 doAl (.cells #[.string p_1, .func p_f2 p_x3 p_c4, .func p_f5 p_x6 p_c7, .func p_f8 p_x9 p_c10, .func p_f11 p_x12 p_c13, .func p_f14 p_x15 p_c16, .func p_f17 p_x18 p_c19] 295) w (fun b20 w21 =>
 doAl (.cells #[.string (⟨#[]⟩ : ByteArray), .nilFunc, .nilFunc, .nilFunc, .nilFunc, .nilFunc, .nilFunc, .bool false] 226) w21 (fun b22 w23 =>
 ∃ (x24 : ByteArray), World.cell? w23 ((blk b20).add 0) = some (.string x24) ∧ (
 ∃ (x25 : ByteArray), World.cell? w23 ((blk b20).add 0) = some (.string x25) ∧ (
 ∃ (xf26 : Fn), ∃ (xx27 : Array Value), ∃ (xc28 : Array Value), World.cell? w23 ((blk b20).add 1) = some (.func xf26 xx27 xc28) ∧ (
 ∃ (xf29 : Fn), ∃ (xx30 : Array Value), ∃ (xc31 : Array Value), World.cell? w23 ((blk b20).add 2) = some (.func xf29 xx30 xc31) ∧ (
 ∃ (xf32 : Fn), ∃ (xx33 : Array Value), ∃ (xc34 : Array Value), World.cell? w23 ((blk b20).add 3) = some (.func xf32 xx33 xc34) ∧ (
 ∃ (xf35 : Fn), ∃ (xx36 : Array Value), ∃ (xc37 : Array Value), World.cell? w23 ((blk b20).add 4) = some (.func xf35 xx36 xc37) ∧ (
 ∃ (xf38 : Fn), ∃ (xx39 : Array Value), ∃ (xc40 : Array Value), World.cell? w23 ((blk b20).add 5) = some (.func xf38 xx39 xc40) ∧ (
 ∃ (xf41 : Fn), ∃ (xx42 : Array Value), ∃ (xc43 : Array Value), World.cell? w23 ((blk b20).add 6) = some (.func xf41 xx42 xc43) ∧ (
 ∃ (xf44 : Fn), ∃ (xx45 : Array Value), ∃ (xc46 : Array Value), World.cell? w23 (((blk b20).add 2).add 4) = some (.func xf44 xx45 xc46) ∧ (
 ∃ (xf47 : Fn), ∃ (xx48 : Array Value), ∃ (xc49 : Array Value), World.cell? w23 (((blk b20).add 2).add 0) = some (.func xf47 xx48 xc49) ∧ (
 ∃ (xf50 : Fn), ∃ (xx51 : Array Value), ∃ (xc52 : Array Value), World.cell? w23 (((blk b20).add 2).add 1) = some (.func xf50 xx51 xc52) ∧ (
 ∃ (xf53 : Fn), ∃ (xx54 : Array Value), ∃ (xc55 : Array Value), World.cell? w23 (((blk b20).add 2).add 2) = some (.func xf53 xx54 xc55) ∧ (
 ∃ (xf56 : Fn), ∃ (xx57 : Array Value), ∃ (xc58 : Array Value), World.cell? w23 (((blk b20).add 2).add 3) = some (.func xf56 xx57 xc58) ∧ (
 doSt ((blk b22).add 0) (.string x24) w23 (fun w59 =>
 doSt ((blk b22).add 1) (.func (.func 385) #[.agg #[.string x25, .func xf26 xx27 xc28, .func xf29 xx30 xc31, .func xf32 xx33 xc34, .func xf35 xx36 xc37, .func xf38 xx39 xc40, .func xf41 xx42 xc43]] #[]) w59 (fun w60 =>
 doSt ((blk b22).add 2) (.func xf44 xx45 xc46) w60 (fun w61 =>
 doSt ((blk b22).add 3) (.func xf47 xx48 xc49) w61 (fun w62 =>
 doSt ((blk b22).add 4) (.func xf50 xx51 xc52) w62 (fun w63 =>
 doSt ((blk b22).add 5) (.func xf53 xx54 xc55) w63 (fun w64 =>
 doSt ((blk b22).add 6) (.func xf56 xx57 xc58) w64 (fun w65 =>
 doSt ((blk b22).add 7) (.bool false) w65 (fun w66 =>
 ∃ (x67 : ByteArray), World.cell? w66 ((blk b22).add 0) = some (.string x67) ∧ (
 ∃ (xf68 : Fn), ∃ (xx69 : Array Value), ∃ (xc70 : Array Value), World.cell? w66 ((blk b22).add 1) = some (.func xf68 xx69 xc70) ∧ (
 ∃ (xf71 : Fn), ∃ (xx72 : Array Value), ∃ (xc73 : Array Value), World.cell? w66 ((blk b22).add 2) = some (.func xf71 xx72 xc73) ∧ (
 ∃ (xf74 : Fn), ∃ (xx75 : Array Value), ∃ (xc76 : Array Value), World.cell? w66 ((blk b22).add 3) = some (.func xf74 xx75 xc76) ∧ (
 ∃ (xf77 : Fn), ∃ (xx78 : Array Value), ∃ (xc79 : Array Value), World.cell? w66 ((blk b22).add 4) = some (.func xf77 xx78 xc79) ∧ (
 ∃ (xf80 : Fn), ∃ (xx81 : Array Value), ∃ (xc82 : Array Value), World.cell? w66 ((blk b22).add 5) = some (.func xf80 xx81 xc82) ∧ (
 ∃ (xf83 : Fn), ∃ (xx84 : Array Value), ∃ (xc85 : Array Value), World.cell? w66 ((blk b22).add 6) = some (.func xf83 xx84 xc85) ∧ (
 ∃ (x86 : Bool), World.cell? w66 ((blk b22).add 7) = some (.bool x86) ∧ (
 R (.returned (.agg #[.string x67, .func xf68 xx69 xc70, .func xf71 xx72 xc73, .func xf74 xx75 xc76, .func xf77 xx78 xc79, .func xf80 xx81 xc82, .func xf83 xx84 xc85, .bool x86])) w66)))))))))))))))))))))))))))))))
set_option maxRecDepth 100000 in
theorem sh384_ok (p_1 : ByteArray) (p_f2 : Fn) (p_x3 : Array Value) (p_c4 : Array Value) (p_f5 : Fn) (p_x6 : Array Value) (p_c7 : Array Value) (p_f8 : Fn) (p_x9 : Array Value) (p_c10 : Array Value) (p_f11 : Fn) (p_x12 : Array Value) (p_c13 : Array Value) (p_f14 : Fn) (p_x15 : Array Value) (p_c16 : Array Value) (p_f17 : Fn) (p_x18 : Array Value) (p_c19 : Array Value) {R : Ending → World → Prop} {w : World} : sh384 p_1 p_f2 p_x3 p_c4 p_f5 p_x6 p_c7 p_f8 p_x9 p_c10 p_f11 p_x12 p_c13 p_f14 p_x15 p_c16 p_f17 p_x18 p_c19 R w → Calls Tryz.prog 384 #[.agg #[.string p_1, .func p_f2 p_x3 p_c4, .func p_f5 p_x6 p_c7, .func p_f8 p_x9 p_c10, .func p_f11 p_x12 p_c13, .func p_f14 p_x15 p_c16, .func p_f17 p_x18 p_c19]] w R :=
  calls_of_eq (ann := fun _ => []) (fn := Tryz.f384) (c := bodyOf Tryz.f384) (args := #[.agg #[.string p_1, .func p_f2 p_x3 p_c4, .func p_f5 p_x6 p_c7, .func p_f8 p_x9 p_c10, .func p_f11 p_x12 p_c13, .func p_f14 p_x15 p_c16, .func p_f17 p_x18 p_c19]]) 400 follows_mixed Tryz.func384 (by kernel_rfl) (by kernel_rfl)
set_option maxRecDepth 100000 in
/-- (joinery/scheme.plain).of -/
def sh385 (p_1 : ByteArray) (p_f2 : Fn) (p_x3 : Array Value) (p_c4 : Array Value) (p_f5 : Fn) (p_x6 : Array Value) (p_c7 : Array Value) (p_f8 : Fn) (p_x9 : Array Value) (p_c10 : Array Value) (p_f11 : Fn) (p_x12 : Array Value) (p_c13 : Array Value) (p_f14 : Fn) (p_x15 : Array Value) (p_c16 : Array Value) (p_f17 : Fn) (p_x18 : Array Value) (p_c19 : Array Value) (l_20 : Option Addr) (x_21 : Int) (x_22 : Int) (x_23 : Int) (r_24 : Option Addr) (R : Ending → World → Prop) (w : World) : Prop :=
 doAl (.cells #[.string p_1, .func p_f2 p_x3 p_c4, .func p_f5 p_x6 p_c7, .func p_f8 p_x9 p_c10, .func p_f11 p_x12 p_c13, .func p_f14 p_x15 p_c16, .func p_f17 p_x18 p_c19] 295) w (fun b25 w26 =>
 doAl (.cells #[.int .i64 x_21, .int .i64 x_22, .int .u64 x_23] 114) w26 (fun b27 w28 =>
 ∃ (xf29 : Fn), ∃ (xx30 : Array Value), ∃ (xc31 : Array Value), World.cell? w28 ((blk b25).add 1) = some (.func xf29 xx30 xc31) ∧ (
 ∃ (x32 : Int), World.cell? w28 ((blk b27).add 0) = some (.int .i64 x32) ∧ (
 ∃ (x33 : Int), World.cell? w28 ((blk b27).add 1) = some (.int .i64 x33) ∧ (
 doCall Tryz.prog (.func xf29 xx30 xc31) #[.pointer l_20, .int .i64 x32, .int .i64 x33, .pointer r_24] w28 (retS (fun v35 w36 => ∃ (x34 : Option Addr), v35 = (.pointer x34 : Value) ∧ (
 R (.returned (.pointer x34)) w36)) (fun ch w => Kfn R ch [] w)))))))
set_option maxRecDepth 100000 in
theorem sh385_ok (p_1 : ByteArray) (p_f2 : Fn) (p_x3 : Array Value) (p_c4 : Array Value) (p_f5 : Fn) (p_x6 : Array Value) (p_c7 : Array Value) (p_f8 : Fn) (p_x9 : Array Value) (p_c10 : Array Value) (p_f11 : Fn) (p_x12 : Array Value) (p_c13 : Array Value) (p_f14 : Fn) (p_x15 : Array Value) (p_c16 : Array Value) (p_f17 : Fn) (p_x18 : Array Value) (p_c19 : Array Value) (l_20 : Option Addr) (x_21 : Int) (x_22 : Int) (x_23 : Int) (r_24 : Option Addr) {R : Ending → World → Prop} {w : World} : sh385 p_1 p_f2 p_x3 p_c4 p_f5 p_x6 p_c7 p_f8 p_x9 p_c10 p_f11 p_x12 p_c13 p_f14 p_x15 p_c16 p_f17 p_x18 p_c19 l_20 x_21 x_22 x_23 r_24 R w → Calls Tryz.prog 385 #[.agg #[.string p_1, .func p_f2 p_x3 p_c4, .func p_f5 p_x6 p_c7, .func p_f8 p_x9 p_c10, .func p_f11 p_x12 p_c13, .func p_f14 p_x15 p_c16, .func p_f17 p_x18 p_c19], .pointer l_20, .agg #[.int .i64 x_21, .int .i64 x_22, .int .u64 x_23], .pointer r_24] w R :=
  calls_of_eq (ann := fun _ => []) (fn := Tryz.f385) (c := bodyOf Tryz.f385) (args := #[.agg #[.string p_1, .func p_f2 p_x3 p_c4, .func p_f5 p_x6 p_c7, .func p_f8 p_x9 p_c10, .func p_f11 p_x12 p_c13, .func p_f14 p_x15 p_c16, .func p_f17 p_x18 p_c19], .pointer l_20, .agg #[.int .i64 x_21, .int .i64 x_22, .int .u64 x_23], .pointer r_24]) 400 follows_mixed Tryz.func385 (by kernel_rfl) (by kernel_rfl)
set_option maxRecDepth 100000 in
/-- (joinery/scheme.tagged).faces -/
def sh386  (R : Ending → World → Prop) (w : World) : Prop :=
 doAl (.cells #[] 296) w (fun _b1 w2 =>
 doAl (.cells #[.string (⟨#[]⟩ : ByteArray), .nilFunc, .nilFunc, .nilFunc, .nilFunc, .nilFunc, .nilFunc, .bool false] 226) w2 (fun b3 w4 =>
 doSt ((blk b3).add 0) (.string (⟨#[116, 114, 101, 97, 112]⟩ : ByteArray)) w4 (fun w5 =>
 doSt ((blk b3).add 1) (.func (.func 387) #[] #[]) w5 (fun w6 =>
 doSt ((blk b3).add 2) (.func (.func 223) #[] #[]) w6 (fun w7 =>
 doSt ((blk b3).add 3) (.func (.func 195) #[] #[]) w7 (fun w8 =>
 doSt ((blk b3).add 4) (.func (.func 118) #[] #[]) w8 (fun w9 =>
 doSt ((blk b3).add 5) (.func (.func 388) #[.agg #[]] #[]) w9 (fun w10 =>
 doSt ((blk b3).add 6) (.func (.func 389) #[] #[]) w10 (fun w11 =>
 doSt ((blk b3).add 7) (.bool true) w11 (fun w12 =>
 ∃ (x13 : ByteArray), World.cell? w12 ((blk b3).add 0) = some (.string x13) ∧ (
 ∃ (xf14 : Fn), ∃ (xx15 : Array Value), ∃ (xc16 : Array Value), World.cell? w12 ((blk b3).add 1) = some (.func xf14 xx15 xc16) ∧ (
 ∃ (xf17 : Fn), ∃ (xx18 : Array Value), ∃ (xc19 : Array Value), World.cell? w12 ((blk b3).add 2) = some (.func xf17 xx18 xc19) ∧ (
 ∃ (xf20 : Fn), ∃ (xx21 : Array Value), ∃ (xc22 : Array Value), World.cell? w12 ((blk b3).add 3) = some (.func xf20 xx21 xc22) ∧ (
 ∃ (xf23 : Fn), ∃ (xx24 : Array Value), ∃ (xc25 : Array Value), World.cell? w12 ((blk b3).add 4) = some (.func xf23 xx24 xc25) ∧ (
 ∃ (xf26 : Fn), ∃ (xx27 : Array Value), ∃ (xc28 : Array Value), World.cell? w12 ((blk b3).add 5) = some (.func xf26 xx27 xc28) ∧ (
 ∃ (xf29 : Fn), ∃ (xx30 : Array Value), ∃ (xc31 : Array Value), World.cell? w12 ((blk b3).add 6) = some (.func xf29 xx30 xc31) ∧ (
 ∃ (x32 : Bool), World.cell? w12 ((blk b3).add 7) = some (.bool x32) ∧ (
 R (.returned (.agg #[.string x13, .func xf14 xx15 xc16, .func xf17 xx18 xc19, .func xf20 xx21 xc22, .func xf23 xx24 xc25, .func xf26 xx27 xc28, .func xf29 xx30 xc31, .bool x32])) w12))))))))))))))))))
set_option maxRecDepth 100000 in
theorem sh386_ok  {R : Ending → World → Prop} {w : World} : sh386  R w → Calls Tryz.prog 386 #[.agg #[]] w R :=
  calls_of_eq (ann := fun _ => []) (fn := Tryz.f386) (c := bodyOf Tryz.f386) (args := #[.agg #[]]) 400 follows_mixed Tryz.func386 (by kernel_rfl) (by kernel_rfl)
set_option maxRecDepth 100000 in
/-- joinery/treapjoin.Join -/
def sh387 (l_1 : Option Addr) (x_2 : Int) (x_3 : Int) (x_4 : Int) (r_5 : Option Addr) (R : Ending → World → Prop) (w : World) : Prop :=
 doAl (.cells #[.int .i64 x_2, .int .i64 x_3, .int .u64 x_4] 114) w (fun b6 w7 =>
 ∃ (x8 : Int), World.cell? w7 ((blk b6).add 0) = some (.int .i64 x8) ∧ (
 ∃ (x9 : Int), World.cell? w7 ((blk b6).add 1) = some (.int .i64 x9) ∧ (
 ∃ (x10 : Int), World.cell? w7 ((blk b6).add 2) = some (.int .u64 x10) ∧ (
 doCall Tryz.prog (.func (.func 105) #[] #[]) #[.pointer none, .int .i64 x8, .int .i64 x9, .int .u64 x10, .pointer none] w7 (retS (fun v12 w13 => ∃ (x11 : Option Addr), v12 = (.pointer x11 : Value) ∧ (
 doAl (.cells #[.pointer x11, .pointer r_5] 35) w13 (fun b14 w15 =>
 doCall Tryz.prog (.func (.func 390) #[] #[]) #[.pointer l_1, .slice (some (blk b14)) 2 2] w15 (retS (fun v17 w18 => ∃ (x16 : Bool), v17 = (.bool x16 : Value) ∧ (
 doAl (.cells #[.pointer x11, .pointer l_1] 35) w18 (fun b19 w20 =>
 doCall Tryz.prog (.func (.func 390) #[] #[]) #[.pointer r_5, .slice (some (blk b19)) 2 2] w20 (retS (fun v22 w23 => ∃ (x21 : Bool), v22 = (.bool x21 : Value) ∧ (
 ifB ((x16 == true) && ((x21 == false) && true)) (
 doDr w23 (fun w25 =>
 ∃ (C24 : World → Prop), C24 w25 ∧ (
 ∃ (x26 : Int), (∀ w, C24 w → World.cell? w ((blk b6).add 0) = some (.int .i64 x26)) ∧ (
 ∃ (x27 : Int), (∀ w, C24 w → World.cell? w ((blk b6).add 1) = some (.int .i64 x27)) ∧ (
 ∃ (x28 : Int), (∀ w, C24 w → World.cell? w ((blk b6).add 2) = some (.int .u64 x28)) ∧ (
 doCall Tryz.prog (.func (.func 123) #[] #[]) #[.pointer l_1] w25 (retS (fun v30 w31 => ∃ (x29 : Option Addr), v30 = (.pointer x29 : Value) ∧ (
 C24 w31 ∧ (
 doCall Tryz.prog (.func (.func 108) #[] #[]) #[.pointer l_1] w31 (retS (fun v33 w34 => ∃ (x32 : Int), v33 = (.int .i64 x32 : Value) ∧ (
 C24 w34 ∧ (
 doCall Tryz.prog (.func (.func 126) #[] #[]) #[.pointer l_1] w34 (retS (fun v36 w37 => ∃ (x35 : Int), v36 = (.int .i64 x35 : Value) ∧ (
 C24 w37 ∧ (
 doCall Tryz.prog (.func (.func 196) #[] #[]) #[.pointer l_1] w37 (retS (fun v39 w40 => ∃ (x38 : Int), v39 = (.int .u64 x38 : Value) ∧ (
 C24 w40 ∧ (
 doCall Tryz.prog (.func (.func 125) #[] #[]) #[.pointer l_1] w40 (retS (fun v42 w43 => ∃ (x41 : Option Addr), v42 = (.pointer x41 : Value) ∧ (
 C24 w43 ∧ (
 doCall Tryz.prog (.func (.func 387) #[] #[]) #[.pointer x41, .agg #[.int .i64 x26, .int .i64 x27, .int .u64 x28], .pointer r_5] w43 (retS (fun v45 w46 => ∃ (x44 : Option Addr), v45 = (.pointer x44 : Value) ∧ (
 doCall Tryz.prog (.func (.func 105) #[] #[]) #[.pointer x29, .int .i64 x32, .int .i64 x35, .int .u64 x38, .pointer x44] w46 (retS (fun v48 w49 => ∃ (x47 : Option Addr), v48 = (.pointer x47 : Value) ∧ (
 C24 w49 ∧ (
 R (.returned (.pointer x47)) w49))) (fun ch w => Kfn R ch [] w)))) (fun ch w => Kfn R ch [] w))))) (fun ch w => Kfn R ch [] w))))) (fun ch w => Kfn R ch [] w))))) (fun ch w => Kfn R ch [] w))))) (fun ch w => Kfn R ch [] w))))) (fun ch w => Kfn R ch [] w)))))))) (
 ifB ((x16 == false) && ((x21 == true) && true)) (
 doDr w23 (fun w51 =>
 ∃ (C50 : World → Prop), C50 w51 ∧ (
 ∃ (x52 : Int), (∀ w, C50 w → World.cell? w ((blk b6).add 0) = some (.int .i64 x52)) ∧ (
 ∃ (x53 : Int), (∀ w, C50 w → World.cell? w ((blk b6).add 1) = some (.int .i64 x53)) ∧ (
 ∃ (x54 : Int), (∀ w, C50 w → World.cell? w ((blk b6).add 2) = some (.int .u64 x54)) ∧ (
 doCall Tryz.prog (.func (.func 123) #[] #[]) #[.pointer r_5] w51 (retS (fun v56 w57 => ∃ (x55 : Option Addr), v56 = (.pointer x55 : Value) ∧ (
 C50 w57 ∧ (
 doCall Tryz.prog (.func (.func 387) #[] #[]) #[.pointer l_1, .agg #[.int .i64 x52, .int .i64 x53, .int .u64 x54], .pointer x55] w57 (retS (fun v59 w60 => ∃ (x58 : Option Addr), v59 = (.pointer x58 : Value) ∧ (
 doCall Tryz.prog (.func (.func 108) #[] #[]) #[.pointer r_5] w60 (retS (fun v62 w63 => ∃ (x61 : Int), v62 = (.int .i64 x61 : Value) ∧ (
 C50 w63 ∧ (
 doCall Tryz.prog (.func (.func 126) #[] #[]) #[.pointer r_5] w63 (retS (fun v65 w66 => ∃ (x64 : Int), v65 = (.int .i64 x64 : Value) ∧ (
 C50 w66 ∧ (
 doCall Tryz.prog (.func (.func 196) #[] #[]) #[.pointer r_5] w66 (retS (fun v68 w69 => ∃ (x67 : Int), v68 = (.int .u64 x67 : Value) ∧ (
 C50 w69 ∧ (
 doCall Tryz.prog (.func (.func 125) #[] #[]) #[.pointer r_5] w69 (retS (fun v71 w72 => ∃ (x70 : Option Addr), v71 = (.pointer x70 : Value) ∧ (
 C50 w72 ∧ (
 doCall Tryz.prog (.func (.func 105) #[] #[]) #[.pointer x58, .int .i64 x61, .int .i64 x64, .int .u64 x67, .pointer x70] w72 (retS (fun v74 w75 => ∃ (x73 : Option Addr), v74 = (.pointer x73 : Value) ∧ (
 C50 w75 ∧ (
 R (.returned (.pointer x73)) w75))) (fun ch w => Kfn R ch [] w))))) (fun ch w => Kfn R ch [] w))))) (fun ch w => Kfn R ch [] w))))) (fun ch w => Kfn R ch [] w))))) (fun ch w => Kfn R ch [] w)))) (fun ch w => Kfn R ch [] w))))) (fun ch w => Kfn R ch [] w)))))))) (
 doCall Tryz.prog (.func (.func 391) #[] #[]) #[.pointer l_1, .pointer x11, .pointer r_5] w23 (retS (fun v77 w78 => ∃ (x76 : Option Addr), v77 = (.pointer x76 : Value) ∧ (
 R (.returned (.pointer x76)) w78)) (fun ch w => Kfn R ch [] w)))))) (fun ch w => Kfn R ch [] w))))) (fun ch w => Kfn R ch [] w))))) (fun ch w => Kfn R ch [] w))))))
set_option maxRecDepth 100000 in
theorem sh387_ok (l_1 : Option Addr) (x_2 : Int) (x_3 : Int) (x_4 : Int) (r_5 : Option Addr) {R : Ending → World → Prop} {w : World} : sh387 l_1 x_2 x_3 x_4 r_5 R w → Calls Tryz.prog 387 #[.pointer l_1, .agg #[.int .i64 x_2, .int .i64 x_3, .int .u64 x_4], .pointer r_5] w R :=
  calls_of_eq (ann := fun _ => []) (fn := Tryz.f387) (c := bodyOf Tryz.f387) (args := #[.pointer l_1, .agg #[.int .i64 x_2, .int .i64 x_3, .int .u64 x_4], .pointer r_5]) 400 follows_mixed Tryz.func387 (by kernel_rfl) (by kernel_rfl)
set_option maxRecDepth 100000 in
/-- joinery/treapjoin.Join$1 -/
def sh390 (a_1 : Option Addr) (others_p2 : Option Addr) (others_n3 : Nat) (_others_c4 : Nat) (R : Ending → World → Prop) (w : World) : Prop :=
 ∃ (I5 : List Value → World → Prop) (μ6 : List Value → World → Nat), I5 [.int .i64 0] w ∧ (∀ (x9 : Int), ∀ (_j7 : Nat → Value) (w8 : World), I5 [.int .i64 x9] w8 → (
 ifB (decide ((x9 : Int) < ((others_n3 : Nat) : Int))) (
 let K11 : World → Prop := fun (w10 : World) => 
 I5 [.int .i64 (IntKind.wrap .i64 (x9 + 1))] w10 ∧ μ6 [.int .i64 (IntKind.wrap .i64 (x9 + 1))] w10 < μ6 [.int .i64 x9] w8
 doIx others_p2 others_n3 1 (x9) (fun a12 =>
 ∃ (x13 : Option Addr), World.cell? w8 a12 = some (.pointer x13) ∧ (
 let K16 : Bool → World → Prop := fun (x14 : Bool) (w15 : World) => 
 ifB x14 (
 R (.returned (.bool false)) w15) (
 K11 w15)
 ifB (!(x13).isNone) (
 doCall Tryz.prog (.func (.func 253) #[] #[]) #[.pointer a_1, .pointer x13] w8 (retS (fun v18 w19 => ∃ (x17 : Bool), v18 = (.bool x17 : Value) ∧ (
 K16 (!x17) w19)) (fun ch w => Kfn R ch [] w))) (
 K11 w8)))) (
 R (.returned (.bool (!(a_1).isNone))) w8)))
set_option maxRecDepth 100000 in
theorem sh390_ok (a_1 : Option Addr) (others_p2 : Option Addr) (others_n3 : Nat) (others_c4 : Nat) {R : Ending → World → Prop} {w : World} : sh390 a_1 others_p2 others_n3 others_c4 R w → Calls Tryz.prog 390 #[.pointer a_1, .slice others_p2 others_n3 others_c4] w R :=
  calls_of_eq (ann := fun i => if i = 0 then [(9, .int .i64 0)] else []) (fn := Tryz.f390) (c := bodyOf Tryz.f390) (args := #[.pointer a_1, .slice others_p2 others_n3 others_c4]) 400 follows_mixed Tryz.func390 (by kernel_rfl) (by kernel_rfl)
set_option maxRecDepth 100000 in
/-- joinery/treapjoin.both -/
def sh391 (l_1 : Option Addr) (mid_2 : Option Addr) (r_3 : Option Addr) (R : Ending → World → Prop) (w : World) : Prop :=
 doCall Tryz.prog (.func (.func 108) #[] #[]) #[.pointer mid_2] w (retS (fun v5 w6 => ∃ (x4 : Int), v5 = (.int .i64 x4 : Value) ∧ (
 doCall Tryz.prog (.func (.func 126) #[] #[]) #[.pointer mid_2] w6 (retS (fun v8 w9 => ∃ (x7 : Int), v8 = (.int .i64 x7 : Value) ∧ (
 doCall Tryz.prog (.func (.func 196) #[] #[]) #[.pointer mid_2] w9 (retS (fun v11 w12 => ∃ (x10 : Int), v11 = (.int .u64 x10 : Value) ∧ (
 doAl (.cells #[.int .i64 0, .int .i64 0, .int .u64 0] 114) w12 (fun b13 w14 =>
 doSt ((blk b13).add 0) (.int .i64 x4) w14 (fun w15 =>
 doSt ((blk b13).add 1) (.int .i64 x7) w15 (fun w16 =>
 doSt ((blk b13).add 2) (.int .u64 x10) w16 (fun w17 =>
 doCall Tryz.prog (.func (.func 253) #[] #[]) #[.pointer l_1, .pointer mid_2] w17 (retS (fun v19 w20 => ∃ (x18 : Bool), v19 = (.bool x18 : Value) ∧ (
 ifB x18 (
 doDr w20 (fun w22 =>
 ∃ (C21 : World → Prop), C21 w22 ∧ (
 ∃ (x23 : Int), (∀ w, C21 w → World.cell? w ((blk b13).add 0) = some (.int .i64 x23)) ∧ (
 ∃ (x24 : Int), (∀ w, C21 w → World.cell? w ((blk b13).add 1) = some (.int .i64 x24)) ∧ (
 ∃ (x25 : Int), (∀ w, C21 w → World.cell? w ((blk b13).add 2) = some (.int .u64 x25)) ∧ (
 doCall Tryz.prog (.func (.func 123) #[] #[]) #[.pointer l_1] w22 (retS (fun v27 w28 => ∃ (x26 : Option Addr), v27 = (.pointer x26 : Value) ∧ (
 C21 w28 ∧ (
 doCall Tryz.prog (.func (.func 108) #[] #[]) #[.pointer l_1] w28 (retS (fun v30 w31 => ∃ (x29 : Int), v30 = (.int .i64 x29 : Value) ∧ (
 C21 w31 ∧ (
 doCall Tryz.prog (.func (.func 126) #[] #[]) #[.pointer l_1] w31 (retS (fun v33 w34 => ∃ (x32 : Int), v33 = (.int .i64 x32 : Value) ∧ (
 C21 w34 ∧ (
 doCall Tryz.prog (.func (.func 196) #[] #[]) #[.pointer l_1] w34 (retS (fun v36 w37 => ∃ (x35 : Int), v36 = (.int .u64 x35 : Value) ∧ (
 C21 w37 ∧ (
 doCall Tryz.prog (.func (.func 125) #[] #[]) #[.pointer l_1] w37 (retS (fun v39 w40 => ∃ (x38 : Option Addr), v39 = (.pointer x38 : Value) ∧ (
 C21 w40 ∧ (
 doCall Tryz.prog (.func (.func 387) #[] #[]) #[.pointer x38, .agg #[.int .i64 x23, .int .i64 x24, .int .u64 x25], .pointer r_3] w40 (retS (fun v42 w43 => ∃ (x41 : Option Addr), v42 = (.pointer x41 : Value) ∧ (
 doCall Tryz.prog (.func (.func 105) #[] #[]) #[.pointer x26, .int .i64 x29, .int .i64 x32, .int .u64 x35, .pointer x41] w43 (retS (fun v45 w46 => ∃ (x44 : Option Addr), v45 = (.pointer x44 : Value) ∧ (
 C21 w46 ∧ (
 R (.returned (.pointer x44)) w46))) (fun ch w => Kfn R ch [] w)))) (fun ch w => Kfn R ch [] w))))) (fun ch w => Kfn R ch [] w))))) (fun ch w => Kfn R ch [] w))))) (fun ch w => Kfn R ch [] w))))) (fun ch w => Kfn R ch [] w))))) (fun ch w => Kfn R ch [] w)))))))) (
 doCall Tryz.prog (.func (.func 253) #[] #[]) #[.pointer r_3, .pointer mid_2] w20 (retS (fun v48 w49 => ∃ (x47 : Bool), v48 = (.bool x47 : Value) ∧ (
 ifB x47 (
 doDr w49 (fun w51 =>
 ∃ (C50 : World → Prop), C50 w51 ∧ (
 ∃ (x52 : Int), (∀ w, C50 w → World.cell? w ((blk b13).add 0) = some (.int .i64 x52)) ∧ (
 ∃ (x53 : Int), (∀ w, C50 w → World.cell? w ((blk b13).add 1) = some (.int .i64 x53)) ∧ (
 ∃ (x54 : Int), (∀ w, C50 w → World.cell? w ((blk b13).add 2) = some (.int .u64 x54)) ∧ (
 doCall Tryz.prog (.func (.func 123) #[] #[]) #[.pointer r_3] w51 (retS (fun v56 w57 => ∃ (x55 : Option Addr), v56 = (.pointer x55 : Value) ∧ (
 C50 w57 ∧ (
 doCall Tryz.prog (.func (.func 387) #[] #[]) #[.pointer l_1, .agg #[.int .i64 x52, .int .i64 x53, .int .u64 x54], .pointer x55] w57 (retS (fun v59 w60 => ∃ (x58 : Option Addr), v59 = (.pointer x58 : Value) ∧ (
 doCall Tryz.prog (.func (.func 108) #[] #[]) #[.pointer r_3] w60 (retS (fun v62 w63 => ∃ (x61 : Int), v62 = (.int .i64 x61 : Value) ∧ (
 C50 w63 ∧ (
 doCall Tryz.prog (.func (.func 126) #[] #[]) #[.pointer r_3] w63 (retS (fun v65 w66 => ∃ (x64 : Int), v65 = (.int .i64 x64 : Value) ∧ (
 C50 w66 ∧ (
 doCall Tryz.prog (.func (.func 196) #[] #[]) #[.pointer r_3] w66 (retS (fun v68 w69 => ∃ (x67 : Int), v68 = (.int .u64 x67 : Value) ∧ (
 C50 w69 ∧ (
 doCall Tryz.prog (.func (.func 125) #[] #[]) #[.pointer r_3] w69 (retS (fun v71 w72 => ∃ (x70 : Option Addr), v71 = (.pointer x70 : Value) ∧ (
 C50 w72 ∧ (
 doCall Tryz.prog (.func (.func 105) #[] #[]) #[.pointer x58, .int .i64 x61, .int .i64 x64, .int .u64 x67, .pointer x70] w72 (retS (fun v74 w75 => ∃ (x73 : Option Addr), v74 = (.pointer x73 : Value) ∧ (
 C50 w75 ∧ (
 R (.returned (.pointer x73)) w75))) (fun ch w => Kfn R ch [] w))))) (fun ch w => Kfn R ch [] w))))) (fun ch w => Kfn R ch [] w))))) (fun ch w => Kfn R ch [] w))))) (fun ch w => Kfn R ch [] w)))) (fun ch w => Kfn R ch [] w))))) (fun ch w => Kfn R ch [] w)))))))) (
 ∃ (x76 : Int), World.cell? w49 ((blk b13).add 0) = some (.int .i64 x76) ∧ (
 ∃ (x77 : Int), World.cell? w49 ((blk b13).add 1) = some (.int .i64 x77) ∧ (
 ∃ (x78 : Int), World.cell? w49 ((blk b13).add 2) = some (.int .u64 x78) ∧ (
 doCall Tryz.prog (.func (.func 105) #[] #[]) #[.pointer l_1, .int .i64 x76, .int .i64 x77, .int .u64 x78, .pointer r_3] w49 (retS (fun v80 w81 => ∃ (x79 : Option Addr), v80 = (.pointer x79 : Value) ∧ (
 R (.returned (.pointer x79)) w81)) (fun ch w => Kfn R ch [] w)))))))) (fun ch w => Kfn R ch [] w))))) (fun ch w => Kfn R ch [] w)))))))) (fun ch w => Kfn R ch [] w)))) (fun ch w => Kfn R ch [] w)))) (fun ch w => Kfn R ch [] w))
set_option maxRecDepth 100000 in
theorem sh391_ok (l_1 : Option Addr) (mid_2 : Option Addr) (r_3 : Option Addr) {R : Ending → World → Prop} {w : World} : sh391 l_1 mid_2 r_3 R w → Calls Tryz.prog 391 #[.pointer l_1, .pointer mid_2, .pointer r_3] w R :=
  calls_of_eq (ann := fun _ => []) (fn := Tryz.f391) (c := bodyOf Tryz.f391) (args := #[.pointer l_1, .pointer mid_2, .pointer r_3]) 400 follows_mixed Tryz.func391 (by kernel_rfl) (by kernel_rfl)
set_option maxRecDepth 100000 in
/-- (joinery/rbjoin.maker).of -/
def sh394 (l_1 : Option Addr) (pair_2 : Option Addr) (red_3 : Bool) (r_4 : Option Addr) (R : Ending → World → Prop) (w : World) : Prop :=
 doAl (.cells #[] 339) w (fun _b5 w6 =>
 doCall Tryz.prog (.func (.func 108) #[] #[]) #[.pointer pair_2] w6 (retS (fun v8 w9 => ∃ (x7 : Int), v8 = (.int .i64 x7 : Value) ∧ (
 doCall Tryz.prog (.func (.func 126) #[] #[]) #[.pointer pair_2] w9 (retS (fun v11 w12 => ∃ (x10 : Int), v11 = (.int .i64 x10 : Value) ∧ (
 doCall Tryz.prog (.func (.func 271) #[] #[]) #[.pointer l_1, .int .i64 x7, .int .i64 x10, .bool red_3, .pointer r_4] w12 (retS (fun v14 w15 => ∃ (x13 : Option Addr), v14 = (.pointer x13 : Value) ∧ (
 R (.returned (.pointer x13)) w15)) (fun ch w => Kfn R ch [] w)))) (fun ch w => Kfn R ch [] w)))) (fun ch w => Kfn R ch [] w)))
set_option maxRecDepth 100000 in
theorem sh394_ok (l_1 : Option Addr) (pair_2 : Option Addr) (red_3 : Bool) (r_4 : Option Addr) {R : Ending → World → Prop} {w : World} : sh394 l_1 pair_2 red_3 r_4 R w → Calls Tryz.prog 394 #[.agg #[], .pointer l_1, .pointer pair_2, .bool red_3, .pointer r_4] w R :=
  calls_of_eq (ann := fun _ => []) (fn := Tryz.f394) (c := bodyOf Tryz.f394) (args := #[.agg #[], .pointer l_1, .pointer pair_2, .bool red_3, .pointer r_4]) 400 follows_mixed Tryz.func394 (by kernel_rfl) (by kernel_rfl)
set_option maxRecDepth 100000 in
/-- (joinery/rbjoin.right).in -/
def sh395 (t_1 : Option Addr) (R : Ending → World → Prop) (w : World) : Prop :=
 doAl (.cells #[] 341) w (fun _b2 w3 =>
 doCall Tryz.prog (.func (.func 123) #[] #[]) #[.pointer t_1] w3 (retS (fun v5 w6 => ∃ (x4 : Option Addr), v5 = (.pointer x4 : Value) ∧ (
 R (.returned (.pointer x4)) w6)) (fun ch w => Kfn R ch [] w)))
set_option maxRecDepth 100000 in
theorem sh395_ok (t_1 : Option Addr) {R : Ending → World → Prop} {w : World} : sh395 t_1 R w → Calls Tryz.prog 395 #[.agg #[], .pointer t_1] w R :=
  calls_of_eq (ann := fun _ => []) (fn := Tryz.f395) (c := bodyOf Tryz.f395) (args := #[.agg #[], .pointer t_1]) 400 follows_mixed Tryz.func395 (by kernel_rfl) (by kernel_rfl)
set_option maxRecDepth 100000 in
/-- (joinery/rbjoin.right).out -/
def sh397 (t_1 : Option Addr) (R : Ending → World → Prop) (w : World) : Prop :=
 doAl (.cells #[] 341) w (fun _b2 w3 =>
 doCall Tryz.prog (.func (.func 125) #[] #[]) #[.pointer t_1] w3 (retS (fun v5 w6 => ∃ (x4 : Option Addr), v5 = (.pointer x4 : Value) ∧ (
 R (.returned (.pointer x4)) w6)) (fun ch w => Kfn R ch [] w)))
set_option maxRecDepth 100000 in
theorem sh397_ok (t_1 : Option Addr) {R : Ending → World → Prop} {w : World} : sh397 t_1 R w → Calls Tryz.prog 397 #[.agg #[], .pointer t_1] w R :=
  calls_of_eq (ann := fun _ => []) (fn := Tryz.f397) (c := bodyOf Tryz.f397) (args := #[.agg #[], .pointer t_1]) 400 follows_mixed Tryz.func397 (by kernel_rfl) (by kernel_rfl)
set_option maxRecDepth 100000 in
/-- (joinery/rbjoin.left).in -/
def sh398 (t_1 : Option Addr) (R : Ending → World → Prop) (w : World) : Prop :=
 doAl (.cells #[] 342) w (fun _b2 w3 =>
 doCall Tryz.prog (.func (.func 125) #[] #[]) #[.pointer t_1] w3 (retS (fun v5 w6 => ∃ (x4 : Option Addr), v5 = (.pointer x4 : Value) ∧ (
 R (.returned (.pointer x4)) w6)) (fun ch w => Kfn R ch [] w)))
set_option maxRecDepth 100000 in
theorem sh398_ok (t_1 : Option Addr) {R : Ending → World → Prop} {w : World} : sh398 t_1 R w → Calls Tryz.prog 398 #[.agg #[], .pointer t_1] w R :=
  calls_of_eq (ann := fun _ => []) (fn := Tryz.f398) (c := bodyOf Tryz.f398) (args := #[.agg #[], .pointer t_1]) 400 follows_mixed Tryz.func398 (by kernel_rfl) (by kernel_rfl)
set_option maxRecDepth 100000 in
/-- (joinery/rbjoin.left).out -/
def sh400 (t_1 : Option Addr) (R : Ending → World → Prop) (w : World) : Prop :=
 doAl (.cells #[] 342) w (fun _b2 w3 =>
 doCall Tryz.prog (.func (.func 123) #[] #[]) #[.pointer t_1] w3 (retS (fun v5 w6 => ∃ (x4 : Option Addr), v5 = (.pointer x4 : Value) ∧ (
 R (.returned (.pointer x4)) w6)) (fun ch w => Kfn R ch [] w)))
set_option maxRecDepth 100000 in
theorem sh400_ok (t_1 : Option Addr) {R : Ending → World → Prop} {w : World} : sh400 t_1 R w → Calls Tryz.prog 400 #[.agg #[], .pointer t_1] w R :=
  calls_of_eq (ann := fun _ => []) (fn := Tryz.f400) (c := bodyOf Tryz.f400) (args := #[.agg #[], .pointer t_1]) 400 follows_mixed Tryz.func400 (by kernel_rfl) (by kernel_rfl)
end Go.Proofs.YtlddfgfmkapoiaaGreat

namespace Go.Proofs.YtlddfgfmkapoiaaGreat
open Go Go.Sh
set_option maxRecDepth 100000 in
/-- slices.symMergeCmpFunc[joinery/api.Pair] -/
def sh297 (data_p1 : Option Addr) (data_n2 : Nat) (data_c3 : Nat) (a_4 : Int) (m_5 : Int) (b_6 : Int) (cmp_f7 : Fn) (cmp_x8 : Array Value) (cmp_c9 : Array Value) (R : Ending → World → Prop) (w : World) : Prop :=
 ifB (((IntKind.wrap .i64 (m_5 - a_4)) : Int) == 1) (
 ∃ (I10 : List Value → World → Prop) (μ11 : List Value → World → Nat), I10 [.int .i64 m_5, .int .i64 b_6] w ∧ (∀ (i_14 : Int), ∀ (j_15 : Int), ∀ (_j12 : Nat → Value) (w13 : World), I10 [.int .i64 i_14, .int .i64 j_15] w13 → (
 ifB (decide ((i_14 : Int) < j_15)) (
 (0 : Int) ≤ 1 ∧ (
 doDr w13 (fun w17 =>
 ∃ (C16 : World → Prop), C16 w17 ∧ (
 doIx data_p1 data_n2 2 (IntKind.wrap .i64 (Int.fdiv (IntKind.wrap .u64 (IntKind.wrap .i64 (i_14 + j_15))) (2 ^ (min (1 : Int).toNat (IntKind.bits .u64))))) (fun a18 =>
 ∃ (x19 : Int), (∀ w, C16 w → World.cell? w (a18.add 0) = some (.int .i64 x19)) ∧ (
 ∃ (x20 : Int), (∀ w, C16 w → World.cell? w (a18.add 1) = some (.int .i64 x20)) ∧ (
 doIx data_p1 data_n2 2 (a_4) (fun a21 =>
 ∃ (x22 : Int), (∀ w, C16 w → World.cell? w (a21.add 0) = some (.int .i64 x22)) ∧ (
 ∃ (x23 : Int), (∀ w, C16 w → World.cell? w (a21.add 1) = some (.int .i64 x23)) ∧ (
 doCall Tryz.prog (.func cmp_f7 cmp_x8 cmp_c9) #[.agg #[.int .i64 x19, .int .i64 x20], .agg #[.int .i64 x22, .int .i64 x23]] w17 (retS (fun v25 w26 => ∃ (x24 : Int), v25 = (.int .i64 x24 : Value) ∧ (
 ifB (decide ((x24 : Int) < 0)) (
 I10 [.int .i64 (IntKind.wrap .i64 ((IntKind.wrap .i64 (Int.fdiv (IntKind.wrap .u64 (IntKind.wrap .i64 (i_14 + j_15))) (2 ^ (min (1 : Int).toNat (IntKind.bits .u64))))) + 1)), .int .i64 j_15] w26 ∧ μ11 [.int .i64 (IntKind.wrap .i64 ((IntKind.wrap .i64 (Int.fdiv (IntKind.wrap .u64 (IntKind.wrap .i64 (i_14 + j_15))) (2 ^ (min (1 : Int).toNat (IntKind.bits .u64))))) + 1)), .int .i64 j_15] w26 < μ11 [.int .i64 i_14, .int .i64 j_15] w13) (
 I10 [.int .i64 i_14, .int .i64 (IntKind.wrap .i64 (Int.fdiv (IntKind.wrap .u64 (IntKind.wrap .i64 (i_14 + j_15))) (2 ^ (min (1 : Int).toNat (IntKind.bits .u64)))))] w26 ∧ μ11 [.int .i64 i_14, .int .i64 (IntKind.wrap .i64 (Int.fdiv (IntKind.wrap .u64 (IntKind.wrap .i64 (i_14 + j_15))) (2 ^ (min (1 : Int).toNat (IntKind.bits .u64)))))] w26 < μ11 [.int .i64 i_14, .int .i64 j_15] w13))) (fun ch w => Kfn R ch [] w)))))))))))) (
 ∃ (I27 : List Value → World → Prop) (μ28 : List Value → World → Nat), I27 [.int .i64 a_4] w13 ∧ (∀ (k_31 : Int), ∀ (_j29 : Nat → Value) (w30 : World), I27 [.int .i64 k_31] w30 → (
 ifB (decide ((k_31 : Int) < (IntKind.wrap .i64 (i_14 - 1)))) (
 doDr w30 (fun w33 =>
 ∃ (C32 : World → Prop), C32 w33 ∧ (
 doIx data_p1 data_n2 2 (IntKind.wrap .i64 (k_31 + 1)) (fun a34 =>
 ∃ (x35 : Int), (∀ w, C32 w → World.cell? w (a34.add 0) = some (.int .i64 x35)) ∧ (
 ∃ (x36 : Int), (∀ w, C32 w → World.cell? w (a34.add 1) = some (.int .i64 x36)) ∧ (
 doIx data_p1 data_n2 2 (k_31) (fun a37 =>
 ∃ (x38 : Int), (∀ w, C32 w → World.cell? w (a37.add 0) = some (.int .i64 x38)) ∧ (
 ∃ (x39 : Int), (∀ w, C32 w → World.cell? w (a37.add 1) = some (.int .i64 x39)) ∧ (
 doIx data_p1 data_n2 2 (k_31) (fun a40 =>
 doSt (a40.add 0) (.int .i64 x35) w33 (fun w41 =>
 doSt (a40.add 1) (.int .i64 x36) w41 (fun w42 =>
 doIx data_p1 data_n2 2 (IntKind.wrap .i64 (k_31 + 1)) (fun a43 =>
 doSt (a43.add 0) (.int .i64 x38) w42 (fun w44 =>
 doSt (a43.add 1) (.int .i64 x39) w44 (fun w45 =>
 I27 [.int .i64 (IntKind.wrap .i64 (k_31 + 1))] w45 ∧ μ28 [.int .i64 (IntKind.wrap .i64 (k_31 + 1))] w45 < μ28 [.int .i64 k_31] w30))))))))))))))) (
 R (.returned (.tuple #[])) w30))))))) (
 ifB (((IntKind.wrap .i64 (b_6 - m_5)) : Int) == 1) (
 ∃ (I46 : List Value → World → Prop) (μ47 : List Value → World → Nat), I46 [.int .i64 a_4, .int .i64 m_5] w ∧ (∀ (i_50 : Int), ∀ (j_51 : Int), ∀ (_j48 : Nat → Value) (w49 : World), I46 [.int .i64 i_50, .int .i64 j_51] w49 → (
 ifB (decide ((i_50 : Int) < j_51)) (
 (0 : Int) ≤ 1 ∧ (
 doDr w49 (fun w53 =>
 ∃ (C52 : World → Prop), C52 w53 ∧ (
 doIx data_p1 data_n2 2 (m_5) (fun a54 =>
 ∃ (x55 : Int), (∀ w, C52 w → World.cell? w (a54.add 0) = some (.int .i64 x55)) ∧ (
 ∃ (x56 : Int), (∀ w, C52 w → World.cell? w (a54.add 1) = some (.int .i64 x56)) ∧ (
 doIx data_p1 data_n2 2 (IntKind.wrap .i64 (Int.fdiv (IntKind.wrap .u64 (IntKind.wrap .i64 (i_50 + j_51))) (2 ^ (min (1 : Int).toNat (IntKind.bits .u64))))) (fun a57 =>
 ∃ (x58 : Int), (∀ w, C52 w → World.cell? w (a57.add 0) = some (.int .i64 x58)) ∧ (
 ∃ (x59 : Int), (∀ w, C52 w → World.cell? w (a57.add 1) = some (.int .i64 x59)) ∧ (
 doCall Tryz.prog (.func cmp_f7 cmp_x8 cmp_c9) #[.agg #[.int .i64 x55, .int .i64 x56], .agg #[.int .i64 x58, .int .i64 x59]] w53 (retS (fun v61 w62 => ∃ (x60 : Int), v61 = (.int .i64 x60 : Value) ∧ (
 ifB (!(decide ((x60 : Int) < 0))) (
 I46 [.int .i64 (IntKind.wrap .i64 ((IntKind.wrap .i64 (Int.fdiv (IntKind.wrap .u64 (IntKind.wrap .i64 (i_50 + j_51))) (2 ^ (min (1 : Int).toNat (IntKind.bits .u64))))) + 1)), .int .i64 j_51] w62 ∧ μ47 [.int .i64 (IntKind.wrap .i64 ((IntKind.wrap .i64 (Int.fdiv (IntKind.wrap .u64 (IntKind.wrap .i64 (i_50 + j_51))) (2 ^ (min (1 : Int).toNat (IntKind.bits .u64))))) + 1)), .int .i64 j_51] w62 < μ47 [.int .i64 i_50, .int .i64 j_51] w49) (
 I46 [.int .i64 i_50, .int .i64 (IntKind.wrap .i64 (Int.fdiv (IntKind.wrap .u64 (IntKind.wrap .i64 (i_50 + j_51))) (2 ^ (min (1 : Int).toNat (IntKind.bits .u64)))))] w62 ∧ μ47 [.int .i64 i_50, .int .i64 (IntKind.wrap .i64 (Int.fdiv (IntKind.wrap .u64 (IntKind.wrap .i64 (i_50 + j_51))) (2 ^ (min (1 : Int).toNat (IntKind.bits .u64)))))] w62 < μ47 [.int .i64 i_50, .int .i64 j_51] w49))) (fun ch w => Kfn R ch [] w)))))))))))) (
 ∃ (I63 : List Value → World → Prop) (μ64 : List Value → World → Nat), I63 [.int .i64 m_5] w49 ∧ (∀ (k_67 : Int), ∀ (_j65 : Nat → Value) (w66 : World), I63 [.int .i64 k_67] w66 → (
 ifB (decide ((k_67 : Int) > i_50)) (
 doDr w66 (fun w69 =>
 ∃ (C68 : World → Prop), C68 w69 ∧ (
 doIx data_p1 data_n2 2 (IntKind.wrap .i64 (k_67 - 1)) (fun a70 =>
 ∃ (x71 : Int), (∀ w, C68 w → World.cell? w (a70.add 0) = some (.int .i64 x71)) ∧ (
 ∃ (x72 : Int), (∀ w, C68 w → World.cell? w (a70.add 1) = some (.int .i64 x72)) ∧ (
 doIx data_p1 data_n2 2 (k_67) (fun a73 =>
 ∃ (x74 : Int), (∀ w, C68 w → World.cell? w (a73.add 0) = some (.int .i64 x74)) ∧ (
 ∃ (x75 : Int), (∀ w, C68 w → World.cell? w (a73.add 1) = some (.int .i64 x75)) ∧ (
 doIx data_p1 data_n2 2 (k_67) (fun a76 =>
 doSt (a76.add 0) (.int .i64 x71) w69 (fun w77 =>
 doSt (a76.add 1) (.int .i64 x72) w77 (fun w78 =>
 doIx data_p1 data_n2 2 (IntKind.wrap .i64 (k_67 - 1)) (fun a79 =>
 doSt (a79.add 0) (.int .i64 x74) w78 (fun w80 =>
 doSt (a79.add 1) (.int .i64 x75) w80 (fun w81 =>
 I63 [.int .i64 (IntKind.wrap .i64 (k_67 - 1))] w81 ∧ μ64 [.int .i64 (IntKind.wrap .i64 (k_67 - 1))] w81 < μ64 [.int .i64 k_67] w66))))))))))))))) (
 R (.returned (.tuple #[])) w66))))))) (
 (0 : Int) ≤ 1 ∧ (
 ∃ (J82 : List Value → World → Prop), (∀ (start_85 : Int), ∀ (r_86 : Int), ∀ (_j83 : Nat → Value) (w84 : World), J82 [.int .i64 start_85, .int .i64 r_86] w84 → (
 ∃ (I87 : List Value → World → Prop) (μ88 : List Value → World → Nat), I87 [.int .i64 start_85, .int .i64 r_86] w84 ∧ (∀ (start_91 : Int), ∀ (r_92 : Int), ∀ (_j89 : Nat → Value) (w90 : World), I87 [.int .i64 start_91, .int .i64 r_92] w90 → (
 ifB (decide ((start_91 : Int) < r_92)) (
 (0 : Int) ≤ 1 ∧ (
 doDr w90 (fun w94 =>
 ∃ (C93 : World → Prop), C93 w94 ∧ (
 doIx data_p1 data_n2 2 (IntKind.wrap .i64 ((IntKind.wrap .i64 ((IntKind.wrap .i64 ((IntKind.wrap .i64 (Int.fdiv (IntKind.wrap .u64 (IntKind.wrap .i64 (a_4 + b_6))) (2 ^ (min (1 : Int).toNat (IntKind.bits .u64))))) + m_5)) - 1)) - (IntKind.wrap .i64 (Int.fdiv (IntKind.wrap .u64 (IntKind.wrap .i64 (start_91 + r_92))) (2 ^ (min (1 : Int).toNat (IntKind.bits .u64))))))) (fun a95 =>
 ∃ (x96 : Int), (∀ w, C93 w → World.cell? w (a95.add 0) = some (.int .i64 x96)) ∧ (
 ∃ (x97 : Int), (∀ w, C93 w → World.cell? w (a95.add 1) = some (.int .i64 x97)) ∧ (
 doIx data_p1 data_n2 2 (IntKind.wrap .i64 (Int.fdiv (IntKind.wrap .u64 (IntKind.wrap .i64 (start_91 + r_92))) (2 ^ (min (1 : Int).toNat (IntKind.bits .u64))))) (fun a98 =>
 ∃ (x99 : Int), (∀ w, C93 w → World.cell? w (a98.add 0) = some (.int .i64 x99)) ∧ (
 ∃ (x100 : Int), (∀ w, C93 w → World.cell? w (a98.add 1) = some (.int .i64 x100)) ∧ (
 doCall Tryz.prog (.func cmp_f7 cmp_x8 cmp_c9) #[.agg #[.int .i64 x96, .int .i64 x97], .agg #[.int .i64 x99, .int .i64 x100]] w94 (retS (fun v102 w103 => ∃ (x101 : Int), v102 = (.int .i64 x101 : Value) ∧ (
 ifB (!(decide ((x101 : Int) < 0))) (
 I87 [.int .i64 (IntKind.wrap .i64 ((IntKind.wrap .i64 (Int.fdiv (IntKind.wrap .u64 (IntKind.wrap .i64 (start_91 + r_92))) (2 ^ (min (1 : Int).toNat (IntKind.bits .u64))))) + 1)), .int .i64 r_92] w103 ∧ μ88 [.int .i64 (IntKind.wrap .i64 ((IntKind.wrap .i64 (Int.fdiv (IntKind.wrap .u64 (IntKind.wrap .i64 (start_91 + r_92))) (2 ^ (min (1 : Int).toNat (IntKind.bits .u64))))) + 1)), .int .i64 r_92] w103 < μ88 [.int .i64 start_91, .int .i64 r_92] w90) (
 I87 [.int .i64 start_91, .int .i64 (IntKind.wrap .i64 (Int.fdiv (IntKind.wrap .u64 (IntKind.wrap .i64 (start_91 + r_92))) (2 ^ (min (1 : Int).toNat (IntKind.bits .u64)))))] w103 ∧ μ88 [.int .i64 start_91, .int .i64 (IntKind.wrap .i64 (Int.fdiv (IntKind.wrap .u64 (IntKind.wrap .i64 (start_91 + r_92))) (2 ^ (min (1 : Int).toNat (IntKind.bits .u64)))))] w103 < μ88 [.int .i64 start_91, .int .i64 r_92] w90))) (fun ch w => Kfn R ch [] w)))))))))))) (
 ∃ (J104 : List Value → World → Prop), (∀ (_j105 : Nat → Value) (w106 : World), J104 [] w106 → (
 ∃ (J107 : List Value → World → Prop), (∀ (_j108 : Nat → Value) (w109 : World), J107 [] w109 → (
 ∃ (J110 : List Value → World → Prop), (∀ (x113 : Bool), ∀ (_j111 : Nat → Value) (w112 : World), J110 [.bool x113] w112 → (
 ifB x113 (
 doCall Tryz.prog (.func (.func 297) #[] #[]) #[.slice data_p1 data_n2 data_c3, .int .i64 (IntKind.wrap .i64 (Int.fdiv (IntKind.wrap .u64 (IntKind.wrap .i64 (a_4 + b_6))) (2 ^ (min (1 : Int).toNat (IntKind.bits .u64))))), .int .i64 (IntKind.wrap .i64 ((IntKind.wrap .i64 ((IntKind.wrap .i64 (Int.fdiv (IntKind.wrap .u64 (IntKind.wrap .i64 (a_4 + b_6))) (2 ^ (min (1 : Int).toNat (IntKind.bits .u64))))) + m_5)) - start_91)), .int .i64 b_6, .func cmp_f7 cmp_x8 cmp_c9] w112 (retS (fun v114 w115 => v114 = (.tuple #[] : Value) ∧ (
 R (.returned (.tuple #[])) w115)) (fun ch w => Kfn R ch [] w))) (
 R (.returned (.tuple #[])) w112))) ∧ (
 ifB (decide (((IntKind.wrap .i64 (Int.fdiv (IntKind.wrap .u64 (IntKind.wrap .i64 (a_4 + b_6))) (2 ^ (min (1 : Int).toNat (IntKind.bits .u64))))) : Int) < (IntKind.wrap .i64 ((IntKind.wrap .i64 ((IntKind.wrap .i64 (Int.fdiv (IntKind.wrap .u64 (IntKind.wrap .i64 (a_4 + b_6))) (2 ^ (min (1 : Int).toNat (IntKind.bits .u64))))) + m_5)) - start_91)))) (
 J110 [.bool (decide (((IntKind.wrap .i64 ((IntKind.wrap .i64 ((IntKind.wrap .i64 (Int.fdiv (IntKind.wrap .u64 (IntKind.wrap .i64 (a_4 + b_6))) (2 ^ (min (1 : Int).toNat (IntKind.bits .u64))))) + m_5)) - start_91)) : Int) < b_6))] w109) (
 J110 [.bool false] w109)))) ∧ (
 ∃ (J116 : List Value → World → Prop), (∀ (x119 : Bool), ∀ (_j117 : Nat → Value) (w118 : World), J116 [.bool x119] w118 → (
 ifB x119 (
 doCall Tryz.prog (.func (.func 297) #[] #[]) #[.slice data_p1 data_n2 data_c3, .int .i64 a_4, .int .i64 start_91, .int .i64 (IntKind.wrap .i64 (Int.fdiv (IntKind.wrap .u64 (IntKind.wrap .i64 (a_4 + b_6))) (2 ^ (min (1 : Int).toNat (IntKind.bits .u64))))), .func cmp_f7 cmp_x8 cmp_c9] w118 (retS (fun v120 w121 => v120 = (.tuple #[] : Value) ∧ (
 J107 [] w121)) (fun ch w => Kfn R ch [] w))) (
 J107 [] w118))) ∧ (
 ifB (decide ((a_4 : Int) < start_91)) (
 J116 [.bool (decide ((start_91 : Int) < (IntKind.wrap .i64 (Int.fdiv (IntKind.wrap .u64 (IntKind.wrap .i64 (a_4 + b_6))) (2 ^ (min (1 : Int).toNat (IntKind.bits .u64)))))))] w106) (
 J116 [.bool false] w106))))) ∧ (
 ∃ (J122 : List Value → World → Prop), (∀ (x125 : Bool), ∀ (_j123 : Nat → Value) (w124 : World), J122 [.bool x125] w124 → (
 ifB x125 (
 doCall Tryz.prog (.func (.func 330) #[] #[]) #[.slice data_p1 data_n2 data_c3, .int .i64 start_91, .int .i64 m_5, .int .i64 (IntKind.wrap .i64 ((IntKind.wrap .i64 ((IntKind.wrap .i64 (Int.fdiv (IntKind.wrap .u64 (IntKind.wrap .i64 (a_4 + b_6))) (2 ^ (min (1 : Int).toNat (IntKind.bits .u64))))) + m_5)) - start_91)), .func cmp_f7 cmp_x8 cmp_c9] w124 (retS (fun v126 w127 => v126 = (.tuple #[] : Value) ∧ (
 J104 [] w127)) (fun ch w => Kfn R ch [] w))) (
 J104 [] w124))) ∧ (
 ifB (decide ((start_91 : Int) < m_5)) (
 J122 [.bool (decide ((m_5 : Int) < (IntKind.wrap .i64 ((IntKind.wrap .i64 ((IntKind.wrap .i64 (Int.fdiv (IntKind.wrap .u64 (IntKind.wrap .i64 (a_4 + b_6))) (2 ^ (min (1 : Int).toNat (IntKind.bits .u64))))) + m_5)) - start_91))))] w90) (
 J122 [.bool false] w90)))))))) ∧ (
 ifB (decide ((m_5 : Int) > (IntKind.wrap .i64 (Int.fdiv (IntKind.wrap .u64 (IntKind.wrap .i64 (a_4 + b_6))) (2 ^ (min (1 : Int).toNat (IntKind.bits .u64))))))) (
 J82 [.int .i64 (IntKind.wrap .i64 ((IntKind.wrap .i64 ((IntKind.wrap .i64 (Int.fdiv (IntKind.wrap .u64 (IntKind.wrap .i64 (a_4 + b_6))) (2 ^ (min (1 : Int).toNat (IntKind.bits .u64))))) + m_5)) - b_6)), .int .i64 (IntKind.wrap .i64 (Int.fdiv (IntKind.wrap .u64 (IntKind.wrap .i64 (a_4 + b_6))) (2 ^ (min (1 : Int).toNat (IntKind.bits .u64)))))] w) (
 J82 [.int .i64 a_4, .int .i64 m_5] w)))))
set_option maxRecDepth 100000 in
theorem sh297_ok (data_p1 : Option Addr) (data_n2 : Nat) (data_c3 : Nat) (a_4 : Int) (m_5 : Int) (b_6 : Int) (cmp_f7 : Fn) (cmp_x8 : Array Value) (cmp_c9 : Array Value) {R : Ending → World → Prop} {w : World} : sh297 data_p1 data_n2 data_c3 a_4 m_5 b_6 cmp_f7 cmp_x8 cmp_c9 R w → Calls Tryz.prog 297 #[.slice data_p1 data_n2 data_c3, .int .i64 a_4, .int .i64 m_5, .int .i64 b_6, .func cmp_f7 cmp_x8 cmp_c9] w R :=
  calls_of_eq (ann := fun i => if i = 1000044 then [(0, .nilIface), (213, .bool false)] else if i = 1000043 then [(0, .nilIface)] else if i = 1000042 then [(0, .nilIface), (199, .bool false)] else if i = 1000041 then [(0, .nilIface)] else if i = 1000040 then [(0, .nilIface), (185, .bool false)] else if i = 8 then [(20, .int .i64 0), (21, .int .i64 0)] else if i = 1000032 then [(0, .nilIface), (20, .int .i64 0), (21, .int .i64 0)] else if i = 6 then [(17, .int .i64 0)] else if i = 4 then [(14, .int .i64 0), (15, .int .i64 0)] else if i = 2 then [(13, .int .i64 0)] else if i = 0 then [(10, .int .i64 0), (11, .int .i64 0)] else []) (fn := Tryz.f297) (c := bodyOf Tryz.f297) (args := #[.slice data_p1 data_n2 data_c3, .int .i64 a_4, .int .i64 m_5, .int .i64 b_6, .func cmp_f7 cmp_x8 cmp_c9]) 400 follows_mixed Tryz.func297 (by kernel_rfl) (by kernel_rfl)
end Go.Proofs.YtlddfgfmkapoiaaGreat

namespace Go.Proofs.YtlddfgfmkapoiaaGreat
open Go Go.Sh
set_option maxRecDepth 100000 in
/-- joinery/split.parts -/
def sh165 (s_1 : Option Addr) (at_f2 : Fn) (at_x3 : Array Value) (at_c4 : Array Value) (t_5 : Option Addr) (R : Ending → World → Prop) (w : World) : Prop :=
 doAl (.cells #[.int .i64 0, .int .i64 0, .int .u64 0] 114) w (fun b6 w7 =>
 ifB ((t_5).isNone) (
 doDr w7 (fun w9 =>
 ∃ (C8 : World → Prop), C8 w9 ∧ (
 ∃ (x10 : Int), (∀ w, C8 w → World.cell? w ((blk b6).add 0) = some (.int .i64 x10)) ∧ (
 ∃ (x11 : Int), (∀ w, C8 w → World.cell? w ((blk b6).add 1) = some (.int .i64 x11)) ∧ (
 ∃ (x12 : Int), (∀ w, C8 w → World.cell? w ((blk b6).add 2) = some (.int .u64 x12)) ∧ (
 doSt ((blk b6).add 0) (.int .i64 x10) w9 (fun w13 =>
 doSt ((blk b6).add 1) (.int .i64 x11) w13 (fun w14 =>
 doSt ((blk b6).add 2) (.int .u64 x12) w14 (fun w15 =>
 ∃ (x16 : Int), World.cell? w15 ((blk b6).add 0) = some (.int .i64 x16) ∧ (
 ∃ (x17 : Int), World.cell? w15 ((blk b6).add 1) = some (.int .i64 x17) ∧ (
 ∃ (x18 : Int), World.cell? w15 ((blk b6).add 2) = some (.int .u64 x18) ∧ (
 R (.returned (.tuple #[.pointer none, .agg #[.int .i64 x16, .int .i64 x17, .int .u64 x18], .bool false, .pointer none])) w15)))))))))))) (
 doCall Tryz.prog (.func (.func 108) #[] #[]) #[.pointer t_5] w7 (retS (fun v20 w21 => ∃ (x19 : Int), v20 = (.int .i64 x19 : Value) ∧ (
 doCall Tryz.prog (.func at_f2 at_x3 at_c4) #[.int .i64 x19] w21 (retS (fun v23 w24 => ∃ (x22 : Int), v23 = (.int .i64 x22 : Value) ∧ (
 ifB (decide ((x22 : Int) < 0)) (
 doCall Tryz.prog (.func (.func 125) #[] #[]) #[.pointer t_5] w24 (retS (fun v26 w27 => ∃ (x25 : Option Addr), v26 = (.pointer x25 : Value) ∧ (
 doCall Tryz.prog (.func (.func 165) #[] #[]) #[.pointer s_1, .func at_f2 at_x3 at_c4, .pointer x25] w27 (retS (fun v34 w35 => ∃ (x28 : Option Addr), ∃ (x29 : Int), ∃ (x30 : Int), ∃ (x31 : Int), ∃ (x32 : Bool), ∃ (x33 : Option Addr), v34 = (.tuple #[.pointer x28, .agg #[.int .i64 x29, .int .i64 x30, .int .u64 x31], .bool x32, .pointer x33] : Value) ∧ (
 doSt ((blk b6).add 0) (.int .i64 x29) w35 (fun w36 =>
 doSt ((blk b6).add 1) (.int .i64 x30) w36 (fun w37 =>
 doSt ((blk b6).add 2) (.int .u64 x31) w37 (fun w38 =>
 doDr w38 (fun w40 =>
 ∃ (C39 : World → Prop), C39 w40 ∧ (
 ∃ (x41 : Int), (∀ w, C39 w → World.cell? w ((blk b6).add 0) = some (.int .i64 x41)) ∧ (
 ∃ (x42 : Int), (∀ w, C39 w → World.cell? w ((blk b6).add 1) = some (.int .i64 x42)) ∧ (
 ∃ (x43 : Int), (∀ w, C39 w → World.cell? w ((blk b6).add 2) = some (.int .u64 x43)) ∧ (
 doCall Tryz.prog (.func (.func 123) #[] #[]) #[.pointer t_5] w40 (retS (fun v45 w46 => ∃ (x44 : Option Addr), v45 = (.pointer x44 : Value) ∧ (
 C39 w46 ∧ (
 doCall Tryz.prog (.func (.func 213) #[] #[]) #[.pointer s_1, .pointer t_5] w46 (retS (fun v50 w51 => ∃ (x47 : Int), ∃ (x48 : Int), ∃ (x49 : Int), v50 = (.agg #[.int .i64 x47, .int .i64 x48, .int .u64 x49] : Value) ∧ (
 C39 w51 ∧ (
 doCall Tryz.prog (.func (.func 106) #[] #[]) #[.pointer s_1, .pointer x44, .agg #[.int .i64 x47, .int .i64 x48, .int .u64 x49], .pointer x28] w51 (retS (fun v53 w54 => ∃ (x52 : Option Addr), v53 = (.pointer x52 : Value) ∧ (
 C39 w54 ∧ (
 doSt ((blk b6).add 0) (.int .i64 x41) w54 (fun w55 =>
 doSt ((blk b6).add 1) (.int .i64 x42) w55 (fun w56 =>
 doSt ((blk b6).add 2) (.int .u64 x43) w56 (fun w57 =>
 ∃ (x58 : Int), World.cell? w57 ((blk b6).add 0) = some (.int .i64 x58) ∧ (
 ∃ (x59 : Int), World.cell? w57 ((blk b6).add 1) = some (.int .i64 x59) ∧ (
 ∃ (x60 : Int), World.cell? w57 ((blk b6).add 2) = some (.int .u64 x60) ∧ (
 R (.returned (.tuple #[.pointer x52, .agg #[.int .i64 x58, .int .i64 x59, .int .u64 x60], .bool x32, .pointer x33])) w57))))))))) (fun ch w => Kfn R ch [] w))))) (fun ch w => Kfn R ch [] w))))) (fun ch w => Kfn R ch [] w)))))))))))) (fun ch w => Kfn R ch [] w)))) (fun ch w => Kfn R ch [] w))) (
 ifB (decide ((x22 : Int) > 0)) (
 doCall Tryz.prog (.func (.func 123) #[] #[]) #[.pointer t_5] w24 (retS (fun v62 w63 => ∃ (x61 : Option Addr), v62 = (.pointer x61 : Value) ∧ (
 doCall Tryz.prog (.func (.func 165) #[] #[]) #[.pointer s_1, .func at_f2 at_x3 at_c4, .pointer x61] w63 (retS (fun v70 w71 => ∃ (x64 : Option Addr), ∃ (x65 : Int), ∃ (x66 : Int), ∃ (x67 : Int), ∃ (x68 : Bool), ∃ (x69 : Option Addr), v70 = (.tuple #[.pointer x64, .agg #[.int .i64 x65, .int .i64 x66, .int .u64 x67], .bool x68, .pointer x69] : Value) ∧ (
 doSt ((blk b6).add 0) (.int .i64 x65) w71 (fun w72 =>
 doSt ((blk b6).add 1) (.int .i64 x66) w72 (fun w73 =>
 doSt ((blk b6).add 2) (.int .u64 x67) w73 (fun w74 =>
 doDr w74 (fun w76 =>
 ∃ (C75 : World → Prop), C75 w76 ∧ (
 ∃ (x77 : Int), (∀ w, C75 w → World.cell? w ((blk b6).add 0) = some (.int .i64 x77)) ∧ (
 ∃ (x78 : Int), (∀ w, C75 w → World.cell? w ((blk b6).add 1) = some (.int .i64 x78)) ∧ (
 ∃ (x79 : Int), (∀ w, C75 w → World.cell? w ((blk b6).add 2) = some (.int .u64 x79)) ∧ (
 doCall Tryz.prog (.func (.func 213) #[] #[]) #[.pointer s_1, .pointer t_5] w76 (retS (fun v83 w84 => ∃ (x80 : Int), ∃ (x81 : Int), ∃ (x82 : Int), v83 = (.agg #[.int .i64 x80, .int .i64 x81, .int .u64 x82] : Value) ∧ (
 C75 w84 ∧ (
 doCall Tryz.prog (.func (.func 125) #[] #[]) #[.pointer t_5] w84 (retS (fun v86 w87 => ∃ (x85 : Option Addr), v86 = (.pointer x85 : Value) ∧ (
 C75 w87 ∧ (
 doCall Tryz.prog (.func (.func 106) #[] #[]) #[.pointer s_1, .pointer x69, .agg #[.int .i64 x80, .int .i64 x81, .int .u64 x82], .pointer x85] w87 (retS (fun v89 w90 => ∃ (x88 : Option Addr), v89 = (.pointer x88 : Value) ∧ (
 C75 w90 ∧ (
 doSt ((blk b6).add 0) (.int .i64 x77) w90 (fun w91 =>
 doSt ((blk b6).add 1) (.int .i64 x78) w91 (fun w92 =>
 doSt ((blk b6).add 2) (.int .u64 x79) w92 (fun w93 =>
 ∃ (x94 : Int), World.cell? w93 ((blk b6).add 0) = some (.int .i64 x94) ∧ (
 ∃ (x95 : Int), World.cell? w93 ((blk b6).add 1) = some (.int .i64 x95) ∧ (
 ∃ (x96 : Int), World.cell? w93 ((blk b6).add 2) = some (.int .u64 x96) ∧ (
 R (.returned (.tuple #[.pointer x64, .agg #[.int .i64 x94, .int .i64 x95, .int .u64 x96], .bool x68, .pointer x88])) w93))))))))) (fun ch w => Kfn R ch [] w))))) (fun ch w => Kfn R ch [] w))))) (fun ch w => Kfn R ch [] w)))))))))))) (fun ch w => Kfn R ch [] w)))) (fun ch w => Kfn R ch [] w))) (
 doCall Tryz.prog (.func (.func 123) #[] #[]) #[.pointer t_5] w24 (retS (fun v98 w99 => ∃ (x97 : Option Addr), v98 = (.pointer x97 : Value) ∧ (
 doCall Tryz.prog (.func (.func 162) #[] #[]) #[.pointer s_1, .pointer x97] w99 (retS (fun v101 w102 => ∃ (x100 : Option Addr), v101 = (.pointer x100 : Value) ∧ (
 doCall Tryz.prog (.func (.func 213) #[] #[]) #[.pointer s_1, .pointer t_5] w102 (retS (fun v106 w107 => ∃ (x103 : Int), ∃ (x104 : Int), ∃ (x105 : Int), v106 = (.agg #[.int .i64 x103, .int .i64 x104, .int .u64 x105] : Value) ∧ (
 doCall Tryz.prog (.func (.func 125) #[] #[]) #[.pointer t_5] w107 (retS (fun v109 w110 => ∃ (x108 : Option Addr), v109 = (.pointer x108 : Value) ∧ (
 doCall Tryz.prog (.func (.func 162) #[] #[]) #[.pointer s_1, .pointer x108] w110 (retS (fun v112 w113 => ∃ (x111 : Option Addr), v112 = (.pointer x111 : Value) ∧ (
 doSt ((blk b6).add 0) (.int .i64 x103) w113 (fun w114 =>
 doSt ((blk b6).add 1) (.int .i64 x104) w114 (fun w115 =>
 doSt ((blk b6).add 2) (.int .u64 x105) w115 (fun w116 =>
 ∃ (x117 : Int), World.cell? w116 ((blk b6).add 0) = some (.int .i64 x117) ∧ (
 ∃ (x118 : Int), World.cell? w116 ((blk b6).add 1) = some (.int .i64 x118) ∧ (
 ∃ (x119 : Int), World.cell? w116 ((blk b6).add 2) = some (.int .u64 x119) ∧ (
 R (.returned (.tuple #[.pointer x100, .agg #[.int .i64 x117, .int .i64 x118, .int .u64 x119], .bool true, .pointer x111])) w116)))))))) (fun ch w => Kfn R ch [] w)))) (fun ch w => Kfn R ch [] w)))) (fun ch w => Kfn R ch [] w)))) (fun ch w => Kfn R ch [] w)))) (fun ch w => Kfn R ch [] w)))))) (fun ch w => Kfn R ch [] w)))) (fun ch w => Kfn R ch [] w))))
set_option maxRecDepth 100000 in
theorem sh165_ok (s_1 : Option Addr) (at_f2 : Fn) (at_x3 : Array Value) (at_c4 : Array Value) (t_5 : Option Addr) {R : Ending → World → Prop} {w : World} : sh165 s_1 at_f2 at_x3 at_c4 t_5 R w → Calls Tryz.prog 165 #[.pointer s_1, .func at_f2 at_x3 at_c4, .pointer t_5] w R :=
  calls_of_eq (ann := fun _ => []) (fn := Tryz.f165) (c := bodyOf Tryz.f165) (args := #[.pointer s_1, .func at_f2 at_x3 at_c4, .pointer t_5]) 400 follows_mixed Tryz.func165 (by kernel_rfl) (by kernel_rfl)
end Go.Proofs.YtlddfgfmkapoiaaGreat

