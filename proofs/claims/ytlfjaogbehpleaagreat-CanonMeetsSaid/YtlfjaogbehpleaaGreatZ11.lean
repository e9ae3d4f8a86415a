/-
  Printed by a program (gen.py): what the functions of the program do, as formulas; each with the proof that its call is what the formula says.
-/
/-
  Printed by a program (gen.py): what the functions of the program do, as formulas; each with the proof that its call is what the formula says.
-/
/-
  Printed by a program (gen.py): what the functions of the program do, as formulas; each with the proof that its call is what the formula says.
-/
/-
  Printed by a program (gen.py): what the functions of the program do, as formulas; each with the proof that its call is what the formula says.
-/
import Derived.Test.YtlfjaogbehpleaaGreatZ04
import Derived.Test.YtlfjaogbehpleaaGreatProg
import Derived.Test.YtlfjaogbehpleaaGreatZ05

namespace Go.Proofs.YtlfjaogbehpleaaGreat
open Go Go.Sh
set_option maxRecDepth 100000 in
/-- joinery/wb.within[int] -/
def sh326 (least_1 : Int) (most_2 : Int) (l_p3 : Option Addr) (l_n4 : Nat) (_l_c5 : Nat) (R : Ending → World → Prop) (w : World) : Prop :=
 ∃ (I6 : List Value → World → Prop) (μ7 : List Value → World → Nat), I6 [.int .i64 0] w ∧ (∀ (x10 : Int), ∀ (_j8 : Nat → Value) (w9 : World), I6 [.int .i64 x10] w9 → (
 ifB (decide ((x10 : Int) < ((l_n4 : Nat) : Int))) (
 doIx l_p3 l_n4 1 (x10) (fun a11 =>
 ∃ (x12 : Int), World.cell? w9 a11 = some (.int .i64 x12) ∧ (
 let K15 : Bool → World → Prop := fun (x13 : Bool) (w14 : World) => 
 ifB x13 (
 R (.returned (.bool false)) w14) (
 I6 [.int .i64 (IntKind.wrap .i64 (x10 + 1))] w14 ∧ μ7 [.int .i64 (IntKind.wrap .i64 (x10 + 1))] w14 < μ7 [.int .i64 x10] w9)
 ifB (decide ((x12 : Int) < least_1)) (
 R (.returned (.bool false)) w9) (
 K15 (decide ((x12 : Int) > most_2)) w9)))) (
 R (.returned (.bool true)) w9)))
set_option maxRecDepth 100000 in
theorem sh326_ok (least_1 : Int) (most_2 : Int) (l_p3 : Option Addr) (l_n4 : Nat) (l_c5 : Nat) {R : Ending → World → Prop} {w : World} : sh326 least_1 most_2 l_p3 l_n4 l_c5 R w → Calls Tryz.prog 326 #[.int .i64 least_1, .int .i64 most_2, .slice l_p3 l_n4 l_c5] w R :=
  Old.calls_of_eq (ann := fun i => if i = 0 then [(11, .int .i64 0)] else []) (fn := Tryz.f326) (c := bodyOf Tryz.f326) (args := #[.int .i64 least_1, .int .i64 most_2, .slice l_p3 l_n4 l_c5]) 400 follows_mixed Tryz.func326 (by kernel_rfl) (by kernel_rfl)
set_option maxRecDepth 100000 in
/-- joinery/treap.above -/
def sh327 (a_1 : Int) (a_2 : Int) (a_3 : Int) (b_4 : Int) (b_5 : Int) (b_6 : Int) (R : Ending → World → Prop) (w : World) : Prop :=
 doAl (.cells #[.int .i64 a_1, .int .i64 a_2, .int .u64 a_3] 133) w (fun b7 w8 =>
 doAl (.cells #[.int .i64 b_4, .int .i64 b_5, .int .u64 b_6] 133) w8 (fun b9 w10 =>
 let K13 : Bool → World → Prop := fun (x11 : Bool) (w12 : World) => 
 R (.returned (.bool x11)) w12
 ∃ (x14 : Int), World.cell? w10 ((blk b7).add 2) = some (.int .u64 x14) ∧ (
 ∃ (x15 : Int), World.cell? w10 ((blk b9).add 2) = some (.int .u64 x15) ∧ (
 ifB (decide ((x14 : Int) > x15)) (
 R (.returned (.bool true)) w10) (
 ∃ (x16 : Int), World.cell? w10 ((blk b7).add 2) = some (.int .u64 x16) ∧ (
 ∃ (x17 : Int), World.cell? w10 ((blk b9).add 2) = some (.int .u64 x17) ∧ (
 ifB ((x16 : Int) == x17) (
 ∃ (x18 : Int), World.cell? w10 ((blk b7).add 0) = some (.int .i64 x18) ∧ (
 ∃ (x19 : Int), World.cell? w10 ((blk b9).add 0) = some (.int .i64 x19) ∧ (
 K13 (decide ((x18 : Int) > x19)) w10))) (
 R (.returned (.bool false)) w10))))))))
set_option maxRecDepth 100000 in
theorem sh327_ok (a_1 : Int) (a_2 : Int) (a_3 : Int) (b_4 : Int) (b_5 : Int) (b_6 : Int) {R : Ending → World → Prop} {w : World} : sh327 a_1 a_2 a_3 b_4 b_5 b_6 R w → Calls Tryz.prog 327 #[.agg #[.int .i64 a_1, .int .i64 a_2, .int .u64 a_3], .agg #[.int .i64 b_4, .int .i64 b_5, .int .u64 b_6]] w R :=
  Old.calls_of_eq (ann := fun _ => []) (fn := Tryz.f327) (c := bodyOf Tryz.f327) (args := #[.agg #[.int .i64 a_1, .int .i64 a_2, .int .u64 a_3], .agg #[.int .i64 b_4, .int .i64 b_5, .int .u64 b_6]]) 400 follows_mixed Tryz.func327 (by kernel_rfl) (by kernel_rfl)
set_option maxRecDepth 100000 in
/-- joinery/treap.item -/
def sh328 (n_1 : Option Addr) (R : Ending → World → Prop) (w : World) : Prop :=
 doAl (.cells #[.int .i64 0, .int .i64 0, .int .u64 0] 133) w (fun b2 w3 =>
 doCall Tryz.prog (.func (.func 131) #[] #[]) #[.pointer n_1] w3 (retS (fun v5 w6 => ∃ (x4 : Int), v5 = (.int .i64 x4 : Value) ∧ (
 doCall Tryz.prog (.func (.func 132) #[] #[]) #[.pointer n_1] w6 (retS (fun v8 w9 => ∃ (x7 : Int), v8 = (.int .i64 x7 : Value) ∧ (
 doCall Tryz.prog (.func (.func 214) #[] #[]) #[.pointer n_1] w9 (retS (fun v11 w12 => ∃ (x10 : Int), v11 = (.int .u64 x10 : Value) ∧ (
 doSt ((blk b2).add 0) (.int .i64 x4) w12 (fun w13 =>
 doSt ((blk b2).add 1) (.int .i64 x7) w13 (fun w14 =>
 doSt ((blk b2).add 2) (.int .u64 x10) w14 (fun w15 =>
 ∃ (x16 : Int), World.cell? w15 ((blk b2).add 0) = some (.int .i64 x16) ∧ (
 ∃ (x17 : Int), World.cell? w15 ((blk b2).add 1) = some (.int .i64 x17) ∧ (
 ∃ (x18 : Int), World.cell? w15 ((blk b2).add 2) = some (.int .u64 x18) ∧ (
 R (.returned (.agg #[.int .i64 x16, .int .i64 x17, .int .u64 x18])) w15)))))))) (fun ch w => Kfn R ch [] w)))) (fun ch w => Kfn R ch [] w)))) (fun ch w => Kfn R ch [] w)))
set_option maxRecDepth 100000 in
theorem sh328_ok (n_1 : Option Addr) {R : Ending → World → Prop} {w : World} : sh328 n_1 R w → Calls Tryz.prog 328 #[.pointer n_1] w R :=
  Old.calls_of_eq (ann := fun _ => []) (fn := Tryz.f328) (c := bodyOf Tryz.f328) (args := #[.pointer n_1]) 400 follows_mixed Tryz.func328 (by kernel_rfl) (by kernel_rfl)
set_option maxRecDepth 100000 in
/-- joinery/cut.to$1 -/
def sh335 (there_1 : Option Addr) (x_2 : Int) (x_3 : Int) (x_4 : Int) (others_5 : Option Addr) (x6 : Addr) (R : Ending → World → Prop) (w : World) : Prop :=
 doAl (.cells #[.int .i64 x_2, .int .i64 x_3, .int .u64 x_4] 133) w (fun b7 w8 =>
 ∃ (x9 : Option Addr), World.cell? w8 x6 = some (.pointer x9) ∧ (
 ∃ (x10 : Int), World.cell? w8 ((blk b7).add 0) = some (.int .i64 x10) ∧ (
 ∃ (x11 : Int), World.cell? w8 ((blk b7).add 1) = some (.int .i64 x11) ∧ (
 ∃ (x12 : Int), World.cell? w8 ((blk b7).add 2) = some (.int .u64 x12) ∧ (
 doCall Tryz.prog (.func (.func 145) #[] #[]) #[.pointer x9, .pointer others_5, .agg #[.int .i64 x10, .int .i64 x11, .int .u64 x12], .pointer there_1] w8 (retS (fun v14 w15 => ∃ (x13 : Option Addr), v14 = (.pointer x13 : Value) ∧ (
 R (.returned (.pointer x13)) w15)) (fun ch w => Kfn R ch [] w)))))))
set_option maxRecDepth 100000 in
theorem sh335_ok (there_1 : Option Addr) (x_2 : Int) (x_3 : Int) (x_4 : Int) (others_5 : Option Addr) (x6 : Addr) {R : Ending → World → Prop} {w : World} : sh335 there_1 x_2 x_3 x_4 others_5 x6 R w → Calls Tryz.prog 335 #[.pointer there_1, .agg #[.int .i64 x_2, .int .i64 x_3, .int .u64 x_4], .pointer others_5, .pointer (some x6)] w R :=
  Old.calls_of_eq (ann := fun _ => []) (fn := Tryz.f335) (c := bodyOf Tryz.f335) (args := #[.pointer there_1, .agg #[.int .i64 x_2, .int .i64 x_3, .int .u64 x_4], .pointer others_5, .pointer (some x6)]) 400 follows_mixed Tryz.func335 (by kernel_rfl) (by kernel_rfl)
set_option maxRecDepth 100000 in
/-- joinery/wbjoin.of -/
def sh353 (t_1 : Option Addr) (R : Ending → World → Prop) (w : World) : Prop :=
 doAl (.cells #[.pointer none, .pointer none] 382) w (fun b2 w3 =>
 doCall Tryz.prog (.func (.func 128) #[] #[]) #[.pointer t_1] w3 (retS (fun v5 w6 => ∃ (x4 : Option Addr), v5 = (.pointer x4 : Value) ∧ (
 doCall Tryz.prog (.func (.func 130) #[] #[]) #[.pointer t_1] w6 (retS (fun v8 w9 => ∃ (x7 : Option Addr), v8 = (.pointer x7 : Value) ∧ (
 doSt ((blk b2).add 0) (.pointer x4) w9 (fun w10 =>
 doSt ((blk b2).add 1) (.pointer x7) w10 (fun w11 =>
 ∃ (x12 : Option Addr), World.cell? w11 ((blk b2).add 0) = some (.pointer x12) ∧ (
 ∃ (x13 : Option Addr), World.cell? w11 ((blk b2).add 1) = some (.pointer x13) ∧ (
 R (.returned (.agg #[.pointer x12, .pointer x13])) w11)))))) (fun ch w => Kfn R ch [] w)))) (fun ch w => Kfn R ch [] w)))
set_option maxRecDepth 100000 in
theorem sh353_ok (t_1 : Option Addr) {R : Ending → World → Prop} {w : World} : sh353 t_1 R w → Calls Tryz.prog 353 #[.pointer t_1] w R :=
  Old.calls_of_eq (ann := fun _ => []) (fn := Tryz.f353) (c := bodyOf Tryz.f353) (args := #[.pointer t_1]) 400 follows_mixed Tryz.func353 (by kernel_rfl) (by kernel_rfl)
set_option maxRecDepth 100000 in
/-- (joinery/scheme.plain).faces -/
def sh394 (p_1 : ByteArray) (p_f2 : Fn) (p_x3 : Array Value) (p_c4 : Array Value) (p_f5 : Fn) (p_x6 : Array Value) (p_c7 : Array Value) (p_f8 : Fn) (p_x9 : Array Value) (p_c10 : Array Value) (p_f11 : Fn) (p_x12 : Array Value) (p_c13 : Array Value) (p_f14 : Fn) (p_x15 : Array Value) (p_c16 : Array Value) (p_f17 : Fn) (p_x18 : Array Value) (p_c19 : Array Value) (R : Ending → World → Prop) (w : World) : Prop :=
 doAl (.cells #[.string p_1, .func p_f2 p_x3 p_c4, .func p_f5 p_x6 p_c7, .func p_f8 p_x9 p_c10, .func p_f11 p_x12 p_c13, .func p_f14 p_x15 p_c16, .func p_f17 p_x18 p_c19] 241) w (fun b20 w21 =>
 doAl (.cells #[.string (⟨#[]⟩ : ByteArray), .nilFunc, .nilFunc, .nilFunc, .nilFunc, .nilFunc, .nilFunc, .bool false] 193) w21 (fun b22 w23 =>
 ∃ (x24 : ByteArray), World.cell? w23 ((blk b20).add 0) = some (.string x24) ∧ (
 ∃ (x25 : ByteArray), World.cell? w23 ((blk b20).add 0) = some (.string x25) ∧ (
 ∃ (xf26 : Fn), ∃ (xx27 : Array Value), ∃ (xc28 : Array Value), World.cell? w23 ((blk b20).add 1) = some (.func xf26 xx27 xc28) ∧ (
 ∃ (xf29 : Fn), ∃ (xx30 : Array Value), ∃ (xc31 : Array Value), World.cell? w23 ((blk b20).add 2) = some (.func xf29 xx30 xc31) ∧ (
 ∃ (xf32 : Fn), ∃ (xx33 : Array Value), ∃ (xc34 : Array Value), World.cell? w23 ((blk b20).add 3) = some (.func xf32 xx33 xc34) ∧ (
 ∃ (xf35 : Fn), ∃ (xx36 : Array Value), ∃ (xc37 : Array Value), World.cell? w23 ((blk b20).add 4) = some (.func xf35 xx36 xc37) ∧ (
 ∃ (xf38 : Fn), ∃ (xx39 : Array Value), ∃ (xc40 : Array Value), World.cell? w23 ((blk b20).add 5) = some (.func xf38 xx39 xc40) ∧ (
 ∃ (xf41 : Fn), ∃ (xx42 : Array Value), ∃ (xc43 : Array Value), World.cell? w23 ((blk b20).add 6) = some (.func xf41 xx42 xc43) ∧ (
 ∃ (xf44 : Fn), ∃ (xx45 : Array Value), ∃ (xc46 : Array Value), World.cell? w23 (((blk b20).add 2).add 4) = some (.func xf44 xx45 xc46) ∧ (
 ∃ (xf47 : Fn), ∃ (xx48 : Array Value), ∃ (xc49 : Array Value), World.cell? w23 (((blk b20).add 2).add 0) = some (.func xf47 xx48 xc49) ∧ (
 ∃ (xf50 : Fn), ∃ (xx51 : Array Value), ∃ (xc52 : Array Value), World.cell? w23 (((blk b20).add 2).add 1) = some (.func xf50 xx51 xc52) ∧ (
 ∃ (xf53 : Fn), ∃ (xx54 : Array Value), ∃ (xc55 : Array Value), World.cell? w23 (((blk b20).add 2).add 2) = some (.func xf53 xx54 xc55) ∧ (
 ∃ (xf56 : Fn), ∃ (xx57 : Array Value), ∃ (xc58 : Array Value), World.cell? w23 (((blk b20).add 2).add 3) = some (.func xf56 xx57 xc58) ∧ (
 doSt ((blk b22).add 0) (.string x24) w23 (fun w59 =>
 doSt ((blk b22).add 1) (.func (.func 395) #[.agg #[.string x25, .func xf26 xx27 xc28, .func xf29 xx30 xc31, .func xf32 xx33 xc34, .func xf35 xx36 xc37, .func xf38 xx39 xc40, .func xf41 xx42 xc43]] #[]) w59 (fun w60 =>
 doSt ((blk b22).add 2) (.func xf44 xx45 xc46) w60 (fun w61 =>
 doSt ((blk b22).add 3) (.func xf47 xx48 xc49) w61 (fun w62 =>
 doSt ((blk b22).add 4) (.func xf50 xx51 xc52) w62 (fun w63 =>
 doSt ((blk b22).add 5) (.func xf53 xx54 xc55) w63 (fun w64 =>
 doSt ((blk b22).add 6) (.func xf56 xx57 xc58) w64 (fun w65 =>
 doSt ((blk b22).add 7) (.bool false) w65 (fun w66 =>
 ∃ (x67 : ByteArray), World.cell? w66 ((blk b22).add 0) = some (.string x67) ∧ (
 ∃ (xf68 : Fn), ∃ (xx69 : Array Value), ∃ (xc70 : Array Value), World.cell? w66 ((blk b22).add 1) = some (.func xf68 xx69 xc70) ∧ (
 ∃ (xf71 : Fn), ∃ (xx72 : Array Value), ∃ (xc73 : Array Value), World.cell? w66 ((blk b22).add 2) = some (.func xf71 xx72 xc73) ∧ (
 ∃ (xf74 : Fn), ∃ (xx75 : Array Value), ∃ (xc76 : Array Value), World.cell? w66 ((blk b22).add 3) = some (.func xf74 xx75 xc76) ∧ (
 ∃ (xf77 : Fn), ∃ (xx78 : Array Value), ∃ (xc79 : Array Value), World.cell? w66 ((blk b22).add 4) = some (.func xf77 xx78 xc79) ∧ (
 ∃ (xf80 : Fn), ∃ (xx81 : Array Value), ∃ (xc82 : Array Value), World.cell? w66 ((blk b22).add 5) = some (.func xf80 xx81 xc82) ∧ (
 ∃ (xf83 : Fn), ∃ (xx84 : Array Value), ∃ (xc85 : Array Value), World.cell? w66 ((blk b22).add 6) = some (.func xf83 xx84 xc85) ∧ (
 ∃ (x86 : Bool), World.cell? w66 ((blk b22).add 7) = some (.bool x86) ∧ (
 R (.returned (.agg #[.string x67, .func xf68 xx69 xc70, .func xf71 xx72 xc73, .func xf74 xx75 xc76, .func xf77 xx78 xc79, .func xf80 xx81 xc82, .func xf83 xx84 xc85, .bool x86])) w66)))))))))))))))))))))))))))))))
set_option maxRecDepth 100000 in
theorem sh394_ok (p_1 : ByteArray) (p_f2 : Fn) (p_x3 : Array Value) (p_c4 : Array Value) (p_f5 : Fn) (p_x6 : Array Value) (p_c7 : Array Value) (p_f8 : Fn) (p_x9 : Array Value) (p_c10 : Array Value) (p_f11 : Fn) (p_x12 : Array Value) (p_c13 : Array Value) (p_f14 : Fn) (p_x15 : Array Value) (p_c16 : Array Value) (p_f17 : Fn) (p_x18 : Array Value) (p_c19 : Array Value) {R : Ending → World → Prop} {w : World} : sh394 p_1 p_f2 p_x3 p_c4 p_f5 p_x6 p_c7 p_f8 p_x9 p_c10 p_f11 p_x12 p_c13 p_f14 p_x15 p_c16 p_f17 p_x18 p_c19 R w → Calls Tryz.prog 394 #[.agg #[.string p_1, .func p_f2 p_x3 p_c4, .func p_f5 p_x6 p_c7, .func p_f8 p_x9 p_c10, .func p_f11 p_x12 p_c13, .func p_f14 p_x15 p_c16, .func p_f17 p_x18 p_c19]] w R :=
  Old.calls_of_eq (ann := fun _ => []) (fn := Tryz.f394) (c := bodyOf Tryz.f394) (args := #[.agg #[.string p_1, .func p_f2 p_x3 p_c4, .func p_f5 p_x6 p_c7, .func p_f8 p_x9 p_c10, .func p_f11 p_x12 p_c13, .func p_f14 p_x15 p_c16, .func p_f17 p_x18 p_c19]]) 400 follows_mixed Tryz.func394 (by kernel_rfl) (by kernel_rfl)
set_option maxRecDepth 100000 in
/-- (joinery/scheme.plain).of -/
def sh395 (p_1 : ByteArray) (p_f2 : Fn) (p_x3 : Array Value) (p_c4 : Array Value) (p_f5 : Fn) (p_x6 : Array Value) (p_c7 : Array Value) (p_f8 : Fn) (p_x9 : Array Value) (p_c10 : Array Value) (p_f11 : Fn) (p_x12 : Array Value) (p_c13 : Array Value) (p_f14 : Fn) (p_x15 : Array Value) (p_c16 : Array Value) (p_f17 : Fn) (p_x18 : Array Value) (p_c19 : Array Value) (l_20 : Option Addr) (x_21 : Int) (x_22 : Int) (x_23 : Int) (r_24 : Option Addr) (R : Ending → World → Prop) (w : World) : Prop :=
 doAl (.cells #[.string p_1, .func p_f2 p_x3 p_c4, .func p_f5 p_x6 p_c7, .func p_f8 p_x9 p_c10, .func p_f11 p_x12 p_c13, .func p_f14 p_x15 p_c16, .func p_f17 p_x18 p_c19] 241) w (fun b25 w26 =>
 doAl (.cells #[.int .i64 x_21, .int .i64 x_22, .int .u64 x_23] 133) w26 (fun b27 w28 =>
 ∃ (xf29 : Fn), ∃ (xx30 : Array Value), ∃ (xc31 : Array Value), World.cell? w28 ((blk b25).add 1) = some (.func xf29 xx30 xc31) ∧ (
 ∃ (x32 : Int), World.cell? w28 ((blk b27).add 0) = some (.int .i64 x32) ∧ (
 ∃ (x33 : Int), World.cell? w28 ((blk b27).add 1) = some (.int .i64 x33) ∧ (
 doCall Tryz.prog (.func xf29 xx30 xc31) #[.pointer l_20, .int .i64 x32, .int .i64 x33, .pointer r_24] w28 (retS (fun v35 w36 => ∃ (x34 : Option Addr), v35 = (.pointer x34 : Value) ∧ (
 R (.returned (.pointer x34)) w36)) (fun ch w => Kfn R ch [] w)))))))
set_option maxRecDepth 100000 in
theorem sh395_ok (p_1 : ByteArray) (p_f2 : Fn) (p_x3 : Array Value) (p_c4 : Array Value) (p_f5 : Fn) (p_x6 : Array Value) (p_c7 : Array Value) (p_f8 : Fn) (p_x9 : Array Value) (p_c10 : Array Value) (p_f11 : Fn) (p_x12 : Array Value) (p_c13 : Array Value) (p_f14 : Fn) (p_x15 : Array Value) (p_c16 : Array Value) (p_f17 : Fn) (p_x18 : Array Value) (p_c19 : Array Value) (l_20 : Option Addr) (x_21 : Int) (x_22 : Int) (x_23 : Int) (r_24 : Option Addr) {R : Ending → World → Prop} {w : World} : sh395 p_1 p_f2 p_x3 p_c4 p_f5 p_x6 p_c7 p_f8 p_x9 p_c10 p_f11 p_x12 p_c13 p_f14 p_x15 p_c16 p_f17 p_x18 p_c19 l_20 x_21 x_22 x_23 r_24 R w → Calls Tryz.prog 395 #[.agg #[.string p_1, .func p_f2 p_x3 p_c4, .func p_f5 p_x6 p_c7, .func p_f8 p_x9 p_c10, .func p_f11 p_x12 p_c13, .func p_f14 p_x15 p_c16, .func p_f17 p_x18 p_c19], .pointer l_20, .agg #[.int .i64 x_21, .int .i64 x_22, .int .u64 x_23], .pointer r_24] w R :=
  Old.calls_of_eq (ann := fun _ => []) (fn := Tryz.f395) (c := bodyOf Tryz.f395) (args := #[.agg #[.string p_1, .func p_f2 p_x3 p_c4, .func p_f5 p_x6 p_c7, .func p_f8 p_x9 p_c10, .func p_f11 p_x12 p_c13, .func p_f14 p_x15 p_c16, .func p_f17 p_x18 p_c19], .pointer l_20, .agg #[.int .i64 x_21, .int .i64 x_22, .int .u64 x_23], .pointer r_24]) 400 follows_mixed Tryz.func395 (by kernel_rfl) (by kernel_rfl)
set_option maxRecDepth 100000 in
/-- (joinery/scheme.tagged).faces -/
def sh396  (R : Ending → World → Prop) (w : World) : Prop :=
 doAl (.cells #[] 242) w (fun _b1 w2 =>
 doAl (.cells #[.string (⟨#[]⟩ : ByteArray), .nilFunc, .nilFunc, .nilFunc, .nilFunc, .nilFunc, .nilFunc, .bool false] 193) w2 (fun b3 w4 =>
 doSt ((blk b3).add 0) (.string (⟨#[116, 114, 101, 97, 112]⟩ : ByteArray)) w4 (fun w5 =>
 doSt ((blk b3).add 1) (.func (.func 397) #[] #[]) w5 (fun w6 =>
 doSt ((blk b3).add 2) (.func (.func 198) #[] #[]) w6 (fun w7 =>
 doSt ((blk b3).add 3) (.func (.func 213) #[] #[]) w7 (fun w8 =>
 doSt ((blk b3).add 4) (.func (.func 134) #[] #[]) w8 (fun w9 =>
 doSt ((blk b3).add 5) (.func (.func 398) #[.agg #[]] #[]) w9 (fun w10 =>
 doSt ((blk b3).add 6) (.func (.func 399) #[] #[]) w10 (fun w11 =>
 doSt ((blk b3).add 7) (.bool true) w11 (fun w12 =>
 ∃ (x13 : ByteArray), World.cell? w12 ((blk b3).add 0) = some (.string x13) ∧ (
 ∃ (xf14 : Fn), ∃ (xx15 : Array Value), ∃ (xc16 : Array Value), World.cell? w12 ((blk b3).add 1) = some (.func xf14 xx15 xc16) ∧ (
 ∃ (xf17 : Fn), ∃ (xx18 : Array Value), ∃ (xc19 : Array Value), World.cell? w12 ((blk b3).add 2) = some (.func xf17 xx18 xc19) ∧ (
 ∃ (xf20 : Fn), ∃ (xx21 : Array Value), ∃ (xc22 : Array Value), World.cell? w12 ((blk b3).add 3) = some (.func xf20 xx21 xc22) ∧ (
 ∃ (xf23 : Fn), ∃ (xx24 : Array Value), ∃ (xc25 : Array Value), World.cell? w12 ((blk b3).add 4) = some (.func xf23 xx24 xc25) ∧ (
 ∃ (xf26 : Fn), ∃ (xx27 : Array Value), ∃ (xc28 : Array Value), World.cell? w12 ((blk b3).add 5) = some (.func xf26 xx27 xc28) ∧ (
 ∃ (xf29 : Fn), ∃ (xx30 : Array Value), ∃ (xc31 : Array Value), World.cell? w12 ((blk b3).add 6) = some (.func xf29 xx30 xc31) ∧ (
 ∃ (x32 : Bool), World.cell? w12 ((blk b3).add 7) = some (.bool x32) ∧ (
 R (.returned (.agg #[.string x13, .func xf14 xx15 xc16, .func xf17 xx18 xc19, .func xf20 xx21 xc22, .func xf23 xx24 xc25, .func xf26 xx27 xc28, .func xf29 xx30 xc31, .bool x32])) w12))))))))))))))))))
set_option maxRecDepth 100000 in
theorem sh396_ok  {R : Ending → World → Prop} {w : World} : sh396  R w → Calls Tryz.prog 396 #[.agg #[]] w R :=
  Old.calls_of_eq (ann := fun _ => []) (fn := Tryz.f396) (c := bodyOf Tryz.f396) (args := #[.agg #[]]) 400 follows_mixed Tryz.func396 (by kernel_rfl) (by kernel_rfl)
set_option maxRecDepth 100000 in
/-- joinery/treapjoin.Join -/
def sh397 (l_1 : Option Addr) (x_2 : Int) (x_3 : Int) (x_4 : Int) (r_5 : Option Addr) (R : Ending → World → Prop) (w : World) : Prop :=
 doAl (.cells #[.int .i64 x_2, .int .i64 x_3, .int .u64 x_4] 133) w (fun b6 w7 =>
 ∃ (x8 : Int), World.cell? w7 ((blk b6).add 0) = some (.int .i64 x8) ∧ (
 ∃ (x9 : Int), World.cell? w7 ((blk b6).add 1) = some (.int .i64 x9) ∧ (
 ∃ (x10 : Int), World.cell? w7 ((blk b6).add 2) = some (.int .u64 x10) ∧ (
 doCall Tryz.prog (.func (.func 261) #[] #[]) #[.pointer none, .int .i64 x8, .int .i64 x9, .int .u64 x10, .pointer none] w7 (retS (fun v12 w13 => ∃ (x11 : Option Addr), v12 = (.pointer x11 : Value) ∧ (
 doAl (.cells #[.pointer x11, .pointer r_5] 68) w13 (fun b14 w15 =>
 doCall Tryz.prog (.func (.func 400) #[] #[]) #[.pointer l_1, .slice (some (blk b14)) 2 2] w15 (retS (fun v17 w18 => ∃ (x16 : Bool), v17 = (.bool x16 : Value) ∧ (
 doAl (.cells #[.pointer x11, .pointer l_1] 68) w18 (fun b19 w20 =>
 doCall Tryz.prog (.func (.func 400) #[] #[]) #[.pointer r_5, .slice (some (blk b19)) 2 2] w20 (retS (fun v22 w23 => ∃ (x21 : Bool), v22 = (.bool x21 : Value) ∧ (
 ifB ((x16 == true) && ((x21 == false) && true)) (
 doDr w23 (fun w25 =>
 ∃ (C24 : World → Prop), C24 w25 ∧ (
 ∃ (x26 : Int), (∀ w, C24 w → World.cell? w ((blk b6).add 0) = some (.int .i64 x26)) ∧ (
 ∃ (x27 : Int), (∀ w, C24 w → World.cell? w ((blk b6).add 1) = some (.int .i64 x27)) ∧ (
 ∃ (x28 : Int), (∀ w, C24 w → World.cell? w ((blk b6).add 2) = some (.int .u64 x28)) ∧ (
 doCall Tryz.prog (.func (.func 128) #[] #[]) #[.pointer l_1] w25 (retS (fun v30 w31 => ∃ (x29 : Option Addr), v30 = (.pointer x29 : Value) ∧ (
 C24 w31 ∧ (
 doCall Tryz.prog (.func (.func 131) #[] #[]) #[.pointer l_1] w31 (retS (fun v33 w34 => ∃ (x32 : Int), v33 = (.int .i64 x32 : Value) ∧ (
 C24 w34 ∧ (
 doCall Tryz.prog (.func (.func 132) #[] #[]) #[.pointer l_1] w34 (retS (fun v36 w37 => ∃ (x35 : Int), v36 = (.int .i64 x35 : Value) ∧ (
 C24 w37 ∧ (
 doCall Tryz.prog (.func (.func 214) #[] #[]) #[.pointer l_1] w37 (retS (fun v39 w40 => ∃ (x38 : Int), v39 = (.int .u64 x38 : Value) ∧ (
 C24 w40 ∧ (
 doCall Tryz.prog (.func (.func 130) #[] #[]) #[.pointer l_1] w40 (retS (fun v42 w43 => ∃ (x41 : Option Addr), v42 = (.pointer x41 : Value) ∧ (
 C24 w43 ∧ (
 doCall Tryz.prog (.func (.func 397) #[] #[]) #[.pointer x41, .agg #[.int .i64 x26, .int .i64 x27, .int .u64 x28], .pointer r_5] w43 (retS (fun v45 w46 => ∃ (x44 : Option Addr), v45 = (.pointer x44 : Value) ∧ (
 doCall Tryz.prog (.func (.func 261) #[] #[]) #[.pointer x29, .int .i64 x32, .int .i64 x35, .int .u64 x38, .pointer x44] w46 (retS (fun v48 w49 => ∃ (x47 : Option Addr), v48 = (.pointer x47 : Value) ∧ (
 C24 w49 ∧ (
 R (.returned (.pointer x47)) w49))) (fun ch w => Kfn R ch [] w)))) (fun ch w => Kfn R ch [] w))))) (fun ch w => Kfn R ch [] w))))) (fun ch w => Kfn R ch [] w))))) (fun ch w => Kfn R ch [] w))))) (fun ch w => Kfn R ch [] w))))) (fun ch w => Kfn R ch [] w)))))))) (
 ifB ((x16 == false) && ((x21 == true) && true)) (
 doDr w23 (fun w51 =>
 ∃ (C50 : World → Prop), C50 w51 ∧ (
 ∃ (x52 : Int), (∀ w, C50 w → World.cell? w ((blk b6).add 0) = some (.int .i64 x52)) ∧ (
 ∃ (x53 : Int), (∀ w, C50 w → World.cell? w ((blk b6).add 1) = some (.int .i64 x53)) ∧ (
 ∃ (x54 : Int), (∀ w, C50 w → World.cell? w ((blk b6).add 2) = some (.int .u64 x54)) ∧ (
 doCall Tryz.prog (.func (.func 128) #[] #[]) #[.pointer r_5] w51 (retS (fun v56 w57 => ∃ (x55 : Option Addr), v56 = (.pointer x55 : Value) ∧ (
 C50 w57 ∧ (
 doCall Tryz.prog (.func (.func 397) #[] #[]) #[.pointer l_1, .agg #[.int .i64 x52, .int .i64 x53, .int .u64 x54], .pointer x55] w57 (retS (fun v59 w60 => ∃ (x58 : Option Addr), v59 = (.pointer x58 : Value) ∧ (
 doCall Tryz.prog (.func (.func 131) #[] #[]) #[.pointer r_5] w60 (retS (fun v62 w63 => ∃ (x61 : Int), v62 = (.int .i64 x61 : Value) ∧ (
 C50 w63 ∧ (
 doCall Tryz.prog (.func (.func 132) #[] #[]) #[.pointer r_5] w63 (retS (fun v65 w66 => ∃ (x64 : Int), v65 = (.int .i64 x64 : Value) ∧ (
 C50 w66 ∧ (
 doCall Tryz.prog (.func (.func 214) #[] #[]) #[.pointer r_5] w66 (retS (fun v68 w69 => ∃ (x67 : Int), v68 = (.int .u64 x67 : Value) ∧ (
 C50 w69 ∧ (
 doCall Tryz.prog (.func (.func 130) #[] #[]) #[.pointer r_5] w69 (retS (fun v71 w72 => ∃ (x70 : Option Addr), v71 = (.pointer x70 : Value) ∧ (
 C50 w72 ∧ (
 doCall Tryz.prog (.func (.func 261) #[] #[]) #[.pointer x58, .int .i64 x61, .int .i64 x64, .int .u64 x67, .pointer x70] w72 (retS (fun v74 w75 => ∃ (x73 : Option Addr), v74 = (.pointer x73 : Value) ∧ (
 C50 w75 ∧ (
 R (.returned (.pointer x73)) w75))) (fun ch w => Kfn R ch [] w))))) (fun ch w => Kfn R ch [] w))))) (fun ch w => Kfn R ch [] w))))) (fun ch w => Kfn R ch [] w))))) (fun ch w => Kfn R ch [] w)))) (fun ch w => Kfn R ch [] w))))) (fun ch w => Kfn R ch [] w)))))))) (
 doCall Tryz.prog (.func (.func 401) #[] #[]) #[.pointer l_1, .pointer x11, .pointer r_5] w23 (retS (fun v77 w78 => ∃ (x76 : Option Addr), v77 = (.pointer x76 : Value) ∧ (
 R (.returned (.pointer x76)) w78)) (fun ch w => Kfn R ch [] w)))))) (fun ch w => Kfn R ch [] w))))) (fun ch w => Kfn R ch [] w))))) (fun ch w => Kfn R ch [] w))))))
set_option maxRecDepth 100000 in
theorem sh397_ok (l_1 : Option Addr) (x_2 : Int) (x_3 : Int) (x_4 : Int) (r_5 : Option Addr) {R : Ending → World → Prop} {w : World} : sh397 l_1 x_2 x_3 x_4 r_5 R w → Calls Tryz.prog 397 #[.pointer l_1, .agg #[.int .i64 x_2, .int .i64 x_3, .int .u64 x_4], .pointer r_5] w R :=
  Old.calls_of_eq (ann := fun _ => []) (fn := Tryz.f397) (c := bodyOf Tryz.f397) (args := #[.pointer l_1, .agg #[.int .i64 x_2, .int .i64 x_3, .int .u64 x_4], .pointer r_5]) 400 follows_mixed Tryz.func397 (by kernel_rfl) (by kernel_rfl)
set_option maxRecDepth 100000 in
/-- joinery/treapjoin.Join$1 -/
def sh400 (a_1 : Option Addr) (others_p2 : Option Addr) (others_n3 : Nat) (_others_c4 : Nat) (R : Ending → World → Prop) (w : World) : Prop :=
 ∃ (I5 : List Value → World → Prop) (μ6 : List Value → World → Nat), I5 [.int .i64 0] w ∧ (∀ (x9 : Int), ∀ (_j7 : Nat → Value) (w8 : World), I5 [.int .i64 x9] w8 → (
 ifB (decide ((x9 : Int) < ((others_n3 : Nat) : Int))) (
 let K11 : World → Prop := fun (w10 : World) => 
 I5 [.int .i64 (IntKind.wrap .i64 (x9 + 1))] w10 ∧ μ6 [.int .i64 (IntKind.wrap .i64 (x9 + 1))] w10 < μ6 [.int .i64 x9] w8
 doIx others_p2 others_n3 1 (x9) (fun a12 =>
 ∃ (x13 : Option Addr), World.cell? w8 a12 = some (.pointer x13) ∧ (
 let K16 : Bool → World → Prop := fun (x14 : Bool) (w15 : World) => 
 ifB x14 (
 R (.returned (.bool false)) w15) (
 K11 w15)
 ifB (!(x13).isNone) (
 doCall Tryz.prog (.func (.func 274) #[] #[]) #[.pointer a_1, .pointer x13] w8 (retS (fun v18 w19 => ∃ (x17 : Bool), v18 = (.bool x17 : Value) ∧ (
 K16 (!x17) w19)) (fun ch w => Kfn R ch [] w))) (
 K11 w8)))) (
 R (.returned (.bool (!(a_1).isNone))) w8)))
set_option maxRecDepth 100000 in
theorem sh400_ok (a_1 : Option Addr) (others_p2 : Option Addr) (others_n3 : Nat) (others_c4 : Nat) {R : Ending → World → Prop} {w : World} : sh400 a_1 others_p2 others_n3 others_c4 R w → Calls Tryz.prog 400 #[.pointer a_1, .slice others_p2 others_n3 others_c4] w R :=
  Old.calls_of_eq (ann := fun i => if i = 0 then [(9, .int .i64 0)] else []) (fn := Tryz.f400) (c := bodyOf Tryz.f400) (args := #[.pointer a_1, .slice others_p2 others_n3 others_c4]) 400 follows_mixed Tryz.func400 (by kernel_rfl) (by kernel_rfl)
end Go.Proofs.YtlfjaogbehpleaaGreat

namespace Go.Proofs.YtlfjaogbehpleaaGreat
open Go Go.Sh
set_option maxRecDepth 100000 in
/-- joinery/treapjoin.both -/
def sh401 (l_1 : Option Addr) (mid_2 : Option Addr) (r_3 : Option Addr) (R : Ending → World → Prop) (w : World) : Prop :=
 doCall Tryz.prog (.func (.func 131) #[] #[]) #[.pointer mid_2] w (retS (fun v5 w6 => ∃ (x4 : Int), v5 = (.int .i64 x4 : Value) ∧ (
 doCall Tryz.prog (.func (.func 132) #[] #[]) #[.pointer mid_2] w6 (retS (fun v8 w9 => ∃ (x7 : Int), v8 = (.int .i64 x7 : Value) ∧ (
 doCall Tryz.prog (.func (.func 214) #[] #[]) #[.pointer mid_2] w9 (retS (fun v11 w12 => ∃ (x10 : Int), v11 = (.int .u64 x10 : Value) ∧ (
 doAl (.cells #[.int .i64 0, .int .i64 0, .int .u64 0] 133) w12 (fun b13 w14 =>
 doSt ((blk b13).add 0) (.int .i64 x4) w14 (fun w15 =>
 doSt ((blk b13).add 1) (.int .i64 x7) w15 (fun w16 =>
 doSt ((blk b13).add 2) (.int .u64 x10) w16 (fun w17 =>
 doCall Tryz.prog (.func (.func 274) #[] #[]) #[.pointer l_1, .pointer mid_2] w17 (retS (fun v19 w20 => ∃ (x18 : Bool), v19 = (.bool x18 : Value) ∧ (
 ifB x18 (
 doDr w20 (fun w22 =>
 ∃ (C21 : World → Prop), C21 w22 ∧ (
 ∃ (x23 : Int), (∀ w, C21 w → World.cell? w ((blk b13).add 0) = some (.int .i64 x23)) ∧ (
 ∃ (x24 : Int), (∀ w, C21 w → World.cell? w ((blk b13).add 1) = some (.int .i64 x24)) ∧ (
 ∃ (x25 : Int), (∀ w, C21 w → World.cell? w ((blk b13).add 2) = some (.int .u64 x25)) ∧ (
 doCall Tryz.prog (.func (.func 128) #[] #[]) #[.pointer l_1] w22 (retS (fun v27 w28 => ∃ (x26 : Option Addr), v27 = (.pointer x26 : Value) ∧ (
 C21 w28 ∧ (
 doCall Tryz.prog (.func (.func 131) #[] #[]) #[.pointer l_1] w28 (retS (fun v30 w31 => ∃ (x29 : Int), v30 = (.int .i64 x29 : Value) ∧ (
 C21 w31 ∧ (
 doCall Tryz.prog (.func (.func 132) #[] #[]) #[.pointer l_1] w31 (retS (fun v33 w34 => ∃ (x32 : Int), v33 = (.int .i64 x32 : Value) ∧ (
 C21 w34 ∧ (
 doCall Tryz.prog (.func (.func 214) #[] #[]) #[.pointer l_1] w34 (retS (fun v36 w37 => ∃ (x35 : Int), v36 = (.int .u64 x35 : Value) ∧ (
 C21 w37 ∧ (
 doCall Tryz.prog (.func (.func 130) #[] #[]) #[.pointer l_1] w37 (retS (fun v39 w40 => ∃ (x38 : Option Addr), v39 = (.pointer x38 : Value) ∧ (
 C21 w40 ∧ (
 doCall Tryz.prog (.func (.func 397) #[] #[]) #[.pointer x38, .agg #[.int .i64 x23, .int .i64 x24, .int .u64 x25], .pointer r_3] w40 (retS (fun v42 w43 => ∃ (x41 : Option Addr), v42 = (.pointer x41 : Value) ∧ (
 doCall Tryz.prog (.func (.func 261) #[] #[]) #[.pointer x26, .int .i64 x29, .int .i64 x32, .int .u64 x35, .pointer x41] w43 (retS (fun v45 w46 => ∃ (x44 : Option Addr), v45 = (.pointer x44 : Value) ∧ (
 C21 w46 ∧ (
 R (.returned (.pointer x44)) w46))) (fun ch w => Kfn R ch [] w)))) (fun ch w => Kfn R ch [] w))))) (fun ch w => Kfn R ch [] w))))) (fun ch w => Kfn R ch [] w))))) (fun ch w => Kfn R ch [] w))))) (fun ch w => Kfn R ch [] w))))) (fun ch w => Kfn R ch [] w)))))))) (
 doCall Tryz.prog (.func (.func 274) #[] #[]) #[.pointer r_3, .pointer mid_2] w20 (retS (fun v48 w49 => ∃ (x47 : Bool), v48 = (.bool x47 : Value) ∧ (
 ifB x47 (
 doDr w49 (fun w51 =>
 ∃ (C50 : World → Prop), C50 w51 ∧ (
 ∃ (x52 : Int), (∀ w, C50 w → World.cell? w ((blk b13).add 0) = some (.int .i64 x52)) ∧ (
 ∃ (x53 : Int), (∀ w, C50 w → World.cell? w ((blk b13).add 1) = some (.int .i64 x53)) ∧ (
 ∃ (x54 : Int), (∀ w, C50 w → World.cell? w ((blk b13).add 2) = some (.int .u64 x54)) ∧ (
 doCall Tryz.prog (.func (.func 128) #[] #[]) #[.pointer r_3] w51 (retS (fun v56 w57 => ∃ (x55 : Option Addr), v56 = (.pointer x55 : Value) ∧ (
 C50 w57 ∧ (
 doCall Tryz.prog (.func (.func 397) #[] #[]) #[.pointer l_1, .agg #[.int .i64 x52, .int .i64 x53, .int .u64 x54], .pointer x55] w57 (retS (fun v59 w60 => ∃ (x58 : Option Addr), v59 = (.pointer x58 : Value) ∧ (
 doCall Tryz.prog (.func (.func 131) #[] #[]) #[.pointer r_3] w60 (retS (fun v62 w63 => ∃ (x61 : Int), v62 = (.int .i64 x61 : Value) ∧ (
 C50 w63 ∧ (
 doCall Tryz.prog (.func (.func 132) #[] #[]) #[.pointer r_3] w63 (retS (fun v65 w66 => ∃ (x64 : Int), v65 = (.int .i64 x64 : Value) ∧ (
 C50 w66 ∧ (
 doCall Tryz.prog (.func (.func 214) #[] #[]) #[.pointer r_3] w66 (retS (fun v68 w69 => ∃ (x67 : Int), v68 = (.int .u64 x67 : Value) ∧ (
 C50 w69 ∧ (
 doCall Tryz.prog (.func (.func 130) #[] #[]) #[.pointer r_3] w69 (retS (fun v71 w72 => ∃ (x70 : Option Addr), v71 = (.pointer x70 : Value) ∧ (
 C50 w72 ∧ (
 doCall Tryz.prog (.func (.func 261) #[] #[]) #[.pointer x58, .int .i64 x61, .int .i64 x64, .int .u64 x67, .pointer x70] w72 (retS (fun v74 w75 => ∃ (x73 : Option Addr), v74 = (.pointer x73 : Value) ∧ (
 C50 w75 ∧ (
 R (.returned (.pointer x73)) w75))) (fun ch w => Kfn R ch [] w))))) (fun ch w => Kfn R ch [] w))))) (fun ch w => Kfn R ch [] w))))) (fun ch w => Kfn R ch [] w))))) (fun ch w => Kfn R ch [] w)))) (fun ch w => Kfn R ch [] w))))) (fun ch w => Kfn R ch [] w)))))))) (
 ∃ (x76 : Int), World.cell? w49 ((blk b13).add 0) = some (.int .i64 x76) ∧ (
 ∃ (x77 : Int), World.cell? w49 ((blk b13).add 1) = some (.int .i64 x77) ∧ (
 ∃ (x78 : Int), World.cell? w49 ((blk b13).add 2) = some (.int .u64 x78) ∧ (
 doCall Tryz.prog (.func (.func 261) #[] #[]) #[.pointer l_1, .int .i64 x76, .int .i64 x77, .int .u64 x78, .pointer r_3] w49 (retS (fun v80 w81 => ∃ (x79 : Option Addr), v80 = (.pointer x79 : Value) ∧ (
 R (.returned (.pointer x79)) w81)) (fun ch w => Kfn R ch [] w)))))))) (fun ch w => Kfn R ch [] w))))) (fun ch w => Kfn R ch [] w)))))))) (fun ch w => Kfn R ch [] w)))) (fun ch w => Kfn R ch [] w)))) (fun ch w => Kfn R ch [] w))
set_option maxRecDepth 100000 in
theorem sh401_ok (l_1 : Option Addr) (mid_2 : Option Addr) (r_3 : Option Addr) {R : Ending → World → Prop} {w : World} : sh401 l_1 mid_2 r_3 R w → Calls Tryz.prog 401 #[.pointer l_1, .pointer mid_2, .pointer r_3] w R :=
  Old.calls_of_eq (ann := fun _ => []) (fn := Tryz.f401) (c := bodyOf Tryz.f401) (args := #[.pointer l_1, .pointer mid_2, .pointer r_3]) 400 follows_mixed Tryz.func401 (by kernel_rfl) (by kernel_rfl)
set_option maxRecDepth 100000 in
/-- (joinery/rbjoin.maker).of -/
def sh415 (l_1 : Option Addr) (pair_2 : Option Addr) (red_3 : Bool) (r_4 : Option Addr) (R : Ending → World → Prop) (w : World) : Prop :=
 doAl (.cells #[] 307) w (fun _b5 w6 =>
 doCall Tryz.prog (.func (.func 131) #[] #[]) #[.pointer pair_2] w6 (retS (fun v8 w9 => ∃ (x7 : Int), v8 = (.int .i64 x7 : Value) ∧ (
 doCall Tryz.prog (.func (.func 132) #[] #[]) #[.pointer pair_2] w9 (retS (fun v11 w12 => ∃ (x10 : Int), v11 = (.int .i64 x10 : Value) ∧ (
 doCall Tryz.prog (.func (.func 256) #[] #[]) #[.pointer l_1, .int .i64 x7, .int .i64 x10, .bool red_3, .pointer r_4] w12 (retS (fun v14 w15 => ∃ (x13 : Option Addr), v14 = (.pointer x13 : Value) ∧ (
 R (.returned (.pointer x13)) w15)) (fun ch w => Kfn R ch [] w)))) (fun ch w => Kfn R ch [] w)))) (fun ch w => Kfn R ch [] w)))
set_option maxRecDepth 100000 in
theorem sh415_ok (l_1 : Option Addr) (pair_2 : Option Addr) (red_3 : Bool) (r_4 : Option Addr) {R : Ending → World → Prop} {w : World} : sh415 l_1 pair_2 red_3 r_4 R w → Calls Tryz.prog 415 #[.agg #[], .pointer l_1, .pointer pair_2, .bool red_3, .pointer r_4] w R :=
  Old.calls_of_eq (ann := fun _ => []) (fn := Tryz.f415) (c := bodyOf Tryz.f415) (args := #[.agg #[], .pointer l_1, .pointer pair_2, .bool red_3, .pointer r_4]) 400 follows_mixed Tryz.func415 (by kernel_rfl) (by kernel_rfl)
set_option maxRecDepth 100000 in
/-- (joinery/rbjoin.right).in -/
def sh416 (t_1 : Option Addr) (R : Ending → World → Prop) (w : World) : Prop :=
 doAl (.cells #[] 309) w (fun _b2 w3 =>
 doCall Tryz.prog (.func (.func 128) #[] #[]) #[.pointer t_1] w3 (retS (fun v5 w6 => ∃ (x4 : Option Addr), v5 = (.pointer x4 : Value) ∧ (
 R (.returned (.pointer x4)) w6)) (fun ch w => Kfn R ch [] w)))
set_option maxRecDepth 100000 in
theorem sh416_ok (t_1 : Option Addr) {R : Ending → World → Prop} {w : World} : sh416 t_1 R w → Calls Tryz.prog 416 #[.agg #[], .pointer t_1] w R :=
  Old.calls_of_eq (ann := fun _ => []) (fn := Tryz.f416) (c := bodyOf Tryz.f416) (args := #[.agg #[], .pointer t_1]) 400 follows_mixed Tryz.func416 (by kernel_rfl) (by kernel_rfl)
set_option maxRecDepth 100000 in
/-- (joinery/rbjoin.right).out -/
def sh418 (t_1 : Option Addr) (R : Ending → World → Prop) (w : World) : Prop :=
 doAl (.cells #[] 309) w (fun _b2 w3 =>
 doCall Tryz.prog (.func (.func 130) #[] #[]) #[.pointer t_1] w3 (retS (fun v5 w6 => ∃ (x4 : Option Addr), v5 = (.pointer x4 : Value) ∧ (
 R (.returned (.pointer x4)) w6)) (fun ch w => Kfn R ch [] w)))
set_option maxRecDepth 100000 in
theorem sh418_ok (t_1 : Option Addr) {R : Ending → World → Prop} {w : World} : sh418 t_1 R w → Calls Tryz.prog 418 #[.agg #[], .pointer t_1] w R :=
  Old.calls_of_eq (ann := fun _ => []) (fn := Tryz.f418) (c := bodyOf Tryz.f418) (args := #[.agg #[], .pointer t_1]) 400 follows_mixed Tryz.func418 (by kernel_rfl) (by kernel_rfl)
set_option maxRecDepth 100000 in
/-- (joinery/rbjoin.left).in -/
def sh419 (t_1 : Option Addr) (R : Ending → World → Prop) (w : World) : Prop :=
 doAl (.cells #[] 310) w (fun _b2 w3 =>
 doCall Tryz.prog (.func (.func 130) #[] #[]) #[.pointer t_1] w3 (retS (fun v5 w6 => ∃ (x4 : Option Addr), v5 = (.pointer x4 : Value) ∧ (
 R (.returned (.pointer x4)) w6)) (fun ch w => Kfn R ch [] w)))
set_option maxRecDepth 100000 in
theorem sh419_ok (t_1 : Option Addr) {R : Ending → World → Prop} {w : World} : sh419 t_1 R w → Calls Tryz.prog 419 #[.agg #[], .pointer t_1] w R :=
  Old.calls_of_eq (ann := fun _ => []) (fn := Tryz.f419) (c := bodyOf Tryz.f419) (args := #[.agg #[], .pointer t_1]) 400 follows_mixed Tryz.func419 (by kernel_rfl) (by kernel_rfl)
set_option maxRecDepth 100000 in
/-- (joinery/rbjoin.left).out -/
def sh421 (t_1 : Option Addr) (R : Ending → World → Prop) (w : World) : Prop :=
 doAl (.cells #[] 310) w (fun _b2 w3 =>
 doCall Tryz.prog (.func (.func 128) #[] #[]) #[.pointer t_1] w3 (retS (fun v5 w6 => ∃ (x4 : Option Addr), v5 = (.pointer x4 : Value) ∧ (
 R (.returned (.pointer x4)) w6)) (fun ch w => Kfn R ch [] w)))
set_option maxRecDepth 100000 in
theorem sh421_ok (t_1 : Option Addr) {R : Ending → World → Prop} {w : World} : sh421 t_1 R w → Calls Tryz.prog 421 #[.agg #[], .pointer t_1] w R :=
  Old.calls_of_eq (ann := fun _ => []) (fn := Tryz.f421) (c := bodyOf Tryz.f421) (args := #[.agg #[], .pointer t_1]) 400 follows_mixed Tryz.func421 (by kernel_rfl) (by kernel_rfl)
end Go.Proofs.YtlfjaogbehpleaaGreat

namespace Go.Proofs.YtlfjaogbehpleaaGreat
open Go Go.Sh
set_option maxRecDepth 100000 in
/-- joinery/row.May -/
def sh25 (o_1 : Int) (l_p2 : Option Addr) (l_n3 : Nat) (l_c4 : Nat) (R : Ending → World → Prop) (w : World) : Prop :=
 doAl (.cells #[.int .u8 o_1] 5) w (fun b5 w6 =>
 doAl (.cells #[.bool false] 4) w6 (fun b7 w8 =>
 doCall Tryz.prog (.func (.func 63) #[] #[]) #[.slice l_p2 l_n3 l_c4] w8 (retS (fun v12 w13 => ∃ (xf9 : Fn), ∃ (xx10 : Array Value), ∃ (xc11 : Array Value), v12 = (.func xf9 xx10 xc11 : Value) ∧ (
 rfW Tryz.prog (.func xf9 xx10 xc11) (mkLoop #[.int .u8 o_1, .slice l_p2 l_n3 l_c4, .pointer (some (blk b5)), undef, .pointer (some (blk b7)), undef, undef, .slice l_p2 l_n3 l_c4, .func xf9 xx10 xc11, undef, undef, undef, undef, undef, undef, undef, undef, undef, undef, undef, undef] (rfOf Tryz.f25 0).1 (rfOf Tryz.f25 0).2.1 (rfOf Tryz.f25 0).2.2)
 (fun w14 =>
 ∃ (x15 : Int), World.cell? w14 (blk b5) = some (.int .u8 x15) ∧ (
 doCall Tryz.prog (.func (.func 40) #[] #[]) #[.int .u8 x15] w14 (retS (fun v17 w18 => ∃ (x16 : ByteArray), v17 = (.string x16 : Value) ∧ (
 doSt ((blk b7).add 0) (.bool (!(x16.toList == (⟨#[]⟩ : ByteArray).toList))) w18 (fun w19 =>
 w19.heap[w13.heap.size]? = some (.deferred (some [])) ∧ (
 let w20 : World := w19.putObj w13.heap.size (.deferred none)
 ∃ (x21 : Bool), World.cell? w20 (blk b7) = some (.bool x21) ∧ (
 R (.returned (.bool x21)) w20))))) (fun ch w => Kfn R ch [{ target := .collected w13.heap.size, args := #[] }] w))))
 (fun w22 =>
 w22.heap[w13.heap.size]? = some (.deferred (some [])) ∧ (
 let w23 : World := w22.putObj w13.heap.size (.deferred none)
 ∃ (x24 : Bool), World.cell? w23 (blk b7) = some (.bool x24) ∧ (
 R (.returned (.bool x24)) w23)))
 [] w13)) (fun ch w => Kfn R ch [] w))))
set_option maxRecDepth 100000 in
theorem sh25_ok (o_1 : Int) (l_p2 : Option Addr) (l_n3 : Nat) (l_c4 : Nat) {R : Ending → World → Prop} {w : World} : sh25 o_1 l_p2 l_n3 l_c4 R w → Calls Tryz.prog 25 #[.int .u8 o_1, .slice l_p2 l_n3 l_c4] w R :=
  Old.calls_of_eq (ann := fun _ => []) (fn := Tryz.f25) (c := bodyOf Tryz.f25) (args := #[.int .u8 o_1, .slice l_p2 l_n3 l_c4]) 400 follows_mixed Tryz.func25 (by kernel_rfl) (by kernel_rfl)
set_option maxRecDepth 100000 in
/-- joinery/row.May, a round of loop 0 -/
def sh25_0 (o_1 : Addr) (x2 : Addr) (y22 : Int) (y23 : Int) (y24 : Int) (y25 : Int) (l : Nat) (R : Ending → World → Prop) (w : World) : Prop :=
 doAl (.cells #[.int .i64 0, .int .i64 0] 63) w (fun b26 w27 =>
 doSt ((blk b26).add 0) (.int .i64 y22) w27 (fun w28 =>
 doSt ((blk b26).add 1) (.int .i64 y23) w28 (fun w29 =>
 doAl (.cells #[.int .i64 0, .int .i64 0] 63) w29 (fun b30 w31 =>
 doSt ((blk b30).add 0) (.int .i64 y24) w31 (fun w32 =>
 doSt ((blk b30).add 1) (.int .i64 y25) w32 (fun w33 =>
 ∃ (r34 : Loop), w33.heap[l]? = some (.loop r34) ∧ r34.state = .ready ∧ (
 let w35 : World := w33.putObj l (.loop { r34 with state := .busy })
 ∃ (x36 : Int), World.cell? w35 o_1 = some (.int .u8 x36) ∧ (
 ∃ (x37 : Int), World.cell? w35 ((blk b26).add 0) = some (.int .i64 x37) ∧ (
 ∃ (x38 : Int), World.cell? w35 ((blk b30).add 0) = some (.int .i64 x38) ∧ (
 doCall Tryz.prog (.func (.func 64) #[] #[]) #[.int .u8 x36, .int .i64 x37, .int .i64 x38] w35 (retS (fun v40 w41 => ∃ (x39 : Int), v40 = (.int .i64 x39 : Value) ∧ (
 ifB (decide ((x39 : Int) ≥ 0)) (
 doSt (x2.add 0) (.bool false) w41 (fun w42 =>
 ∃ (r43 : Loop), w42.heap[l]? = some (.loop r43) ∧ R (.returned (.bool false)) (w42.putObj l (.loop { r43 with state := .done, pending := some .ret })))) (
 ∃ (r44 : Loop), w41.heap[l]? = some (.loop r44) ∧ R (.returned (.bool true)) (w41.putObj l (.loop { r44 with state := .ready, pending := none }))))) (fun _ _ => False))))))))))))
set_option maxRecDepth 100000 in
theorem sh25_0_ok {dd3 : Value} {dd4 : Value} {dd5 : Value} {dd6 : Value} {dd7 : Value} {dd8 : Value} {dd9 : Value} {dd10 : Value} {dd11 : Value} {dd12 : Value} {dd13 : Value} {dd14 : Value} {dd15 : Value} {dd16 : Value} {dd17 : Value} {dd18 : Value} {dd19 : Value} {dd20 : Value} {dd21 : Value} {o_1 : Addr} {x2 : Addr} {y22 : Int} {y23 : Int} {y24 : Int} {y25 : Int} {l fn D : Nat} {R : Ending → World → Prop} {w : World} (hl : w.heap[l]? = some (.loop (mkLoop #[dd3, dd4, .pointer (some o_1), dd5, .pointer (some x2), dd6, dd7, dd8, dd9, dd10, dd11, dd12, dd13, dd14, dd15, dd16, dd17, dd18, dd19, dd20, dd21] (rfOf Tryz.f25 0).1 (rfOf Tryz.f25 0).2.1 (rfOf Tryz.f25 0).2.2 fn D))) : sh25_0 o_1 x2 y22 y23 y24 y25 l R w → doCall Tryz.prog (.func (.yield l) #[] #[]) #[.agg #[.int .i64 y22, .int .i64 y23], .agg #[.int .i64 y24, .int .i64 y25]] w R :=
  fun h => ⟨Old.round_of_eq (ann := fun _ => []) 400 follows_mixed hl (by kernel_rfl) (by kernel_rfl) h⟩
set_option maxRecDepth 100000 in
/-- (*joinery/node.Node).Size -/
def sh32 (n_1 : Option Addr) (R : Ending → World → Prop) (w : World) : Prop :=
 doCall Tryz.prog (.func (.func 79) #[] #[]) #[.pointer n_1] w (retS (fun v7 w8 => ∃ (x2 : Int), ∃ (x3 : Int), ∃ (x4 : Int), ∃ (x5 : Int), ∃ (x6 : Int), v7 = (.agg #[.int .i64 x2, .int .i64 x3, .int .i64 x4, .int .u64 x5, .int .i64 x6] : Value) ∧ (
 R (.returned (.int .i64 x6)) w8)) (fun ch w => Kfn R ch [] w))
set_option maxRecDepth 100000 in
theorem sh32_ok (n_1 : Option Addr) {R : Ending → World → Prop} {w : World} : sh32 n_1 R w → Calls Tryz.prog 32 #[.pointer n_1] w R :=
  Old.calls_of_eq (ann := fun _ => []) (fn := Tryz.f32) (c := bodyOf Tryz.f32) (args := #[.pointer n_1]) 400 follows_mixed Tryz.func32 (by kernel_rfl) (by kernel_rfl)
set_option maxRecDepth 100000 in
/-- joinery/joineryref02.Code -/
def sh35 (o_1 : Int) (k_2 : Int) (R : Ending → World → Prop) (w : World) : Prop :=
 ifB ((o_1 : Int) == 1) (
 doCall Tryz.prog (.func (.func 84) #[] #[]) #[.int .i64 k_2] w (retS (fun v4 w5 => ∃ (x3 : Int), v4 = (.int .u64 x3 : Value) ∧ (
 R (.returned (.int .u64 x3)) w5)) (fun ch w => Kfn R ch [] w))) (
 ifB ((o_1 : Int) == 2) (
 doCall Tryz.prog (.func (.func 84) #[] #[]) #[.int .i64 k_2] w (retS (fun v7 w8 => ∃ (x6 : Int), v7 = (.int .u64 x6 : Value) ∧ (
 R (.returned (.int .u64 (IntKind.wrap .u64 (18446744073709551615 - x6)))) w8)) (fun ch w => Kfn R ch [] w))) (
 ifB ((o_1 : Int) == 3) (
 ifB (decide ((k_2 : Int) < 0)) (
 R (.returned (.int .u64 (IntKind.wrap .u64 ((IntKind.wrap .u64 ((IntKind.wrap .u64 (IntKind.wrap .i64 (0 - (IntKind.wrap .i64 (k_2 + 1))))) * 2)) + 1)))) w) (
 R (.returned (.int .u64 (IntKind.wrap .u64 ((IntKind.wrap .u64 k_2) * 2)))) w)) (
 ifB ((o_1 : Int) == 4) (
 doCall Tryz.prog (.func (.func 85) #[] #[]) #[.int .u64 (IntKind.wrap .u64 k_2)] w (retS (fun v10 w11 => ∃ (x9 : Int), v10 = (.int .u64 x9 : Value) ∧ (
 R (.returned (.int .u64 x9)) w11)) (fun ch w => Kfn R ch [] w))) (
 ifB ((o_1 : Int) == 5) (
 doCall Tryz.prog (.func (.func 84) #[] #[]) #[.int .i64 k_2] w (retS (fun v13 w14 => ∃ (x12 : Int), v13 = (.int .u64 x12 : Value) ∧ (
 2 ≠ (0 : Int) ∧ (
 let K17 : Int → World → Prop := fun (half_15 : Int) (w16 : World) => 
 R (.returned (.int .u64 half_15)) w16
 2 ≠ (0 : Int) ∧ (
 ifB (((Int.tmod (IntKind.wrap .u64 k_2) 2) : Int) == 1) (
 K17 (IntKind.wrap .u64 ((IntKind.wrap .u64 (Int.tdiv x12 2)) + 9223372036854775808)) w14) (
 K17 (IntKind.wrap .u64 (Int.tdiv x12 2)) w14))))) (fun ch w => Kfn R ch [] w))) (
 ifB ((o_1 : Int) == 6) (
 doCall Tryz.prog (.func (.func 84) #[] #[]) #[.int .i64 k_2] w (retS (fun v19 w20 => ∃ (x18 : Int), v19 = (.int .u64 x18 : Value) ∧ (
 doCall Tryz.prog (.func (.func 86) #[] #[]) #[.int .u64 x18, .int .i64 32] w20 (retS (fun v22 w23 => ∃ (x21 : Int), v22 = (.int .u64 x21 : Value) ∧ (
 R (.returned (.int .u64 x21)) w23)) (fun ch w => Kfn R ch [] w)))) (fun ch w => Kfn R ch [] w))) (
 doCall Tryz.prog (.func (.func 87) #[] #[]) #[.int .u64 (IntKind.wrap .u64 k_2)] w (retS (fun v25 w26 => ∃ (x24 : Int), v25 = (.int .u64 x24 : Value) ∧ (
 R (.returned (.int .u64 x24)) w26)) (fun ch w => Kfn R ch [] w))))))))
set_option maxRecDepth 100000 in
theorem sh35_ok (o_1 : Int) (k_2 : Int) {R : Ending → World → Prop} {w : World} : sh35 o_1 k_2 R w → Calls Tryz.prog 35 #[.int .u8 o_1, .int .i64 k_2] w R :=
  Old.calls_of_eq (ann := fun _ => []) (fn := Tryz.f35) (c := bodyOf Tryz.f35) (args := #[.int .u8 o_1, .int .i64 k_2]) 400 follows_mixed Tryz.func35 (by kernel_rfl) (by kernel_rfl)
set_option maxRecDepth 100000 in
/-- slices.Clone[[]joinery/api.Pair,joinery/api.Pair] -/
def sh37 (s_p1 : Option Addr) (s_n2 : Nat) (s_c3 : Nat) (R : Ending → World → Prop) (w : World) : Prop :=
 ifB ((s_p1 : Option Addr).isNone) (
 R (.returned (.slice none 0 0)) w) (
 doAl (.cells #[] 63) w (fun b4 w5 =>
 doGo Tryz.prog (.builtin .append #[22, 22] 22 #[false, false]) #[.slice (some (blk b4)) 0 0, .slice s_p1 s_n2 s_c3] w5 (retS (fun v9 w10 => ∃ (xp6 : Option Addr), ∃ (xn7 : Nat), ∃ (xc8 : Nat), v9 = (.slice xp6 xn7 xc8 : Value) ∧ (
 R (.returned (.slice xp6 xn7 xc8)) w10)) (fun ch w => Kfn R ch [] w))))
set_option maxRecDepth 100000 in
theorem sh37_ok (s_p1 : Option Addr) (s_n2 : Nat) (s_c3 : Nat) {R : Ending → World → Prop} {w : World} : sh37 s_p1 s_n2 s_c3 R w → Calls Tryz.prog 37 #[.slice s_p1 s_n2 s_c3] w R :=
  Old.calls_of_eq (ann := fun _ => []) (fn := Tryz.f37) (c := bodyOf Tryz.f37) (args := #[.slice s_p1 s_n2 s_c3]) 400 follows_mixed Tryz.func37 (by kernel_rfl) (by kernel_rfl)
set_option maxRecDepth 100000 in
/-- joinery/order.Name -/
def sh40 (o_1 : Int) (R : Ending → World → Prop) (w : World) : Prop :=
 let K4 : ByteArray → World → Prop := fun (x2 : ByteArray) (w3 : World) => 
 R (.returned (.string x2)) w3
 doCall Tryz.prog (.func (.func 111) #[] #[]) #[] w (retS (fun v6 w7 => ∃ (x5 : Option Nat), v6 = (.map x5 : Value) ∧ (
 doLk Tryz.prog 156 (.map x5) (.int .u8 o_1) false w7 (fun v15 => (∃ (x8 : ByteArray), ∃ (xf9 : Fn), ∃ (xx10 : Array Value), ∃ (xc11 : Array Value), ∃ (xf12 : Fn), ∃ (xx13 : Array Value), ∃ (xc14 : Array Value), v15 = (.agg #[.string x8, .func xf9 xx10 xc11, .func xf12 xx13 xc14] : Value) ∧ (
 K4 x8 w7)) ∨ (v15 = (.agg #[.string (⟨#[]⟩ : ByteArray), .nilFunc, .nilFunc] : Value) ∧ (
 K4 (⟨#[]⟩ : ByteArray) w7))))) (fun ch w => Kfn R ch [] w))
set_option maxRecDepth 100000 in
theorem sh40_ok (o_1 : Int) {R : Ending → World → Prop} {w : World} : sh40 o_1 R w → Calls Tryz.prog 40 #[.int .u8 o_1] w R :=
  Old.calls_of_eq (ann := fun _ => []) (fn := Tryz.f40) (c := bodyOf Tryz.f40) (args := #[.int .u8 o_1]) 400 follows_mixed Tryz.func40 (by kernel_rfl) (by kernel_rfl)
end Go.Proofs.YtlfjaogbehpleaaGreat

namespace Go.Proofs.YtlfjaogbehpleaaGreat
open Go Go.Sh
set_option maxRecDepth 100000 in
/-- joinery/row.two -/
def sh63 (l_p1 : Option Addr) (l_n2 : Nat) (l_c3 : Nat) (R : Ending → World → Prop) (w : World) : Prop :=
 doAl (.cells #[.slice l_p1 l_n2 l_c3] 22) w (fun b4 w5 =>
 R (.returned (.func (.func 123) #[] #[.pointer (some (blk b4))])) w5)
set_option maxRecDepth 100000 in
theorem sh63_ok (l_p1 : Option Addr) (l_n2 : Nat) (l_c3 : Nat) {R : Ending → World → Prop} {w : World} : sh63 l_p1 l_n2 l_c3 R w → Calls Tryz.prog 63 #[.slice l_p1 l_n2 l_c3] w R :=
  Old.calls_of_eq (ann := fun _ => []) (fn := Tryz.f63) (c := bodyOf Tryz.f63) (args := #[.slice l_p1 l_n2 l_c3]) 400 follows_mixed Tryz.func63 (by kernel_rfl) (by kernel_rfl)
set_option maxRecDepth 100000 in
/-- joinery/order.Compare -/
def sh64 (o_1 : Int) (a_2 : Int) (b_3 : Int) (R : Ending → World → Prop) (w : World) : Prop :=
 doCall Tryz.prog (.func (.func 124) #[] #[]) #[.int .u8 o_1, .int .i64 a_2] w (retS (fun v6 w7 => ∃ (x4 : Int), ∃ (x5 : Int), v6 = (.tuple #[.int .u64 x4, .int .i64 x5] : Value) ∧ (
 doCall Tryz.prog (.func (.func 124) #[] #[]) #[.int .u8 o_1, .int .i64 b_3] w7 (retS (fun v10 w11 => ∃ (x8 : Int), ∃ (x9 : Int), v10 = (.tuple #[.int .u64 x8, .int .i64 x9] : Value) ∧ (
 ifB ((x5 : Int) != 0) (
 R (.returned (.int .i64 0)) w11) (
 doCall Tryz.prog (.func (.func 125) #[] #[]) #[.int .u64 x4, .int .u64 x8] w11 (retS (fun v13 w14 => ∃ (x12 : Int), v13 = (.int .i64 x12 : Value) ∧ (
 R (.returned (.int .i64 x12)) w14)) (fun ch w => Kfn R ch [] w))))) (fun ch w => Kfn R ch [] w)))) (fun ch w => Kfn R ch [] w))
set_option maxRecDepth 100000 in
theorem sh64_ok (o_1 : Int) (a_2 : Int) (b_3 : Int) {R : Ending → World → Prop} {w : World} : sh64 o_1 a_2 b_3 R w → Calls Tryz.prog 64 #[.int .u8 o_1, .int .i64 a_2, .int .i64 b_3] w R :=
  Old.calls_of_eq (ann := fun _ => []) (fn := Tryz.f64) (c := bodyOf Tryz.f64) (args := #[.int .u8 o_1, .int .i64 a_2, .int .i64 b_3]) 400 follows_mixed Tryz.func64 (by kernel_rfl) (by kernel_rfl)
set_option maxRecDepth 100000 in
/-- joinery/fold.May -/
def sh75 (p_1 : Int) (R : Ending → World → Prop) (w : World) : Prop :=
 let K4 : Bool → World → Prop := fun (is_2 : Bool) (w3 : World) => 
 R (.returned (.bool is_2)) w3
 doCall Tryz.prog (.func (.func 147) #[] #[]) #[] w (retS (fun v6 w7 => ∃ (x5 : Option Nat), v6 = (.map x5 : Value) ∧ (
 doLk Tryz.prog 217 (.map x5) (.int .u8 p_1) true w7 (fun v12 => (∃ (xf8 : Fn), ∃ (xx9 : Array Value), ∃ (xc10 : Array Value), ∃ (x11 : Bool), v12 = (.tuple #[.agg #[.func xf8 xx9 xc10], .bool x11] : Value) ∧ (
 doAl (.cells #[.nilFunc] 215) w7 (fun b13 w14 =>
 doSt ((blk b13).add 0) (.func xf8 xx9 xc10) w14 (fun w15 =>
 K4 x11 w15)))) ∨ (v12 = (.tuple #[.agg #[.nilFunc], .bool false] : Value) ∧ (
 doAl (.cells #[.nilFunc] 215) w7 (fun b16 w17 =>
 doSt ((blk b16).add 0) (.nilFunc) w17 (fun w18 =>
 R (.returned (.bool false)) w18))))))) (fun ch w => Kfn R ch [] w))
set_option maxRecDepth 100000 in
theorem sh75_ok (p_1 : Int) {R : Ending → World → Prop} {w : World} : sh75 p_1 R w → Calls Tryz.prog 75 #[.int .u8 p_1] w R :=
  Old.calls_of_eq (ann := fun _ => []) (fn := Tryz.f75) (c := bodyOf Tryz.f75) (args := #[.int .u8 p_1]) 400 follows_mixed Tryz.func75 (by kernel_rfl) (by kernel_rfl)
set_option maxRecDepth 100000 in
/-- joinery/fold.Combine -/
def sh78 (p_1 : Int) (a_2 : Int) (b_3 : Int) (R : Ending → World → Prop) (w : World) : Prop :=
 let K7 : Addr → Bool → World → Prop := fun (k_4 : Addr) (is_5 : Bool) (w6 : World) => 
 ifB (!is_5) (
 R (.returned (.tuple #[.int .i64 0, .int .i64 2])) w6) (
 ∃ (xf8 : Fn), ∃ (xx9 : Array Value), ∃ (xc10 : Array Value), World.cell? w6 (k_4.add 0) = some (.func xf8 xx9 xc10) ∧ (
 doCall Tryz.prog (.func xf8 xx9 xc10) #[.int .i64 a_2, .int .i64 b_3] w6 (retS (fun v12 w13 => ∃ (x11 : Int), v12 = (.int .i64 x11 : Value) ∧ (
 R (.returned (.tuple #[.int .i64 x11, .int .i64 0])) w13)) (fun ch w => Kfn R ch [] w))))
 doCall Tryz.prog (.func (.func 147) #[] #[]) #[] w (retS (fun v15 w16 => ∃ (x14 : Option Nat), v15 = (.map x14 : Value) ∧ (
 doLk Tryz.prog 217 (.map x14) (.int .u8 p_1) true w16 (fun v21 => (∃ (xf17 : Fn), ∃ (xx18 : Array Value), ∃ (xc19 : Array Value), ∃ (x20 : Bool), v21 = (.tuple #[.agg #[.func xf17 xx18 xc19], .bool x20] : Value) ∧ (
 doAl (.cells #[.nilFunc] 215) w16 (fun b22 w23 =>
 doSt ((blk b22).add 0) (.func xf17 xx18 xc19) w23 (fun w24 =>
 K7 (blk b22) x20 w24)))) ∨ (v21 = (.tuple #[.agg #[.nilFunc], .bool false] : Value) ∧ (
 doAl (.cells #[.nilFunc] 215) w16 (fun b25 w26 =>
 doSt ((blk b25).add 0) (.nilFunc) w26 (fun w27 =>
 K7 (blk b25) false w27))))))) (fun ch w => Kfn R ch [] w))
set_option maxRecDepth 100000 in
theorem sh78_ok (p_1 : Int) (a_2 : Int) (b_3 : Int) {R : Ending → World → Prop} {w : World} : sh78 p_1 a_2 b_3 R w → Calls Tryz.prog 78 #[.int .u8 p_1, .int .i64 a_2, .int .i64 b_3] w R :=
  Old.calls_of_eq (ann := fun _ => []) (fn := Tryz.f78) (c := bodyOf Tryz.f78) (args := #[.int .u8 p_1, .int .i64 a_2, .int .i64 b_3]) 400 follows_mixed Tryz.func78 (by kernel_rfl) (by kernel_rfl)
set_option maxRecDepth 100000 in
/-- (*joinery/node.Node).of -/
def sh79 (n_1 : Option Addr) (R : Ending → World → Prop) (w : World) : Prop :=
 doAl (.cells #[.int .i64 0, .int .i64 0, .int .i64 0, .int .u64 0, .int .i64 0] 137) w (fun b2 w3 =>
 ifB ((n_1).isNone) (
 doSt ((blk b2).add 0) (.int .i64 0) w3 (fun w4 =>
 doSt ((blk b2).add 1) (.int .i64 0) w4 (fun w5 =>
 doSt ((blk b2).add 2) (.int .i64 0) w5 (fun w6 =>
 doSt ((blk b2).add 3) (.int .u64 0) w6 (fun w7 =>
 doSt ((blk b2).add 4) (.int .i64 0) w7 (fun w8 =>
 ∃ (x9 : Int), World.cell? w8 ((blk b2).add 0) = some (.int .i64 x9) ∧ (
 ∃ (x10 : Int), World.cell? w8 ((blk b2).add 1) = some (.int .i64 x10) ∧ (
 ∃ (x11 : Int), World.cell? w8 ((blk b2).add 2) = some (.int .i64 x11) ∧ (
 ∃ (x12 : Int), World.cell? w8 ((blk b2).add 3) = some (.int .u64 x12) ∧ (
 ∃ (x13 : Int), World.cell? w8 ((blk b2).add 4) = some (.int .i64 x13) ∧ (
 R (.returned (.agg #[.int .i64 x9, .int .i64 x10, .int .i64 x11, .int .u64 x12, .int .i64 x13])) w8))))))))))) (
 ∃ (q14 : Addr), n_1 = some q14 ∧ (
 ∃ (x15 : Int), World.cell? w3 ((q14.add 0).add 0) = some (.int .i64 x15) ∧ (
 ∃ (x16 : Int), World.cell? w3 ((q14.add 0).add 1) = some (.int .i64 x16) ∧ (
 ∃ (x17 : Int), World.cell? w3 ((q14.add 0).add 2) = some (.int .i64 x17) ∧ (
 ∃ (x18 : Int), World.cell? w3 ((q14.add 0).add 3) = some (.int .u64 x18) ∧ (
 ∃ (x19 : Int), World.cell? w3 ((q14.add 0).add 4) = some (.int .i64 x19) ∧ (
 doSt ((blk b2).add 0) (.int .i64 x15) w3 (fun w20 =>
 doSt ((blk b2).add 1) (.int .i64 x16) w20 (fun w21 =>
 doSt ((blk b2).add 2) (.int .i64 x17) w21 (fun w22 =>
 doSt ((blk b2).add 3) (.int .u64 x18) w22 (fun w23 =>
 doSt ((blk b2).add 4) (.int .i64 x19) w23 (fun w24 =>
 ∃ (x25 : Int), World.cell? w24 ((blk b2).add 0) = some (.int .i64 x25) ∧ (
 ∃ (x26 : Int), World.cell? w24 ((blk b2).add 1) = some (.int .i64 x26) ∧ (
 ∃ (x27 : Int), World.cell? w24 ((blk b2).add 2) = some (.int .i64 x27) ∧ (
 ∃ (x28 : Int), World.cell? w24 ((blk b2).add 3) = some (.int .u64 x28) ∧ (
 ∃ (x29 : Int), World.cell? w24 ((blk b2).add 4) = some (.int .i64 x29) ∧ (
 R (.returned (.agg #[.int .i64 x25, .int .i64 x26, .int .i64 x27, .int .u64 x28, .int .i64 x29])) w24))))))))))))))))))
set_option maxRecDepth 100000 in
theorem sh79_ok (n_1 : Option Addr) {R : Ending → World → Prop} {w : World} : sh79 n_1 R w → Calls Tryz.prog 79 #[.pointer n_1] w R :=
  Old.calls_of_eq (ann := fun _ => []) (fn := Tryz.f79) (c := bodyOf Tryz.f79) (args := #[.pointer n_1]) 400 follows_mixed Tryz.func79 (by kernel_rfl) (by kernel_rfl)
set_option maxRecDepth 100000 in
/-- joinery/joineryref02.up -/
def sh84 (k_1 : Int) (R : Ending → World → Prop) (w : World) : Prop :=
 R (.returned (.int .u64 (IntKind.wrap .u64 ((IntKind.wrap .u64 k_1) + 9223372036854775808)))) w
set_option maxRecDepth 100000 in
theorem sh84_ok (k_1 : Int) {R : Ending → World → Prop} {w : World} : sh84 k_1 R w → Calls Tryz.prog 84 #[.int .i64 k_1] w R :=
  Old.calls_of_eq (ann := fun _ => []) (fn := Tryz.f84) (c := bodyOf Tryz.f84) (args := #[.int .i64 k_1]) 400 follows_mixed Tryz.func84 (by kernel_rfl) (by kernel_rfl)
end Go.Proofs.YtlfjaogbehpleaaGreat

