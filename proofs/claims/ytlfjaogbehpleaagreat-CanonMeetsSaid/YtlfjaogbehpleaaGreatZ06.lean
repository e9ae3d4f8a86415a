/-
  Printed by a program (gen.py): what the functions of the program do, as formulas; each with the proof that its call is what the formula says.
-/
import Derived.Test.YtlfjaogbehpleaaGreatZ04
import Derived.Test.YtlfjaogbehpleaaGreatProg
import Derived.Test.YtlfjaogbehpleaaGreatZ05

namespace Go.Proofs.YtlfjaogbehpleaaGreat
open Go Go.Sh
set_option maxRecDepth 100000 in
/-- joinery/canon.unlike -/
def sh71 (s_1 : Option Addr) (o_2 : Int) (a_3 : Option Addr) (b_4 : Option Addr) (R : Ending → World → Prop) (w : World) : Prop :=
 doAl (.cells #[.pointer s_1] 65) w (fun b5 w6 =>
 doAl (.cells #[.int .u8 o_2] 5) w6 (fun b7 w8 =>
 doAl (.cells #[.pointer a_3] 68) w8 (fun b9 w10 =>
 doAl (.cells #[.pointer b_4] 68) w10 (fun b11 w12 =>
 R (.returned (.func (.func 139) #[] #[.pointer (some (blk b5)), .pointer (some (blk b7)), .pointer (some (blk b9)), .pointer (some (blk b11))])) w12))))
set_option maxRecDepth 100000 in
theorem sh71_ok (s_1 : Option Addr) (o_2 : Int) (a_3 : Option Addr) (b_4 : Option Addr) {R : Ending → World → Prop} {w : World} : sh71 s_1 o_2 a_3 b_4 R w → Calls Tryz.prog 71 #[.pointer s_1, .int .u8 o_2, .pointer a_3, .pointer b_4] w R :=
  Old.calls_of_eq (ann := fun _ => []) (fn := Tryz.f71) (c := bodyOf Tryz.f71) (args := #[.pointer s_1, .int .u8 o_2, .pointer a_3, .pointer b_4]) 400 follows_mixed Tryz.func71 (by kernel_rfl) (by kernel_rfl)
set_option maxRecDepth 100000 in
/-- (*joinery/scheme.Scheme).Whole -/
def sh72 (s_1 : Option Addr) (t_2 : Option Addr) (R : Ending → World → Prop) (w : World) : Prop :=
 ifB ((s_1).isNone) (
 R (.returned (.pointer none)) w) (
 doCall Tryz.prog (.func (.func 142) #[] #[]) #[.pointer s_1] w (retS (fun v23 w24 => ∃ (x3 : ByteArray), ∃ (xf4 : Fn), ∃ (xx5 : Array Value), ∃ (xc6 : Array Value), ∃ (xf7 : Fn), ∃ (xx8 : Array Value), ∃ (xc9 : Array Value), ∃ (xf10 : Fn), ∃ (xx11 : Array Value), ∃ (xc12 : Array Value), ∃ (xf13 : Fn), ∃ (xx14 : Array Value), ∃ (xc15 : Array Value), ∃ (xf16 : Fn), ∃ (xx17 : Array Value), ∃ (xc18 : Array Value), ∃ (xf19 : Fn), ∃ (xx20 : Array Value), ∃ (xc21 : Array Value), ∃ (x22 : Bool), v23 = (.agg #[.string x3, .func xf4 xx5 xc6, .func xf7 xx8 xc9, .func xf10 xx11 xc12, .func xf13 xx14 xc15, .func xf16 xx17 xc18, .func xf19 xx20 xc21, .bool x22] : Value) ∧ (
 doCall Tryz.prog (.func xf7 xx8 xc9) #[.pointer t_2] w24 (retS (fun v26 w27 => ∃ (x25 : Option Addr), v26 = (.pointer x25 : Value) ∧ (
 R (.returned (.pointer x25)) w27)) (fun ch w => Kfn R ch [] w)))) (fun ch w => Kfn R ch [] w)))
set_option maxRecDepth 100000 in
theorem sh72_ok (s_1 : Option Addr) (t_2 : Option Addr) {R : Ending → World → Prop} {w : World} : sh72 s_1 t_2 R w → Calls Tryz.prog 72 #[.pointer s_1, .pointer t_2] w R :=
  Old.calls_of_eq (ann := fun _ => []) (fn := Tryz.f72) (c := bodyOf Tryz.f72) (args := #[.pointer s_1, .pointer t_2]) 400 follows_mixed Tryz.func72 (by kernel_rfl) (by kernel_rfl)
set_option maxRecDepth 100000 in
/-- joinery/meet.alone -/
def sh73 (x_1 : Int) (x_2 : Int) (x_3 : Int) (x4 : Int) (x5 : Int) (x6 : Int) (is_7 : Bool) (R : Ending → World → Prop) (w : World) : Prop :=
 doAl (.cells #[.int .i64 x_1, .int .i64 x_2, .int .u64 x_3] 133) w (fun b8 w9 =>
 doAl (.cells #[.int .i64 x4, .int .i64 x5, .int .u64 x6] 133) w9 (fun _b10 w11 =>
 doAl (.cells #[.int .i64 0, .int .i64 0, .int .u64 0] 133) w11 (fun b12 w13 =>
 ∃ (x14 : Int), World.cell? w13 ((blk b8).add 0) = some (.int .i64 x14) ∧ (
 ∃ (x15 : Int), World.cell? w13 ((blk b8).add 1) = some (.int .i64 x15) ∧ (
 ∃ (x16 : Int), World.cell? w13 ((blk b8).add 2) = some (.int .u64 x16) ∧ (
 doSt ((blk b12).add 0) (.int .i64 x14) w13 (fun w17 =>
 doSt ((blk b12).add 1) (.int .i64 x15) w17 (fun w18 =>
 doSt ((blk b12).add 2) (.int .u64 x16) w18 (fun w19 =>
 ∃ (x20 : Int), World.cell? w19 ((blk b12).add 0) = some (.int .i64 x20) ∧ (
 ∃ (x21 : Int), World.cell? w19 ((blk b12).add 1) = some (.int .i64 x21) ∧ (
 ∃ (x22 : Int), World.cell? w19 ((blk b12).add 2) = some (.int .u64 x22) ∧ (
 R (.returned (.tuple #[.agg #[.int .i64 x20, .int .i64 x21, .int .u64 x22], .bool (!is_7)])) w19))))))))))))
set_option maxRecDepth 100000 in
theorem sh73_ok (x_1 : Int) (x_2 : Int) (x_3 : Int) (x4 : Int) (x5 : Int) (x6 : Int) (is_7 : Bool) {R : Ending → World → Prop} {w : World} : sh73 x_1 x_2 x_3 x4 x5 x6 is_7 R w → Calls Tryz.prog 73 #[.agg #[.int .i64 x_1, .int .i64 x_2, .int .u64 x_3], .agg #[.int .i64 x4, .int .i64 x5, .int .u64 x6], .bool is_7] w R :=
  Old.calls_of_eq (ann := fun _ => []) (fn := Tryz.f73) (c := bodyOf Tryz.f73) (args := #[.agg #[.int .i64 x_1, .int .i64 x_2, .int .u64 x_3], .agg #[.int .i64 x4, .int .i64 x5, .int .u64 x6], .bool is_7]) 400 follows_mixed Tryz.func73 (by kernel_rfl) (by kernel_rfl)
set_option maxRecDepth 100000 in
/-- (joinery/meet.way).goes -/
def sh74 (w_f1 : Fn) (w_x2 : Array Value) (w_c3 : Array Value) (w_f4 : Fn) (w_x5 : Array Value) (w_c6 : Array Value) (w_f7 : Fn) (w_x8 : Array Value) (w_c9 : Array Value) (s_10 : Option Addr) (o_11 : Int) (a_12 : Option Addr) (b_13 : Option Addr) (R : Ending → World → Prop) (w : World) : Prop :=
 doAl (.cells #[.func w_f1 w_x2 w_c3, .func w_f4 w_x5 w_c6, .func w_f7 w_x8 w_c9] 131) w (fun b14 w15 =>
 doAl (.cells #[.pointer s_10] 65) w15 (fun b16 w17 =>
 doAl (.cells #[.int .u8 o_11] 5) w17 (fun b18 w19 =>
 ∃ (x20 : Option Addr), World.cell? w19 (blk b16) = some (.pointer x20) ∧ (
 ∃ (x21 : Int), World.cell? w19 (blk b18) = some (.int .u8 x21) ∧ (
 doCall Tryz.prog (.func (.func 141) #[] #[]) #[.pointer x20, .int .u8 x21, .pointer none, .int .i64 0] w19 (retS (fun v29 w30 => ∃ (x22 : Option Addr), ∃ (x23 : Int), ∃ (x24 : Int), ∃ (x25 : Int), ∃ (x26 : Bool), ∃ (x27 : Option Addr), ∃ (x28 : Int), v29 = (.tuple #[.pointer x22, .agg #[.int .i64 x23, .int .i64 x24, .int .u64 x25], .bool x26, .pointer x27, .int .i64 x28] : Value) ∧ (
 doAl (.cells #[.int .i64 0, .int .i64 0, .int .u64 0] 133) w30 (fun b31 w32 =>
 doSt ((blk b31).add 0) (.int .i64 x23) w32 (fun w33 =>
 doSt ((blk b31).add 1) (.int .i64 x24) w33 (fun w34 =>
 doSt ((blk b31).add 2) (.int .u64 x25) w34 (fun w35 =>
 ifB ((x28 : Int) != 0) (
 R (.returned (.tuple #[.pointer none, .int .i64 2])) w35) (
 doAl (.cells #[.nilFunc] 209) w35 (fun b36 w37 =>
 doSt ((blk b36).add 0) (.func (.func 143) #[] #[.pointer (some (blk b14)), .pointer (some (blk b16)), .pointer (some (blk b18)), .pointer (some (blk b36))]) w37 (fun w38 =>
 ∃ (xf39 : Fn), ∃ (xx40 : Array Value), ∃ (xc41 : Array Value), World.cell? w38 (blk b36) = some (.func xf39 xx40 xc41) ∧ (
 doCall Tryz.prog (.func xf39 xx40 xc41) #[.pointer a_12, .pointer b_13] w38 (retS (fun v43 w44 => ∃ (x42 : Option Addr), v43 = (.pointer x42 : Value) ∧ (
 R (.returned (.tuple #[.pointer x42, .int .i64 0])) w44)) (fun ch w => Kfn R ch [] w)))))))))))) (fun ch w => Kfn R ch [] w)))))))
set_option maxRecDepth 100000 in
theorem sh74_ok (w_f1 : Fn) (w_x2 : Array Value) (w_c3 : Array Value) (w_f4 : Fn) (w_x5 : Array Value) (w_c6 : Array Value) (w_f7 : Fn) (w_x8 : Array Value) (w_c9 : Array Value) (s_10 : Option Addr) (o_11 : Int) (a_12 : Option Addr) (b_13 : Option Addr) {R : Ending → World → Prop} {w : World} : sh74 w_f1 w_x2 w_c3 w_f4 w_x5 w_c6 w_f7 w_x8 w_c9 s_10 o_11 a_12 b_13 R w → Calls Tryz.prog 74 #[.agg #[.func w_f1 w_x2 w_c3, .func w_f4 w_x5 w_c6, .func w_f7 w_x8 w_c9], .pointer s_10, .int .u8 o_11, .pointer a_12, .pointer b_13] w R :=
  Old.calls_of_eq (ann := fun _ => []) (fn := Tryz.f74) (c := bodyOf Tryz.f74) (args := #[.agg #[.func w_f1 w_x2 w_c3, .func w_f4 w_x5 w_c6, .func w_f7 w_x8 w_c9], .pointer s_10, .int .u8 o_11, .pointer a_12, .pointer b_13]) 400 follows_mixed Tryz.func74 (by kernel_rfl) (by kernel_rfl)
set_option maxRecDepth 100000 in
/-- joinery/meet.none -/
def sh76 (_x1 : Option Addr) (R : Ending → World → Prop) (w : World) : Prop :=
 R (.returned (.pointer none)) w
set_option maxRecDepth 100000 in
theorem sh76_ok (x1 : Option Addr) {R : Ending → World → Prop} {w : World} : sh76 x1 R w → Calls Tryz.prog 76 #[.pointer x1] w R :=
  Old.calls_of_eq (ann := fun _ => []) (fn := Tryz.f76) (c := bodyOf Tryz.f76) (args := #[.pointer x1]) 400 follows_mixed Tryz.func76 (by kernel_rfl) (by kernel_rfl)
set_option maxRecDepth 100000 in
/-- joinery/meet.Meet$1 -/
def sh77 (x_1 : Int) (x_2 : Int) (x_3 : Int) (y_4 : Int) (y_5 : Int) (y_6 : Int) (is_7 : Bool) (x8 : Addr) (R : Ending → World → Prop) (w : World) : Prop :=
 doAl (.cells #[.int .i64 x_1, .int .i64 x_2, .int .u64 x_3] 133) w (fun b9 w10 =>
 doAl (.cells #[.int .i64 y_4, .int .i64 y_5, .int .u64 y_6] 133) w10 (fun b11 w12 =>
 doAl (.cells #[.int .i64 0, .int .i64 0, .int .u64 0] 133) w12 (fun b13 w14 =>
 ∃ (x15 : Int), World.cell? w14 x8 = some (.int .u8 x15) ∧ (
 ∃ (x16 : Int), World.cell? w14 ((blk b9).add 1) = some (.int .i64 x16) ∧ (
 ∃ (x17 : Int), World.cell? w14 ((blk b11).add 1) = some (.int .i64 x17) ∧ (
 doCall Tryz.prog (.func (.func 78) #[] #[]) #[.int .u8 x15, .int .i64 x16, .int .i64 x17] w14 (retS (fun v20 w21 => ∃ (x18 : Int), ∃ (x19 : Int), v20 = (.tuple #[.int .i64 x18, .int .i64 x19] : Value) ∧ (
 doSt (((blk b9).add 1).add 0) (.int .i64 x18) w21 (fun w22 =>
 ∃ (x23 : Int), World.cell? w22 ((blk b9).add 0) = some (.int .i64 x23) ∧ (
 ∃ (x24 : Int), World.cell? w22 ((blk b9).add 1) = some (.int .i64 x24) ∧ (
 ∃ (x25 : Int), World.cell? w22 ((blk b9).add 2) = some (.int .u64 x25) ∧ (
 doSt ((blk b13).add 0) (.int .i64 x23) w22 (fun w26 =>
 doSt ((blk b13).add 1) (.int .i64 x24) w26 (fun w27 =>
 doSt ((blk b13).add 2) (.int .u64 x25) w27 (fun w28 =>
 ∃ (x29 : Int), World.cell? w28 ((blk b13).add 0) = some (.int .i64 x29) ∧ (
 ∃ (x30 : Int), World.cell? w28 ((blk b13).add 1) = some (.int .i64 x30) ∧ (
 ∃ (x31 : Int), World.cell? w28 ((blk b13).add 2) = some (.int .u64 x31) ∧ (
 R (.returned (.tuple #[.agg #[.int .i64 x29, .int .i64 x30, .int .u64 x31], .bool is_7])) w28)))))))))))) (fun ch w => Kfn R ch [] w))))))))
set_option maxRecDepth 100000 in
theorem sh77_ok (x_1 : Int) (x_2 : Int) (x_3 : Int) (y_4 : Int) (y_5 : Int) (y_6 : Int) (is_7 : Bool) (x8 : Addr) {R : Ending → World → Prop} {w : World} : sh77 x_1 x_2 x_3 y_4 y_5 y_6 is_7 x8 R w → Calls Tryz.prog 77 #[.agg #[.int .i64 x_1, .int .i64 x_2, .int .u64 x_3], .agg #[.int .i64 y_4, .int .i64 y_5, .int .u64 y_6], .bool is_7, .pointer (some x8)] w R :=
  Old.calls_of_eq (ann := fun _ => []) (fn := Tryz.f77) (c := bodyOf Tryz.f77) (args := #[.agg #[.int .i64 x_1, .int .i64 x_2, .int .u64 x_3], .agg #[.int .i64 y_4, .int .i64 y_5, .int .u64 y_6], .bool is_7, .pointer (some x8)]) 400 follows_mixed Tryz.func77 (by kernel_rfl) (by kernel_rfl)
set_option maxRecDepth 100000 in
/-- joinery/look.All -/
def sh80 (t_1 : Option Addr) (R : Ending → World → Prop) (w : World) : Prop :=
 doCall Tryz.prog (.func (.func 149) #[] #[]) #[.pointer t_1] w (retS (fun v5 w6 => ∃ (xf2 : Fn), ∃ (xx3 : Array Value), ∃ (xc4 : Array Value), v5 = (.func xf2 xx3 xc4 : Value) ∧ (
 doCall Tryz.prog (.func (.func 148) #[] #[]) #[.func xf2 xx3 xc4] w6 (retS (fun v10 w11 => ∃ (xf7 : Fn), ∃ (xx8 : Array Value), ∃ (xc9 : Array Value), v10 = (.func xf7 xx8 xc9 : Value) ∧ (
 R (.returned (.func xf7 xx8 xc9)) w11)) (fun ch w => Kfn R ch [] w)))) (fun ch w => Kfn R ch [] w))
set_option maxRecDepth 100000 in
theorem sh80_ok (t_1 : Option Addr) {R : Ending → World → Prop} {w : World} : sh80 t_1 R w → Calls Tryz.prog 80 #[.pointer t_1] w R :=
  Old.calls_of_eq (ann := fun _ => []) (fn := Tryz.f80) (c := bodyOf Tryz.f80) (args := #[.pointer t_1]) 400 follows_mixed Tryz.func80 (by kernel_rfl) (by kernel_rfl)
set_option maxRecDepth 100000 in
/-- joinery/find.last -/
def sh81  (R : Ending → World → Prop) (w : World) : Prop :=
 doAl (.cells #[.pointer none] 68) w (fun b1 w2 =>
 R (.returned (.tuple #[.func (.func 150) #[] #[.pointer (some (blk b1))], .func (.func 151) #[] #[.pointer (some (blk b1))]])) w2)
set_option maxRecDepth 100000 in
theorem sh81_ok  {R : Ending → World → Prop} {w : World} : sh81  R w → Calls Tryz.prog 81 #[] w R :=
  Old.calls_of_eq (ann := fun _ => []) (fn := Tryz.f81) (c := bodyOf Tryz.f81) (args := #[]) 400 follows_mixed Tryz.func81 (by kernel_rfl) (by kernel_rfl)
set_option maxRecDepth 100000 in
/-- joinery/find.way -/
def sh82 (o_1 : Int) (t_2 : Option Addr) (key_3 : Int) (R : Ending → World → Prop) (w : World) : Prop :=
 doAl (.cells #[.int .u8 o_1] 5) w (fun b4 w5 =>
 doAl (.cells #[.pointer t_2] 68) w5 (fun b6 w7 =>
 doAl (.cells #[.int .i64 key_3] 2) w7 (fun b8 w9 =>
 R (.returned (.func (.func 152) #[] #[.pointer (some (blk b4)), .pointer (some (blk b6)), .pointer (some (blk b8))])) w9)))
set_option maxRecDepth 100000 in
theorem sh82_ok (o_1 : Int) (t_2 : Option Addr) (key_3 : Int) {R : Ending → World → Prop} {w : World} : sh82 o_1 t_2 key_3 R w → Calls Tryz.prog 82 #[.int .u8 o_1, .pointer t_2, .int .i64 key_3] w R :=
  Old.calls_of_eq (ann := fun _ => []) (fn := Tryz.f82) (c := bodyOf Tryz.f82) (args := #[.int .u8 o_1, .pointer t_2, .int .i64 key_3]) 400 follows_mixed Tryz.func82 (by kernel_rfl) (by kernel_rfl)
set_option maxRecDepth 100000 in
/-- joinery/find.pair -/
def sh83 (n_1 : Option Addr) (R : Ending → World → Prop) (w : World) : Prop :=
 doAl (.cells #[.int .i64 0, .int .i64 0] 63) w (fun b2 w3 =>
 ifB ((n_1).isNone) (
 doSt ((blk b2).add 0) (.int .i64 0) w3 (fun w4 =>
 doSt ((blk b2).add 1) (.int .i64 0) w4 (fun w5 =>
 ∃ (x6 : Int), World.cell? w5 ((blk b2).add 0) = some (.int .i64 x6) ∧ (
 ∃ (x7 : Int), World.cell? w5 ((blk b2).add 1) = some (.int .i64 x7) ∧ (
 R (.returned (.tuple #[.agg #[.int .i64 x6, .int .i64 x7], .bool false])) w5))))) (
 doCall Tryz.prog (.func (.func 131) #[] #[]) #[.pointer n_1] w3 (retS (fun v9 w10 => ∃ (x8 : Int), v9 = (.int .i64 x8 : Value) ∧ (
 doCall Tryz.prog (.func (.func 132) #[] #[]) #[.pointer n_1] w10 (retS (fun v12 w13 => ∃ (x11 : Int), v12 = (.int .i64 x11 : Value) ∧ (
 doSt ((blk b2).add 0) (.int .i64 x8) w13 (fun w14 =>
 doSt ((blk b2).add 1) (.int .i64 x11) w14 (fun w15 =>
 ∃ (x16 : Int), World.cell? w15 ((blk b2).add 0) = some (.int .i64 x16) ∧ (
 ∃ (x17 : Int), World.cell? w15 ((blk b2).add 1) = some (.int .i64 x17) ∧ (
 R (.returned (.tuple #[.agg #[.int .i64 x16, .int .i64 x17], .bool true])) w15)))))) (fun ch w => Kfn R ch [] w)))) (fun ch w => Kfn R ch [] w))))
set_option maxRecDepth 100000 in
theorem sh83_ok (n_1 : Option Addr) {R : Ending → World → Prop} {w : World} : sh83 n_1 R w → Calls Tryz.prog 83 #[.pointer n_1] w R :=
  Old.calls_of_eq (ann := fun _ => []) (fn := Tryz.f83) (c := bodyOf Tryz.f83) (args := #[.pointer n_1]) 400 follows_mixed Tryz.func83 (by kernel_rfl) (by kernel_rfl)
set_option maxRecDepth 100000 in
/-- joinery/scheme.of -/
def sh126 (code_1 : Int) (R : Ending → World → Prop) (w : World) : Prop :=
 ifB ((code_1 : Int) == 1) (
 R (.returned (.iface 241 (.agg #[.string (⟨#[97, 118, 108]⟩ : ByteArray), .func (.func 193) #[] #[], .func (.func 194) #[] #[], .func (.func 195) #[] #[], .func (.func 196) #[] #[], .func (.func 197) #[] #[], .func (.func 198) #[] #[]]))) w) (
 ifB ((code_1 : Int) == 2) (
 R (.returned (.iface 241 (.agg #[.string (⟨#[114, 101, 100, 98, 108, 97, 99, 107]⟩ : ByteArray), .func (.func 199) #[] #[], .func (.func 200) #[] #[], .func (.func 201) #[] #[], .func (.func 202) #[] #[], .func (.func 203) #[] #[], .func (.func 204) #[] #[]]))) w) (
 ifB ((code_1 : Int) == 3) (
 R (.returned (.iface 241 (.agg #[.string (⟨#[119, 101, 105, 103, 104, 116]⟩ : ByteArray), .func (.func 205) #[] #[], .func (.func 206) #[] #[], .func (.func 207) #[] #[], .func (.func 208) #[] #[], .func (.func 209) #[] #[], .func (.func 198) #[] #[]]))) w) (
 ifB ((code_1 : Int) == 4) (
 R (.returned (.iface 242 (.agg #[]))) w) (
 R (.returned (.nilIface)) w))))
set_option maxRecDepth 100000 in
theorem sh126_ok (code_1 : Int) {R : Ending → World → Prop} {w : World} : sh126 code_1 R w → Calls Tryz.prog 126 #[.int .u8 code_1] w R :=
  Old.calls_of_eq (ann := fun _ => []) (fn := Tryz.f126) (c := bodyOf Tryz.f126) (args := #[.int .u8 code_1]) 400 follows_mixed Tryz.func126 (by kernel_rfl) (by kernel_rfl)
set_option maxRecDepth 100000 in
/-- joinery/sound.Check -/
def sh133 (o_1 : Int) (t_2 : Option Addr) (R : Ending → World → Prop) (w : World) : Prop :=
 doAl (.cells #[.int .i64 0] 3) w (fun b3 w4 =>
 doAl (.cells #[.int .i64 0] 31) w4 (fun b5 w6 =>
 let K11 : Bool → Value → Value → World → Prop := fun (x7 : Bool) (d8 : Value) (d9 : Value) (w10 : World) => 
 let K13 : Nat → World → Prop := fun (dl14 : Nat) (w12 : World) => 
 doDr w12 (fun w16 =>
 ∃ (C15 : World → Prop), C15 w16 ∧ (
 ∃ (x17 : Int), (∀ w, C15 w → World.cell? w (blk b3) = some (.int .i64 x17)) ∧ (
 ∃ (x18 : Int), (∀ w, C15 w → World.cell? w (blk b5) = some (.int .i64 x18)) ∧ (
 doSt ((blk b3).add 0) (.int .i64 x17) w16 (fun w19 =>
 C15 w19 ∧ (
 doSt ((blk b5).add 0) (.int .i64 x18) w19 (fun w20 =>
 w20.heap[dl14]? = some (.deferred (some [])) ∧ (
 let w21 : World := w20.putObj dl14 (.deferred none)
 ∃ (x22 : Int), World.cell? w21 (blk b3) = some (.int .i64 x22) ∧ (
 ∃ (x23 : Int), World.cell? w21 (blk b5) = some (.int .i64 x23) ∧ (
 R (.returned (.tuple #[.int .i64 x22, .int .i64 x23])) w21))))))))))
 doCall Tryz.prog (.func (.func 212) #[] #[]) #[.int .u8 o_1, .pointer t_2] w10 (retS (fun v27 w28 => ∃ (xf24 : Fn), ∃ (xx25 : Array Value), ∃ (xc26 : Array Value), v27 = (.func xf24 xx25 xc26 : Value) ∧ (
 rfW Tryz.prog (.func xf24 xx25 xc26) (mkLoop #[.int .u8 o_1, .pointer t_2, undef, undef, .pointer (some (blk b3)), .pointer (some (blk b5)), undef, undef, .int .u8 o_1, .bool (decide ((o_1 : Int) < 1)), .bool x7, d8, d9, .bool false, .int .u8 o_1, .pointer t_2, .func xf24 xx25 xc26, undef, undef, undef, undef, undef, undef, undef] (rfOf Tryz.f133 0).1 (rfOf Tryz.f133 0).2.1 (rfOf Tryz.f133 0).2.2)
 (fun w30 =>
 K13 w28.heap.size w30)
 (fun w31 =>
 w31.heap[w28.heap.size]? = some (.deferred (some [])) ∧ (
 let w32 : World := w31.putObj w28.heap.size (.deferred none)
 ∃ (x33 : Int), World.cell? w32 (blk b3) = some (.int .i64 x33) ∧ (
 ∃ (x34 : Int), World.cell? w32 (blk b5) = some (.int .i64 x34) ∧ (
 R (.returned (.tuple #[.int .i64 x33, .int .i64 x34])) w32))))
 [(0, (fun w29 =>
 K13 w28.heap.size w29))] w28)) (fun ch w => Kfn R ch [] w))
 let K40 : Bool → Value → Value → Bool → World → Prop := fun (x35 : Bool) (d36 : Value) (d37 : Value) (x38 : Bool) (w39 : World) => 
 ifB x38 (
 doSt ((blk b3).add 0) (.int .i64 0) w39 (fun w41 =>
 doSt ((blk b5).add 0) (.int .i64 2) w41 (fun w42 =>
 ∃ (x43 : Int), World.cell? w42 (blk b3) = some (.int .i64 x43) ∧ (
 ∃ (x44 : Int), World.cell? w42 (blk b5) = some (.int .i64 x44) ∧ (
 R (.returned (.tuple #[.int .i64 x43, .int .i64 x44])) w42))))) (
 K11 x35 (d36 : Value) (d37 : Value) w39)
 ifB (decide ((o_1 : Int) < 1)) (
 doSt ((blk b3).add 0) (.int .i64 0) w6 (fun w45 =>
 doSt ((blk b5).add 0) (.int .i64 2) w45 (fun w46 =>
 ∃ (x47 : Int), World.cell? w46 (blk b3) = some (.int .i64 x47) ∧ (
 ∃ (x48 : Int), World.cell? w46 (blk b5) = some (.int .i64 x48) ∧ (
 R (.returned (.tuple #[.int .i64 x47, .int .i64 x48])) w46))))) (
 K40 false (.int .u8 o_1 : Value) (.bool (decide ((o_1 : Int) > 7)) : Value) (decide ((o_1 : Int) > 7)) w6)))
set_option maxRecDepth 100000 in
theorem sh133_ok (o_1 : Int) (t_2 : Option Addr) {R : Ending → World → Prop} {w : World} : sh133 o_1 t_2 R w → Calls Tryz.prog 133 #[.int .u8 o_1, .pointer t_2] w R :=
  Old.calls_of_eq (ann := fun _ => []) (fn := Tryz.f133) (c := bodyOf Tryz.f133) (args := #[.int .u8 o_1, .pointer t_2]) 400 follows_mixed Tryz.func133 (by kernel_rfl) (by kernel_rfl)
set_option maxRecDepth 100000 in
/-- joinery/sound.Check, a round of loop 0 -/
def sh133_0 (at_1 : Addr) (e_2 : Addr) (_y25 : Option Addr) (y26 : Bool) (l : Nat) (R : Ending → World → Prop) (w : World) : Prop :=
 ∃ (r27 : Loop), w.heap[l]? = some (.loop r27) ∧ r27.state = .ready ∧ (
 let w28 : World := w.putObj l (.loop { r27 with state := .busy })
 ifB y26 (
 doSt (e_2.add 0) (.int .i64 120) w28 (fun w29 =>
 ∃ (r30 : Loop), w29.heap[l]? = some (.loop r30) ∧ R (.returned (.bool false)) (w29.putObj l (.loop { r30 with state := .done, pending := some (.exit 0) })))) (
 ∃ (x31 : Int), World.cell? w28 at_1 = some (.int .i64 x31) ∧ (
 doSt (at_1.add 0) (.int .i64 (IntKind.wrap .i64 (x31 + 1))) w28 (fun w32 =>
 ∃ (r33 : Loop), w32.heap[l]? = some (.loop r33) ∧ R (.returned (.bool true)) (w32.putObj l (.loop { r33 with state := .ready, pending := none }))))))
set_option maxRecDepth 100000 in
theorem sh133_0_ok {dd3 : Value} {dd4 : Value} {dd5 : Value} {dd6 : Value} {dd7 : Value} {dd8 : Value} {dd9 : Value} {dd10 : Value} {dd11 : Value} {dd12 : Value} {dd13 : Value} {dd14 : Value} {dd15 : Value} {dd16 : Value} {dd17 : Value} {dd18 : Value} {dd19 : Value} {dd20 : Value} {dd21 : Value} {dd22 : Value} {dd23 : Value} {dd24 : Value} {at_1 : Addr} {e_2 : Addr} {y25 : Option Addr} {y26 : Bool} {l fn D : Nat} {R : Ending → World → Prop} {w : World} (hl : w.heap[l]? = some (.loop (mkLoop #[dd3, dd4, dd5, dd6, .pointer (some at_1), .pointer (some e_2), dd7, dd8, dd9, dd10, dd11, dd12, dd13, dd14, dd15, dd16, dd17, dd18, dd19, dd20, dd21, dd22, dd23, dd24] (rfOf Tryz.f133 0).1 (rfOf Tryz.f133 0).2.1 (rfOf Tryz.f133 0).2.2 fn D))) : sh133_0 at_1 e_2 y25 y26 l R w → doCall Tryz.prog (.func (.yield l) #[] #[]) #[.pointer y25, .bool y26] w R :=
  fun h => ⟨Old.round_of_eq (ann := fun _ => []) 400 follows_mixed hl (by kernel_rfl) (by kernel_rfl) h⟩
set_option maxRecDepth 100000 in
/-- joinery/treap.May -/
def sh134 (t_1 : Option Addr) (R : Ending → World → Prop) (w : World) : Prop :=
 doCall Tryz.prog (.func (.func 213) #[] #[]) #[.pointer t_1] w (retS (fun v4 w5 => ∃ (x2 : Int), ∃ (x3 : Int), v4 = (.tuple #[.int .i64 x2, .int .i64 x3] : Value) ∧ (
 R (.returned (.bool ((x3 : Int) == 0))) w5)) (fun ch w => Kfn R ch [] w))
set_option maxRecDepth 100000 in
theorem sh134_ok (t_1 : Option Addr) {R : Ending → World → Prop} {w : World} : sh134 t_1 R w → Calls Tryz.prog 134 #[.pointer t_1] w R :=
  Old.calls_of_eq (ann := fun _ => []) (fn := Tryz.f134) (c := bodyOf Tryz.f134) (args := #[.pointer t_1]) 400 follows_mixed Tryz.func134 (by kernel_rfl) (by kernel_rfl)
set_option maxRecDepth 100000 in
/-- joinery/treap.Mixed -/
def sh135 (t_1 : Option Addr) (R : Ending → World → Prop) (w : World) : Prop :=
 let K4 : Bool → World → Prop := fun (x2 : Bool) (w3 : World) => 
 R (.returned (.bool x2)) w3
 ifB ((t_1).isNone) (
 R (.returned (.bool true)) w) (
 doCall Tryz.prog (.func (.func 214) #[] #[]) #[.pointer t_1] w (retS (fun v6 w7 => ∃ (x5 : Int), v6 = (.int .u64 x5 : Value) ∧ (
 doCall Tryz.prog (.func (.func 131) #[] #[]) #[.pointer t_1] w7 (retS (fun v9 w10 => ∃ (x8 : Int), v9 = (.int .i64 x8 : Value) ∧ (
 doCall Tryz.prog (.func (.func 215) #[] #[]) #[.int .i64 x8] w10 (retS (fun v12 w13 => ∃ (x11 : Int), v12 = (.int .u64 x11 : Value) ∧ (
 ifB ((x5 : Int) == x11) (
 doCall Tryz.prog (.func (.func 128) #[] #[]) #[.pointer t_1] w13 (retS (fun v15 w16 => ∃ (x14 : Option Addr), v15 = (.pointer x14 : Value) ∧ (
 doCall Tryz.prog (.func (.func 135) #[] #[]) #[.pointer x14] w16 (retS (fun v18 w19 => ∃ (x17 : Bool), v18 = (.bool x17 : Value) ∧ (
 ifB x17 (
 doCall Tryz.prog (.func (.func 130) #[] #[]) #[.pointer t_1] w19 (retS (fun v21 w22 => ∃ (x20 : Option Addr), v21 = (.pointer x20 : Value) ∧ (
 doCall Tryz.prog (.func (.func 135) #[] #[]) #[.pointer x20] w22 (retS (fun v24 w25 => ∃ (x23 : Bool), v24 = (.bool x23 : Value) ∧ (
 K4 x23 w25)) (fun ch w => Kfn R ch [] w)))) (fun ch w => Kfn R ch [] w))) (
 R (.returned (.bool false)) w19))) (fun ch w => Kfn R ch [] w)))) (fun ch w => Kfn R ch [] w))) (
 R (.returned (.bool false)) w13))) (fun ch w => Kfn R ch [] w)))) (fun ch w => Kfn R ch [] w)))) (fun ch w => Kfn R ch [] w)))
set_option maxRecDepth 100000 in
theorem sh135_ok (t_1 : Option Addr) {R : Ending → World → Prop} {w : World} : sh135 t_1 R w → Calls Tryz.prog 135 #[.pointer t_1] w R :=
  Old.calls_of_eq (ann := fun _ => []) (fn := Tryz.f135) (c := bodyOf Tryz.f135) (args := #[.pointer t_1]) 400 follows_mixed Tryz.func135 (by kernel_rfl) (by kernel_rfl)
end Go.Proofs.YtlfjaogbehpleaaGreat

