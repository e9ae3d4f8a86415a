/-
  Printed by a program (gen.py): what the functions of the program do, as formulas; each with the proof that its call is what the formula says.
-/
/-
  Printed by a program (gen.py): what the functions of the program do, as formulas; each with the proof that its call is what the formula says.
-/
import Derived.Test.YtlddfgfmkapoiaaGreatZ02
import Derived.Test.YtlddfgfmkapoiaaGreatProg
import Derived.Test.YtlddfgfmkapoiaaGreatZ03

namespace Go.Proofs.YtlddfgfmkapoiaaGreat
open Go Go.Sh
set_option maxRecDepth 100000 in
/-- (*joinery/scheme.Scheme).Whole -/
def sh162 (s_1 : Option Addr) (t_2 : Option Addr) (R : Ending → World → Prop) (w : World) : Prop :=
 ifB ((s_1).isNone) (
 R (.returned (.pointer none)) w) (
 doCall Tryz.prog (.func (.func 188) #[] #[]) #[.pointer s_1] w (retS (fun v23 w24 => ∃ (x3 : ByteArray), ∃ (xf4 : Fn), ∃ (xx5 : Array Value), ∃ (xc6 : Array Value), ∃ (xf7 : Fn), ∃ (xx8 : Array Value), ∃ (xc9 : Array Value), ∃ (xf10 : Fn), ∃ (xx11 : Array Value), ∃ (xc12 : Array Value), ∃ (xf13 : Fn), ∃ (xx14 : Array Value), ∃ (xc15 : Array Value), ∃ (xf16 : Fn), ∃ (xx17 : Array Value), ∃ (xc18 : Array Value), ∃ (xf19 : Fn), ∃ (xx20 : Array Value), ∃ (xc21 : Array Value), ∃ (x22 : Bool), v23 = (.agg #[.string x3, .func xf4 xx5 xc6, .func xf7 xx8 xc9, .func xf10 xx11 xc12, .func xf13 xx14 xc15, .func xf16 xx17 xc18, .func xf19 xx20 xc21, .bool x22] : Value) ∧ (
 doCall Tryz.prog (.func xf7 xx8 xc9) #[.pointer t_2] w24 (retS (fun v26 w27 => ∃ (x25 : Option Addr), v26 = (.pointer x25 : Value) ∧ (
 R (.returned (.pointer x25)) w27)) (fun ch w => Kfn R ch [] w)))) (fun ch w => Kfn R ch [] w)))
set_option maxRecDepth 100000 in
theorem sh162_ok (s_1 : Option Addr) (t_2 : Option Addr) {R : Ending → World → Prop} {w : World} : sh162 s_1 t_2 R w → Calls Tryz.prog 162 #[.pointer s_1, .pointer t_2] w R :=
  calls_of_eq (ann := fun _ => []) (fn := Tryz.f162) (c := bodyOf Tryz.f162) (args := #[.pointer s_1, .pointer t_2]) 400 follows_mixed Tryz.func162 (by kernel_rfl) (by kernel_rfl)
set_option maxRecDepth 100000 in
/-- joinery/split.where -/
def sh164 (o_1 : Int) (key_2 : Int) (R : Ending → World → Prop) (w : World) : Prop :=
 doAl (.cells #[.int .u8 o_1] 5) w (fun b3 w4 =>
 ∃ (x5 : Int), World.cell? w4 (blk b3) = some (.int .u8 x5) ∧ (
 doCall Tryz.prog (.func (.func 215) #[] #[]) #[.int .u8 x5, .int .i64 key_2] w4 (retS (fun v8 w9 => ∃ (x6 : Int), ∃ (x7 : Int), v8 = (.tuple #[.int .u64 x6, .int .i64 x7] : Value) ∧ (
 doAl (.cells #[.int .u64 0] 75) w9 (fun b10 w11 =>
 doSt ((blk b10).add 0) (.int .u64 x6) w11 (fun w12 =>
 ifB ((x7 : Int) != 0) (
 R (.returned (.tuple #[.nilFunc, .int .i64 2])) w12) (
 R (.returned (.tuple #[.func (.func 216) #[] #[.pointer (some (blk b3)), .pointer (some (blk b10))], .int .i64 0])) w12))))) (fun ch w => Kfn R ch [] w))))
set_option maxRecDepth 100000 in
theorem sh164_ok (o_1 : Int) (key_2 : Int) {R : Ending → World → Prop} {w : World} : sh164 o_1 key_2 R w → Calls Tryz.prog 164 #[.int .u8 o_1, .int .i64 key_2] w R :=
  calls_of_eq (ann := fun _ => []) (fn := Tryz.f164) (c := bodyOf Tryz.f164) (args := #[.int .u8 o_1, .int .i64 key_2]) 400 follows_mixed Tryz.func164 (by kernel_rfl) (by kernel_rfl)
set_option maxRecDepth 100000 in
/-- (*joinery/node.Node).of -/
def sh166 (n_1 : Option Addr) (R : Ending → World → Prop) (w : World) : Prop :=
 doAl (.cells #[.int .i64 0, .int .i64 0, .int .i64 0, .int .u64 0, .int .i64 0] 205) w (fun b2 w3 =>
 ifB ((n_1).isNone) (
 doSt ((blk b2).add 0) (.int .i64 0) w3 (fun w4 =>
 doSt ((blk b2).add 1) (.int .i64 0) w4 (fun w5 =>
 doSt ((blk b2).add 2) (.int .i64 0) w5 (fun w6 =>
 doSt ((blk b2).add 3) (.int .u64 0) w6 (fun w7 =>
 doSt ((blk b2).add 4) (.int .i64 0) w7 (fun w8 =>
 ∃ (x9 : Int), World.cell? w8 ((blk b2).add 0) = some (.int .i64 x9) ∧ (
 ∃ (x10 : Int), World.cell? w8 ((blk b2).add 1) = some (.int .i64 x10) ∧ (
 ∃ (x11 : Int), World.cell? w8 ((blk b2).add 2) = some (.int .i64 x11) ∧ (
 ∃ (x12 : Int), World.cell? w8 ((blk b2).add 3) = some (.int .u64 x12) ∧ (
 ∃ (x13 : Int), World.cell? w8 ((blk b2).add 4) = some (.int .i64 x13) ∧ (
 R (.returned (.agg #[.int .i64 x9, .int .i64 x10, .int .i64 x11, .int .u64 x12, .int .i64 x13])) w8))))))))))) (
 ∃ (q14 : Addr), n_1 = some q14 ∧ (
 ∃ (x15 : Int), World.cell? w3 ((q14.add 0).add 0) = some (.int .i64 x15) ∧ (
 ∃ (x16 : Int), World.cell? w3 ((q14.add 0).add 1) = some (.int .i64 x16) ∧ (
 ∃ (x17 : Int), World.cell? w3 ((q14.add 0).add 2) = some (.int .i64 x17) ∧ (
 ∃ (x18 : Int), World.cell? w3 ((q14.add 0).add 3) = some (.int .u64 x18) ∧ (
 ∃ (x19 : Int), World.cell? w3 ((q14.add 0).add 4) = some (.int .i64 x19) ∧ (
 doSt ((blk b2).add 0) (.int .i64 x15) w3 (fun w20 =>
 doSt ((blk b2).add 1) (.int .i64 x16) w20 (fun w21 =>
 doSt ((blk b2).add 2) (.int .i64 x17) w21 (fun w22 =>
 doSt ((blk b2).add 3) (.int .u64 x18) w22 (fun w23 =>
 doSt ((blk b2).add 4) (.int .i64 x19) w23 (fun w24 =>
 ∃ (x25 : Int), World.cell? w24 ((blk b2).add 0) = some (.int .i64 x25) ∧ (
 ∃ (x26 : Int), World.cell? w24 ((blk b2).add 1) = some (.int .i64 x26) ∧ (
 ∃ (x27 : Int), World.cell? w24 ((blk b2).add 2) = some (.int .i64 x27) ∧ (
 ∃ (x28 : Int), World.cell? w24 ((blk b2).add 3) = some (.int .u64 x28) ∧ (
 ∃ (x29 : Int), World.cell? w24 ((blk b2).add 4) = some (.int .i64 x29) ∧ (
 R (.returned (.agg #[.int .i64 x25, .int .i64 x26, .int .i64 x27, .int .u64 x28, .int .i64 x29])) w24))))))))))))))))))
set_option maxRecDepth 100000 in
theorem sh166_ok (n_1 : Option Addr) {R : Ending → World → Prop} {w : World} : sh166 n_1 R w → Calls Tryz.prog 166 #[.pointer n_1] w R :=
  calls_of_eq (ann := fun _ => []) (fn := Tryz.f166) (c := bodyOf Tryz.f166) (args := #[.pointer n_1]) 400 follows_mixed Tryz.func166 (by kernel_rfl) (by kernel_rfl)
set_option maxRecDepth 100000 in
/-- joinery/scheme.of -/
def sh167 (code_1 : Int) (R : Ending → World → Prop) (w : World) : Prop :=
 ifB ((code_1 : Int) == 1) (
 R (.returned (.iface 295 (.agg #[.string (⟨#[97, 118, 108]⟩ : ByteArray), .func (.func 218) #[] #[], .func (.func 219) #[] #[], .func (.func 220) #[] #[], .func (.func 221) #[] #[], .func (.func 222) #[] #[], .func (.func 223) #[] #[]]))) w) (
 ifB ((code_1 : Int) == 2) (
 R (.returned (.iface 295 (.agg #[.string (⟨#[114, 101, 100, 98, 108, 97, 99, 107]⟩ : ByteArray), .func (.func 224) #[] #[], .func (.func 225) #[] #[], .func (.func 226) #[] #[], .func (.func 227) #[] #[], .func (.func 228) #[] #[], .func (.func 229) #[] #[]]))) w) (
 ifB ((code_1 : Int) == 3) (
 R (.returned (.iface 295 (.agg #[.string (⟨#[119, 101, 105, 103, 104, 116]⟩ : ByteArray), .func (.func 230) #[] #[], .func (.func 231) #[] #[], .func (.func 232) #[] #[], .func (.func 233) #[] #[], .func (.func 234) #[] #[], .func (.func 223) #[] #[]]))) w) (
 ifB ((code_1 : Int) == 4) (
 R (.returned (.iface 296 (.agg #[]))) w) (
 R (.returned (.nilIface)) w))))
set_option maxRecDepth 100000 in
theorem sh167_ok (code_1 : Int) {R : Ending → World → Prop} {w : World} : sh167 code_1 R w → Calls Tryz.prog 167 #[.int .u8 code_1] w R :=
  calls_of_eq (ann := fun _ => []) (fn := Tryz.f167) (c := bodyOf Tryz.f167) (args := #[.int .u8 code_1]) 400 follows_mixed Tryz.func167 (by kernel_rfl) (by kernel_rfl)
set_option maxRecDepth 100000 in
/-- joinery/build.Items$1 -/
def sh168 (l_p1 : Option Addr) (l_n2 : Nat) (l_c3 : Nat) (x4 : Addr) (x5 : Addr) (R : Ending → World → Prop) (w : World) : Prop :=
 ifB ((((l_n2 : Nat) : Int) : Int) == 0) (
 R (.returned (.pointer none)) w) (
 2 ≠ (0 : Int) ∧ (
 doDr w (fun w7 =>
 ∃ (C6 : World → Prop), C6 w7 ∧ (
 ∃ (x8 : Option Addr), (∀ w, C6 w → World.cell? w x4 = some (.pointer x8)) ∧ (
 ∃ (xf9 : Fn), ∃ (xx10 : Array Value), ∃ (xc11 : Array Value), (∀ w, C6 w → World.cell? w x5 = some (.func xf9 xx10 xc11)) ∧ (
 doSl l_p1 l_c3 3 (0) (IntKind.wrap .i64 (Int.tdiv ((l_n2 : Nat) : Int) 2)) (fun p12 n13 c14 =>
 doIx l_p1 l_n2 3 (IntKind.wrap .i64 (Int.tdiv ((l_n2 : Nat) : Int) 2)) (fun a15 =>
 ∃ (x16 : Int), (∀ w, C6 w → World.cell? w (a15.add 0) = some (.int .i64 x16)) ∧ (
 ∃ (x17 : Int), (∀ w, C6 w → World.cell? w (a15.add 1) = some (.int .i64 x17)) ∧ (
 ∃ (x18 : Int), (∀ w, C6 w → World.cell? w (a15.add 2) = some (.int .u64 x18)) ∧ (
 ∃ (xf19 : Fn), ∃ (xx20 : Array Value), ∃ (xc21 : Array Value), (∀ w, C6 w → World.cell? w x5 = some (.func xf19 xx20 xc21)) ∧ (
 doSl l_p1 l_c3 3 (IntKind.wrap .i64 ((IntKind.wrap .i64 (Int.tdiv ((l_n2 : Nat) : Int) 2)) + 1)) (((l_n2 : Nat) : Int)) (fun p22 n23 c24 =>
 doCall Tryz.prog (.func xf9 xx10 xc11) #[.slice p12 n13 c14] w7 (retS (fun v26 w27 => ∃ (x25 : Option Addr), v26 = (.pointer x25 : Value) ∧ (
 C6 w27 ∧ (
 doCall Tryz.prog (.func xf19 xx20 xc21) #[.slice p22 n23 c24] w27 (retS (fun v29 w30 => ∃ (x28 : Option Addr), v29 = (.pointer x28 : Value) ∧ (
 C6 w30 ∧ (
 doCall Tryz.prog (.func (.func 106) #[] #[]) #[.pointer x8, .pointer x25, .agg #[.int .i64 x16, .int .i64 x17, .int .u64 x18], .pointer x28] w30 (retS (fun v32 w33 => ∃ (x31 : Option Addr), v32 = (.pointer x31 : Value) ∧ (
 C6 w33 ∧ (
 R (.returned (.pointer x31)) w33))) (fun ch w => Kfn R ch [] w))))) (fun ch w => Kfn R ch [] w))))) (fun ch w => Kfn R ch [] w)))))))))))))))
set_option maxRecDepth 100000 in
theorem sh168_ok (l_p1 : Option Addr) (l_n2 : Nat) (l_c3 : Nat) (x4 : Addr) (x5 : Addr) {R : Ending → World → Prop} {w : World} : sh168 l_p1 l_n2 l_c3 x4 x5 R w → Calls Tryz.prog 168 #[.slice l_p1 l_n2 l_c3, .pointer (some x4), .pointer (some x5)] w R :=
  calls_of_eq (ann := fun _ => []) (fn := Tryz.f168) (c := bodyOf Tryz.f168) (args := #[.slice l_p1 l_n2 l_c3, .pointer (some x4), .pointer (some x5)]) 400 follows_mixed Tryz.func168 (by kernel_rfl) (by kernel_rfl)
set_option maxRecDepth 100000 in
/-- joinery/draw.New$2 -/
def sh171 (x1 : Addr) (x2 : Addr) (R : Ending → World → Prop) (w : World) : Prop :=
 ∃ (xp3 : Option Addr), ∃ (xn4 : Nat), ∃ (xc5 : Nat), World.cell? w x1 = some (.slice xp3 xn4 xc5) ∧ (
 ifB ((((xn4 : Nat) : Int) : Int) == 0) (
 R (.returned (.tuple #[.int .u64 0, .bool false])) w) (
 ∃ (xp6 : Option Addr), ∃ (xn7 : Nat), ∃ (xc8 : Nat), World.cell? w x1 = some (.slice xp6 xn7 xc8) ∧ (
 doIx xp6 xn7 1 (0) (fun a9 =>
 ∃ (x10 : Int), World.cell? w a9 = some (.int .u64 x10) ∧ (
 ∃ (xp11 : Option Addr), ∃ (xn12 : Nat), ∃ (xc13 : Nat), World.cell? w x1 = some (.slice xp11 xn12 xc13) ∧ (
 doSl xp11 xc13 1 (1) (((xn12 : Nat) : Int)) (fun p14 n15 c16 =>
 doSt (x1.add 0) (.slice p14 n15 c16) w (fun w17 =>
 ∃ (x18 : Option Addr), World.cell? w17 x2 = some (.pointer x18) ∧ (
 ∃ (xp19 : Option Addr), ∃ (xn20 : Nat), ∃ (xc21 : Nat), World.cell? w17 x1 = some (.slice xp19 xn20 xc21) ∧ (
 ∃ (q22 : Addr), x18 = some q22 ∧ (
 doSt ((q22.add 0).add 0) (.slice xp19 xn20 xc21) w17 (fun w23 =>
 R (.returned (.tuple #[.int .u64 x10, .bool true])) w23))))))))))))
set_option maxRecDepth 100000 in
theorem sh171_ok (x1 : Addr) (x2 : Addr) {R : Ending → World → Prop} {w : World} : sh171 x1 x2 R w → Calls Tryz.prog 171 #[.pointer (some x1), .pointer (some x2)] w R :=
  calls_of_eq (ann := fun _ => []) (fn := Tryz.f171) (c := bodyOf Tryz.f171) (args := #[.pointer (some x1), .pointer (some x2)]) 400 follows_mixed Tryz.func171 (by kernel_rfl) (by kernel_rfl)
set_option maxRecDepth 100000 in
/-- joinery/order.Name -/
def sh172 (o_1 : Int) (R : Ending → World → Prop) (w : World) : Prop :=
 let K4 : ByteArray → World → Prop := fun (x2 : ByteArray) (w3 : World) => 
 R (.returned (.string x2)) w3
 doCall Tryz.prog (.func (.func 235) #[] #[]) #[] w (retS (fun v6 w7 => ∃ (x5 : Option Nat), v6 = (.map x5 : Value) ∧ (
 doLk Tryz.prog 300 (.map x5) (.int .u8 o_1) false w7 (fun v15 => (∃ (x8 : ByteArray), ∃ (xf9 : Fn), ∃ (xx10 : Array Value), ∃ (xc11 : Array Value), ∃ (xf12 : Fn), ∃ (xx13 : Array Value), ∃ (xc14 : Array Value), v15 = (.agg #[.string x8, .func xf9 xx10 xc11, .func xf12 xx13 xc14] : Value) ∧ (
 K4 x8 w7)) ∨ (v15 = (.agg #[.string (⟨#[]⟩ : ByteArray), .nilFunc, .nilFunc] : Value) ∧ (
 K4 (⟨#[]⟩ : ByteArray) w7))))) (fun ch w => Kfn R ch [] w))
set_option maxRecDepth 100000 in
theorem sh172_ok (o_1 : Int) {R : Ending → World → Prop} {w : World} : sh172 o_1 R w → Calls Tryz.prog 172 #[.int .u8 o_1] w R :=
  calls_of_eq (ann := fun _ => []) (fn := Tryz.f172) (c := bodyOf Tryz.f172) (args := #[.int .u8 o_1]) 400 follows_mixed Tryz.func172 (by kernel_rfl) (by kernel_rfl)
set_option maxRecDepth 100000 in
/-- slices.Clone[[]joinery/api.Pair,joinery/api.Pair] -/
def sh173 (s_p1 : Option Addr) (s_n2 : Nat) (s_c3 : Nat) (R : Ending → World → Prop) (w : World) : Prop :=
 ifB ((s_p1 : Option Addr).isNone) (
 R (.returned (.slice none 0 0)) w) (
 doAl (.cells #[] 46) w (fun b4 w5 =>
 doGo Tryz.prog (.builtin .append #[22, 22] 22 #[false, false]) #[.slice (some (blk b4)) 0 0, .slice s_p1 s_n2 s_c3] w5 (retS (fun v9 w10 => ∃ (xp6 : Option Addr), ∃ (xn7 : Nat), ∃ (xc8 : Nat), v9 = (.slice xp6 xn7 xc8 : Value) ∧ (
 R (.returned (.slice xp6 xn7 xc8)) w10)) (fun ch w => Kfn R ch [] w))))
set_option maxRecDepth 100000 in
theorem sh173_ok (s_p1 : Option Addr) (s_n2 : Nat) (s_c3 : Nat) {R : Ending → World → Prop} {w : World} : sh173 s_p1 s_n2 s_c3 R w → Calls Tryz.prog 173 #[.slice s_p1 s_n2 s_c3] w R :=
  calls_of_eq (ann := fun _ => []) (fn := Tryz.f173) (c := bodyOf Tryz.f173) (args := #[.slice s_p1 s_n2 s_c3]) 400 follows_mixed Tryz.func173 (by kernel_rfl) (by kernel_rfl)
set_option maxRecDepth 100000 in
/-- slices.SortStableFunc[[]joinery/api.Pair,joinery/api.Pair] -/
def sh174 (x_p1 : Option Addr) (x_n2 : Nat) (x_c3 : Nat) (cmp_f4 : Fn) (cmp_x5 : Array Value) (cmp_c6 : Array Value) (R : Ending → World → Prop) (w : World) : Prop :=
 doCall Tryz.prog (.func (.func 236) #[] #[]) #[.slice x_p1 x_n2 x_c3, .int .i64 ((x_n2 : Nat) : Int), .func cmp_f4 cmp_x5 cmp_c6] w (retS (fun v7 w8 => v7 = (.tuple #[] : Value) ∧ (
 R (.returned (.tuple #[])) w8)) (fun ch w => Kfn R ch [] w))
set_option maxRecDepth 100000 in
theorem sh174_ok (x_p1 : Option Addr) (x_n2 : Nat) (x_c3 : Nat) (cmp_f4 : Fn) (cmp_x5 : Array Value) (cmp_c6 : Array Value) {R : Ending → World → Prop} {w : World} : sh174 x_p1 x_n2 x_c3 cmp_f4 cmp_x5 cmp_c6 R w → Calls Tryz.prog 174 #[.slice x_p1 x_n2 x_c3, .func cmp_f4 cmp_x5 cmp_c6] w R :=
  calls_of_eq (ann := fun _ => []) (fn := Tryz.f174) (c := bodyOf Tryz.f174) (args := #[.slice x_p1 x_n2 x_c3, .func cmp_f4 cmp_x5 cmp_c6]) 400 follows_mixed Tryz.func174 (by kernel_rfl) (by kernel_rfl)
set_option maxRecDepth 100000 in
/-- joinery/rowset.Sort$1 -/
def sh175 (a_1 : Int) (a_2 : Int) (b_3 : Int) (b_4 : Int) (x5 : Addr) (R : Ending → World → Prop) (w : World) : Prop :=
 doAl (.cells #[.int .i64 a_1, .int .i64 a_2] 46) w (fun b6 w7 =>
 doAl (.cells #[.int .i64 b_3, .int .i64 b_4] 46) w7 (fun b8 w9 =>
 ∃ (x10 : Int), World.cell? w9 x5 = some (.int .u8 x10) ∧ (
 ∃ (x11 : Int), World.cell? w9 ((blk b6).add 0) = some (.int .i64 x11) ∧ (
 ∃ (x12 : Int), World.cell? w9 ((blk b8).add 0) = some (.int .i64 x12) ∧ (
 doCall Tryz.prog (.func (.func 176) #[] #[]) #[.int .u8 x10, .int .i64 x11, .int .i64 x12] w9 (retS (fun v14 w15 => ∃ (x13 : Int), v14 = (.int .i64 x13 : Value) ∧ (
 R (.returned (.int .i64 x13)) w15)) (fun ch w => Kfn R ch [] w)))))))
set_option maxRecDepth 100000 in
theorem sh175_ok (a_1 : Int) (a_2 : Int) (b_3 : Int) (b_4 : Int) (x5 : Addr) {R : Ending → World → Prop} {w : World} : sh175 a_1 a_2 b_3 b_4 x5 R w → Calls Tryz.prog 175 #[.agg #[.int .i64 a_1, .int .i64 a_2], .agg #[.int .i64 b_3, .int .i64 b_4], .pointer (some x5)] w R :=
  calls_of_eq (ann := fun _ => []) (fn := Tryz.f175) (c := bodyOf Tryz.f175) (args := #[.agg #[.int .i64 a_1, .int .i64 a_2], .agg #[.int .i64 b_3, .int .i64 b_4], .pointer (some x5)]) 400 follows_mixed Tryz.func175 (by kernel_rfl) (by kernel_rfl)
set_option maxRecDepth 100000 in
/-- joinery/order.Compare -/
def sh176 (o_1 : Int) (a_2 : Int) (b_3 : Int) (R : Ending → World → Prop) (w : World) : Prop :=
 doCall Tryz.prog (.func (.func 215) #[] #[]) #[.int .u8 o_1, .int .i64 a_2] w (retS (fun v6 w7 => ∃ (x4 : Int), ∃ (x5 : Int), v6 = (.tuple #[.int .u64 x4, .int .i64 x5] : Value) ∧ (
 doCall Tryz.prog (.func (.func 215) #[] #[]) #[.int .u8 o_1, .int .i64 b_3] w7 (retS (fun v10 w11 => ∃ (x8 : Int), ∃ (x9 : Int), v10 = (.tuple #[.int .u64 x8, .int .i64 x9] : Value) ∧ (
 ifB ((x5 : Int) != 0) (
 R (.returned (.int .i64 0)) w11) (
 doCall Tryz.prog (.func (.func 217) #[] #[]) #[.int .u64 x4, .int .u64 x8] w11 (retS (fun v13 w14 => ∃ (x12 : Int), v13 = (.int .i64 x12 : Value) ∧ (
 R (.returned (.int .i64 x12)) w14)) (fun ch w => Kfn R ch [] w))))) (fun ch w => Kfn R ch [] w)))) (fun ch w => Kfn R ch [] w))
set_option maxRecDepth 100000 in
theorem sh176_ok (o_1 : Int) (a_2 : Int) (b_3 : Int) {R : Ending → World → Prop} {w : World} : sh176 o_1 a_2 b_3 R w → Calls Tryz.prog 176 #[.int .u8 o_1, .int .i64 a_2, .int .i64 b_3] w R :=
  calls_of_eq (ann := fun _ => []) (fn := Tryz.f176) (c := bodyOf Tryz.f176) (args := #[.int .u8 o_1, .int .i64 a_2, .int .i64 b_3]) 400 follows_mixed Tryz.func176 (by kernel_rfl) (by kernel_rfl)
set_option maxRecDepth 100000 in
/-- joinery/joineryref04.Put -/
def sh177 (o_1 : Int) (p_2 : Int) (l_p3 : Option Addr) (l_n4 : Nat) (l_c5 : Nat) (x_6 : Int) (x_7 : Int) (R : Ending → World → Prop) (w : World) : Prop :=
 doAl (.cells #[.int .i64 x_6, .int .i64 x_7] 46) w (fun b8 w9 =>
 let K12 : Bool → World → Prop := fun (x10 : Bool) (w11 : World) => 
 ifB x10 (
 R (.returned (.tuple #[.slice none 0 0, .int .i64 2])) w11) (
 ∃ (x13 : Int), World.cell? w11 ((blk b8).add 0) = some (.int .i64 x13) ∧ (
 doCall Tryz.prog (.func (.func 237) #[] #[]) #[.int .u8 o_1, .slice l_p3 l_n4 l_c5, .int .i64 x13] w11 (retS (fun v16 w17 => ∃ (x14 : Int), ∃ (x15 : Bool), v16 = (.tuple #[.int .i64 x14, .bool x15] : Value) ∧ (
 doSl l_p3 l_c5 2 (0) (x14) (fun p18 n19 c20 =>
 doGo Tryz.prog (.builtin .append #[22, 22] 22 #[true, false]) #[.slice none 0 0, .slice p18 n19 c20] w17 (retS (fun v24 w25 => ∃ (xp21 : Option Addr), ∃ (xn22 : Nat), ∃ (xc23 : Nat), v24 = (.slice xp21 xn22 xc23 : Value) ∧ (
 let K28 : Int → World → Prop := fun (i_26 : Int) (w27 : World) => 
 doDr w27 (fun w30 =>
 ∃ (C29 : World → Prop), C29 w30 ∧ (
 ∃ (x31 : Int), (∀ w, C29 w → World.cell? w ((blk b8).add 0) = some (.int .i64 x31)) ∧ (
 ∃ (x32 : Int), (∀ w, C29 w → World.cell? w ((blk b8).add 1) = some (.int .i64 x32)) ∧ (
 doSl l_p3 l_c5 2 (i_26) (((l_n4 : Nat) : Int)) (fun p33 n34 c35 =>
 doAl (.cells #[.int .i64 x31, .int .i64 x32] 46) w30 (fun b36 w37 =>
 doGo Tryz.prog (.builtin .append #[22, 22] 22 #[false, false]) #[.slice xp21 xn22 xc23, .slice (some (blk b36)) 1 1] w37 (retS (fun v41 w42 => ∃ (xp38 : Option Addr), ∃ (xn39 : Nat), ∃ (xc40 : Nat), v41 = (.slice xp38 xn39 xc40 : Value) ∧ (
 C29 w42 ∧ (
 doGo Tryz.prog (.builtin .append #[22, 22] 22 #[false, false]) #[.slice xp38 xn39 xc40, .slice p33 n34 c35] w42 (retS (fun v46 w47 => ∃ (xp43 : Option Addr), ∃ (xn44 : Nat), ∃ (xc45 : Nat), v46 = (.slice xp43 xn44 xc45 : Value) ∧ (
 C29 w47 ∧ (
 R (.returned (.tuple #[.slice xp43 xn44 xc45, .int .i64 0])) w47))) (fun ch w => Kfn R ch [] w))))) (fun ch w => Kfn R ch [] w))))))))
 ifB x15 (
 doDr w25 (fun w49 =>
 ∃ (C48 : World → Prop), C48 w49 ∧ (
 doIx l_p3 l_n4 2 (x14) (fun a50 =>
 ∃ (x51 : Int), (∀ w, C48 w → World.cell? w (a50.add 1) = some (.int .i64 x51)) ∧ (
 ∃ (x52 : Int), (∀ w, C48 w → World.cell? w ((blk b8).add 1) = some (.int .i64 x52)) ∧ (
 doCall Tryz.prog (.func (.func 238) #[] #[]) #[.int .u8 p_2, .int .i64 x51, .int .i64 x52] w49 (retS (fun v54 w55 => ∃ (x53 : Int), v54 = (.int .i64 x53 : Value) ∧ (
 doSt (((blk b8).add 1).add 0) (.int .i64 x53) w55 (fun w56 =>
 K28 (IntKind.wrap .i64 (x14 + 1)) w56))) (fun ch w => Kfn R ch [] w)))))))) (
 K28 x14 w25))) (fun ch w => Kfn R ch [] w))))) (fun ch w => Kfn R ch [] w))))
 doCall Tryz.prog (.func (.func 30) #[] #[]) #[.int .u8 o_1, .slice l_p3 l_n4 l_c5] w9 (retS (fun v58 w59 => ∃ (x57 : Bool), v58 = (.bool x57 : Value) ∧ (
 ifB (!x57) (
 R (.returned (.tuple #[.slice none 0 0, .int .i64 2])) w59) (
 doCall Tryz.prog (.func (.func 17) #[] #[]) #[.int .u8 p_2] w59 (retS (fun v61 w62 => ∃ (x60 : Bool), v61 = (.bool x60 : Value) ∧ (
 K12 (!x60) w62)) (fun ch w => Kfn R ch [] w))))) (fun ch w => Kfn R ch [] w)))
set_option maxRecDepth 100000 in
theorem sh177_ok (o_1 : Int) (p_2 : Int) (l_p3 : Option Addr) (l_n4 : Nat) (l_c5 : Nat) (x_6 : Int) (x_7 : Int) {R : Ending → World → Prop} {w : World} : sh177 o_1 p_2 l_p3 l_n4 l_c5 x_6 x_7 R w → Calls Tryz.prog 177 #[.int .u8 o_1, .int .u8 p_2, .slice l_p3 l_n4 l_c5, .agg #[.int .i64 x_6, .int .i64 x_7]] w R :=
  calls_of_eq (ann := fun _ => []) (fn := Tryz.f177) (c := bodyOf Tryz.f177) (args := #[.int .u8 o_1, .int .u8 p_2, .slice l_p3 l_n4 l_c5, .agg #[.int .i64 x_6, .int .i64 x_7]]) 400 follows_mixed Tryz.func177 (by kernel_rfl) (by kernel_rfl)
end Go.Proofs.YtlddfgfmkapoiaaGreat

namespace Go.Proofs.YtlddfgfmkapoiaaGreat
open Go Go.Sh
set_option maxRecDepth 100000 in
/-- joinery/row.two -/
def sh182 (l_p1 : Option Addr) (l_n2 : Nat) (l_c3 : Nat) (R : Ending → World → Prop) (w : World) : Prop :=
 doAl (.cells #[.slice l_p1 l_n2 l_c3] 22) w (fun b4 w5 =>
 R (.returned (.func (.func 242) #[] #[.pointer (some (blk b4))])) w5)
set_option maxRecDepth 100000 in
theorem sh182_ok (l_p1 : Option Addr) (l_n2 : Nat) (l_c3 : Nat) {R : Ending → World → Prop} {w : World} : sh182 l_p1 l_n2 l_c3 R w → Calls Tryz.prog 182 #[.slice l_p1 l_n2 l_c3] w R :=
  calls_of_eq (ann := fun _ => []) (fn := Tryz.f182) (c := bodyOf Tryz.f182) (args := #[.slice l_p1 l_n2 l_c3]) 400 follows_mixed Tryz.func182 (by kernel_rfl) (by kernel_rfl)
set_option maxRecDepth 100000 in
/-- joinery/build.tagged$1 -/
def sh183 (yield_f1 : Fn) (yield_x2 : Array Value) (yield_c3 : Array Value) (x4 : Addr) (x5 : Addr) (x6 : Addr) (R : Ending → World → Prop) (w : World) : Prop :=
 ∃ (xp7 : Option Addr), ∃ (xn8 : Nat), ∃ (xc9 : Nat), World.cell? w x4 = some (.slice xp7 xn8 xc9) ∧ (
 ∃ (I10 : List Value → World → Prop) (μ11 : List Value → World → Nat), I10 [.int .i64 0] w ∧ (∀ (x14 : Int), ∀ (_j12 : Nat → Value) (w13 : World), I10 [.int .i64 x14] w13 → (
 ifB (decide ((x14 : Int) < ((xn8 : Nat) : Int))) (
 doIx xp7 xn8 2 (x14) (fun a15 =>
 ∃ (x16 : Int), World.cell? w13 (a15.add 0) = some (.int .i64 x16) ∧ (
 ∃ (x17 : Int), World.cell? w13 (a15.add 1) = some (.int .i64 x17) ∧ (
 doAl (.cells #[.int .i64 0, .int .i64 0] 46) w13 (fun b18 w19 =>
 doSt ((blk b18).add 0) (.int .i64 x16) w19 (fun w20 =>
 doSt ((blk b18).add 1) (.int .i64 x17) w20 (fun w21 =>
 ∃ (x22 : Int), World.cell? w21 ((blk b18).add 0) = some (.int .i64 x22) ∧ (
 ∃ (x23 : Int), World.cell? w21 ((blk b18).add 1) = some (.int .i64 x23) ∧ (
 doAl (.cells #[.int .i64 0, .int .i64 0, .int .u64 0] 114) w21 (fun b24 w25 =>
 doSt ((blk b24).add 0) (.int .i64 x22) w25 (fun w26 =>
 doSt ((blk b24).add 1) (.int .i64 x23) w26 (fun w27 =>
 doSt ((blk b24).add 2) (.int .u64 0) w27 (fun w28 =>
 let K30 : World → Prop := fun (w29 : World) => 
 ∃ (x31 : Int), World.cell? w29 ((blk b24).add 0) = some (.int .i64 x31) ∧ (
 ∃ (x32 : Int), World.cell? w29 ((blk b24).add 1) = some (.int .i64 x32) ∧ (
 ∃ (x33 : Int), World.cell? w29 ((blk b24).add 2) = some (.int .u64 x33) ∧ (
 doCall Tryz.prog (.func yield_f1 yield_x2 yield_c3) #[.agg #[.int .i64 x31, .int .i64 x32, .int .u64 x33]] w29 (retS (fun v35 w36 => ∃ (x34 : Bool), v35 = (.bool x34 : Value) ∧ (
 ifB (!x34) (
 R (.returned (.tuple #[])) w36) (
 I10 [.int .i64 (IntKind.wrap .i64 (x14 + 1))] w36 ∧ μ11 [.int .i64 (IntKind.wrap .i64 (x14 + 1))] w36 < μ11 [.int .i64 x14] w13))) (fun ch w => Kfn R ch [] w)))))
 ∃ (x37 : Option Addr), World.cell? w28 x5 = some (.pointer x37) ∧ (
 doCall Tryz.prog (.func (.func 184) #[] #[]) #[.pointer x37] w28 (retS (fun v39 w40 => ∃ (x38 : Int), v39 = (.int .u8 x38 : Value) ∧ (
 ifB ((x38 : Int) == 4) (
 ∃ (x41 : Option Addr), World.cell? w40 x6 = some (.pointer x41) ∧ (
 ∃ (x42 : Int), World.cell? w40 ((blk b18).add 0) = some (.int .i64 x42) ∧ (
 doCall Tryz.prog (.func (.func 185) #[] #[]) #[.pointer x41, .int .i64 x42] w40 (retS (fun v44 w45 => ∃ (x43 : Int), v44 = (.int .u64 x43 : Value) ∧ (
 doSt (((blk b24).add 2).add 0) (.int .u64 x43) w45 (fun w46 =>
 K30 w46))) (fun ch w => Kfn R ch [] w))))) (
 K30 w40))) (fun ch w => Kfn R ch [] w)))))))))))))))) (
 R (.returned (.tuple #[])) w13))))
set_option maxRecDepth 100000 in
theorem sh183_ok (yield_f1 : Fn) (yield_x2 : Array Value) (yield_c3 : Array Value) (x4 : Addr) (x5 : Addr) (x6 : Addr) {R : Ending → World → Prop} {w : World} : sh183 yield_f1 yield_x2 yield_c3 x4 x5 x6 R w → Calls Tryz.prog 183 #[.func yield_f1 yield_x2 yield_c3, .pointer (some x4), .pointer (some x5), .pointer (some x6)] w R :=
  calls_of_eq (ann := fun i => if i = 0 then [(10, .int .i64 0)] else []) (fn := Tryz.f183) (c := bodyOf Tryz.f183) (args := #[.func yield_f1 yield_x2 yield_c3, .pointer (some x4), .pointer (some x5), .pointer (some x6)]) 400 follows_mixed Tryz.func183 (by kernel_rfl) (by kernel_rfl)
set_option maxRecDepth 100000 in
/-- (*joinery/scheme.Scheme).Code -/
def sh184 (s_1 : Option Addr) (R : Ending → World → Prop) (w : World) : Prop :=
 ifB ((s_1).isNone) (
 R (.returned (.int .u8 0)) w) (
 ∃ (q2 : Addr), s_1 = some q2 ∧ (
 ∃ (x3 : Int), World.cell? w (q2.add 0) = some (.int .u8 x3) ∧ (
 R (.returned (.int .u8 x3)) w)))
set_option maxRecDepth 100000 in
theorem sh184_ok (s_1 : Option Addr) {R : Ending → World → Prop} {w : World} : sh184 s_1 R w → Calls Tryz.prog 184 #[.pointer s_1] w R :=
  calls_of_eq (ann := fun _ => []) (fn := Tryz.f184) (c := bodyOf Tryz.f184) (args := #[.pointer s_1]) 400 follows_mixed Tryz.func184 (by kernel_rfl) (by kernel_rfl)
set_option maxRecDepth 100000 in
/-- (*joinery/draw.Draws).Next -/
def sh185 (d_1 : Option Addr) (key_2 : Int) (R : Ending → World → Prop) (w : World) : Prop :=
 let K4 : World → Prop := fun (w3 : World) => 
 doCall Tryz.prog (.func (.func 83) #[] #[]) #[.int .i64 key_2] w3 (retS (fun v6 w7 => ∃ (x5 : Int), v6 = (.int .u64 x5 : Value) ∧ (
 R (.returned (.int .u64 x5)) w7)) (fun ch w => Kfn R ch [] w))
 ifB (!(d_1).isNone) (
 ∃ (q8 : Addr), d_1 = some q8 ∧ (
 ∃ (xf9 : Fn), ∃ (xx10 : Array Value), ∃ (xc11 : Array Value), World.cell? w (q8.add 1) = some (.func xf9 xx10 xc11) ∧ (
 doCall Tryz.prog (.func xf9 xx10 xc11) #[] w (retS (fun v14 w15 => ∃ (x12 : Int), ∃ (x13 : Bool), v14 = (.tuple #[.int .u64 x12, .bool x13] : Value) ∧ (
 ifB x13 (
 R (.returned (.int .u64 x12)) w15) (
 K4 w15))) (fun ch w => Kfn R ch [] w))))) (
 K4 w)
set_option maxRecDepth 100000 in
theorem sh185_ok (d_1 : Option Addr) (key_2 : Int) {R : Ending → World → Prop} {w : World} : sh185 d_1 key_2 R w → Calls Tryz.prog 185 #[.pointer d_1, .int .i64 key_2] w R :=
  calls_of_eq (ann := fun _ => []) (fn := Tryz.f185) (c := bodyOf Tryz.f185) (args := #[.pointer d_1, .int .i64 key_2]) 400 follows_mixed Tryz.func185 (by kernel_rfl) (by kernel_rfl)
set_option maxRecDepth 100000 in
/-- joinery/joineryref01.Of -/
def sh186 (key_1 : Int) (R : Ending → World → Prop) (w : World) : Prop :=
 doCall Tryz.prog (.func (.func 131) #[] #[]) #[.int .u64 (IntKind.wrap .u64 ((IntKind.wrap .u64 key_1) + 11400714819323198485))] w (retS (fun v3 w4 => ∃ (x2 : Int), v3 = (.int .u64 x2 : Value) ∧ (
 R (.returned (.int .u64 x2)) w4)) (fun ch w => Kfn R ch [] w))
set_option maxRecDepth 100000 in
theorem sh186_ok (key_1 : Int) {R : Ending → World → Prop} {w : World} : sh186 key_1 R w → Calls Tryz.prog 186 #[.int .i64 key_1] w R :=
  calls_of_eq (ann := fun _ => []) (fn := Tryz.f186) (c := bodyOf Tryz.f186) (args := #[.int .i64 key_1]) 400 follows_mixed Tryz.func186 (by kernel_rfl) (by kernel_rfl)
set_option maxRecDepth 100000 in
/-- (*sync/atomic.Uint64).Add -/
def sh187 (x_1 : Option Addr) (delta_2 : Int) (R : Ending → World → Prop) (w : World) : Prop :=
 ∃ (q3 : Addr), x_1 = some q3 ∧ (
 doCall Tryz.prog (.func (.func 243) #[] #[]) #[.pointer (some (q3.add 0)), .int .u64 delta_2] w (retS (fun v5 w6 => ∃ (x4 : Int), v5 = (.int .u64 x4 : Value) ∧ (
 R (.returned (.int .u64 x4)) w6)) (fun ch w => Kfn R ch [] w)))
set_option maxRecDepth 100000 in
theorem sh187_ok (x_1 : Option Addr) (delta_2 : Int) {R : Ending → World → Prop} {w : World} : sh187 x_1 delta_2 R w → Calls Tryz.prog 187 #[.pointer x_1, .int .u64 delta_2] w R :=
  calls_of_eq (ann := fun _ => []) (fn := Tryz.f187) (c := bodyOf Tryz.f187) (args := #[.pointer x_1, .int .u64 delta_2]) 400 follows_mixed Tryz.func187 (by kernel_rfl) (by kernel_rfl)
set_option maxRecDepth 100000 in
/-- (*joinery/scheme.Scheme).face -/
def sh188 (s_1 : Option Addr) (R : Ending → World → Prop) (w : World) : Prop :=
 doAl (.cells #[.pointer s_1] 25) w (fun b2 w3 =>
 doAl (.cells #[.string (⟨#[]⟩ : ByteArray), .nilFunc, .nilFunc, .nilFunc, .nilFunc, .nilFunc, .nilFunc, .bool false] 226) w3 (fun b4 w5 =>
 ∃ (x6 : Option Addr), World.cell? w5 (blk b2) = some (.pointer x6) ∧ (
 ∃ (q7 : Addr), x6 = some q7 ∧ (
 doCall Tryz.prog (.func (.func 244) #[] #[]) #[.pointer (some (q7.add 1)), .func (.func 245) #[] #[.pointer (some (blk b2))]] w5 (retS (fun v8 w9 => v8 = (.tuple #[] : Value) ∧ (
 ∃ (x10 : Option Addr), World.cell? w9 (blk b2) = some (.pointer x10) ∧ (
 ∃ (q11 : Addr), x10 = some q11 ∧ (
 ∃ (x12 : ByteArray), World.cell? w9 ((q11.add 4).add 0) = some (.string x12) ∧ (
 ∃ (xf13 : Fn), ∃ (xx14 : Array Value), ∃ (xc15 : Array Value), World.cell? w9 ((q11.add 4).add 1) = some (.func xf13 xx14 xc15) ∧ (
 ∃ (xf16 : Fn), ∃ (xx17 : Array Value), ∃ (xc18 : Array Value), World.cell? w9 ((q11.add 4).add 2) = some (.func xf16 xx17 xc18) ∧ (
 ∃ (xf19 : Fn), ∃ (xx20 : Array Value), ∃ (xc21 : Array Value), World.cell? w9 ((q11.add 4).add 3) = some (.func xf19 xx20 xc21) ∧ (
 ∃ (xf22 : Fn), ∃ (xx23 : Array Value), ∃ (xc24 : Array Value), World.cell? w9 ((q11.add 4).add 4) = some (.func xf22 xx23 xc24) ∧ (
 ∃ (xf25 : Fn), ∃ (xx26 : Array Value), ∃ (xc27 : Array Value), World.cell? w9 ((q11.add 4).add 5) = some (.func xf25 xx26 xc27) ∧ (
 ∃ (xf28 : Fn), ∃ (xx29 : Array Value), ∃ (xc30 : Array Value), World.cell? w9 ((q11.add 4).add 6) = some (.func xf28 xx29 xc30) ∧ (
 ∃ (x31 : Bool), World.cell? w9 ((q11.add 4).add 7) = some (.bool x31) ∧ (
 doSt ((blk b4).add 0) (.string x12) w9 (fun w32 =>
 doSt ((blk b4).add 1) (.func xf13 xx14 xc15) w32 (fun w33 =>
 doSt ((blk b4).add 2) (.func xf16 xx17 xc18) w33 (fun w34 =>
 doSt ((blk b4).add 3) (.func xf19 xx20 xc21) w34 (fun w35 =>
 doSt ((blk b4).add 4) (.func xf22 xx23 xc24) w35 (fun w36 =>
 doSt ((blk b4).add 5) (.func xf25 xx26 xc27) w36 (fun w37 =>
 doSt ((blk b4).add 6) (.func xf28 xx29 xc30) w37 (fun w38 =>
 doSt ((blk b4).add 7) (.bool x31) w38 (fun w39 =>
 ∃ (x40 : ByteArray), World.cell? w39 ((blk b4).add 0) = some (.string x40) ∧ (
 ∃ (xf41 : Fn), ∃ (xx42 : Array Value), ∃ (xc43 : Array Value), World.cell? w39 ((blk b4).add 1) = some (.func xf41 xx42 xc43) ∧ (
 ∃ (xf44 : Fn), ∃ (xx45 : Array Value), ∃ (xc46 : Array Value), World.cell? w39 ((blk b4).add 2) = some (.func xf44 xx45 xc46) ∧ (
 ∃ (xf47 : Fn), ∃ (xx48 : Array Value), ∃ (xc49 : Array Value), World.cell? w39 ((blk b4).add 3) = some (.func xf47 xx48 xc49) ∧ (
 ∃ (xf50 : Fn), ∃ (xx51 : Array Value), ∃ (xc52 : Array Value), World.cell? w39 ((blk b4).add 4) = some (.func xf50 xx51 xc52) ∧ (
 ∃ (xf53 : Fn), ∃ (xx54 : Array Value), ∃ (xc55 : Array Value), World.cell? w39 ((blk b4).add 5) = some (.func xf53 xx54 xc55) ∧ (
 ∃ (xf56 : Fn), ∃ (xx57 : Array Value), ∃ (xc58 : Array Value), World.cell? w39 ((blk b4).add 6) = some (.func xf56 xx57 xc58) ∧ (
 ∃ (x59 : Bool), World.cell? w39 ((blk b4).add 7) = some (.bool x59) ∧ (
 R (.returned (.agg #[.string x40, .func xf41 xx42 xc43, .func xf44 xx45 xc46, .func xf47 xx48 xc49, .func xf50 xx51 xc52, .func xf53 xx54 xc55, .func xf56 xx57 xc58, .bool x59])) w39)))))))))))))))))))))))))))) (fun ch w => Kfn R ch [] w))))))
set_option maxRecDepth 100000 in
theorem sh188_ok (s_1 : Option Addr) {R : Ending → World → Prop} {w : World} : sh188 s_1 R w → Calls Tryz.prog 188 #[.pointer s_1] w R :=
  calls_of_eq (ann := fun _ => []) (fn := Tryz.f188) (c := bodyOf Tryz.f188) (args := #[.pointer s_1]) 400 follows_mixed Tryz.func188 (by kernel_rfl) (by kernel_rfl)
set_option maxRecDepth 100000 in
/-- joinery/joineryref09.ends -/
def sh189 (l_p1 : Option Addr) (l_n2 : Nat) (l_c3 : Nat) (at_4 : Int) (deep_5 : Int) (R : Ending → World → Prop) (w : World) : Prop :=
 let K8 : Bool → World → Prop := fun (x6 : Bool) (w7 : World) => 
 ifB x6 (
 R (.returned (.int .i64 (-1))) w7) (
 let K11 : Int → World → Prop := fun (n_9 : Int) (w10 : World) => 
 let K14 : Int → World → Prop := fun (n_12 : Int) (w13 : World) => 
 R (.returned (.int .i64 n_12)) w13
 doIx l_p1 l_n2 7 (at_4) (fun a15 =>
 ∃ (x16 : Bool), World.cell? w10 (a15.add 6) = some (.bool x16) ∧ (
 ifB x16 (
 doCall Tryz.prog (.func (.func 189) #[] #[]) #[.slice l_p1 l_n2 l_c3, .int .i64 (IntKind.wrap .i64 (at_4 + n_9)), .int .i64 (IntKind.wrap .i64 (deep_5 + 1))] w10 (retS (fun v18 w19 => ∃ (x17 : Int), v18 = (.int .i64 x17 : Value) ∧ (
 ifB (decide ((x17 : Int) < 0)) (
 R (.returned (.int .i64 (-1))) w19) (
 K14 (IntKind.wrap .i64 (n_9 + x17)) w19))) (fun ch w => Kfn R ch [] w))) (
 K14 n_9 w10)))
 doIx l_p1 l_n2 7 (at_4) (fun a20 =>
 ∃ (x21 : Bool), World.cell? w7 (a20.add 5) = some (.bool x21) ∧ (
 ifB x21 (
 doCall Tryz.prog (.func (.func 189) #[] #[]) #[.slice l_p1 l_n2 l_c3, .int .i64 (IntKind.wrap .i64 (at_4 + 1)), .int .i64 (IntKind.wrap .i64 (deep_5 + 1))] w7 (retS (fun v23 w24 => ∃ (x22 : Int), v23 = (.int .i64 x22 : Value) ∧ (
 ifB (decide ((x22 : Int) < 0)) (
 R (.returned (.int .i64 (-1))) w24) (
 K11 (IntKind.wrap .i64 (1 + x22)) w24))) (fun ch w => Kfn R ch [] w))) (
 K11 1 w7))))
 ifB (decide ((at_4 : Int) ≥ ((l_n2 : Nat) : Int))) (
 R (.returned (.int .i64 (-1))) w) (
 K8 (decide ((deep_5 : Int) > 5000)) w)
set_option maxRecDepth 100000 in
theorem sh189_ok (l_p1 : Option Addr) (l_n2 : Nat) (l_c3 : Nat) (at_4 : Int) (deep_5 : Int) {R : Ending → World → Prop} {w : World} : sh189 l_p1 l_n2 l_c3 at_4 deep_5 R w → Calls Tryz.prog 189 #[.slice l_p1 l_n2 l_c3, .int .i64 at_4, .int .i64 deep_5] w R :=
  calls_of_eq (ann := fun _ => []) (fn := Tryz.f189) (c := bodyOf Tryz.f189) (args := #[.slice l_p1 l_n2 l_c3, .int .i64 at_4, .int .i64 deep_5]) 400 follows_mixed Tryz.func189 (by kernel_rfl) (by kernel_rfl)
set_option maxRecDepth 100000 in
/-- joinery/joineryref20.item -/
def sh190 (x_1 : Int) (x_2 : Int) (x_3 : Int) (x_4 : Int) (x_5 : Int) (x_6 : Bool) (x_7 : Bool) (R : Ending → World → Prop) (w : World) : Prop :=
 doAl (.cells #[.int .i64 x_1, .int .i64 x_2, .int .i64 x_3, .int .i64 x_4, .int .u64 x_5, .bool x_6, .bool x_7] 150) w (fun b8 w9 =>
 doAl (.cells #[.int .i64 0, .int .i64 0, .int .u64 0] 114) w9 (fun b10 w11 =>
 ∃ (x12 : Int), World.cell? w11 ((blk b8).add 0) = some (.int .i64 x12) ∧ (
 ∃ (x13 : Int), World.cell? w11 ((blk b8).add 1) = some (.int .i64 x13) ∧ (
 ∃ (x14 : Int), World.cell? w11 ((blk b8).add 4) = some (.int .u64 x14) ∧ (
 doSt ((blk b10).add 0) (.int .i64 x12) w11 (fun w15 =>
 doSt ((blk b10).add 1) (.int .i64 x13) w15 (fun w16 =>
 doSt ((blk b10).add 2) (.int .u64 x14) w16 (fun w17 =>
 ∃ (x18 : Int), World.cell? w17 ((blk b10).add 0) = some (.int .i64 x18) ∧ (
 ∃ (x19 : Int), World.cell? w17 ((blk b10).add 1) = some (.int .i64 x19) ∧ (
 ∃ (x20 : Int), World.cell? w17 ((blk b10).add 2) = some (.int .u64 x20) ∧ (
 R (.returned (.agg #[.int .i64 x18, .int .i64 x19, .int .u64 x20])) w17)))))))))))
set_option maxRecDepth 100000 in
theorem sh190_ok (x_1 : Int) (x_2 : Int) (x_3 : Int) (x_4 : Int) (x_5 : Int) (x_6 : Bool) (x_7 : Bool) {R : Ending → World → Prop} {w : World} : sh190 x_1 x_2 x_3 x_4 x_5 x_6 x_7 R w → Calls Tryz.prog 190 #[.agg #[.int .i64 x_1, .int .i64 x_2, .int .i64 x_3, .int .i64 x_4, .int .u64 x_5, .bool x_6, .bool x_7]] w R :=
  calls_of_eq (ann := fun _ => []) (fn := Tryz.f190) (c := bodyOf Tryz.f190) (args := #[.agg #[.int .i64 x_1, .int .i64 x_2, .int .i64 x_3, .int .i64 x_4, .int .u64 x_5, .bool x_6, .bool x_7]]) 400 follows_mixed Tryz.func190 (by kernel_rfl) (by kernel_rfl)
set_option maxRecDepth 100000 in
/-- joinery/joineryref20.Above -/
def sh192 (a_1 : Int) (a_2 : Int) (a_3 : Int) (b_4 : Int) (b_5 : Int) (b_6 : Int) (R : Ending → World → Prop) (w : World) : Prop :=
 doAl (.cells #[.int .i64 a_1, .int .i64 a_2, .int .u64 a_3] 114) w (fun b7 w8 =>
 doAl (.cells #[.int .i64 b_4, .int .i64 b_5, .int .u64 b_6] 114) w8 (fun b9 w10 =>
 let K13 : Bool → World → Prop := fun (x11 : Bool) (w12 : World) => 
 R (.returned (.bool x11)) w12
 ∃ (x14 : Int), World.cell? w10 ((blk b7).add 2) = some (.int .u64 x14) ∧ (
 ∃ (x15 : Int), World.cell? w10 ((blk b9).add 2) = some (.int .u64 x15) ∧ (
 ifB (decide ((x14 : Int) > x15)) (
 R (.returned (.bool true)) w10) (
 ∃ (x16 : Int), World.cell? w10 ((blk b7).add 2) = some (.int .u64 x16) ∧ (
 ∃ (x17 : Int), World.cell? w10 ((blk b9).add 2) = some (.int .u64 x17) ∧ (
 ifB ((x16 : Int) == x17) (
 ∃ (x18 : Int), World.cell? w10 ((blk b7).add 0) = some (.int .i64 x18) ∧ (
 ∃ (x19 : Int), World.cell? w10 ((blk b9).add 0) = some (.int .i64 x19) ∧ (
 K13 (decide ((x18 : Int) > x19)) w10))) (
 R (.returned (.bool false)) w10))))))))
set_option maxRecDepth 100000 in
theorem sh192_ok (a_1 : Int) (a_2 : Int) (a_3 : Int) (b_4 : Int) (b_5 : Int) (b_6 : Int) {R : Ending → World → Prop} {w : World} : sh192 a_1 a_2 a_3 b_4 b_5 b_6 R w → Calls Tryz.prog 192 #[.agg #[.int .i64 a_1, .int .i64 a_2, .int .u64 a_3], .agg #[.int .i64 b_4, .int .i64 b_5, .int .u64 b_6]] w R :=
  calls_of_eq (ann := fun _ => []) (fn := Tryz.f192) (c := bodyOf Tryz.f192) (args := #[.agg #[.int .i64 a_1, .int .i64 a_2, .int .u64 a_3], .agg #[.int .i64 b_4, .int .i64 b_5, .int .u64 b_6]]) 400 follows_mixed Tryz.func192 (by kernel_rfl) (by kernel_rfl)
set_option maxRecDepth 100000 in
/-- joinery/sound.beads -/
def sh194 (o_1 : Int) (t_2 : Option Addr) (R : Ending → World → Prop) (w : World) : Prop :=
 doAl (.cells #[.int .u8 o_1] 5) w (fun b3 w4 =>
 doAl (.cells #[.pointer t_2] 35) w4 (fun b5 w6 =>
 R (.returned (.func (.func 247) #[] #[.pointer (some (blk b3)), .pointer (some (blk b5))])) w6))
set_option maxRecDepth 100000 in
theorem sh194_ok (o_1 : Int) (t_2 : Option Addr) {R : Ending → World → Prop} {w : World} : sh194 o_1 t_2 R w → Calls Tryz.prog 194 #[.int .u8 o_1, .pointer t_2] w R :=
  calls_of_eq (ann := fun _ => []) (fn := Tryz.f194) (c := bodyOf Tryz.f194) (args := #[.int .u8 o_1, .pointer t_2]) 400 follows_mixed Tryz.func194 (by kernel_rfl) (by kernel_rfl)
set_option maxRecDepth 100000 in
/-- joinery/treap.Check -/
def sh195 (t_1 : Option Addr) (R : Ending → World → Prop) (w : World) : Prop :=
 doAl (.cells #[.int .i64 0] 3) w (fun b2 w3 =>
 doAl (.cells #[.nilFunc] 161) w3 (fun b4 w5 =>
 doSt ((blk b4).add 0) (.func (.func 252) #[] #[.pointer (some (blk b2)), .pointer (some (blk b4))]) w5 (fun w6 =>
 ∃ (xf7 : Fn), ∃ (xx8 : Array Value), ∃ (xc9 : Array Value), World.cell? w6 (blk b4) = some (.func xf7 xx8 xc9) ∧ (
 doCall Tryz.prog (.func xf7 xx8 xc9) #[.pointer t_1] w6 (retS (fun v11 w12 => ∃ (x10 : Bool), v11 = (.bool x10 : Value) ∧ (
 ifB (!x10) (
 ∃ (x13 : Int), World.cell? w12 (blk b2) = some (.int .i64 x13) ∧ (
 doSt ((blk b2).add 0) (.int .i64 x13) w12 (fun w14 =>
 ∃ (x15 : Int), World.cell? w14 (blk b2) = some (.int .i64 x15) ∧ (
 R (.returned (.tuple #[.int .i64 x15, .int .i64 8])) w14)))) (
 ∃ (x16 : Int), World.cell? w12 (blk b2) = some (.int .i64 x16) ∧ (
 doSt ((blk b2).add 0) (.int .i64 x16) w12 (fun w17 =>
 ∃ (x18 : Int), World.cell? w17 (blk b2) = some (.int .i64 x18) ∧ (
 R (.returned (.tuple #[.int .i64 x18, .int .i64 0])) w17)))))) (fun ch w => Kfn R ch [] w))))))
set_option maxRecDepth 100000 in
theorem sh195_ok (t_1 : Option Addr) {R : Ending → World → Prop} {w : World} : sh195 t_1 R w → Calls Tryz.prog 195 #[.pointer t_1] w R :=
  calls_of_eq (ann := fun _ => []) (fn := Tryz.f195) (c := bodyOf Tryz.f195) (args := #[.pointer t_1]) 400 follows_mixed Tryz.func195 (by kernel_rfl) (by kernel_rfl)
end Go.Proofs.YtlddfgfmkapoiaaGreat

