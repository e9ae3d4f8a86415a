/-
  Printed by a program (gen.py): what the functions of the program do, as formulas; each with the proof that its call is what the formula says.
-/
/-
  Printed by a program (gen.py): what the functions of the program do, as formulas; each with the proof that its call is what the formula says.
-/
import Derived.Test.YtlddfgfmkapoiaaGreatZ02
import Derived.Test.YtlddfgfmkapoiaaGreatProg
import Derived.Test.YtlddfgfmkapoiaaGreatZ03

namespace Go.Proofs.YtlddfgfmkapoiaaGreat
open Go Go.Sh
set_option maxRecDepth 100000 in
/-- (*joinery/node.Node).Tag -/
def sh196 (n_1 : Option Addr) (R : Ending → World → Prop) (w : World) : Prop :=
 doCall Tryz.prog (.func (.func 166) #[] #[]) #[.pointer n_1] w (retS (fun v7 w8 => ∃ (x2 : Int), ∃ (x3 : Int), ∃ (x4 : Int), ∃ (x5 : Int), ∃ (x6 : Int), v7 = (.agg #[.int .i64 x2, .int .i64 x3, .int .i64 x4, .int .u64 x5, .int .i64 x6] : Value) ∧ (
 R (.returned (.int .u64 x5)) w8)) (fun ch w => Kfn R ch [] w))
set_option maxRecDepth 100000 in
theorem sh196_ok (n_1 : Option Addr) {R : Ending → World → Prop} {w : World} : sh196 n_1 R w → Calls Tryz.prog 196 #[.pointer n_1] w R :=
  calls_of_eq (ann := fun _ => []) (fn := Tryz.f196) (c := bodyOf Tryz.f196) (args := #[.pointer n_1]) 400 follows_mixed Tryz.func196 (by kernel_rfl) (by kernel_rfl)
set_option maxRecDepth 100000 in
/-- joinery/mix.steps -/
def sh197 (back_1 : Bool) (R : Ending → World → Prop) (w : World) : Prop :=
 doAl (.cells #[.bool back_1] 4) w (fun b2 w3 =>
 doCall Tryz.prog (.func (.func 254) #[] #[]) #[] w3 (retS (fun v10 w11 => ∃ (x4 : Int), ∃ (x5 : Int), ∃ (x6 : Int), ∃ (x7 : Int), ∃ (x8 : Int), ∃ (x9 : Int), v10 = (.agg #[.int .i64 x4, .int .u64 x5, .int .i64 x6, .int .u64 x7, .int .i64 x8, .int .u64 x9] : Value) ∧ (
 doAl (.cells #[.int .i64 0, .int .u64 0, .int .i64 0, .int .u64 0, .int .i64 0, .int .u64 0] 320) w11 (fun b12 w13 =>
 doSt ((blk b12).add 0) (.int .i64 x4) w13 (fun w14 =>
 doSt ((blk b12).add 1) (.int .u64 x5) w14 (fun w15 =>
 doSt ((blk b12).add 2) (.int .i64 x6) w15 (fun w16 =>
 doSt ((blk b12).add 3) (.int .u64 x7) w16 (fun w17 =>
 doSt ((blk b12).add 4) (.int .i64 x8) w17 (fun w18 =>
 doSt ((blk b12).add 5) (.int .u64 x9) w18 (fun w19 =>
 R (.returned (.func (.func 255) #[] #[.pointer (some (blk b2)), .pointer (some (blk b12))])) w19))))))))) (fun ch w => Kfn R ch [] w)))
set_option maxRecDepth 100000 in
theorem sh197_ok (back_1 : Bool) {R : Ending → World → Prop} {w : World} : sh197 back_1 R w → Calls Tryz.prog 197 #[.bool back_1] w R :=
  calls_of_eq (ann := fun _ => []) (fn := Tryz.f197) (c := bodyOf Tryz.f197) (args := #[.bool back_1]) 400 follows_mixed Tryz.func197 (by kernel_rfl) (by kernel_rfl)
set_option maxRecDepth 100000 in
/-- math/bits.RotateLeft64 -/
def sh198 (x_1 : Int) (k_2 : Int) (R : Ending → World → Prop) (w : World) : Prop :=
 (0 : Int) ≤ (bAnd .u64 (IntKind.wrap .u64 k_2) 63) ∧ (
 (0 : Int) ≤ (IntKind.wrap .u64 (64 - (bAnd .u64 (IntKind.wrap .u64 k_2) 63))) ∧ (
 R (.returned (.int .u64 (bOr .u64 (IntKind.wrap .u64 (x_1 * 2 ^ (min ((bAnd .u64 (IntKind.wrap .u64 k_2) 63) : Int).toNat (IntKind.bits .u64)))) (Int.fdiv x_1 (2 ^ (min ((IntKind.wrap .u64 (64 - (bAnd .u64 (IntKind.wrap .u64 k_2) 63))) : Int).toNat (IntKind.bits .u64))))))) w))
set_option maxRecDepth 100000 in
theorem sh198_ok (x_1 : Int) (k_2 : Int) {R : Ending → World → Prop} {w : World} : sh198 x_1 k_2 R w → Calls Tryz.prog 198 #[.int .u64 x_1, .int .i64 k_2] w R :=
  calls_of_eq (ann := fun _ => []) (fn := Tryz.f198) (c := bodyOf Tryz.f198) (args := #[.int .u64 x_1, .int .i64 k_2]) 400 follows_mixed Tryz.func198 (by kernel_rfl) (by kernel_rfl)
set_option maxRecDepth 100000 in
/-- joinery/joineryref12.Rises -/
def sh199 (o_1 : Int) (l_p2 : Option Addr) (l_n3 : Nat) (_l_c4 : Nat) (R : Ending → World → Prop) (w : World) : Prop :=
 ∃ (I5 : List Value → World → Prop) (μ6 : List Value → World → Nat), I5 [.int .i64 1] w ∧ (∀ (i_9 : Int), ∀ (_j7 : Nat → Value) (w8 : World), I5 [.int .i64 i_9] w8 → (
 ifB (decide ((i_9 : Int) < ((l_n3 : Nat) : Int))) (
 doDr w8 (fun w11 =>
 ∃ (C10 : World → Prop), C10 w11 ∧ (
 doIx l_p2 l_n3 2 (IntKind.wrap .i64 (i_9 - 1)) (fun a12 =>
 ∃ (x13 : Int), (∀ w, C10 w → World.cell? w (a12.add 0) = some (.int .i64 x13)) ∧ (
 doIx l_p2 l_n3 2 (i_9) (fun a14 =>
 ∃ (x15 : Int), (∀ w, C10 w → World.cell? w (a14.add 0) = some (.int .i64 x15)) ∧ (
 doCall Tryz.prog (.func (.func 79) #[] #[]) #[.int .u8 o_1, .int .i64 x13, .int .i64 x15] w11 (retS (fun v17 w18 => ∃ (x16 : Int), v17 = (.int .i64 x16 : Value) ∧ (
 ifB (decide ((x16 : Int) ≥ 0)) (
 R (.returned (.bool false)) w18) (
 I5 [.int .i64 (IntKind.wrap .i64 (i_9 + 1))] w18 ∧ μ6 [.int .i64 (IntKind.wrap .i64 (i_9 + 1))] w18 < μ6 [.int .i64 i_9] w8))) (fun ch w => Kfn R ch [] w))))))))) (
 R (.returned (.bool true)) w8)))
set_option maxRecDepth 100000 in
theorem sh199_ok (o_1 : Int) (l_p2 : Option Addr) (l_n3 : Nat) (l_c4 : Nat) {R : Ending → World → Prop} {w : World} : sh199 o_1 l_p2 l_n3 l_c4 R w → Calls Tryz.prog 199 #[.int .u8 o_1, .slice l_p2 l_n3 l_c4] w R :=
  calls_of_eq (ann := fun i => if i = 0 then [(5, .int .i64 0)] else []) (fn := Tryz.f199) (c := bodyOf Tryz.f199) (args := #[.int .u8 o_1, .slice l_p2 l_n3 l_c4]) 400 follows_mixed Tryz.func199 (by kernel_rfl) (by kernel_rfl)
set_option maxRecDepth 100000 in
/-- joinery/joineryref20.Check -/
def sh200 (l_p1 : Option Addr) (l_n2 : Nat) (l_c3 : Nat) (R : Ending → World → Prop) (w : World) : Prop :=
 ifB ((((l_n2 : Nat) : Int) : Int) == 0) (
 R (.returned (.tuple #[.int .i64 0, .int .i64 0])) w) (
 doCall Tryz.prog (.func (.func 109) #[] #[]) #[.slice l_p1 l_n2 l_c3] w (retS (fun v17 w18 => ∃ (x4 : Int), ∃ (x5 : Int), ∃ (x6 : Int), ∃ (x7 : Int), ∃ (x8 : Int), ∃ (x9 : Bool), ∃ (x10 : Bool), ∃ (xp11 : Option Addr), ∃ (xn12 : Nat), ∃ (xc13 : Nat), ∃ (xp14 : Option Addr), ∃ (xn15 : Nat), ∃ (xc16 : Nat), v17 = (.tuple #[.agg #[.int .i64 x4, .int .i64 x5, .int .i64 x6, .int .i64 x7, .int .u64 x8, .bool x9, .bool x10], .slice xp11 xn12 xc13, .slice xp14 xn15 xc16] : Value) ∧ (
 doAl (.cells #[.int .i64 0, .int .i64 0, .int .i64 0, .int .i64 0, .int .u64 0, .bool false, .bool false] 150) w18 (fun b19 w20 =>
 doSt ((blk b19).add 0) (.int .i64 x4) w20 (fun w21 =>
 doSt ((blk b19).add 1) (.int .i64 x5) w21 (fun w22 =>
 doSt ((blk b19).add 2) (.int .i64 x6) w22 (fun w23 =>
 doSt ((blk b19).add 3) (.int .i64 x7) w23 (fun w24 =>
 doSt ((blk b19).add 4) (.int .u64 x8) w24 (fun w25 =>
 doSt ((blk b19).add 5) (.bool x9) w25 (fun w26 =>
 doSt ((blk b19).add 6) (.bool x10) w26 (fun w27 =>
 let K30 : Bool → World → Prop := fun (x28 : Bool) (w29 : World) => 
 ifB x28 (
 R (.returned (.tuple #[.int .i64 0, .int .i64 8])) w29) (
 doCall Tryz.prog (.func (.func 200) #[] #[]) #[.slice xp11 xn12 xc13] w29 (retS (fun v33 w34 => ∃ (x31 : Int), ∃ (x32 : Int), v33 = (.tuple #[.int .i64 x31, .int .i64 x32] : Value) ∧ (
 ifB ((x32 : Int) != 0) (
 R (.returned (.tuple #[.int .i64 (IntKind.wrap .i64 (1 + x31)), .int .i64 x32])) w34) (
 doCall Tryz.prog (.func (.func 200) #[] #[]) #[.slice xp14 xn15 xc16] w34 (retS (fun v37 w38 => ∃ (x35 : Int), ∃ (x36 : Int), v37 = (.tuple #[.int .i64 x35, .int .i64 x36] : Value) ∧ (
 R (.returned (.tuple #[.int .i64 (IntKind.wrap .i64 ((IntKind.wrap .i64 (1 + x31)) + x35)), .int .i64 x36])) w38)) (fun ch w => Kfn R ch [] w))))) (fun ch w => Kfn R ch [] w)))
 ∃ (x39 : Int), World.cell? w27 ((blk b19).add 0) = some (.int .i64 x39) ∧ (
 ∃ (x40 : Int), World.cell? w27 ((blk b19).add 1) = some (.int .i64 x40) ∧ (
 ∃ (x41 : Int), World.cell? w27 ((blk b19).add 2) = some (.int .i64 x41) ∧ (
 ∃ (x42 : Int), World.cell? w27 ((blk b19).add 3) = some (.int .i64 x42) ∧ (
 ∃ (x43 : Int), World.cell? w27 ((blk b19).add 4) = some (.int .u64 x43) ∧ (
 ∃ (x44 : Bool), World.cell? w27 ((blk b19).add 5) = some (.bool x44) ∧ (
 ∃ (x45 : Bool), World.cell? w27 ((blk b19).add 6) = some (.bool x45) ∧ (
 doCall Tryz.prog (.func (.func 256) #[] #[]) #[.slice xp11 xn12 xc13, .agg #[.int .i64 x39, .int .i64 x40, .int .i64 x41, .int .i64 x42, .int .u64 x43, .bool x44, .bool x45]] w27 (retS (fun v47 w48 => ∃ (x46 : Bool), v47 = (.bool x46 : Value) ∧ (
 ifB x46 (
 R (.returned (.tuple #[.int .i64 0, .int .i64 8])) w48) (
 ∃ (x49 : Int), World.cell? w48 ((blk b19).add 0) = some (.int .i64 x49) ∧ (
 ∃ (x50 : Int), World.cell? w48 ((blk b19).add 1) = some (.int .i64 x50) ∧ (
 ∃ (x51 : Int), World.cell? w48 ((blk b19).add 2) = some (.int .i64 x51) ∧ (
 ∃ (x52 : Int), World.cell? w48 ((blk b19).add 3) = some (.int .i64 x52) ∧ (
 ∃ (x53 : Int), World.cell? w48 ((blk b19).add 4) = some (.int .u64 x53) ∧ (
 ∃ (x54 : Bool), World.cell? w48 ((blk b19).add 5) = some (.bool x54) ∧ (
 ∃ (x55 : Bool), World.cell? w48 ((blk b19).add 6) = some (.bool x55) ∧ (
 doCall Tryz.prog (.func (.func 256) #[] #[]) #[.slice xp14 xn15 xc16, .agg #[.int .i64 x49, .int .i64 x50, .int .i64 x51, .int .i64 x52, .int .u64 x53, .bool x54, .bool x55]] w48 (retS (fun v57 w58 => ∃ (x56 : Bool), v57 = (.bool x56 : Value) ∧ (
 K30 x56 w58)) (fun ch w => Kfn R ch [] w)))))))))))) (fun ch w => Kfn R ch [] w))))))))))))))))))) (fun ch w => Kfn R ch [] w)))
set_option maxRecDepth 100000 in
theorem sh200_ok (l_p1 : Option Addr) (l_n2 : Nat) (l_c3 : Nat) {R : Ending → World → Prop} {w : World} : sh200 l_p1 l_n2 l_c3 R w → Calls Tryz.prog 200 #[.slice l_p1 l_n2 l_c3] w R :=
  calls_of_eq (ann := fun _ => []) (fn := Tryz.f200) (c := bodyOf Tryz.f200) (args := #[.slice l_p1 l_n2 l_c3]) 400 follows_mixed Tryz.func200 (by kernel_rfl) (by kernel_rfl)
set_option maxRecDepth 100000 in
/-- joinery/canon.unlike$1 -/
def sh201 (yield_f1 : Fn) (yield_x2 : Array Value) (yield_c3 : Array Value) (x4 : Addr) (x5 : Addr) (x6 : Addr) (x7 : Addr) (R : Ending → World → Prop) (w : World) : Prop :=
 doAl (.cells #[.func yield_f1 yield_x2 yield_c3] 103) w (fun b8 w9 =>
 doAl (.cells #[.nilFunc] 74) w9 (fun b10 w11 =>
 doSt ((blk b10).add 0) (.func (.func 202) #[] #[.pointer (some (blk b10)), .pointer (some (blk b8)), .pointer (some x4), .pointer (some x5)]) w11 (fun w12 =>
 ∃ (xf13 : Fn), ∃ (xx14 : Array Value), ∃ (xc15 : Array Value), World.cell? w12 (blk b10) = some (.func xf13 xx14 xc15) ∧ (
 ∃ (x16 : Option Addr), World.cell? w12 x6 = some (.pointer x16) ∧ (
 ∃ (x17 : Option Addr), World.cell? w12 x7 = some (.pointer x17) ∧ (
 doCall Tryz.prog (.func xf13 xx14 xc15) #[.pointer x16, .pointer x17] w12 (retS (fun v19 w20 => ∃ (x18 : Bool), v19 = (.bool x18 : Value) ∧ (
 R (.returned (.tuple #[])) w20)) (fun ch w => Kfn R ch [] w))))))))
set_option maxRecDepth 100000 in
theorem sh201_ok (yield_f1 : Fn) (yield_x2 : Array Value) (yield_c3 : Array Value) (x4 : Addr) (x5 : Addr) (x6 : Addr) (x7 : Addr) {R : Ending → World → Prop} {w : World} : sh201 yield_f1 yield_x2 yield_c3 x4 x5 x6 x7 R w → Calls Tryz.prog 201 #[.func yield_f1 yield_x2 yield_c3, .pointer (some x4), .pointer (some x5), .pointer (some x6), .pointer (some x7)] w R :=
  calls_of_eq (ann := fun _ => []) (fn := Tryz.f201) (c := bodyOf Tryz.f201) (args := #[.func yield_f1 yield_x2 yield_c3, .pointer (some x4), .pointer (some x5), .pointer (some x6), .pointer (some x7)]) 400 follows_mixed Tryz.func201 (by kernel_rfl) (by kernel_rfl)
set_option maxRecDepth 100000 in
/-- joinery/canon.unlike$1$1 -/
def sh202 (a_1 : Option Addr) (b_2 : Option Addr) (x3 : Addr) (x4 : Addr) (x5 : Addr) (x6 : Addr) (R : Ending → World → Prop) (w : World) : Prop :=
 doPE Tryz.prog .eql 35 (.tmp 15) (.tmp 16) (.pointer a_1) (.pointer b_2) w (fun b7 =>
 ifB b7 (
 R (.returned (.bool true)) w) (
 ifB ((a_1).isNone) (
 let K10 : Bool → World → Prop := fun (x8 : Bool) (w9 : World) => 
 R (.returned (.bool x8)) w9
 doDr w (fun w12 =>
 ∃ (C11 : World → Prop), C11 w12 ∧ (
 ∃ (xf13 : Fn), ∃ (xx14 : Array Value), ∃ (xc15 : Array Value), (∀ w, C11 w → World.cell? w x3 = some (.func xf13 xx14 xc15)) ∧ (
 doCall Tryz.prog (.func (.func 123) #[] #[]) #[.pointer b_2] w12 (retS (fun v17 w18 => ∃ (x16 : Option Addr), v17 = (.pointer x16 : Value) ∧ (
 C11 w18 ∧ (
 doCall Tryz.prog (.func xf13 xx14 xc15) #[.pointer none, .pointer x16] w18 (retS (fun v20 w21 => ∃ (x19 : Bool), v20 = (.bool x19 : Value) ∧ (
 C11 w21 ∧ (
 ifB x19 (
 ∃ (xf22 : Fn), ∃ (xx23 : Array Value), ∃ (xc24 : Array Value), (∀ w, C11 w → World.cell? w x4 = some (.func xf22 xx23 xc24)) ∧ (
 doCall Tryz.prog (.func (.func 108) #[] #[]) #[.pointer b_2] w21 (retS (fun v26 w27 => ∃ (x25 : Int), v26 = (.int .i64 x25 : Value) ∧ (
 C11 w27 ∧ (
 doCall Tryz.prog (.func xf22 xx23 xc24) #[.int .i64 x25] w27 (retS (fun v29 w30 => ∃ (x28 : Bool), v29 = (.bool x28 : Value) ∧ (
 C11 w30 ∧ (
 ifB x28 (
 ∃ (xf31 : Fn), ∃ (xx32 : Array Value), ∃ (xc33 : Array Value), (∀ w, C11 w → World.cell? w x3 = some (.func xf31 xx32 xc33)) ∧ (
 doCall Tryz.prog (.func (.func 125) #[] #[]) #[.pointer b_2] w30 (retS (fun v35 w36 => ∃ (x34 : Option Addr), v35 = (.pointer x34 : Value) ∧ (
 C11 w36 ∧ (
 doCall Tryz.prog (.func xf31 xx32 xc33) #[.pointer none, .pointer x34] w36 (retS (fun v38 w39 => ∃ (x37 : Bool), v38 = (.bool x37 : Value) ∧ (
 C11 w39 ∧ (
 K10 x37 w39))) (fun ch w => Kfn R ch [] w))))) (fun ch w => Kfn R ch [] w)))) (
 R (.returned (.bool false)) w30)))) (fun ch w => Kfn R ch [] w))))) (fun ch w => Kfn R ch [] w)))) (
 R (.returned (.bool false)) w21)))) (fun ch w => Kfn R ch [] w))))) (fun ch w => Kfn R ch [] w)))))) (
 ifB ((b_2).isNone) (
 let K42 : Bool → World → Prop := fun (x40 : Bool) (w41 : World) => 
 R (.returned (.bool x40)) w41
 doDr w (fun w44 =>
 ∃ (C43 : World → Prop), C43 w44 ∧ (
 ∃ (xf45 : Fn), ∃ (xx46 : Array Value), ∃ (xc47 : Array Value), (∀ w, C43 w → World.cell? w x3 = some (.func xf45 xx46 xc47)) ∧ (
 doCall Tryz.prog (.func (.func 123) #[] #[]) #[.pointer a_1] w44 (retS (fun v49 w50 => ∃ (x48 : Option Addr), v49 = (.pointer x48 : Value) ∧ (
 C43 w50 ∧ (
 doCall Tryz.prog (.func xf45 xx46 xc47) #[.pointer x48, .pointer none] w50 (retS (fun v52 w53 => ∃ (x51 : Bool), v52 = (.bool x51 : Value) ∧ (
 C43 w53 ∧ (
 ifB x51 (
 ∃ (xf54 : Fn), ∃ (xx55 : Array Value), ∃ (xc56 : Array Value), (∀ w, C43 w → World.cell? w x4 = some (.func xf54 xx55 xc56)) ∧ (
 doCall Tryz.prog (.func (.func 108) #[] #[]) #[.pointer a_1] w53 (retS (fun v58 w59 => ∃ (x57 : Int), v58 = (.int .i64 x57 : Value) ∧ (
 C43 w59 ∧ (
 doCall Tryz.prog (.func xf54 xx55 xc56) #[.int .i64 x57] w59 (retS (fun v61 w62 => ∃ (x60 : Bool), v61 = (.bool x60 : Value) ∧ (
 C43 w62 ∧ (
 ifB x60 (
 ∃ (xf63 : Fn), ∃ (xx64 : Array Value), ∃ (xc65 : Array Value), (∀ w, C43 w → World.cell? w x3 = some (.func xf63 xx64 xc65)) ∧ (
 doCall Tryz.prog (.func (.func 125) #[] #[]) #[.pointer a_1] w62 (retS (fun v67 w68 => ∃ (x66 : Option Addr), v67 = (.pointer x66 : Value) ∧ (
 C43 w68 ∧ (
 doCall Tryz.prog (.func xf63 xx64 xc65) #[.pointer x66, .pointer none] w68 (retS (fun v70 w71 => ∃ (x69 : Bool), v70 = (.bool x69 : Value) ∧ (
 C43 w71 ∧ (
 K42 x69 w71))) (fun ch w => Kfn R ch [] w))))) (fun ch w => Kfn R ch [] w)))) (
 R (.returned (.bool false)) w62)))) (fun ch w => Kfn R ch [] w))))) (fun ch w => Kfn R ch [] w)))) (
 R (.returned (.bool false)) w53)))) (fun ch w => Kfn R ch [] w))))) (fun ch w => Kfn R ch [] w)))))) (
 let K77 : (Option Addr) → Addr → Bool → (Option Addr) → World → Prop := fun (l_72 : Option Addr) (x_73 : Addr) (is_74 : Bool) (r_75 : Option Addr) (w76 : World) => 
 let K80 : Bool → World → Prop := fun (x78 : Bool) (w79 : World) => 
 R (.returned (.bool x78)) w79
 doDr w76 (fun w82 =>
 ∃ (C81 : World → Prop), C81 w82 ∧ (
 ∃ (xf83 : Fn), ∃ (xx84 : Array Value), ∃ (xc85 : Array Value), (∀ w, C81 w → World.cell? w x3 = some (.func xf83 xx84 xc85)) ∧ (
 doCall Tryz.prog (.func (.func 123) #[] #[]) #[.pointer a_1] w82 (retS (fun v87 w88 => ∃ (x86 : Option Addr), v87 = (.pointer x86 : Value) ∧ (
 C81 w88 ∧ (
 doCall Tryz.prog (.func xf83 xx84 xc85) #[.pointer x86, .pointer l_72] w88 (retS (fun v90 w91 => ∃ (x89 : Bool), v90 = (.bool x89 : Value) ∧ (
 C81 w91 ∧ (
 ifB x89 (
 ifB is_74 (
 ∃ (x92 : Int), (∀ w, C81 w → World.cell? w (x_73.add 1) = some (.int .i64 x92)) ∧ (
 doCall Tryz.prog (.func (.func 126) #[] #[]) #[.pointer a_1] w91 (retS (fun v94 w95 => ∃ (x93 : Int), v94 = (.int .i64 x93 : Value) ∧ (
 C81 w95 ∧ (
 ifB ((x92 : Int) == x93) (
 ∃ (xf96 : Fn), ∃ (xx97 : Array Value), ∃ (xc98 : Array Value), (∀ w, C81 w → World.cell? w x3 = some (.func xf96 xx97 xc98)) ∧ (
 doCall Tryz.prog (.func (.func 125) #[] #[]) #[.pointer a_1] w95 (retS (fun v100 w101 => ∃ (x99 : Option Addr), v100 = (.pointer x99 : Value) ∧ (
 C81 w101 ∧ (
 doCall Tryz.prog (.func xf96 xx97 xc98) #[.pointer x99, .pointer r_75] w101 (retS (fun v103 w104 => ∃ (x102 : Bool), v103 = (.bool x102 : Value) ∧ (
 C81 w104 ∧ (
 K80 x102 w104))) (fun ch w => Kfn R ch [] w))))) (fun ch w => Kfn R ch [] w)))) (
 ∃ (xf105 : Fn), ∃ (xx106 : Array Value), ∃ (xc107 : Array Value), (∀ w, C81 w → World.cell? w x4 = some (.func xf105 xx106 xc107)) ∧ (
 doCall Tryz.prog (.func (.func 108) #[] #[]) #[.pointer a_1] w95 (retS (fun v109 w110 => ∃ (x108 : Int), v109 = (.int .i64 x108 : Value) ∧ (
 C81 w110 ∧ (
 doCall Tryz.prog (.func xf105 xx106 xc107) #[.int .i64 x108] w110 (retS (fun v112 w113 => ∃ (x111 : Bool), v112 = (.bool x111 : Value) ∧ (
 C81 w113 ∧ (
 ifB x111 (
 ∃ (xf114 : Fn), ∃ (xx115 : Array Value), ∃ (xc116 : Array Value), (∀ w, C81 w → World.cell? w x3 = some (.func xf114 xx115 xc116)) ∧ (
 doCall Tryz.prog (.func (.func 125) #[] #[]) #[.pointer a_1] w113 (retS (fun v118 w119 => ∃ (x117 : Option Addr), v118 = (.pointer x117 : Value) ∧ (
 C81 w119 ∧ (
 doCall Tryz.prog (.func xf114 xx115 xc116) #[.pointer x117, .pointer r_75] w119 (retS (fun v121 w122 => ∃ (x120 : Bool), v121 = (.bool x120 : Value) ∧ (
 C81 w122 ∧ (
 K80 x120 w122))) (fun ch w => Kfn R ch [] w))))) (fun ch w => Kfn R ch [] w)))) (
 R (.returned (.bool false)) w113)))) (fun ch w => Kfn R ch [] w))))) (fun ch w => Kfn R ch [] w))))))) (fun ch w => Kfn R ch [] w)))) (
 ∃ (xf123 : Fn), ∃ (xx124 : Array Value), ∃ (xc125 : Array Value), (∀ w, C81 w → World.cell? w x4 = some (.func xf123 xx124 xc125)) ∧ (
 doCall Tryz.prog (.func (.func 108) #[] #[]) #[.pointer a_1] w91 (retS (fun v127 w128 => ∃ (x126 : Int), v127 = (.int .i64 x126 : Value) ∧ (
 C81 w128 ∧ (
 doCall Tryz.prog (.func xf123 xx124 xc125) #[.int .i64 x126] w128 (retS (fun v130 w131 => ∃ (x129 : Bool), v130 = (.bool x129 : Value) ∧ (
 C81 w131 ∧ (
 ifB x129 (
 ∃ (xf132 : Fn), ∃ (xx133 : Array Value), ∃ (xc134 : Array Value), (∀ w, C81 w → World.cell? w x3 = some (.func xf132 xx133 xc134)) ∧ (
 doCall Tryz.prog (.func (.func 125) #[] #[]) #[.pointer a_1] w131 (retS (fun v136 w137 => ∃ (x135 : Option Addr), v136 = (.pointer x135 : Value) ∧ (
 C81 w137 ∧ (
 doCall Tryz.prog (.func xf132 xx133 xc134) #[.pointer x135, .pointer r_75] w137 (retS (fun v139 w140 => ∃ (x138 : Bool), v139 = (.bool x138 : Value) ∧ (
 C81 w140 ∧ (
 K80 x138 w140))) (fun ch w => Kfn R ch [] w))))) (fun ch w => Kfn R ch [] w)))) (
 R (.returned (.bool false)) w131)))) (fun ch w => Kfn R ch [] w))))) (fun ch w => Kfn R ch [] w))))) (
 R (.returned (.bool false)) w91)))) (fun ch w => Kfn R ch [] w))))) (fun ch w => Kfn R ch [] w)))))
 doDr w (fun w142 =>
 ∃ (C141 : World → Prop), C141 w142 ∧ (
 ∃ (x143 : Option Addr), (∀ w, C141 w → World.cell? w x5 = some (.pointer x143)) ∧ (
 ∃ (x144 : Int), (∀ w, C141 w → World.cell? w x6 = some (.int .u8 x144)) ∧ (
 (doCall Tryz.prog (.func (.func 108) #[] #[]) #[.pointer a_1] w142 (retS (fun v146 w147 => ∃ (x145 : Int), v146 = (.int .i64 x145 : Value) ∧ (
 C141 w147 ∧ (
 (doCall Tryz.prog (.func (.func 89) #[] #[]) #[.pointer x143, .int .u8 x144, .pointer b_2, .int .i64 x145] w147 (retS (fun v155 w156 => ∃ (x148 : Option Addr), ∃ (x149 : Int), ∃ (x150 : Int), ∃ (x151 : Int), ∃ (x152 : Bool), ∃ (x153 : Option Addr), ∃ (x154 : Int), v155 = (.tuple #[.pointer x148, .agg #[.int .i64 x149, .int .i64 x150, .int .u64 x151], .bool x152, .pointer x153, .int .i64 x154] : Value) ∧ (
 doAl (.cells #[.int .i64 0, .int .i64 0, .int .u64 0] 114) w156 (fun b157 w158 =>
 C141 w158 ∧ (
 doSt ((blk b157).add 0) (.int .i64 x149) w158 (fun w159 =>
 doSt ((blk b157).add 1) (.int .i64 x150) w159 (fun w160 =>
 doSt ((blk b157).add 2) (.int .u64 x151) w160 (fun w161 =>
 K77 x148 (blk b157) x152 x153 w161))))))) (fun ch w => Kfn R ch [] w))) ∧ (doAl (.cells #[.int .i64 0, .int .i64 0, .int .u64 0] 114) w147 (fun b162 w163 =>
 C141 w163 ∧ (
 doCall Tryz.prog (.func (.func 89) #[] #[]) #[.pointer x143, .int .u8 x144, .pointer b_2, .int .i64 x145] w163 (retS (fun v171 w172 => ∃ (x164 : Option Addr), ∃ (x165 : Int), ∃ (x166 : Int), ∃ (x167 : Int), ∃ (x168 : Bool), ∃ (x169 : Option Addr), ∃ (x170 : Int), v171 = (.tuple #[.pointer x164, .agg #[.int .i64 x165, .int .i64 x166, .int .u64 x167], .bool x168, .pointer x169, .int .i64 x170] : Value) ∧ (
 doSt ((blk b162).add 0) (.int .i64 x165) w172 (fun w173 =>
 doSt ((blk b162).add 1) (.int .i64 x166) w173 (fun w174 =>
 doSt ((blk b162).add 2) (.int .u64 x167) w174 (fun w175 =>
 K77 x164 (blk b162) x168 x169 w175))))) (fun ch w => Kfn R ch [] w)))))))) (fun ch w => Kfn R ch [] w))) ∧ (doAl (.cells #[.int .i64 0, .int .i64 0, .int .u64 0] 114) w142 (fun b176 w177 =>
 C141 w177 ∧ (
 doCall Tryz.prog (.func (.func 108) #[] #[]) #[.pointer a_1] w177 (retS (fun v179 w180 => ∃ (x178 : Int), v179 = (.int .i64 x178 : Value) ∧ (
 C141 w180 ∧ (
 doCall Tryz.prog (.func (.func 89) #[] #[]) #[.pointer x143, .int .u8 x144, .pointer b_2, .int .i64 x178] w180 (retS (fun v188 w189 => ∃ (x181 : Option Addr), ∃ (x182 : Int), ∃ (x183 : Int), ∃ (x184 : Int), ∃ (x185 : Bool), ∃ (x186 : Option Addr), ∃ (x187 : Int), v188 = (.tuple #[.pointer x181, .agg #[.int .i64 x182, .int .i64 x183, .int .u64 x184], .bool x185, .pointer x186, .int .i64 x187] : Value) ∧ (
 doSt ((blk b176).add 0) (.int .i64 x182) w189 (fun w190 =>
 doSt ((blk b176).add 1) (.int .i64 x183) w190 (fun w191 =>
 doSt ((blk b176).add 2) (.int .u64 x184) w191 (fun w192 =>
 K77 x181 (blk b176) x185 x186 w192))))) (fun ch w => Kfn R ch [] w))))) (fun ch w => Kfn R ch [] w)))))))))))))
set_option maxRecDepth 100000 in
theorem sh202_ok (a_1 : Option Addr) (b_2 : Option Addr) (x3 : Addr) (x4 : Addr) (x5 : Addr) (x6 : Addr) {R : Ending → World → Prop} {w : World} : sh202 a_1 b_2 x3 x4 x5 x6 R w → Calls Tryz.prog 202 #[.pointer a_1, .pointer b_2, .pointer (some x3), .pointer (some x4), .pointer (some x5), .pointer (some x6)] w R :=
  calls_of_eq (ann := fun _ => []) (fn := Tryz.f202) (c := bodyOf Tryz.f202) (args := #[.pointer a_1, .pointer b_2, .pointer (some x3), .pointer (some x4), .pointer (some x5), .pointer (some x6)]) 400 follows_mixed Tryz.func202 (by kernel_rfl) (by kernel_rfl)
set_option maxRecDepth 100000 in
/-- joinery/joineryref05.both -/
def sh203 (o_1 : Int) (a_p2 : Option Addr) (a_n3 : Nat) (a_c4 : Nat) (b_p5 : Option Addr) (b_n6 : Nat) (b_c7 : Nat) (R : Ending → World → Prop) (w : World) : Prop :=
 let K10 : Bool → World → Prop := fun (x8 : Bool) (w9 : World) => 
 R (.returned (.bool x8)) w9
 doCall Tryz.prog (.func (.func 30) #[] #[]) #[.int .u8 o_1, .slice a_p2 a_n3 a_c4] w (retS (fun v12 w13 => ∃ (x11 : Bool), v12 = (.bool x11 : Value) ∧ (
 ifB x11 (
 doCall Tryz.prog (.func (.func 30) #[] #[]) #[.int .u8 o_1, .slice b_p5 b_n6 b_c7] w13 (retS (fun v15 w16 => ∃ (x14 : Bool), v15 = (.bool x14 : Value) ∧ (
 K10 x14 w16)) (fun ch w => Kfn R ch [] w))) (
 R (.returned (.bool false)) w13))) (fun ch w => Kfn R ch [] w))
set_option maxRecDepth 100000 in
theorem sh203_ok (o_1 : Int) (a_p2 : Option Addr) (a_n3 : Nat) (a_c4 : Nat) (b_p5 : Option Addr) (b_n6 : Nat) (b_c7 : Nat) {R : Ending → World → Prop} {w : World} : sh203 o_1 a_p2 a_n3 a_c4 b_p5 b_n6 b_c7 R w → Calls Tryz.prog 203 #[.int .u8 o_1, .slice a_p2 a_n3 a_c4, .slice b_p5 b_n6 b_c7] w R :=
  calls_of_eq (ann := fun _ => []) (fn := Tryz.f203) (c := bodyOf Tryz.f203) (args := #[.int .u8 o_1, .slice a_p2 a_n3 a_c4, .slice b_p5 b_n6 b_c7]) 400 follows_mixed Tryz.func203 (by kernel_rfl) (by kernel_rfl)
set_option maxRecDepth 100000 in
/-- joinery/joineryref02.up -/
def sh208 (k_1 : Int) (R : Ending → World → Prop) (w : World) : Prop :=
 R (.returned (.int .u64 (IntKind.wrap .u64 ((IntKind.wrap .u64 k_1) + 9223372036854775808)))) w
set_option maxRecDepth 100000 in
theorem sh208_ok (k_1 : Int) {R : Ending → World → Prop} {w : World} : sh208 k_1 R w → Calls Tryz.prog 208 #[.int .i64 k_1] w R :=
  calls_of_eq (ann := fun _ => []) (fn := Tryz.f208) (c := bodyOf Tryz.f208) (args := #[.int .i64 k_1]) 400 follows_mixed Tryz.func208 (by kernel_rfl) (by kernel_rfl)
set_option maxRecDepth 100000 in
/-- joinery/joineryref01.Flip -/
def sh209 (x_1 : Int) (R : Ending → World → Prop) (w : World) : Prop :=
 ∃ (I2 : List Value → World → Prop) (μ3 : List Value → World → Nat), I2 [.int .u64 x_1, .int .u64 0, .int .i64 0] w ∧ (∀ (x_6 : Int), ∀ (y_7 : Int), ∀ (i_8 : Int), ∀ (_j4 : Nat → Value) (w5 : World), I2 [.int .u64 x_6, .int .u64 y_7, .int .i64 i_8] w5 → (
 ifB (decide ((i_8 : Int) < 64)) (
 2 ≠ (0 : Int) ∧ (
 2 ≠ (0 : Int) ∧ (
 I2 [.int .u64 (IntKind.wrap .u64 (Int.tdiv x_6 2)), .int .u64 (IntKind.wrap .u64 ((IntKind.wrap .u64 (y_7 * 2)) + (Int.tmod x_6 2))), .int .i64 (IntKind.wrap .i64 (i_8 + 1))] w5 ∧ μ3 [.int .u64 (IntKind.wrap .u64 (Int.tdiv x_6 2)), .int .u64 (IntKind.wrap .u64 ((IntKind.wrap .u64 (y_7 * 2)) + (Int.tmod x_6 2))), .int .i64 (IntKind.wrap .i64 (i_8 + 1))] w5 < μ3 [.int .u64 x_6, .int .u64 y_7, .int .i64 i_8] w5))) (
 R (.returned (.int .u64 y_7)) w5)))
set_option maxRecDepth 100000 in
theorem sh209_ok (x_1 : Int) {R : Ending → World → Prop} {w : World} : sh209 x_1 R w → Calls Tryz.prog 209 #[.int .u64 x_1] w R :=
  calls_of_eq (ann := fun i => if i = 0 then [(0, .int .u64 0), (3, .int .u64 0), (4, .int .i64 0)] else []) (fn := Tryz.f209) (c := bodyOf Tryz.f209) (args := #[.int .u64 x_1]) 400 follows_mixed Tryz.func209 (by kernel_rfl) (by kernel_rfl)
set_option maxRecDepth 100000 in
/-- joinery/fold.kinds -/
def sh210  (R : Ending → World → Prop) (w : World) : Prop :=
 doAl (.map #[] 0) w (fun b1 w2 =>
 doMu Tryz.prog 282 (.map (some b1)) (.int .u8 1) (.agg #[.func (.func 260) #[] #[]]) w2 (fun w3 =>
 doMu Tryz.prog 282 (.map (some b1)) (.int .u8 2) (.agg #[.func (.func 261) #[] #[]]) w3 (fun w4 =>
 doMu Tryz.prog 282 (.map (some b1)) (.int .u8 3) (.agg #[.func (.func 262) #[] #[]]) w4 (fun w5 =>
 R (.returned (.map (some b1))) w5))))
set_option maxRecDepth 100000 in
theorem sh210_ok  {R : Ending → World → Prop} {w : World} : sh210  R w → Calls Tryz.prog 210 #[] w R :=
  calls_of_eq (ann := fun _ => []) (fn := Tryz.f210) (c := bodyOf Tryz.f210) (args := #[]) 400 follows_mixed Tryz.func210 (by kernel_rfl) (by kernel_rfl)
set_option maxRecDepth 100000 in
/-- (*joinery/scheme.Scheme).Item -/
def sh213 (s_1 : Option Addr) (t_2 : Option Addr) (R : Ending → World → Prop) (w : World) : Prop :=
 doAl (.cells #[.int .i64 0, .int .i64 0, .int .u64 0] 114) w (fun b3 w4 =>
 let K7 : Bool → World → Prop := fun (x5 : Bool) (w6 : World) => 
 ifB x5 (
 doSt ((blk b3).add 0) (.int .i64 0) w6 (fun w8 =>
 doSt ((blk b3).add 1) (.int .i64 0) w8 (fun w9 =>
 doSt ((blk b3).add 2) (.int .u64 0) w9 (fun w10 =>
 ∃ (x11 : Int), World.cell? w10 ((blk b3).add 0) = some (.int .i64 x11) ∧ (
 ∃ (x12 : Int), World.cell? w10 ((blk b3).add 1) = some (.int .i64 x12) ∧ (
 ∃ (x13 : Int), World.cell? w10 ((blk b3).add 2) = some (.int .u64 x13) ∧ (
 R (.returned (.agg #[.int .i64 x11, .int .i64 x12, .int .u64 x13])) w10))))))) (
 doCall Tryz.prog (.func (.func 108) #[] #[]) #[.pointer t_2] w6 (retS (fun v15 w16 => ∃ (x14 : Int), v15 = (.int .i64 x14 : Value) ∧ (
 doCall Tryz.prog (.func (.func 126) #[] #[]) #[.pointer t_2] w16 (retS (fun v18 w19 => ∃ (x17 : Int), v18 = (.int .i64 x17 : Value) ∧ (
 doAl (.cells #[.int .i64 0, .int .i64 0, .int .u64 0] 114) w19 (fun b20 w21 =>
 doSt ((blk b20).add 0) (.int .i64 x14) w21 (fun w22 =>
 doSt ((blk b20).add 1) (.int .i64 x17) w22 (fun w23 =>
 doSt ((blk b20).add 2) (.int .u64 0) w23 (fun w24 =>
 let K26 : World → Prop := fun (w25 : World) => 
 ∃ (x27 : Int), World.cell? w25 ((blk b20).add 0) = some (.int .i64 x27) ∧ (
 ∃ (x28 : Int), World.cell? w25 ((blk b20).add 1) = some (.int .i64 x28) ∧ (
 ∃ (x29 : Int), World.cell? w25 ((blk b20).add 2) = some (.int .u64 x29) ∧ (
 doSt ((blk b3).add 0) (.int .i64 x27) w25 (fun w30 =>
 doSt ((blk b3).add 1) (.int .i64 x28) w30 (fun w31 =>
 doSt ((blk b3).add 2) (.int .u64 x29) w31 (fun w32 =>
 ∃ (x33 : Int), World.cell? w32 ((blk b3).add 0) = some (.int .i64 x33) ∧ (
 ∃ (x34 : Int), World.cell? w32 ((blk b3).add 1) = some (.int .i64 x34) ∧ (
 ∃ (x35 : Int), World.cell? w32 ((blk b3).add 2) = some (.int .u64 x35) ∧ (
 R (.returned (.agg #[.int .i64 x33, .int .i64 x34, .int .u64 x35])) w32)))))))))
 doCall Tryz.prog (.func (.func 188) #[] #[]) #[.pointer s_1] w24 (retS (fun v56 w57 => ∃ (x36 : ByteArray), ∃ (xf37 : Fn), ∃ (xx38 : Array Value), ∃ (xc39 : Array Value), ∃ (xf40 : Fn), ∃ (xx41 : Array Value), ∃ (xc42 : Array Value), ∃ (xf43 : Fn), ∃ (xx44 : Array Value), ∃ (xc45 : Array Value), ∃ (xf46 : Fn), ∃ (xx47 : Array Value), ∃ (xc48 : Array Value), ∃ (xf49 : Fn), ∃ (xx50 : Array Value), ∃ (xc51 : Array Value), ∃ (xf52 : Fn), ∃ (xx53 : Array Value), ∃ (xc54 : Array Value), ∃ (x55 : Bool), v56 = (.agg #[.string x36, .func xf37 xx38 xc39, .func xf40 xx41 xc42, .func xf43 xx44 xc45, .func xf46 xx47 xc48, .func xf49 xx50 xc51, .func xf52 xx53 xc54, .bool x55] : Value) ∧ (
 ifB x55 (
 doCall Tryz.prog (.func (.func 196) #[] #[]) #[.pointer t_2] w57 (retS (fun v59 w60 => ∃ (x58 : Int), v59 = (.int .u64 x58 : Value) ∧ (
 doSt (((blk b20).add 2).add 0) (.int .u64 x58) w60 (fun w61 =>
 K26 w61))) (fun ch w => Kfn R ch [] w))) (
 K26 w57))) (fun ch w => Kfn R ch [] w)))))))) (fun ch w => Kfn R ch [] w)))) (fun ch w => Kfn R ch [] w)))
 ifB ((s_1).isNone) (
 K7 true w4) (
 K7 ((t_2).isNone) w4))
set_option maxRecDepth 100000 in
theorem sh213_ok (s_1 : Option Addr) (t_2 : Option Addr) {R : Ending → World → Prop} {w : World} : sh213 s_1 t_2 R w → Calls Tryz.prog 213 #[.pointer s_1, .pointer t_2] w R :=
  calls_of_eq (ann := fun _ => []) (fn := Tryz.f213) (c := bodyOf Tryz.f213) (args := #[.pointer s_1, .pointer t_2]) 400 follows_mixed Tryz.func213 (by kernel_rfl) (by kernel_rfl)
end Go.Proofs.YtlddfgfmkapoiaaGreat

namespace Go.Proofs.YtlddfgfmkapoiaaGreat
open Go Go.Sh
set_option maxRecDepth 100000 in
/-- joinery/order.Code -/
def sh215 (o_1 : Int) (key_2 : Int) (R : Ending → World → Prop) (w : World) : Prop :=
 let K6 : Addr → Bool → World → Prop := fun (k_3 : Addr) (is_4 : Bool) (w5 : World) => 
 ifB (!is_4) (
 R (.returned (.tuple #[.int .u64 0, .int .i64 2])) w5) (
 ∃ (xf7 : Fn), ∃ (xx8 : Array Value), ∃ (xc9 : Array Value), World.cell? w5 (k_3.add 1) = some (.func xf7 xx8 xc9) ∧ (
 doCall Tryz.prog (.func xf7 xx8 xc9) #[.int .i64 key_2] w5 (retS (fun v11 w12 => ∃ (x10 : Int), v11 = (.int .u64 x10 : Value) ∧ (
 R (.returned (.tuple #[.int .u64 x10, .int .i64 0])) w12)) (fun ch w => Kfn R ch [] w))))
 doCall Tryz.prog (.func (.func 235) #[] #[]) #[] w (retS (fun v14 w15 => ∃ (x13 : Option Nat), v14 = (.map x13 : Value) ∧ (
 doLk Tryz.prog 300 (.map x13) (.int .u8 o_1) true w15 (fun v24 => (∃ (x16 : ByteArray), ∃ (xf17 : Fn), ∃ (xx18 : Array Value), ∃ (xc19 : Array Value), ∃ (xf20 : Fn), ∃ (xx21 : Array Value), ∃ (xc22 : Array Value), ∃ (x23 : Bool), v24 = (.tuple #[.agg #[.string x16, .func xf17 xx18 xc19, .func xf20 xx21 xc22], .bool x23] : Value) ∧ (
 doAl (.cells #[.string (⟨#[]⟩ : ByteArray), .nilFunc, .nilFunc] 299) w15 (fun b25 w26 =>
 doSt ((blk b25).add 0) (.string x16) w26 (fun w27 =>
 doSt ((blk b25).add 1) (.func xf17 xx18 xc19) w27 (fun w28 =>
 doSt ((blk b25).add 2) (.func xf20 xx21 xc22) w28 (fun w29 =>
 K6 (blk b25) x23 w29)))))) ∨ (v24 = (.tuple #[.agg #[.string (⟨#[]⟩ : ByteArray), .nilFunc, .nilFunc], .bool false] : Value) ∧ (
 doAl (.cells #[.string (⟨#[]⟩ : ByteArray), .nilFunc, .nilFunc] 299) w15 (fun b30 w31 =>
 doSt ((blk b30).add 0) (.string (⟨#[]⟩ : ByteArray)) w31 (fun w32 =>
 doSt ((blk b30).add 1) (.nilFunc) w32 (fun w33 =>
 doSt ((blk b30).add 2) (.nilFunc) w33 (fun w34 =>
 K6 (blk b30) false w34))))))))) (fun ch w => Kfn R ch [] w))
set_option maxRecDepth 100000 in
theorem sh215_ok (o_1 : Int) (key_2 : Int) {R : Ending → World → Prop} {w : World} : sh215 o_1 key_2 R w → Calls Tryz.prog 215 #[.int .u8 o_1, .int .i64 key_2] w R :=
  calls_of_eq (ann := fun _ => []) (fn := Tryz.f215) (c := bodyOf Tryz.f215) (args := #[.int .u8 o_1, .int .i64 key_2]) 400 follows_mixed Tryz.func215 (by kernel_rfl) (by kernel_rfl)
set_option maxRecDepth 100000 in
/-- joinery/split.where$1 -/
def sh216 (k_1 : Int) (x2 : Addr) (x3 : Addr) (R : Ending → World → Prop) (w : World) : Prop :=
 ∃ (x4 : Int), World.cell? w x2 = some (.int .u8 x4) ∧ (
 doCall Tryz.prog (.func (.func 215) #[] #[]) #[.int .u8 x4, .int .i64 k_1] w (retS (fun v7 w8 => ∃ (x5 : Int), ∃ (x6 : Int), v7 = (.tuple #[.int .u64 x5, .int .i64 x6] : Value) ∧ (
 ∃ (x9 : Int), World.cell? w8 x3 = some (.int .u64 x9) ∧ (
 doCall Tryz.prog (.func (.func 217) #[] #[]) #[.int .u64 x5, .int .u64 x9] w8 (retS (fun v11 w12 => ∃ (x10 : Int), v11 = (.int .i64 x10 : Value) ∧ (
 R (.returned (.int .i64 x10)) w12)) (fun ch w => Kfn R ch [] w))))) (fun ch w => Kfn R ch [] w)))
set_option maxRecDepth 100000 in
theorem sh216_ok (k_1 : Int) (x2 : Addr) (x3 : Addr) {R : Ending → World → Prop} {w : World} : sh216 k_1 x2 x3 R w → Calls Tryz.prog 216 #[.int .i64 k_1, .pointer (some x2), .pointer (some x3)] w R :=
  calls_of_eq (ann := fun _ => []) (fn := Tryz.f216) (c := bodyOf Tryz.f216) (args := #[.int .i64 k_1, .pointer (some x2), .pointer (some x3)]) 400 follows_mixed Tryz.func216 (by kernel_rfl) (by kernel_rfl)
set_option maxRecDepth 100000 in
/-- cmp.Compare[uint64] -/
def sh217 (x_1 : Int) (y_2 : Int) (R : Ending → World → Prop) (w : World) : Prop :=
 doCall Tryz.prog (.func (.func 264) #[] #[]) #[.int .u64 x_1] w (retS (fun v4 w5 => ∃ (x3 : Bool), v4 = (.bool x3 : Value) ∧ (
 doCall Tryz.prog (.func (.func 264) #[] #[]) #[.int .u64 y_2] w5 (retS (fun v7 w8 => ∃ (x6 : Bool), v7 = (.bool x6 : Value) ∧ (
 ifB x3 (
 ifB x6 (
 R (.returned (.int .i64 0)) w8) (
 R (.returned (.int .i64 (-1))) w8)) (
 ifB x6 (
 R (.returned (.int .i64 1)) w8) (
 ifB (decide ((x_1 : Int) < y_2)) (
 R (.returned (.int .i64 (-1))) w8) (
 ifB (decide ((x_1 : Int) > y_2)) (
 R (.returned (.int .i64 1)) w8) (
 R (.returned (.int .i64 0)) w8)))))) (fun ch w => Kfn R ch [] w)))) (fun ch w => Kfn R ch [] w))
set_option maxRecDepth 100000 in
theorem sh217_ok (x_1 : Int) (y_2 : Int) {R : Ending → World → Prop} {w : World} : sh217 x_1 y_2 R w → Calls Tryz.prog 217 #[.int .u64 x_1, .int .u64 y_2] w R :=
  calls_of_eq (ann := fun _ => []) (fn := Tryz.f217) (c := bodyOf Tryz.f217) (args := #[.int .u64 x_1, .int .u64 y_2]) 400 follows_mixed Tryz.func217 (by kernel_rfl) (by kernel_rfl)
set_option maxRecDepth 100000 in
/-- joinery/avljoin.Join -/
def sh218 (l_1 : Option Addr) (key_2 : Int) (val_3 : Int) (r_4 : Option Addr) (R : Ending → World → Prop) (w : World) : Prop :=
 doCall Tryz.prog (.func (.func 265) #[] #[]) #[.pointer none, .int .i64 key_2, .int .i64 val_3, .pointer none] w (retS (fun v6 w7 => ∃ (x5 : Option Addr), v6 = (.pointer x5 : Value) ∧ (
 doCall Tryz.prog (.func (.func 221) #[] #[]) #[.pointer l_1] w7 (retS (fun v9 w10 => ∃ (x8 : Int), v9 = (.int .i64 x8 : Value) ∧ (
 doCall Tryz.prog (.func (.func 221) #[] #[]) #[.pointer r_4] w10 (retS (fun v12 w13 => ∃ (x11 : Int), v12 = (.int .i64 x11 : Value) ∧ (
 ifB (decide ((x8 : Int) > (IntKind.wrap .i64 (x11 + 1)))) (
 doCall Tryz.prog (.func (.func 266) #[] #[]) #[] w13 (retS (fun v23 w24 => ∃ (xf14 : Fn), ∃ (xx15 : Array Value), ∃ (xc16 : Array Value), ∃ (xf17 : Fn), ∃ (xx18 : Array Value), ∃ (xc19 : Array Value), ∃ (xf20 : Fn), ∃ (xx21 : Array Value), ∃ (xc22 : Array Value), v23 = (.agg #[.func xf14 xx15 xc16, .func xf17 xx18 xc19, .func xf20 xx21 xc22] : Value) ∧ (
 doCall Tryz.prog (.func (.func 267) #[] #[]) #[.agg #[.func xf14 xx15 xc16, .func xf17 xx18 xc19, .func xf20 xx21 xc22], .pointer l_1, .pointer x5, .pointer r_4] w24 (retS (fun v26 w27 => ∃ (x25 : Option Addr), v26 = (.pointer x25 : Value) ∧ (
 R (.returned (.pointer x25)) w27)) (fun ch w => Kfn R ch [] w)))) (fun ch w => Kfn R ch [] w))) (
 ifB (decide ((x11 : Int) > (IntKind.wrap .i64 (x8 + 1)))) (
 doCall Tryz.prog (.func (.func 268) #[] #[]) #[] w13 (retS (fun v37 w38 => ∃ (xf28 : Fn), ∃ (xx29 : Array Value), ∃ (xc30 : Array Value), ∃ (xf31 : Fn), ∃ (xx32 : Array Value), ∃ (xc33 : Array Value), ∃ (xf34 : Fn), ∃ (xx35 : Array Value), ∃ (xc36 : Array Value), v37 = (.agg #[.func xf28 xx29 xc30, .func xf31 xx32 xc33, .func xf34 xx35 xc36] : Value) ∧ (
 doCall Tryz.prog (.func (.func 267) #[] #[]) #[.agg #[.func xf28 xx29 xc30, .func xf31 xx32 xc33, .func xf34 xx35 xc36], .pointer r_4, .pointer x5, .pointer l_1] w38 (retS (fun v40 w41 => ∃ (x39 : Option Addr), v40 = (.pointer x39 : Value) ∧ (
 R (.returned (.pointer x39)) w41)) (fun ch w => Kfn R ch [] w)))) (fun ch w => Kfn R ch [] w))) (
 doCall Tryz.prog (.func (.func 265) #[] #[]) #[.pointer l_1, .int .i64 key_2, .int .i64 val_3, .pointer r_4] w13 (retS (fun v43 w44 => ∃ (x42 : Option Addr), v43 = (.pointer x42 : Value) ∧ (
 R (.returned (.pointer x42)) w44)) (fun ch w => Kfn R ch [] w)))))) (fun ch w => Kfn R ch [] w)))) (fun ch w => Kfn R ch [] w)))) (fun ch w => Kfn R ch [] w))
set_option maxRecDepth 100000 in
theorem sh218_ok (l_1 : Option Addr) (key_2 : Int) (val_3 : Int) (r_4 : Option Addr) {R : Ending → World → Prop} {w : World} : sh218 l_1 key_2 val_3 r_4 R w → Calls Tryz.prog 218 #[.pointer l_1, .int .i64 key_2, .int .i64 val_3, .pointer r_4] w R :=
  calls_of_eq (ann := fun _ => []) (fn := Tryz.f218) (c := bodyOf Tryz.f218) (args := #[.pointer l_1, .int .i64 key_2, .int .i64 val_3, .pointer r_4]) 400 follows_mixed Tryz.func218 (by kernel_rfl) (by kernel_rfl)
set_option maxRecDepth 100000 in
/-- joinery/avl.Rank -/
def sh221 (t_1 : Option Addr) (R : Ending → World → Prop) (w : World) : Prop :=
 doCall Tryz.prog (.func (.func 196) #[] #[]) #[.pointer t_1] w (retS (fun v3 w4 => ∃ (x2 : Int), v3 = (.int .u64 x2 : Value) ∧ (
 R (.returned (.int .i64 (IntKind.wrap .i64 x2))) w4)) (fun ch w => Kfn R ch [] w))
set_option maxRecDepth 100000 in
theorem sh221_ok (t_1 : Option Addr) {R : Ending → World → Prop} {w : World} : sh221 t_1 R w → Calls Tryz.prog 221 #[.pointer t_1] w R :=
  calls_of_eq (ann := fun _ => []) (fn := Tryz.f221) (c := bodyOf Tryz.f221) (args := #[.pointer t_1]) 400 follows_mixed Tryz.func221 (by kernel_rfl) (by kernel_rfl)
set_option maxRecDepth 100000 in
/-- joinery/scheme.same -/
def sh223 (t_1 : Option Addr) (R : Ending → World → Prop) (w : World) : Prop :=
 R (.returned (.pointer t_1)) w
set_option maxRecDepth 100000 in
theorem sh223_ok (t_1 : Option Addr) {R : Ending → World → Prop} {w : World} : sh223 t_1 R w → Calls Tryz.prog 223 #[.pointer t_1] w R :=
  calls_of_eq (ann := fun _ => []) (fn := Tryz.f223) (c := bodyOf Tryz.f223) (args := #[.pointer t_1]) 400 follows_mixed Tryz.func223 (by kernel_rfl) (by kernel_rfl)
set_option maxRecDepth 100000 in
/-- joinery/rbjoin.Join -/
def sh224 (l_1 : Option Addr) (key_2 : Int) (val_3 : Int) (r_4 : Option Addr) (R : Ending → World → Prop) (w : World) : Prop :=
 doCall Tryz.prog (.func (.func 229) #[] #[]) #[.pointer l_1] w (retS (fun v6 w7 => ∃ (x5 : Option Addr), v6 = (.pointer x5 : Value) ∧ (
 doCall Tryz.prog (.func (.func 229) #[] #[]) #[.pointer r_4] w7 (retS (fun v9 w10 => ∃ (x8 : Option Addr), v9 = (.pointer x8 : Value) ∧ (
 doCall Tryz.prog (.func (.func 271) #[] #[]) #[.pointer none, .int .i64 key_2, .int .i64 val_3, .bool false, .pointer none] w10 (retS (fun v12 w13 => ∃ (x11 : Option Addr), v12 = (.pointer x11 : Value) ∧ (
 doCall Tryz.prog (.func (.func 272) #[] #[]) #[.pointer x5] w13 (retS (fun v15 w16 => ∃ (x14 : Int), v15 = (.int .i64 x14 : Value) ∧ (
 doCall Tryz.prog (.func (.func 272) #[] #[]) #[.pointer x8] w16 (retS (fun v18 w19 => ∃ (x17 : Int), v18 = (.int .i64 x17 : Value) ∧ (
 ifB (decide ((x14 : Int) > x17)) (
 doCall Tryz.prog (.func (.func 273) #[] #[]) #[.iface 341 (.agg #[]), .pointer x5, .pointer x11, .pointer x8] w19 (retS (fun v21 w22 => ∃ (x20 : Option Addr), v21 = (.pointer x20 : Value) ∧ (
 doCall Tryz.prog (.func (.func 229) #[] #[]) #[.pointer x20] w22 (retS (fun v24 w25 => ∃ (x23 : Option Addr), v24 = (.pointer x23 : Value) ∧ (
 R (.returned (.pointer x23)) w25)) (fun ch w => Kfn R ch [] w)))) (fun ch w => Kfn R ch [] w))) (
 ifB (decide ((x17 : Int) > x14)) (
 doCall Tryz.prog (.func (.func 273) #[] #[]) #[.iface 342 (.agg #[]), .pointer x8, .pointer x11, .pointer x5] w19 (retS (fun v27 w28 => ∃ (x26 : Option Addr), v27 = (.pointer x26 : Value) ∧ (
 doCall Tryz.prog (.func (.func 229) #[] #[]) #[.pointer x26] w28 (retS (fun v30 w31 => ∃ (x29 : Option Addr), v30 = (.pointer x29 : Value) ∧ (
 R (.returned (.pointer x29)) w31)) (fun ch w => Kfn R ch [] w)))) (fun ch w => Kfn R ch [] w))) (
 doCall Tryz.prog (.func (.func 271) #[] #[]) #[.pointer x5, .int .i64 key_2, .int .i64 val_3, .bool false, .pointer x8] w19 (retS (fun v33 w34 => ∃ (x32 : Option Addr), v33 = (.pointer x32 : Value) ∧ (
 R (.returned (.pointer x32)) w34)) (fun ch w => Kfn R ch [] w)))))) (fun ch w => Kfn R ch [] w)))) (fun ch w => Kfn R ch [] w)))) (fun ch w => Kfn R ch [] w)))) (fun ch w => Kfn R ch [] w)))) (fun ch w => Kfn R ch [] w))
set_option maxRecDepth 100000 in
theorem sh224_ok (l_1 : Option Addr) (key_2 : Int) (val_3 : Int) (r_4 : Option Addr) {R : Ending → World → Prop} {w : World} : sh224 l_1 key_2 val_3 r_4 R w → Calls Tryz.prog 224 #[.pointer l_1, .int .i64 key_2, .int .i64 val_3, .pointer r_4] w R :=
  calls_of_eq (ann := fun _ => []) (fn := Tryz.f224) (c := bodyOf Tryz.f224) (args := #[.pointer l_1, .int .i64 key_2, .int .i64 val_3, .pointer r_4]) 400 follows_mixed Tryz.func224 (by kernel_rfl) (by kernel_rfl)
set_option maxRecDepth 100000 in
/-- joinery/rb.Blacken -/
def sh229 (t_1 : Option Addr) (R : Ending → World → Prop) (w : World) : Prop :=
 doCall Tryz.prog (.func (.func 275) #[] #[]) #[.pointer t_1] w (retS (fun v3 w4 => ∃ (x2 : Bool), v3 = (.bool x2 : Value) ∧ (
 ifB (!x2) (
 R (.returned (.pointer t_1)) w4) (
 doCall Tryz.prog (.func (.func 123) #[] #[]) #[.pointer t_1] w4 (retS (fun v6 w7 => ∃ (x5 : Option Addr), v6 = (.pointer x5 : Value) ∧ (
 doCall Tryz.prog (.func (.func 108) #[] #[]) #[.pointer t_1] w7 (retS (fun v9 w10 => ∃ (x8 : Int), v9 = (.int .i64 x8 : Value) ∧ (
 doCall Tryz.prog (.func (.func 126) #[] #[]) #[.pointer t_1] w10 (retS (fun v12 w13 => ∃ (x11 : Int), v12 = (.int .i64 x11 : Value) ∧ (
 doCall Tryz.prog (.func (.func 196) #[] #[]) #[.pointer t_1] w13 (retS (fun v15 w16 => ∃ (x14 : Int), v15 = (.int .u64 x14 : Value) ∧ (
 doCall Tryz.prog (.func (.func 125) #[] #[]) #[.pointer t_1] w16 (retS (fun v18 w19 => ∃ (x17 : Option Addr), v18 = (.pointer x17 : Value) ∧ (
 doCall Tryz.prog (.func (.func 105) #[] #[]) #[.pointer x5, .int .i64 x8, .int .i64 x11, .int .u64 (IntKind.wrap .u64 (x14 + 1)), .pointer x17] w19 (retS (fun v21 w22 => ∃ (x20 : Option Addr), v21 = (.pointer x20 : Value) ∧ (
 R (.returned (.pointer x20)) w22)) (fun ch w => Kfn R ch [] w)))) (fun ch w => Kfn R ch [] w)))) (fun ch w => Kfn R ch [] w)))) (fun ch w => Kfn R ch [] w)))) (fun ch w => Kfn R ch [] w)))) (fun ch w => Kfn R ch [] w))))) (fun ch w => Kfn R ch [] w))
set_option maxRecDepth 100000 in
theorem sh229_ok (t_1 : Option Addr) {R : Ending → World → Prop} {w : World} : sh229 t_1 R w → Calls Tryz.prog 229 #[.pointer t_1] w R :=
  calls_of_eq (ann := fun _ => []) (fn := Tryz.f229) (c := bodyOf Tryz.f229) (args := #[.pointer t_1]) 400 follows_mixed Tryz.func229 (by kernel_rfl) (by kernel_rfl)
set_option maxRecDepth 100000 in
/-- joinery/wbjoin.Join -/
def sh230 (l_1 : Option Addr) (key_2 : Int) (val_3 : Int) (r_4 : Option Addr) (R : Ending → World → Prop) (w : World) : Prop :=
 doCall Tryz.prog (.func (.func 276) #[] #[]) #[.pointer none, .int .i64 key_2, .int .i64 val_3, .pointer none] w (retS (fun v6 w7 => ∃ (x5 : Option Addr), v6 = (.pointer x5 : Value) ∧ (
 doCall Tryz.prog (.func (.func 277) #[] #[]) #[.pointer l_1] w7 (retS (fun v9 w10 => ∃ (x8 : Int), v9 = (.int .i64 x8 : Value) ∧ (
 doCall Tryz.prog (.func (.func 277) #[] #[]) #[.pointer r_4] w10 (retS (fun v12 w13 => ∃ (x11 : Int), v12 = (.int .i64 x11 : Value) ∧ (
 ifB (decide ((x8 : Int) < x11)) (
 doCall Tryz.prog (.func (.func 278) #[] #[]) #[.int .i64 0, .pointer r_4, .pointer x5, .pointer l_1] w13 (retS (fun v15 w16 => ∃ (x14 : Option Addr), v15 = (.pointer x14 : Value) ∧ (
 R (.returned (.pointer x14)) w16)) (fun ch w => Kfn R ch [] w))) (
 doCall Tryz.prog (.func (.func 278) #[] #[]) #[.int .i64 1, .pointer l_1, .pointer x5, .pointer r_4] w13 (retS (fun v18 w19 => ∃ (x17 : Option Addr), v18 = (.pointer x17 : Value) ∧ (
 R (.returned (.pointer x17)) w19)) (fun ch w => Kfn R ch [] w))))) (fun ch w => Kfn R ch [] w)))) (fun ch w => Kfn R ch [] w)))) (fun ch w => Kfn R ch [] w))
set_option maxRecDepth 100000 in
theorem sh230_ok (l_1 : Option Addr) (key_2 : Int) (val_3 : Int) (r_4 : Option Addr) {R : Ending → World → Prop} {w : World} : sh230 l_1 key_2 val_3 r_4 R w → Calls Tryz.prog 230 #[.pointer l_1, .int .i64 key_2, .int .i64 val_3, .pointer r_4] w R :=
  calls_of_eq (ann := fun _ => []) (fn := Tryz.f230) (c := bodyOf Tryz.f230) (args := #[.pointer l_1, .int .i64 key_2, .int .i64 val_3, .pointer r_4]) 400 follows_mixed Tryz.func230 (by kernel_rfl) (by kernel_rfl)
set_option maxRecDepth 100000 in
/-- joinery/order.kinds -/
def sh235  (R : Ending → World → Prop) (w : World) : Prop :=
 doAl (.map #[] 0) w (fun b1 w2 =>
 doMu Tryz.prog 300 (.map (some b1)) (.int .u8 1) (.agg #[.string (⟨#[117, 112]⟩ : ByteArray), .func (.func 280) #[] #[], .func (.func 281) #[] #[]]) w2 (fun w3 =>
 doMu Tryz.prog 300 (.map (some b1)) (.int .u8 2) (.agg #[.string (⟨#[100, 111, 119, 110]⟩ : ByteArray), .func (.func 282) #[] #[], .func (.func 283) #[] #[]]) w3 (fun w4 =>
 doMu Tryz.prog 300 (.map (some b1)) (.int .u8 3) (.agg #[.string (⟨#[115, 105, 122, 101]⟩ : ByteArray), .func (.func 284) #[] #[], .func (.func 285) #[] #[]]) w4 (fun w5 =>
 doMu Tryz.prog 300 (.map (some b1)) (.int .u8 4) (.agg #[.string (⟨#[98, 105, 116, 115]⟩ : ByteArray), .func (.func 286) #[] #[], .func (.func 288) #[] #[]]) w5 (fun w6 =>
 doMu Tryz.prog 300 (.map (some b1)) (.int .u8 5) (.agg #[.string (⟨#[101, 118, 101, 110]⟩ : ByteArray), .func (.func 289) #[] #[], .func (.func 290) #[] #[]]) w6 (fun w7 =>
 doMu Tryz.prog 300 (.map (some b1)) (.int .u8 6) (.agg #[.string (⟨#[108, 111, 119]⟩ : ByteArray), .func (.func 291) #[] #[], .func (.func 292) #[] #[]]) w7 (fun w8 =>
 doMu Tryz.prog 300 (.map (some b1)) (.int .u8 7) (.agg #[.string (⟨#[109, 105, 120]⟩ : ByteArray), .func (.func 293) #[] #[], .func (.func 294) #[] #[]]) w8 (fun w9 =>
 R (.returned (.map (some b1))) w9))))))))
set_option maxRecDepth 100000 in
theorem sh235_ok  {R : Ending → World → Prop} {w : World} : sh235  R w → Calls Tryz.prog 235 #[] w R :=
  calls_of_eq (ann := fun _ => []) (fn := Tryz.f235) (c := bodyOf Tryz.f235) (args := #[]) 400 follows_mixed Tryz.func235 (by kernel_rfl) (by kernel_rfl)
set_option maxRecDepth 100000 in
/-- slices.stableCmpFunc[joinery/api.Pair] -/
def sh236 (data_p1 : Option Addr) (data_n2 : Nat) (data_c3 : Nat) (n_4 : Int) (cmp_f5 : Fn) (cmp_x6 : Array Value) (cmp_c7 : Array Value) (R : Ending → World → Prop) (w : World) : Prop :=
 ∃ (I8 : List Value → World → Prop) (μ9 : List Value → World → Nat), I8 [.int .i64 0, .int .i64 20] w ∧ (∀ (a_12 : Int), ∀ (b_13 : Int), ∀ (_j10 : Nat → Value) (w11 : World), I8 [.int .i64 a_12, .int .i64 b_13] w11 → (
 ifB (decide ((b_13 : Int) ≤ n_4)) (
 doCall Tryz.prog (.func (.func 296) #[] #[]) #[.slice data_p1 data_n2 data_c3, .int .i64 a_12, .int .i64 b_13, .func cmp_f5 cmp_x6 cmp_c7] w11 (retS (fun v14 w15 => v14 = (.tuple #[] : Value) ∧ (
 I8 [.int .i64 b_13, .int .i64 (IntKind.wrap .i64 (b_13 + 20))] w15 ∧ μ9 [.int .i64 b_13, .int .i64 (IntKind.wrap .i64 (b_13 + 20))] w15 < μ9 [.int .i64 a_12, .int .i64 b_13] w11)) (fun ch w => Kfn R ch [] w))) (
 doCall Tryz.prog (.func (.func 296) #[] #[]) #[.slice data_p1 data_n2 data_c3, .int .i64 a_12, .int .i64 n_4, .func cmp_f5 cmp_x6 cmp_c7] w11 (retS (fun v16 w17 => v16 = (.tuple #[] : Value) ∧ (
 ∃ (I18 : List Value → World → Prop) (μ19 : List Value → World → Nat), I18 [.int .i64 20] w17 ∧ (∀ (blockSize_22 : Int), ∀ (_j20 : Nat → Value) (w21 : World), I18 [.int .i64 blockSize_22] w21 → (
 ifB (decide ((blockSize_22 : Int) < n_4)) (
 ∃ (I23 : List Value → World → Prop) (μ24 : List Value → World → Nat), I23 [.int .i64 0, .int .i64 (IntKind.wrap .i64 (2 * blockSize_22))] w21 ∧ (∀ (a_27 : Int), ∀ (b_28 : Int), ∀ (_j25 : Nat → Value) (w26 : World), I23 [.int .i64 a_27, .int .i64 b_28] w26 → (
 ifB (decide ((b_28 : Int) ≤ n_4)) (
 doCall Tryz.prog (.func (.func 297) #[] #[]) #[.slice data_p1 data_n2 data_c3, .int .i64 a_27, .int .i64 (IntKind.wrap .i64 (a_27 + blockSize_22)), .int .i64 b_28, .func cmp_f5 cmp_x6 cmp_c7] w26 (retS (fun v29 w30 => v29 = (.tuple #[] : Value) ∧ (
 I23 [.int .i64 b_28, .int .i64 (IntKind.wrap .i64 (b_28 + (IntKind.wrap .i64 (2 * blockSize_22))))] w30 ∧ μ24 [.int .i64 b_28, .int .i64 (IntKind.wrap .i64 (b_28 + (IntKind.wrap .i64 (2 * blockSize_22))))] w30 < μ24 [.int .i64 a_27, .int .i64 b_28] w26)) (fun ch w => Kfn R ch [] w))) (
 let K32 : World → Prop := fun (w31 : World) => 
 I18 [.int .i64 (IntKind.wrap .i64 (blockSize_22 * 2))] w31 ∧ μ19 [.int .i64 (IntKind.wrap .i64 (blockSize_22 * 2))] w31 < μ19 [.int .i64 blockSize_22] w21
 ifB (decide (((IntKind.wrap .i64 (a_27 + blockSize_22)) : Int) < n_4)) (
 doCall Tryz.prog (.func (.func 297) #[] #[]) #[.slice data_p1 data_n2 data_c3, .int .i64 a_27, .int .i64 (IntKind.wrap .i64 (a_27 + blockSize_22)), .int .i64 n_4, .func cmp_f5 cmp_x6 cmp_c7] w26 (retS (fun v33 w34 => v33 = (.tuple #[] : Value) ∧ (
 K32 w34)) (fun ch w => Kfn R ch [] w))) (
 K32 w26))))) (
 R (.returned (.tuple #[])) w21))))) (fun ch w => Kfn R ch [] w)))))
set_option maxRecDepth 100000 in
theorem sh236_ok (data_p1 : Option Addr) (data_n2 : Nat) (data_c3 : Nat) (n_4 : Int) (cmp_f5 : Fn) (cmp_x6 : Array Value) (cmp_c7 : Array Value) {R : Ending → World → Prop} {w : World} : sh236 data_p1 data_n2 data_c3 n_4 cmp_f5 cmp_x6 cmp_c7 R w → Calls Tryz.prog 236 #[.slice data_p1 data_n2 data_c3, .int .i64 n_4, .func cmp_f5 cmp_x6 cmp_c7] w R :=
  calls_of_eq (ann := fun i => if i = 4 then [(7, .int .i64 0), (8, .int .i64 0)] else if i = 2 then [(6, .int .i64 0)] else if i = 0 then [(7, .int .i64 0), (8, .int .i64 0)] else []) (fn := Tryz.f236) (c := bodyOf Tryz.f236) (args := #[.slice data_p1 data_n2 data_c3, .int .i64 n_4, .func cmp_f5 cmp_x6 cmp_c7]) 400 follows_mixed Tryz.func236 (by kernel_rfl) (by kernel_rfl)
set_option maxRecDepth 100000 in
/-- joinery/joineryref04.Find -/
def sh237 (o_1 : Int) (l_p2 : Option Addr) (l_n3 : Nat) (l_c4 : Nat) (key_5 : Int) (R : Ending → World → Prop) (w : World) : Prop :=
 doCall Tryz.prog (.func (.func 30) #[] #[]) #[.int .u8 o_1, .slice l_p2 l_n3 l_c4] w (retS (fun v7 w8 => ∃ (x6 : Bool), v7 = (.bool x6 : Value) ∧ (
 ifB (!x6) (
 R (.returned (.tuple #[.int .i64 0, .bool false])) w8) (
 ∃ (I9 : List Value → World → Prop) (μ10 : List Value → World → Nat), I9 [.int .i64 0] w8 ∧ (∀ (i_13 : Int), ∀ (_j11 : Nat → Value) (w12 : World), I9 [.int .i64 i_13] w12 → (
 ifB (decide ((i_13 : Int) < ((l_n3 : Nat) : Int))) (
 doIx l_p2 l_n3 2 (i_13) (fun a14 =>
 ∃ (x15 : Int), World.cell? w12 (a14.add 0) = some (.int .i64 x15) ∧ (
 doCall Tryz.prog (.func (.func 100) #[] #[]) #[.int .u8 o_1, .int .i64 x15, .int .i64 key_5] w12 (retS (fun v17 w18 => ∃ (x16 : Bool), v17 = (.bool x16 : Value) ∧ (
 ifB (!x16) (
 doDr w18 (fun w20 =>
 ∃ (C19 : World → Prop), C19 w20 ∧ (
 doIx l_p2 l_n3 2 (i_13) (fun a21 =>
 ∃ (x22 : Int), (∀ w, C19 w → World.cell? w (a21.add 0) = some (.int .i64 x22)) ∧ (
 R (.returned (.tuple #[.int .i64 i_13, .bool ((x22 : Int) == key_5)])) w20))))) (
 I9 [.int .i64 (IntKind.wrap .i64 (i_13 + 1))] w18 ∧ μ10 [.int .i64 (IntKind.wrap .i64 (i_13 + 1))] w18 < μ10 [.int .i64 i_13] w12))) (fun ch w => Kfn R ch [] w))))) (
 R (.returned (.tuple #[.int .i64 ((l_n3 : Nat) : Int), .bool false])) w12)))))) (fun ch w => Kfn R ch [] w))
set_option maxRecDepth 100000 in
theorem sh237_ok (o_1 : Int) (l_p2 : Option Addr) (l_n3 : Nat) (l_c4 : Nat) (key_5 : Int) {R : Ending → World → Prop} {w : World} : sh237 o_1 l_p2 l_n3 l_c4 key_5 R w → Calls Tryz.prog 237 #[.int .u8 o_1, .slice l_p2 l_n3 l_c4, .int .i64 key_5] w R :=
  calls_of_eq (ann := fun i => if i = 0 then [(8, .int .i64 0)] else []) (fn := Tryz.f237) (c := bodyOf Tryz.f237) (args := #[.int .u8 o_1, .slice l_p2 l_n3 l_c4, .int .i64 key_5]) 400 follows_mixed Tryz.func237 (by kernel_rfl) (by kernel_rfl)
set_option maxRecDepth 100000 in
/-- joinery/joineryref03.Combine -/
def sh238 (p_1 : Int) (a_2 : Int) (b_3 : Int) (R : Ending → World → Prop) (w : World) : Prop :=
 ifB ((p_1 : Int) == 1) (
 R (.returned (.int .i64 a_2)) w) (
 ifB ((p_1 : Int) == 2) (
 R (.returned (.int .i64 b_3)) w) (
 R (.returned (.int .i64 (IntKind.wrap .i64 (a_2 + b_3)))) w))
set_option maxRecDepth 100000 in
theorem sh238_ok (p_1 : Int) (a_2 : Int) (b_3 : Int) {R : Ending → World → Prop} {w : World} : sh238 p_1 a_2 b_3 R w → Calls Tryz.prog 238 #[.int .u8 p_1, .int .i64 a_2, .int .i64 b_3] w R :=
  calls_of_eq (ann := fun _ => []) (fn := Tryz.f238) (c := bodyOf Tryz.f238) (args := #[.int .u8 p_1, .int .i64 a_2, .int .i64 b_3]) 400 follows_mixed Tryz.func238 (by kernel_rfl) (by kernel_rfl)
end Go.Proofs.YtlddfgfmkapoiaaGreat

