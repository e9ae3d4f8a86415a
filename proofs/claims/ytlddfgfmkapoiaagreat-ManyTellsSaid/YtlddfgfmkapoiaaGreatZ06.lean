/-
  Printed by a program (gen.py): what the functions of the program do, as formulas; each with the proof that its call is what the formula says.
-/
/-
  Printed by a program (gen.py): what the functions of the program do, as formulas; each with the proof that its call is what the formula says.
-/
/-
  Printed by a program (gen.py): what the functions of the program do, as formulas; each with the proof that its call is what the formula says.
-/
/-
  Printed by a program (gen.py): what the functions of the program do, as formulas; each with the proof that its call is what the formula says.
-/
/-
  Printed by a program (gen.py): what the functions of the program do, as formulas; each with the proof that its call is what the formula says.
-/
/-
  Printed by a program (gen.py): what the functions of the program do, as formulas; each with the proof that its call is what the formula says.
-/
/-
  Printed by a program (gen.py): what the functions of the program do, as formulas; each with the proof that its call is what the formula says.
-/
import Derived.Test.YtlddfgfmkapoiaaGreatZ02
import Derived.Test.YtlddfgfmkapoiaaGreatProg
import Derived.Test.YtlddfgfmkapoiaaGreatZ05

namespace Go.Proofs.YtlddfgfmkapoiaaGreat
open Go Go.Sh
set_option maxRecDepth 100000 in
/-- joinery/joineryref27.Items -/
def sh35 (code_1 : Int) (d_2 : Option Addr) (l_p3 : Option Addr) (l_n4 : Nat) (_l_c5 : Nat) (R : Ending → World → Prop) (w : World) : Prop :=
 ∃ (I6 : List Value → World → Prop) (μ7 : List Value → World → Nat), I6 [.slice none 0 0, .int .i64 0] w ∧ (∀ (out_p10 : Option Addr), ∀ (out_n11 : Nat), ∀ (out_c12 : Nat), ∀ (i_13 : Int), ∀ (_j8 : Nat → Value) (w9 : World), I6 [.slice out_p10 out_n11 out_c12, .int .i64 i_13] w9 → (
 ifB (decide ((i_13 : Int) < ((l_n4 : Nat) : Int))) (
 doDr w9 (fun w15 =>
 ∃ (C14 : World → Prop), C14 w15 ∧ (
 doIx l_p3 l_n4 2 (i_13) (fun a16 =>
 ∃ (x17 : Int), (∀ w, C14 w → World.cell? w (a16.add 0) = some (.int .i64 x17)) ∧ (
 doIx l_p3 l_n4 2 (i_13) (fun a18 =>
 ∃ (x19 : Int), (∀ w, C14 w → World.cell? w (a18.add 1) = some (.int .i64 x19)) ∧ (
 doAl (.cells #[.int .i64 0, .int .i64 0, .int .u64 0] 114) w15 (fun b20 w21 =>
 C14 w21 ∧ (
 doSt ((blk b20).add 0) (.int .i64 x17) w21 (fun w22 =>
 doSt ((blk b20).add 1) (.int .i64 x19) w22 (fun w23 =>
 doSt ((blk b20).add 2) (.int .u64 0) w23 (fun w24 =>
 let K26 : World → Prop := fun (w25 : World) => 
 ∃ (x27 : Int), World.cell? w25 ((blk b20).add 0) = some (.int .i64 x27) ∧ (
 ∃ (x28 : Int), World.cell? w25 ((blk b20).add 1) = some (.int .i64 x28) ∧ (
 ∃ (x29 : Int), World.cell? w25 ((blk b20).add 2) = some (.int .u64 x29) ∧ (
 doAl (.cells #[.int .i64 x27, .int .i64 x28, .int .u64 x29] 114) w25 (fun b30 w31 =>
 doGo Tryz.prog (.builtin .append #[40, 40] 40 #[false, false]) #[.slice out_p10 out_n11 out_c12, .slice (some (blk b30)) 1 1] w31 (retS (fun v35 w36 => ∃ (xp32 : Option Addr), ∃ (xn33 : Nat), ∃ (xc34 : Nat), v35 = (.slice xp32 xn33 xc34 : Value) ∧ (
 I6 [.slice xp32 xn33 xc34, .int .i64 (IntKind.wrap .i64 (i_13 + 1))] w36 ∧ μ7 [.slice xp32 xn33 xc34, .int .i64 (IntKind.wrap .i64 (i_13 + 1))] w36 < μ7 [.slice out_p10 out_n11 out_c12, .int .i64 i_13] w9)) (fun ch w => Kfn R ch [] w))))))
 ifB ((code_1 : Int) == 4) (
 doIx l_p3 l_n4 2 (i_13) (fun a37 =>
 ∃ (x38 : Int), World.cell? w24 (a37.add 0) = some (.int .i64 x38) ∧ (
 doCall Tryz.prog (.func (.func 103) #[] #[]) #[.pointer d_2, .int .i64 x38] w24 (retS (fun v40 w41 => ∃ (x39 : Int), v40 = (.int .u64 x39 : Value) ∧ (
 doSt (((blk b20).add 2).add 0) (.int .u64 x39) w41 (fun w42 =>
 K26 w42))) (fun ch w => Kfn R ch [] w))))) (
 K26 w24))))))))))))) (
 R (.returned (.slice out_p10 out_n11 out_c12)) w9)))
set_option maxRecDepth 100000 in
theorem sh35_ok (code_1 : Int) (d_2 : Option Addr) (l_p3 : Option Addr) (l_n4 : Nat) (l_c5 : Nat) {R : Ending → World → Prop} {w : World} : sh35 code_1 d_2 l_p3 l_n4 l_c5 R w → Calls Tryz.prog 35 #[.int .u8 code_1, .pointer d_2, .slice l_p3 l_n4 l_c5] w R :=
  calls_of_eq (ann := fun i => if i = 0 then [(7, .slice none 0 0), (8, .int .i64 0)] else []) (fn := Tryz.f35) (c := bodyOf Tryz.f35) (args := #[.int .u8 code_1, .pointer d_2, .slice l_p3 l_n4 l_c5]) 400 follows_mixed Tryz.func35 (by kernel_rfl) (by kernel_rfl)
set_option maxRecDepth 100000 in
/-- joinery/joinerylaw31.nothing -/
def sh37 (o_1 : Int) (p_2 : Int) (R : Ending → World → Prop) (w : World) : Prop :=
 doCall Tryz.prog (.func (.func 15) #[] #[]) #[.int .u8 1] w (retS (fun v5 w6 => ∃ (x3 : Option Addr), ∃ (x4 : Bool), v5 = (.tuple #[.pointer x3, .bool x4] : Value) ∧ (
 doCall Tryz.prog (.func (.func 105) #[] #[]) #[.pointer none, .int .i64 1, .int .i64 1, .int .u64 1, .pointer none] w6 (retS (fun v8 w9 => ∃ (x7 : Option Addr), v8 = (.pointer x7 : Value) ∧ (
 doCall Tryz.prog (.func (.func 41) #[] #[]) #[.pointer none, .int .u8 1, .int .u8 3, .pointer none, .pointer x7, .slice none 0 0] w9 (retS (fun v12 w13 => ∃ (x10 : Option Addr), ∃ (x11 : Int), v12 = (.tuple #[.pointer x10, .int .i64 x11] : Value) ∧ (
 doCall Tryz.prog (.func (.func 42) #[] #[]) #[.pointer none, .int .u8 1, .pointer x7, .slice none 0 0] w13 (retS (fun v16 w17 => ∃ (x14 : Option Addr), ∃ (x15 : Int), v16 = (.tuple #[.pointer x14, .int .i64 x15] : Value) ∧ (
 doAl (.cells #[.int .i64 1] 2) w17 (fun b18 w19 =>
 doCall Tryz.prog (.func (.func 43) #[] #[]) #[.pointer x3, .int .u8 o_1, .pointer x7, .slice (some (blk b18)) 1 1] w19 (retS (fun v22 w23 => ∃ (x20 : Option Addr), ∃ (x21 : Int), v22 = (.tuple #[.pointer x20, .int .i64 x21] : Value) ∧ (
 doCall Tryz.prog (.func (.func 41) #[] #[]) #[.pointer x3, .int .u8 o_1, .int .u8 p_2, .pointer none, .pointer x7, .slice none 0 0] w23 (retS (fun v26 w27 => ∃ (x24 : Option Addr), ∃ (x25 : Int), v26 = (.tuple #[.pointer x24, .int .i64 x25] : Value) ∧ (
 let K30 : Bool → World → Prop := fun (x28 : Bool) (w29 : World) => 
 ifB x28 (
 R (.returned (.bool false)) w29) (
 let K32 : World → Prop := fun (w31 : World) => 
 let K35 : Bool → World → Prop := fun (x33 : Bool) (w34 : World) => 
 R (.returned (.bool x33)) w34
 doCall Tryz.prog (.func (.func 16) #[] #[]) #[.int .u8 o_1] w31 (retS (fun v37 w38 => ∃ (x36 : Bool), v37 = (.bool x36 : Value) ∧ (
 ifB x36 (
 doCall Tryz.prog (.func (.func 17) #[] #[]) #[.int .u8 p_2] w38 (retS (fun v40 w41 => ∃ (x39 : Bool), v40 = (.bool x39 : Value) ∧ (
 ifB x39 (
 R (.returned (.bool true)) w41) (
 ifB ((x24).isNone) (
 K35 ((x25 : Int) == 2) w41) (
 R (.returned (.bool false)) w41)))) (fun ch w => Kfn R ch [] w))) (
 ifB ((x24).isNone) (
 K35 ((x25 : Int) == 2) w38) (
 R (.returned (.bool false)) w38)))) (fun ch w => Kfn R ch [] w))
 let K44 : Bool → World → Prop := fun (x42 : Bool) (w43 : World) => 
 ifB x42 (
 R (.returned (.bool false)) w43) (
 K32 w43)
 doCall Tryz.prog (.func (.func 16) #[] #[]) #[.int .u8 o_1] w29 (retS (fun v46 w47 => ∃ (x45 : Bool), v46 = (.bool x45 : Value) ∧ (
 ifB (!x45) (
 ifB (!(x20).isNone) (
 R (.returned (.bool false)) w47) (
 K44 ((x21 : Int) != 2) w47)) (
 K32 w47))) (fun ch w => Kfn R ch [] w)))
 ifB (!(x10).isNone) (
 R (.returned (.bool false)) w27) (
 ifB ((x11 : Int) != 2) (
 R (.returned (.bool false)) w27) (
 ifB (!(x14).isNone) (
 R (.returned (.bool false)) w27) (
 K30 ((x15 : Int) != 2) w27))))) (fun ch w => Kfn R ch [] w)))) (fun ch w => Kfn R ch [] w))))) (fun ch w => Kfn R ch [] w)))) (fun ch w => Kfn R ch [] w)))) (fun ch w => Kfn R ch [] w)))) (fun ch w => Kfn R ch [] w))
set_option maxRecDepth 100000 in
theorem sh37_ok (o_1 : Int) (p_2 : Int) {R : Ending → World → Prop} {w : World} : sh37 o_1 p_2 R w → Calls Tryz.prog 37 #[.int .u8 o_1, .int .u8 p_2] w R :=
  calls_of_eq (ann := fun _ => []) (fn := Tryz.f37) (c := bodyOf Tryz.f37) (args := #[.int .u8 o_1, .int .u8 p_2]) 400 follows_mixed Tryz.func37 (by kernel_rfl) (by kernel_rfl)
set_option maxRecDepth 100000 in
/-- joinery/joinerylaw31.alive -/
def sh38  (R : Ending → World → Prop) (w : World) : Prop :=
 doCall Tryz.prog (.func (.func 15) #[] #[]) #[.int .u8 4] w (retS (fun v3 w4 => ∃ (x1 : Option Addr), ∃ (x2 : Bool), v3 = (.tuple #[.pointer x1, .bool x2] : Value) ∧ (
 ifB (!x2) (
 R (.returned (.bool false)) w4) (
 doCall Tryz.prog (.func (.func 106) #[] #[]) #[.pointer x1, .pointer none, .agg #[.int .i64 1, .int .i64 10, .int .u64 4], .pointer none] w4 (retS (fun v6 w7 => ∃ (x5 : Option Addr), v6 = (.pointer x5 : Value) ∧ (
 doAl (.cells #[.int .i64 2, .int .i64 5, .int .i64 1, .int .i64 1, .int .i64 2, .int .i64 6] 46) w7 (fun b8 w9 =>
 doCall Tryz.prog (.func (.func 41) #[] #[]) #[.pointer x1, .int .u8 1, .int .u8 3, .pointer none, .pointer x5, .slice (some (blk b8)) 3 3] w9 (retS (fun v12 w13 => ∃ (x10 : Option Addr), ∃ (x11 : Int), v12 = (.tuple #[.pointer x10, .int .i64 x11] : Value) ∧ (
 doAl (.cells #[.int .i64 1, .int .i64 7] 2) w13 (fun b14 w15 =>
 doCall Tryz.prog (.func (.func 42) #[] #[]) #[.pointer x1, .int .u8 1, .pointer x10, .slice (some (blk b14)) 2 2] w15 (retS (fun v18 w19 => ∃ (x16 : Option Addr), ∃ (x17 : Int), v18 = (.tuple #[.pointer x16, .int .i64 x17] : Value) ∧ (
 doAl (.cells #[.int .i64 1, .int .i64 7] 2) w19 (fun b20 w21 =>
 doCall Tryz.prog (.func (.func 43) #[] #[]) #[.pointer x1, .int .u8 1, .pointer x10, .slice (some (blk b20)) 2 2] w21 (retS (fun v24 w25 => ∃ (x22 : Option Addr), ∃ (x23 : Int), v24 = (.tuple #[.pointer x22, .int .i64 x23] : Value) ∧ (
 let K28 : Bool → World → Prop := fun (x26 : Bool) (w27 : World) => 
 R (.returned (.bool x26)) w27
 ifB ((x11 : Int) == 0) (
 ifB ((x17 : Int) == 0) (
 ifB ((x23 : Int) == 0) (
 doCall Tryz.prog (.func (.func 91) #[] #[]) #[.pointer x10] w25 (retS (fun v30 w31 => ∃ (x29 : Int), v30 = (.int .i64 x29 : Value) ∧ (
 ifB ((x29 : Int) == 2) (
 doCall Tryz.prog (.func (.func 107) #[] #[]) #[.pointer x10] w31 (retS (fun v33 w34 => ∃ (x32 : Int), v33 = (.int .i64 x32 : Value) ∧ (
 ifB ((x32 : Int) == 22) (
 doCall Tryz.prog (.func (.func 91) #[] #[]) #[.pointer x16] w34 (retS (fun v36 w37 => ∃ (x35 : Int), v36 = (.int .i64 x35 : Value) ∧ (
 ifB ((x35 : Int) == 1) (
 doCall Tryz.prog (.func (.func 107) #[] #[]) #[.pointer x16] w37 (retS (fun v39 w40 => ∃ (x38 : Int), v39 = (.int .i64 x38 : Value) ∧ (
 ifB ((x38 : Int) == 11) (
 doCall Tryz.prog (.func (.func 108) #[] #[]) #[.pointer x16] w40 (retS (fun v42 w43 => ∃ (x41 : Int), v42 = (.int .i64 x41 : Value) ∧ (
 ifB ((x41 : Int) == 2) (
 doAl (.cells #[.int .i64 1, .int .i64 11, .int .u64 4] 114) w43 (fun b44 w45 =>
 doCall Tryz.prog (.func (.func 27) #[] #[]) #[.int .u8 4, .pointer x22, .slice (some (blk b44)) 1 1] w45 (retS (fun v47 w48 => ∃ (x46 : Bool), v47 = (.bool x46 : Value) ∧ (
 K28 x46 w48)) (fun ch w => Kfn R ch [] w)))) (
 R (.returned (.bool false)) w43))) (fun ch w => Kfn R ch [] w))) (
 R (.returned (.bool false)) w40))) (fun ch w => Kfn R ch [] w))) (
 R (.returned (.bool false)) w37))) (fun ch w => Kfn R ch [] w))) (
 R (.returned (.bool false)) w34))) (fun ch w => Kfn R ch [] w))) (
 R (.returned (.bool false)) w31))) (fun ch w => Kfn R ch [] w))) (
 R (.returned (.bool false)) w25)) (
 R (.returned (.bool false)) w25)) (
 R (.returned (.bool false)) w25))) (fun ch w => Kfn R ch [] w))))) (fun ch w => Kfn R ch [] w))))) (fun ch w => Kfn R ch [] w))))) (fun ch w => Kfn R ch [] w))))) (fun ch w => Kfn R ch [] w))
set_option maxRecDepth 100000 in
theorem sh38_ok  {R : Ending → World → Prop} {w : World} : sh38  R w → Calls Tryz.prog 38 #[] w R :=
  calls_of_eq (ann := fun _ => []) (fn := Tryz.f38) (c := bodyOf Tryz.f38) (args := #[]) 400 follows_mixed Tryz.func38 (by kernel_rfl) (by kernel_rfl)
set_option maxRecDepth 100000 in
/-- joinery/many.Puts -/
def sh41 (s_1 : Option Addr) (o_2 : Int) (p_3 : Int) (d_4 : Option Addr) (t_5 : Option Addr) (l_p6 : Option Addr) (l_n7 : Nat) (l_c8 : Nat) (R : Ending → World → Prop) (w : World) : Prop :=
 doCall Tryz.prog (.func (.func 23) #[] #[]) #[.pointer s_1, .int .u8 o_2, .int .u8 p_3, .pointer d_4, .slice l_p6 l_n7 l_c8] w (retS (fun v11 w12 => ∃ (x9 : Option Addr), ∃ (x10 : Int), v11 = (.tuple #[.pointer x9, .int .i64 x10] : Value) ∧ (
 ifB ((x10 : Int) != 0) (
 R (.returned (.tuple #[.pointer none, .int .i64 x10])) w12) (
 doCall Tryz.prog (.func (.func 86) #[] #[]) #[.pointer s_1, .int .u8 o_2, .int .u8 p_3, .pointer t_5, .pointer x9] w12 (retS (fun v15 w16 => ∃ (x13 : Option Addr), ∃ (x14 : Int), v15 = (.tuple #[.pointer x13, .int .i64 x14] : Value) ∧ (
 R (.returned (.tuple #[.pointer x13, .int .i64 x14])) w16)) (fun ch w => Kfn R ch [] w))))) (fun ch w => Kfn R ch [] w))
set_option maxRecDepth 100000 in
theorem sh41_ok (s_1 : Option Addr) (o_2 : Int) (p_3 : Int) (d_4 : Option Addr) (t_5 : Option Addr) (l_p6 : Option Addr) (l_n7 : Nat) (l_c8 : Nat) {R : Ending → World → Prop} {w : World} : sh41 s_1 o_2 p_3 d_4 t_5 l_p6 l_n7 l_c8 R w → Calls Tryz.prog 41 #[.pointer s_1, .int .u8 o_2, .int .u8 p_3, .pointer d_4, .pointer t_5, .slice l_p6 l_n7 l_c8] w R :=
  calls_of_eq (ann := fun _ => []) (fn := Tryz.f41) (c := bodyOf Tryz.f41) (args := #[.pointer s_1, .int .u8 o_2, .int .u8 p_3, .pointer d_4, .pointer t_5, .slice l_p6 l_n7 l_c8]) 400 follows_mixed Tryz.func41 (by kernel_rfl) (by kernel_rfl)
set_option maxRecDepth 100000 in
/-- joinery/many.Drops -/
def sh42 (s_1 : Option Addr) (o_2 : Int) (t_3 : Option Addr) (keys_p4 : Option Addr) (keys_n5 : Nat) (keys_c6 : Nat) (R : Ending → World → Prop) (w : World) : Prop :=
 doCall Tryz.prog (.func (.func 111) #[] #[]) #[.agg #[.func (.func 88) #[] #[]], .pointer s_1, .int .u8 o_2, .pointer t_3, .slice keys_p4 keys_n5 keys_c6] w (retS (fun v9 w10 => ∃ (x7 : Option Addr), ∃ (x8 : Int), v9 = (.tuple #[.pointer x7, .int .i64 x8] : Value) ∧ (
 R (.returned (.tuple #[.pointer x7, .int .i64 x8])) w10)) (fun ch w => Kfn R ch [] w))
set_option maxRecDepth 100000 in
theorem sh42_ok (s_1 : Option Addr) (o_2 : Int) (t_3 : Option Addr) (keys_p4 : Option Addr) (keys_n5 : Nat) (keys_c6 : Nat) {R : Ending → World → Prop} {w : World} : sh42 s_1 o_2 t_3 keys_p4 keys_n5 keys_c6 R w → Calls Tryz.prog 42 #[.pointer s_1, .int .u8 o_2, .pointer t_3, .slice keys_p4 keys_n5 keys_c6] w R :=
  calls_of_eq (ann := fun _ => []) (fn := Tryz.f42) (c := bodyOf Tryz.f42) (args := #[.pointer s_1, .int .u8 o_2, .pointer t_3, .slice keys_p4 keys_n5 keys_c6]) 400 follows_mixed Tryz.func42 (by kernel_rfl) (by kernel_rfl)
set_option maxRecDepth 100000 in
/-- joinery/many.Holds -/
def sh43 (s_1 : Option Addr) (o_2 : Int) (t_3 : Option Addr) (keys_p4 : Option Addr) (keys_n5 : Nat) (keys_c6 : Nat) (R : Ending → World → Prop) (w : World) : Prop :=
 doCall Tryz.prog (.func (.func 111) #[] #[]) #[.agg #[.func (.func 112) #[] #[]], .pointer s_1, .int .u8 o_2, .pointer t_3, .slice keys_p4 keys_n5 keys_c6] w (retS (fun v9 w10 => ∃ (x7 : Option Addr), ∃ (x8 : Int), v9 = (.tuple #[.pointer x7, .int .i64 x8] : Value) ∧ (
 R (.returned (.tuple #[.pointer x7, .int .i64 x8])) w10)) (fun ch w => Kfn R ch [] w))
set_option maxRecDepth 100000 in
theorem sh43_ok (s_1 : Option Addr) (o_2 : Int) (t_3 : Option Addr) (keys_p4 : Option Addr) (keys_n5 : Nat) (keys_c6 : Nat) {R : Ending → World → Prop} {w : World} : sh43 s_1 o_2 t_3 keys_p4 keys_n5 keys_c6 R w → Calls Tryz.prog 43 #[.pointer s_1, .int .u8 o_2, .pointer t_3, .slice keys_p4 keys_n5 keys_c6] w R :=
  calls_of_eq (ann := fun _ => []) (fn := Tryz.f43) (c := bodyOf Tryz.f43) (args := #[.pointer s_1, .int .u8 o_2, .pointer t_3, .slice keys_p4 keys_n5 keys_c6]) 400 follows_mixed Tryz.func43 (by kernel_rfl) (by kernel_rfl)
set_option maxRecDepth 100000 in
/-- joinery/joineryref31.Puts -/
def sh44 (code_1 : Int) (o_2 : Int) (p_3 : Int) (d_4 : Option Addr) (l_p5 : Option Addr) (l_n6 : Nat) (l_c7 : Nat) (x_p8 : Option Addr) (x_n9 : Nat) (x_c10 : Nat) (R : Ending → World → Prop) (w : World) : Prop :=
 doCall Tryz.prog (.func (.func 25) #[] #[]) #[.int .u8 code_1, .int .u8 o_2, .int .u8 p_3, .pointer d_4, .slice x_p8 x_n9 x_c10] w (retS (fun v14 w15 => ∃ (xp11 : Option Addr), ∃ (xn12 : Nat), ∃ (xc13 : Nat), v14 = (.slice xp11 xn12 xc13 : Value) ∧ (
 doCall Tryz.prog (.func (.func 113) #[] #[]) #[.int .u8 o_2, .int .u8 p_3, .slice l_p5 l_n6 l_c7, .slice xp11 xn12 xc13] w15 (retS (fun v19 w20 => ∃ (xp16 : Option Addr), ∃ (xn17 : Nat), ∃ (xc18 : Nat), v19 = (.slice xp16 xn17 xc18 : Value) ∧ (
 R (.returned (.slice xp16 xn17 xc18)) w20)) (fun ch w => Kfn R ch [] w)))) (fun ch w => Kfn R ch [] w))
set_option maxRecDepth 100000 in
theorem sh44_ok (code_1 : Int) (o_2 : Int) (p_3 : Int) (d_4 : Option Addr) (l_p5 : Option Addr) (l_n6 : Nat) (l_c7 : Nat) (x_p8 : Option Addr) (x_n9 : Nat) (x_c10 : Nat) {R : Ending → World → Prop} {w : World} : sh44 code_1 o_2 p_3 d_4 l_p5 l_n6 l_c7 x_p8 x_n9 x_c10 R w → Calls Tryz.prog 44 #[.int .u8 code_1, .int .u8 o_2, .int .u8 p_3, .pointer d_4, .slice l_p5 l_n6 l_c7, .slice x_p8 x_n9 x_c10] w R :=
  calls_of_eq (ann := fun _ => []) (fn := Tryz.f44) (c := bodyOf Tryz.f44) (args := #[.int .u8 code_1, .int .u8 o_2, .int .u8 p_3, .pointer d_4, .slice l_p5 l_n6 l_c7, .slice x_p8 x_n9 x_c10]) 400 follows_mixed Tryz.func44 (by kernel_rfl) (by kernel_rfl)
set_option maxRecDepth 100000 in
/-- joinery/joineryref31.Keep -/
def sh45 (l_p1 : Option Addr) (l_n2 : Nat) (_l_c3 : Nat) (keys_p4 : Option Addr) (keys_n5 : Nat) (keys_c6 : Nat) (are_7 : Bool) (R : Ending → World → Prop) (w : World) : Prop :=
 ∃ (I8 : List Value → World → Prop) (μ9 : List Value → World → Nat), I8 [.slice none 0 0, .int .i64 0] w ∧ (∀ (out_p12 : Option Addr), ∀ (out_n13 : Nat), ∀ (out_c14 : Nat), ∀ (i_15 : Int), ∀ (_j10 : Nat → Value) (w11 : World), I8 [.slice out_p12 out_n13 out_c14, .int .i64 i_15] w11 → (
 ifB (decide ((i_15 : Int) < ((l_n2 : Nat) : Int))) (
 let K20 : (Option Addr) → Nat → Nat → World → Prop := fun (out_p16 : Option Addr) (out_n17 : Nat) (out_c18 : Nat) (w19 : World) => 
 I8 [.slice out_p16 out_n17 out_c18, .int .i64 (IntKind.wrap .i64 (i_15 + 1))] w19 ∧ μ9 [.slice out_p16 out_n17 out_c18, .int .i64 (IntKind.wrap .i64 (i_15 + 1))] w19 < μ9 [.slice out_p12 out_n13 out_c14, .int .i64 i_15] w11
 doIx l_p1 l_n2 3 (i_15) (fun a21 =>
 ∃ (x22 : Int), World.cell? w11 (a21.add 0) = some (.int .i64 x22) ∧ (
 doCall Tryz.prog (.func (.func 114) #[] #[]) #[.slice keys_p4 keys_n5 keys_c6, .int .i64 x22] w11 (retS (fun v24 w25 => ∃ (x23 : Bool), v24 = (.bool x23 : Value) ∧ (
 ifB (x23 == are_7) (
 doIx l_p1 l_n2 3 (i_15) (fun a26 =>
 ∃ (x27 : Int), World.cell? w25 (a26.add 0) = some (.int .i64 x27) ∧ (
 ∃ (x28 : Int), World.cell? w25 (a26.add 1) = some (.int .i64 x28) ∧ (
 ∃ (x29 : Int), World.cell? w25 (a26.add 2) = some (.int .u64 x29) ∧ (
 doAl (.cells #[.int .i64 x27, .int .i64 x28, .int .u64 x29] 114) w25 (fun b30 w31 =>
 doGo Tryz.prog (.builtin .append #[40, 40] 40 #[false, false]) #[.slice out_p12 out_n13 out_c14, .slice (some (blk b30)) 1 1] w31 (retS (fun v35 w36 => ∃ (xp32 : Option Addr), ∃ (xn33 : Nat), ∃ (xc34 : Nat), v35 = (.slice xp32 xn33 xc34 : Value) ∧ (
 K20 xp32 xn33 xc34 w36)) (fun ch w => Kfn R ch [] w)))))))) (
 K20 out_p12 out_n13 out_c14 w25))) (fun ch w => Kfn R ch [] w))))) (
 R (.returned (.slice out_p12 out_n13 out_c14)) w11)))
set_option maxRecDepth 100000 in
theorem sh45_ok (l_p1 : Option Addr) (l_n2 : Nat) (l_c3 : Nat) (keys_p4 : Option Addr) (keys_n5 : Nat) (keys_c6 : Nat) (are_7 : Bool) {R : Ending → World → Prop} {w : World} : sh45 l_p1 l_n2 l_c3 keys_p4 keys_n5 keys_c6 are_7 R w → Calls Tryz.prog 45 #[.slice l_p1 l_n2 l_c3, .slice keys_p4 keys_n5 keys_c6, .bool are_7] w R :=
  calls_of_eq (ann := fun i => if i = 0 then [(7, .slice none 0 0), (8, .int .i64 0)] else []) (fn := Tryz.f45) (c := bodyOf Tryz.f45) (args := #[.slice l_p1 l_n2 l_c3, .slice keys_p4 keys_n5 keys_c6, .bool are_7]) 400 follows_mixed Tryz.func45 (by kernel_rfl) (by kernel_rfl)
end Go.Proofs.YtlddfgfmkapoiaaGreat

namespace Go.Proofs.YtlddfgfmkapoiaaGreat
open Go Go.Sh
end Go.Proofs.YtlddfgfmkapoiaaGreat

namespace Go.Proofs.YtlddfgfmkapoiaaGreat
open Go Go.Sh
set_option maxRecDepth 100000 in
/-- joinery/mix.Of -/
def sh83 (key_1 : Int) (R : Ending → World → Prop) (w : World) : Prop :=
 doCall Tryz.prog (.func (.func 122) #[] #[]) #[.int .u64 (IntKind.wrap .u64 ((IntKind.wrap .u64 key_1) + 11400714819323198485))] w (retS (fun v3 w4 => ∃ (x2 : Int), v3 = (.int .u64 x2 : Value) ∧ (
 R (.returned (.int .u64 x2)) w4)) (fun ch w => Kfn R ch [] w))
set_option maxRecDepth 100000 in
theorem sh83_ok (key_1 : Int) {R : Ending → World → Prop} {w : World} : sh83 key_1 R w → Calls Tryz.prog 83 #[.int .i64 key_1] w R :=
  calls_of_eq (ann := fun _ => []) (fn := Tryz.f83) (c := bodyOf Tryz.f83) (args := #[.int .i64 key_1]) 400 follows_mixed Tryz.func83 (by kernel_rfl) (by kernel_rfl)
set_option maxRecDepth 100000 in
/-- joinery/build.Items -/
def sh93 (s_1 : Option Addr) (l_p2 : Option Addr) (l_n3 : Nat) (l_c4 : Nat) (R : Ending → World → Prop) (w : World) : Prop :=
 doAl (.cells #[.pointer s_1] 25) w (fun b5 w6 =>
 doAl (.cells #[.nilFunc] 232) w6 (fun b7 w8 =>
 doSt ((blk b7).add 0) (.func (.func 168) #[] #[.pointer (some (blk b5)), .pointer (some (blk b7))]) w8 (fun w9 =>
 ∃ (xf10 : Fn), ∃ (xx11 : Array Value), ∃ (xc12 : Array Value), World.cell? w9 (blk b7) = some (.func xf10 xx11 xc12) ∧ (
 doCall Tryz.prog (.func xf10 xx11 xc12) #[.slice l_p2 l_n3 l_c4] w9 (retS (fun v14 w15 => ∃ (x13 : Option Addr), v14 = (.pointer x13 : Value) ∧ (
 R (.returned (.pointer x13)) w15)) (fun ch w => Kfn R ch [] w))))))
set_option maxRecDepth 100000 in
theorem sh93_ok (s_1 : Option Addr) (l_p2 : Option Addr) (l_n3 : Nat) (l_c4 : Nat) {R : Ending → World → Prop} {w : World} : sh93 s_1 l_p2 l_n3 l_c4 R w → Calls Tryz.prog 93 #[.pointer s_1, .slice l_p2 l_n3 l_c4] w R :=
  calls_of_eq (ann := fun _ => []) (fn := Tryz.f93) (c := bodyOf Tryz.f93) (args := #[.pointer s_1, .slice l_p2 l_n3 l_c4]) 400 follows_mixed Tryz.func93 (by kernel_rfl) (by kernel_rfl)
end Go.Proofs.YtlddfgfmkapoiaaGreat

namespace Go.Proofs.YtlddfgfmkapoiaaGreat
open Go Go.Sh
set_option maxRecDepth 100000 in
/-- joinery/draw.New -/
def sh94 (l_p1 : Option Addr) (l_n2 : Nat) (l_c3 : Nat) (R : Ending → World → Prop) (w : World) : Prop :=
 doCall Tryz.prog (.func (.func 169) #[] #[]) #[.slice l_p1 l_n2 l_c3] w (retS (fun v7 w8 => ∃ (xp4 : Option Addr), ∃ (xn5 : Nat), ∃ (xc6 : Nat), v7 = (.slice xp4 xn5 xc6 : Value) ∧ (
 doAl (.cells #[.slice none 0 0] 23) w8 (fun b9 w10 =>
 doSt ((blk b9).add 0) (.slice xp4 xn5 xc6) w10 (fun w11 =>
 doAl (.cells #[.slice none 0 0, .nilFunc, .nilFunc] 145) w11 (fun b12 w13 =>
 doAl (.cells #[.pointer none] 31) w13 (fun b14 w15 =>
 doSt ((blk b14).add 0) (.pointer (some (blk b12))) w15 (fun w16 =>
 ∃ (x17 : Option Addr), World.cell? w16 (blk b14) = some (.pointer x17) ∧ (
 ∃ (q18 : Addr), x17 = some q18 ∧ (
 doSt ((q18.add 2).add 0) (.func (.func 170) #[] #[.pointer (some (blk b9))]) w16 (fun w19 =>
 ∃ (x20 : Option Addr), World.cell? w19 (blk b14) = some (.pointer x20) ∧ (
 ∃ (q21 : Addr), x20 = some q21 ∧ (
 doSt ((q21.add 1).add 0) (.func (.func 171) #[] #[.pointer (some (blk b9)), .pointer (some (blk b14))]) w19 (fun w22 =>
 ∃ (x23 : Option Addr), World.cell? w22 (blk b14) = some (.pointer x23) ∧ (
 ∃ (xp24 : Option Addr), ∃ (xn25 : Nat), ∃ (xc26 : Nat), World.cell? w22 (blk b9) = some (.slice xp24 xn25 xc26) ∧ (
 ∃ (q27 : Addr), x23 = some q27 ∧ (
 doSt ((q27.add 0).add 0) (.slice xp24 xn25 xc26) w22 (fun w28 =>
 ∃ (x29 : Option Addr), World.cell? w28 (blk b14) = some (.pointer x29) ∧ (
 R (.returned (.pointer x29)) w28)))))))))))))))))) (fun ch w => Kfn R ch [] w))
set_option maxRecDepth 100000 in
theorem sh94_ok (l_p1 : Option Addr) (l_n2 : Nat) (l_c3 : Nat) {R : Ending → World → Prop} {w : World} : sh94 l_p1 l_n2 l_c3 R w → Calls Tryz.prog 94 #[.slice l_p1 l_n2 l_c3] w R :=
  calls_of_eq (ann := fun _ => []) (fn := Tryz.f94) (c := bodyOf Tryz.f94) (args := #[.slice l_p1 l_n2 l_c3]) 400 follows_mixed Tryz.func94 (by kernel_rfl) (by kernel_rfl)
set_option maxRecDepth 100000 in
/-- joinery/build.tagged -/
def sh102 (s_1 : Option Addr) (d_2 : Option Addr) (l_p3 : Option Addr) (l_n4 : Nat) (l_c5 : Nat) (R : Ending → World → Prop) (w : World) : Prop :=
 doAl (.cells #[.pointer s_1] 25) w (fun b6 w7 =>
 doAl (.cells #[.pointer d_2] 31) w7 (fun b8 w9 =>
 doAl (.cells #[.slice l_p3 l_n4 l_c5] 22) w9 (fun b10 w11 =>
 R (.returned (.func (.func 183) #[] #[.pointer (some (blk b10)), .pointer (some (blk b6)), .pointer (some (blk b8))])) w11)))
set_option maxRecDepth 100000 in
theorem sh102_ok (s_1 : Option Addr) (d_2 : Option Addr) (l_p3 : Option Addr) (l_n4 : Nat) (l_c5 : Nat) {R : Ending → World → Prop} {w : World} : sh102 s_1 d_2 l_p3 l_n4 l_c5 R w → Calls Tryz.prog 102 #[.pointer s_1, .pointer d_2, .slice l_p3 l_n4 l_c5] w R :=
  calls_of_eq (ann := fun _ => []) (fn := Tryz.f102) (c := bodyOf Tryz.f102) (args := #[.pointer s_1, .pointer d_2, .slice l_p3 l_n4 l_c5]) 400 follows_mixed Tryz.func102 (by kernel_rfl) (by kernel_rfl)
set_option maxRecDepth 100000 in
/-- (*joinery/joineryref08.Draws).Next -/
def sh103 (d_1 : Option Addr) (key_2 : Int) (R : Ending → World → Prop) (w : World) : Prop :=
 ∃ (q3 : Addr), d_1 = some q3 ∧ (
 ∃ (xp4 : Option Addr), ∃ (xn5 : Nat), ∃ (xc6 : Nat), World.cell? w (q3.add 0) = some (.slice xp4 xn5 xc6) ∧ (
 ifB ((((xn5 : Nat) : Int) : Int) == 0) (
 doCall Tryz.prog (.func (.func 186) #[] #[]) #[.int .i64 key_2] w (retS (fun v8 w9 => ∃ (x7 : Int), v8 = (.int .u64 x7 : Value) ∧ (
 R (.returned (.int .u64 x7)) w9)) (fun ch w => Kfn R ch [] w))) (
 ∃ (q10 : Addr), d_1 = some q10 ∧ (
 ∃ (xp11 : Option Addr), ∃ (xn12 : Nat), ∃ (xc13 : Nat), World.cell? w (q10.add 0) = some (.slice xp11 xn12 xc13) ∧ (
 doIx xp11 xn12 1 (0) (fun a14 =>
 ∃ (x15 : Int), World.cell? w a14 = some (.int .u64 x15) ∧ (
 ∃ (q16 : Addr), d_1 = some q16 ∧ (
 ∃ (xp17 : Option Addr), ∃ (xn18 : Nat), ∃ (xc19 : Nat), World.cell? w (q16.add 0) = some (.slice xp17 xn18 xc19) ∧ (
 doSl xp17 xc19 1 (1) (((xn18 : Nat) : Int)) (fun p20 n21 c22 =>
 ∃ (q23 : Addr), d_1 = some q23 ∧ (
 doSt ((q23.add 0).add 0) (.slice p20 n21 c22) w (fun w24 =>
 R (.returned (.int .u64 x15)) w24))))))))))))
set_option maxRecDepth 100000 in
theorem sh103_ok (d_1 : Option Addr) (key_2 : Int) {R : Ending → World → Prop} {w : World} : sh103 d_1 key_2 R w → Calls Tryz.prog 103 #[.pointer d_1, .int .i64 key_2] w R :=
  calls_of_eq (ann := fun _ => []) (fn := Tryz.f103) (c := bodyOf Tryz.f103) (args := #[.pointer d_1, .int .i64 key_2]) 400 follows_mixed Tryz.func103 (by kernel_rfl) (by kernel_rfl)
set_option maxRecDepth 100000 in
/-- (joinery/many.side).of -/
def sh111 (x_f1 : Fn) (x_x2 : Array Value) (x_c3 : Array Value) (s_4 : Option Addr) (o_5 : Int) (t_6 : Option Addr) (keys_p7 : Option Addr) (keys_n8 : Nat) (keys_c9 : Nat) (R : Ending → World → Prop) (w : World) : Prop :=
 doAl (.cells #[.func x_f1 x_x2 x_c3] 155) w (fun b10 w11 =>
 doCall Tryz.prog (.func (.func 24) #[] #[]) #[.pointer s_4, .int .u8 o_5, .pointer none, .slice keys_p7 keys_n8 keys_c9] w11 (retS (fun v14 w15 => ∃ (x12 : Option Addr), ∃ (x13 : Int), v14 = (.tuple #[.pointer x12, .int .i64 x13] : Value) ∧ (
 ifB ((x13 : Int) != 0) (
 R (.returned (.tuple #[.pointer none, .int .i64 x13])) w15) (
 ∃ (xf16 : Fn), ∃ (xx17 : Array Value), ∃ (xc18 : Array Value), World.cell? w15 ((blk b10).add 0) = some (.func xf16 xx17 xc18) ∧ (
 doCall Tryz.prog (.func xf16 xx17 xc18) #[.pointer s_4, .int .u8 o_5, .pointer t_6, .pointer x12] w15 (retS (fun v21 w22 => ∃ (x19 : Option Addr), ∃ (x20 : Int), v21 = (.tuple #[.pointer x19, .int .i64 x20] : Value) ∧ (
 R (.returned (.tuple #[.pointer x19, .int .i64 x20])) w22)) (fun ch w => Kfn R ch [] w)))))) (fun ch w => Kfn R ch [] w)))
set_option maxRecDepth 100000 in
theorem sh111_ok (x_f1 : Fn) (x_x2 : Array Value) (x_c3 : Array Value) (s_4 : Option Addr) (o_5 : Int) (t_6 : Option Addr) (keys_p7 : Option Addr) (keys_n8 : Nat) (keys_c9 : Nat) {R : Ending → World → Prop} {w : World} : sh111 x_f1 x_x2 x_c3 s_4 o_5 t_6 keys_p7 keys_n8 keys_c9 R w → Calls Tryz.prog 111 #[.agg #[.func x_f1 x_x2 x_c3], .pointer s_4, .int .u8 o_5, .pointer t_6, .slice keys_p7 keys_n8 keys_c9] w R :=
  calls_of_eq (ann := fun _ => []) (fn := Tryz.f111) (c := bodyOf Tryz.f111) (args := #[.agg #[.func x_f1 x_x2 x_c3], .pointer s_4, .int .u8 o_5, .pointer t_6, .slice keys_p7 keys_n8 keys_c9]) 400 follows_mixed Tryz.func111 (by kernel_rfl) (by kernel_rfl)
set_option maxRecDepth 100000 in
/-- joinery/many.Holds$1 -/
def sh112 (s_1 : Option Addr) (o_2 : Int) (a_3 : Option Addr) (b_4 : Option Addr) (R : Ending → World → Prop) (w : World) : Prop :=
 doCall Tryz.prog (.func (.func 87) #[] #[]) #[.pointer s_1, .int .u8 o_2, .int .u8 1, .pointer a_3, .pointer b_4] w (retS (fun v7 w8 => ∃ (x5 : Option Addr), ∃ (x6 : Int), v7 = (.tuple #[.pointer x5, .int .i64 x6] : Value) ∧ (
 R (.returned (.tuple #[.pointer x5, .int .i64 x6])) w8)) (fun ch w => Kfn R ch [] w))
set_option maxRecDepth 100000 in
theorem sh112_ok (s_1 : Option Addr) (o_2 : Int) (a_3 : Option Addr) (b_4 : Option Addr) {R : Ending → World → Prop} {w : World} : sh112 s_1 o_2 a_3 b_4 R w → Calls Tryz.prog 112 #[.pointer s_1, .int .u8 o_2, .pointer a_3, .pointer b_4] w R :=
  calls_of_eq (ann := fun _ => []) (fn := Tryz.f112) (c := bodyOf Tryz.f112) (args := #[.pointer s_1, .int .u8 o_2, .pointer a_3, .pointer b_4]) 400 follows_mixed Tryz.func112 (by kernel_rfl) (by kernel_rfl)
set_option maxRecDepth 100000 in
/-- joinery/joineryref31.has -/
def sh114 (keys_p1 : Option Addr) (keys_n2 : Nat) (_keys_c3 : Nat) (k_4 : Int) (R : Ending → World → Prop) (w : World) : Prop :=
 ∃ (I5 : List Value → World → Prop) (μ6 : List Value → World → Nat), I5 [.int .i64 0] w ∧ (∀ (i_9 : Int), ∀ (_j7 : Nat → Value) (w8 : World), I5 [.int .i64 i_9] w8 → (
 ifB (decide ((i_9 : Int) < ((keys_n2 : Nat) : Int))) (
 doIx keys_p1 keys_n2 1 (i_9) (fun a10 =>
 ∃ (x11 : Int), World.cell? w8 a10 = some (.int .i64 x11) ∧ (
 ifB ((x11 : Int) == k_4) (
 R (.returned (.bool true)) w8) (
 I5 [.int .i64 (IntKind.wrap .i64 (i_9 + 1))] w8 ∧ μ6 [.int .i64 (IntKind.wrap .i64 (i_9 + 1))] w8 < μ6 [.int .i64 i_9] w8)))) (
 R (.returned (.bool false)) w8)))
set_option maxRecDepth 100000 in
theorem sh114_ok (keys_p1 : Option Addr) (keys_n2 : Nat) (keys_c3 : Nat) (k_4 : Int) {R : Ending → World → Prop} {w : World} : sh114 keys_p1 keys_n2 keys_c3 k_4 R w → Calls Tryz.prog 114 #[.slice keys_p1 keys_n2 keys_c3, .int .i64 k_4] w R :=
  calls_of_eq (ann := fun i => if i = 0 then [(5, .int .i64 0)] else []) (fn := Tryz.f114) (c := bodyOf Tryz.f114) (args := #[.slice keys_p1 keys_n2 keys_c3, .int .i64 k_4]) 400 follows_mixed Tryz.func114 (by kernel_rfl) (by kernel_rfl)
end Go.Proofs.YtlddfgfmkapoiaaGreat

namespace Go.Proofs.YtlddfgfmkapoiaaGreat
open Go Go.Sh
set_option maxRecDepth 100000 in
/-- joinery/build.Items$1 -/
def sh168 (l_p1 : Option Addr) (l_n2 : Nat) (l_c3 : Nat) (x4 : Addr) (x5 : Addr) (R : Ending → World → Prop) (w : World) : Prop :=
 ifB ((((l_n2 : Nat) : Int) : Int) == 0) (
 R (.returned (.pointer none)) w) (
 2 ≠ (0 : Int) ∧ (
 doDr w (fun w7 =>
 ∃ (C6 : World → Prop), C6 w7 ∧ (
 ∃ (x8 : Option Addr), (∀ w, C6 w → World.cell? w x4 = some (.pointer x8)) ∧ (
 ∃ (xf9 : Fn), ∃ (xx10 : Array Value), ∃ (xc11 : Array Value), (∀ w, C6 w → World.cell? w x5 = some (.func xf9 xx10 xc11)) ∧ (
 doSl l_p1 l_c3 3 (0) (IntKind.wrap .i64 (Int.tdiv ((l_n2 : Nat) : Int) 2)) (fun p12 n13 c14 =>
 doIx l_p1 l_n2 3 (IntKind.wrap .i64 (Int.tdiv ((l_n2 : Nat) : Int) 2)) (fun a15 =>
 ∃ (x16 : Int), (∀ w, C6 w → World.cell? w (a15.add 0) = some (.int .i64 x16)) ∧ (
 ∃ (x17 : Int), (∀ w, C6 w → World.cell? w (a15.add 1) = some (.int .i64 x17)) ∧ (
 ∃ (x18 : Int), (∀ w, C6 w → World.cell? w (a15.add 2) = some (.int .u64 x18)) ∧ (
 ∃ (xf19 : Fn), ∃ (xx20 : Array Value), ∃ (xc21 : Array Value), (∀ w, C6 w → World.cell? w x5 = some (.func xf19 xx20 xc21)) ∧ (
 doSl l_p1 l_c3 3 (IntKind.wrap .i64 ((IntKind.wrap .i64 (Int.tdiv ((l_n2 : Nat) : Int) 2)) + 1)) (((l_n2 : Nat) : Int)) (fun p22 n23 c24 =>
 doCall Tryz.prog (.func xf9 xx10 xc11) #[.slice p12 n13 c14] w7 (retS (fun v26 w27 => ∃ (x25 : Option Addr), v26 = (.pointer x25 : Value) ∧ (
 C6 w27 ∧ (
 doCall Tryz.prog (.func xf19 xx20 xc21) #[.slice p22 n23 c24] w27 (retS (fun v29 w30 => ∃ (x28 : Option Addr), v29 = (.pointer x28 : Value) ∧ (
 C6 w30 ∧ (
 doCall Tryz.prog (.func (.func 106) #[] #[]) #[.pointer x8, .pointer x25, .agg #[.int .i64 x16, .int .i64 x17, .int .u64 x18], .pointer x28] w30 (retS (fun v32 w33 => ∃ (x31 : Option Addr), v32 = (.pointer x31 : Value) ∧ (
 C6 w33 ∧ (
 R (.returned (.pointer x31)) w33))) (fun ch w => Kfn R ch [] w))))) (fun ch w => Kfn R ch [] w))))) (fun ch w => Kfn R ch [] w)))))))))))))))
set_option maxRecDepth 100000 in
theorem sh168_ok (l_p1 : Option Addr) (l_n2 : Nat) (l_c3 : Nat) (x4 : Addr) (x5 : Addr) {R : Ending → World → Prop} {w : World} : sh168 l_p1 l_n2 l_c3 x4 x5 R w → Calls Tryz.prog 168 #[.slice l_p1 l_n2 l_c3, .pointer (some x4), .pointer (some x5)] w R :=
  calls_of_eq (ann := fun _ => []) (fn := Tryz.f168) (c := bodyOf Tryz.f168) (args := #[.slice l_p1 l_n2 l_c3, .pointer (some x4), .pointer (some x5)]) 400 follows_mixed Tryz.func168 (by kernel_rfl) (by kernel_rfl)
end Go.Proofs.YtlddfgfmkapoiaaGreat

namespace Go.Proofs.YtlddfgfmkapoiaaGreat
open Go Go.Sh
set_option maxRecDepth 100000 in
/-- slices.Clone[[]uint64,uint64] -/
def sh169 (s_p1 : Option Addr) (s_n2 : Nat) (s_c3 : Nat) (R : Ending → World → Prop) (w : World) : Prop :=
 ifB ((s_p1 : Option Addr).isNone) (
 R (.returned (.slice none 0 0)) w) (
 doAl (.cells #[] 75) w (fun b4 w5 =>
 doGo Tryz.prog (.builtin .append #[23, 23] 23 #[false, false]) #[.slice (some (blk b4)) 0 0, .slice s_p1 s_n2 s_c3] w5 (retS (fun v9 w10 => ∃ (xp6 : Option Addr), ∃ (xn7 : Nat), ∃ (xc8 : Nat), v9 = (.slice xp6 xn7 xc8 : Value) ∧ (
 R (.returned (.slice xp6 xn7 xc8)) w10)) (fun ch w => Kfn R ch [] w))))
set_option maxRecDepth 100000 in
theorem sh169_ok (s_p1 : Option Addr) (s_n2 : Nat) (s_c3 : Nat) {R : Ending → World → Prop} {w : World} : sh169 s_p1 s_n2 s_c3 R w → Calls Tryz.prog 169 #[.slice s_p1 s_n2 s_c3] w R :=
  calls_of_eq (ann := fun _ => []) (fn := Tryz.f169) (c := bodyOf Tryz.f169) (args := #[.slice s_p1 s_n2 s_c3]) 400 follows_mixed Tryz.func169 (by kernel_rfl) (by kernel_rfl)
set_option maxRecDepth 100000 in
/-- joinery/draw.New$1 -/
def sh170 (x1 : Addr) (R : Ending → World → Prop) (w : World) : Prop :=
 ∃ (xp2 : Option Addr), ∃ (xn3 : Nat), ∃ (xc4 : Nat), World.cell? w x1 = some (.slice xp2 xn3 xc4) ∧ (
 R (.returned (.int .i64 ((xn3 : Nat) : Int))) w)
set_option maxRecDepth 100000 in
theorem sh170_ok (x1 : Addr) {R : Ending → World → Prop} {w : World} : sh170 x1 R w → Calls Tryz.prog 170 #[.pointer (some x1)] w R :=
  calls_of_eq (ann := fun _ => []) (fn := Tryz.f170) (c := bodyOf Tryz.f170) (args := #[.pointer (some x1)]) 400 follows_mixed Tryz.func170 (by kernel_rfl) (by kernel_rfl)
set_option maxRecDepth 100000 in
/-- joinery/draw.New$2 -/
def sh171 (x1 : Addr) (x2 : Addr) (R : Ending → World → Prop) (w : World) : Prop :=
 ∃ (xp3 : Option Addr), ∃ (xn4 : Nat), ∃ (xc5 : Nat), World.cell? w x1 = some (.slice xp3 xn4 xc5) ∧ (
 ifB ((((xn4 : Nat) : Int) : Int) == 0) (
 R (.returned (.tuple #[.int .u64 0, .bool false])) w) (
 ∃ (xp6 : Option Addr), ∃ (xn7 : Nat), ∃ (xc8 : Nat), World.cell? w x1 = some (.slice xp6 xn7 xc8) ∧ (
 doIx xp6 xn7 1 (0) (fun a9 =>
 ∃ (x10 : Int), World.cell? w a9 = some (.int .u64 x10) ∧ (
 ∃ (xp11 : Option Addr), ∃ (xn12 : Nat), ∃ (xc13 : Nat), World.cell? w x1 = some (.slice xp11 xn12 xc13) ∧ (
 doSl xp11 xc13 1 (1) (((xn12 : Nat) : Int)) (fun p14 n15 c16 =>
 doSt (x1.add 0) (.slice p14 n15 c16) w (fun w17 =>
 ∃ (x18 : Option Addr), World.cell? w17 x2 = some (.pointer x18) ∧ (
 ∃ (xp19 : Option Addr), ∃ (xn20 : Nat), ∃ (xc21 : Nat), World.cell? w17 x1 = some (.slice xp19 xn20 xc21) ∧ (
 ∃ (q22 : Addr), x18 = some q22 ∧ (
 doSt ((q22.add 0).add 0) (.slice xp19 xn20 xc21) w17 (fun w23 =>
 R (.returned (.tuple #[.int .u64 x10, .bool true])) w23))))))))))))
set_option maxRecDepth 100000 in
theorem sh171_ok (x1 : Addr) (x2 : Addr) {R : Ending → World → Prop} {w : World} : sh171 x1 x2 R w → Calls Tryz.prog 171 #[.pointer (some x1), .pointer (some x2)] w R :=
  calls_of_eq (ann := fun _ => []) (fn := Tryz.f171) (c := bodyOf Tryz.f171) (args := #[.pointer (some x1), .pointer (some x2)]) 400 follows_mixed Tryz.func171 (by kernel_rfl) (by kernel_rfl)
set_option maxRecDepth 100000 in
/-- joinery/build.tagged$1 -/
def sh183 (yield_f1 : Fn) (yield_x2 : Array Value) (yield_c3 : Array Value) (x4 : Addr) (x5 : Addr) (x6 : Addr) (R : Ending → World → Prop) (w : World) : Prop :=
 ∃ (xp7 : Option Addr), ∃ (xn8 : Nat), ∃ (xc9 : Nat), World.cell? w x4 = some (.slice xp7 xn8 xc9) ∧ (
 ∃ (I10 : List Value → World → Prop) (μ11 : List Value → World → Nat), I10 [.int .i64 0] w ∧ (∀ (x14 : Int), ∀ (_j12 : Nat → Value) (w13 : World), I10 [.int .i64 x14] w13 → (
 ifB (decide ((x14 : Int) < ((xn8 : Nat) : Int))) (
 doIx xp7 xn8 2 (x14) (fun a15 =>
 ∃ (x16 : Int), World.cell? w13 (a15.add 0) = some (.int .i64 x16) ∧ (
 ∃ (x17 : Int), World.cell? w13 (a15.add 1) = some (.int .i64 x17) ∧ (
 doAl (.cells #[.int .i64 0, .int .i64 0] 46) w13 (fun b18 w19 =>
 doSt ((blk b18).add 0) (.int .i64 x16) w19 (fun w20 =>
 doSt ((blk b18).add 1) (.int .i64 x17) w20 (fun w21 =>
 ∃ (x22 : Int), World.cell? w21 ((blk b18).add 0) = some (.int .i64 x22) ∧ (
 ∃ (x23 : Int), World.cell? w21 ((blk b18).add 1) = some (.int .i64 x23) ∧ (
 doAl (.cells #[.int .i64 0, .int .i64 0, .int .u64 0] 114) w21 (fun b24 w25 =>
 doSt ((blk b24).add 0) (.int .i64 x22) w25 (fun w26 =>
 doSt ((blk b24).add 1) (.int .i64 x23) w26 (fun w27 =>
 doSt ((blk b24).add 2) (.int .u64 0) w27 (fun w28 =>
 let K30 : World → Prop := fun (w29 : World) => 
 ∃ (x31 : Int), World.cell? w29 ((blk b24).add 0) = some (.int .i64 x31) ∧ (
 ∃ (x32 : Int), World.cell? w29 ((blk b24).add 1) = some (.int .i64 x32) ∧ (
 ∃ (x33 : Int), World.cell? w29 ((blk b24).add 2) = some (.int .u64 x33) ∧ (
 doCall Tryz.prog (.func yield_f1 yield_x2 yield_c3) #[.agg #[.int .i64 x31, .int .i64 x32, .int .u64 x33]] w29 (retS (fun v35 w36 => ∃ (x34 : Bool), v35 = (.bool x34 : Value) ∧ (
 ifB (!x34) (
 R (.returned (.tuple #[])) w36) (
 I10 [.int .i64 (IntKind.wrap .i64 (x14 + 1))] w36 ∧ μ11 [.int .i64 (IntKind.wrap .i64 (x14 + 1))] w36 < μ11 [.int .i64 x14] w13))) (fun ch w => Kfn R ch [] w)))))
 ∃ (x37 : Option Addr), World.cell? w28 x5 = some (.pointer x37) ∧ (
 doCall Tryz.prog (.func (.func 184) #[] #[]) #[.pointer x37] w28 (retS (fun v39 w40 => ∃ (x38 : Int), v39 = (.int .u8 x38 : Value) ∧ (
 ifB ((x38 : Int) == 4) (
 ∃ (x41 : Option Addr), World.cell? w40 x6 = some (.pointer x41) ∧ (
 ∃ (x42 : Int), World.cell? w40 ((blk b18).add 0) = some (.int .i64 x42) ∧ (
 doCall Tryz.prog (.func (.func 185) #[] #[]) #[.pointer x41, .int .i64 x42] w40 (retS (fun v44 w45 => ∃ (x43 : Int), v44 = (.int .u64 x43 : Value) ∧ (
 doSt (((blk b24).add 2).add 0) (.int .u64 x43) w45 (fun w46 =>
 K30 w46))) (fun ch w => Kfn R ch [] w))))) (
 K30 w40))) (fun ch w => Kfn R ch [] w)))))))))))))))) (
 R (.returned (.tuple #[])) w13))))
set_option maxRecDepth 100000 in
theorem sh183_ok (yield_f1 : Fn) (yield_x2 : Array Value) (yield_c3 : Array Value) (x4 : Addr) (x5 : Addr) (x6 : Addr) {R : Ending → World → Prop} {w : World} : sh183 yield_f1 yield_x2 yield_c3 x4 x5 x6 R w → Calls Tryz.prog 183 #[.func yield_f1 yield_x2 yield_c3, .pointer (some x4), .pointer (some x5), .pointer (some x6)] w R :=
  calls_of_eq (ann := fun i => if i = 0 then [(10, .int .i64 0)] else []) (fn := Tryz.f183) (c := bodyOf Tryz.f183) (args := #[.func yield_f1 yield_x2 yield_c3, .pointer (some x4), .pointer (some x5), .pointer (some x6)]) 400 follows_mixed Tryz.func183 (by kernel_rfl) (by kernel_rfl)
set_option maxRecDepth 100000 in
/-- (*joinery/scheme.Scheme).Code -/
def sh184 (s_1 : Option Addr) (R : Ending → World → Prop) (w : World) : Prop :=
 ifB ((s_1).isNone) (
 R (.returned (.int .u8 0)) w) (
 ∃ (q2 : Addr), s_1 = some q2 ∧ (
 ∃ (x3 : Int), World.cell? w (q2.add 0) = some (.int .u8 x3) ∧ (
 R (.returned (.int .u8 x3)) w)))
set_option maxRecDepth 100000 in
theorem sh184_ok (s_1 : Option Addr) {R : Ending → World → Prop} {w : World} : sh184 s_1 R w → Calls Tryz.prog 184 #[.pointer s_1] w R :=
  calls_of_eq (ann := fun _ => []) (fn := Tryz.f184) (c := bodyOf Tryz.f184) (args := #[.pointer s_1]) 400 follows_mixed Tryz.func184 (by kernel_rfl) (by kernel_rfl)
set_option maxRecDepth 100000 in
/-- (*joinery/draw.Draws).Next -/
def sh185 (d_1 : Option Addr) (key_2 : Int) (R : Ending → World → Prop) (w : World) : Prop :=
 let K4 : World → Prop := fun (w3 : World) => 
 doCall Tryz.prog (.func (.func 83) #[] #[]) #[.int .i64 key_2] w3 (retS (fun v6 w7 => ∃ (x5 : Int), v6 = (.int .u64 x5 : Value) ∧ (
 R (.returned (.int .u64 x5)) w7)) (fun ch w => Kfn R ch [] w))
 ifB (!(d_1).isNone) (
 ∃ (q8 : Addr), d_1 = some q8 ∧ (
 ∃ (xf9 : Fn), ∃ (xx10 : Array Value), ∃ (xc11 : Array Value), World.cell? w (q8.add 1) = some (.func xf9 xx10 xc11) ∧ (
 doCall Tryz.prog (.func xf9 xx10 xc11) #[] w (retS (fun v14 w15 => ∃ (x12 : Int), ∃ (x13 : Bool), v14 = (.tuple #[.int .u64 x12, .bool x13] : Value) ∧ (
 ifB x13 (
 R (.returned (.int .u64 x12)) w15) (
 K4 w15))) (fun ch w => Kfn R ch [] w))))) (
 K4 w)
set_option maxRecDepth 100000 in
theorem sh185_ok (d_1 : Option Addr) (key_2 : Int) {R : Ending → World → Prop} {w : World} : sh185 d_1 key_2 R w → Calls Tryz.prog 185 #[.pointer d_1, .int .i64 key_2] w R :=
  calls_of_eq (ann := fun _ => []) (fn := Tryz.f185) (c := bodyOf Tryz.f185) (args := #[.pointer d_1, .int .i64 key_2]) 400 follows_mixed Tryz.func185 (by kernel_rfl) (by kernel_rfl)
set_option maxRecDepth 100000 in
/-- joinery/joineryref01.Of -/
def sh186 (key_1 : Int) (R : Ending → World → Prop) (w : World) : Prop :=
 doCall Tryz.prog (.func (.func 131) #[] #[]) #[.int .u64 (IntKind.wrap .u64 ((IntKind.wrap .u64 key_1) + 11400714819323198485))] w (retS (fun v3 w4 => ∃ (x2 : Int), v3 = (.int .u64 x2 : Value) ∧ (
 R (.returned (.int .u64 x2)) w4)) (fun ch w => Kfn R ch [] w))
set_option maxRecDepth 100000 in
theorem sh186_ok (key_1 : Int) {R : Ending → World → Prop} {w : World} : sh186 key_1 R w → Calls Tryz.prog 186 #[.int .i64 key_1] w R :=
  calls_of_eq (ann := fun _ => []) (fn := Tryz.f186) (c := bodyOf Tryz.f186) (args := #[.int .i64 key_1]) 400 follows_mixed Tryz.func186 (by kernel_rfl) (by kernel_rfl)
end Go.Proofs.YtlddfgfmkapoiaaGreat

namespace Go.Proofs.YtlddfgfmkapoiaaGreat
open Go Go.Sh
end Go.Proofs.YtlddfgfmkapoiaaGreat

