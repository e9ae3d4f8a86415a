/-
  Printed by a program (gen.py): what the functions of the program do, as formulas; each with the proof that its call is what the formula says.
-/
/-
  Printed by a program (gen.py): what the functions of the program do, as formulas; each with the proof that its call is what the formula says.
-/
import Derived.Test.YtlddfgfmkapoiaaGreatZ02
import Derived.Test.YtlddfgfmkapoiaaGreatProg

namespace Go.Proofs.YtlddfgfmkapoiaaGreat
open Go Go.Sh
theorem follows_mixed : Tryz.prog.follows .mixedOrders = true := by kernel_rfl
set_option maxRecDepth 100000 in
/-- joinery/joinerylaw22.Of -/
def sh15 (code_1 : Int) (R : Ending → World → Prop) (w : World) : Prop :=
 doCall Tryz.prog (.func (.func 92) #[] #[]) #[.int .u8 code_1] w (retS (fun v4 w5 => ∃ (x2 : Option Addr), ∃ (x3 : Int), v4 = (.tuple #[.pointer x2, .int .i64 x3] : Value) ∧ (
 let K8 : Bool → World → Prop := fun (x6 : Bool) (w7 : World) => 
 R (.returned (.tuple #[.pointer x2, .bool x6])) w7
 ifB ((x3 : Int) == 0) (
 K8 (!(x2).isNone) w5) (
 R (.returned (.tuple #[.pointer x2, .bool false])) w5))) (fun ch w => Kfn R ch [] w))
set_option maxRecDepth 100000 in
theorem sh15_ok (code_1 : Int) {R : Ending → World → Prop} {w : World} : sh15 code_1 R w → Calls Tryz.prog 15 #[.int .u8 code_1] w R :=
  calls_of_eq (ann := fun _ => []) (fn := Tryz.f15) (c := bodyOf Tryz.f15) (args := #[.int .u8 code_1]) 400 follows_mixed Tryz.func15 (by kernel_rfl) (by kernel_rfl)
set_option maxRecDepth 100000 in
/-- joinery/joineryref02.Is -/
def sh16 (o_1 : Int) (R : Ending → World → Prop) (w : World) : Prop :=
 let K4 : Bool → World → Prop := fun (x2 : Bool) (w3 : World) => 
 R (.returned (.bool x2)) w3
 ifB (decide ((o_1 : Int) ≥ 1)) (
 K4 (decide ((o_1 : Int) ≤ 7)) w) (
 R (.returned (.bool false)) w)
set_option maxRecDepth 100000 in
theorem sh16_ok (o_1 : Int) {R : Ending → World → Prop} {w : World} : sh16 o_1 R w → Calls Tryz.prog 16 #[.int .u8 o_1] w R :=
  calls_of_eq (ann := fun _ => []) (fn := Tryz.f16) (c := bodyOf Tryz.f16) (args := #[.int .u8 o_1]) 400 follows_mixed Tryz.func16 (by kernel_rfl) (by kernel_rfl)
set_option maxRecDepth 100000 in
/-- joinery/joineryref03.May -/
def sh17 (p_1 : Int) (R : Ending → World → Prop) (w : World) : Prop :=
 let K4 : Bool → World → Prop := fun (x2 : Bool) (w3 : World) => 
 R (.returned (.bool x2)) w3
 ifB ((p_1 : Int) == 1) (
 R (.returned (.bool true)) w) (
 ifB ((p_1 : Int) == 2) (
 R (.returned (.bool true)) w) (
 K4 ((p_1 : Int) == 3) w))
set_option maxRecDepth 100000 in
theorem sh17_ok (p_1 : Int) {R : Ending → World → Prop} {w : World} : sh17 p_1 R w → Calls Tryz.prog 17 #[.int .u8 p_1] w R :=
  calls_of_eq (ann := fun _ => []) (fn := Tryz.f17) (c := bodyOf Tryz.f17) (args := #[.int .u8 p_1]) 400 follows_mixed Tryz.func17 (by kernel_rfl) (by kernel_rfl)
set_option maxRecDepth 100000 in
/-- joinery/joineryref22.Is -/
def sh18 (code_1 : Int) (R : Ending → World → Prop) (w : World) : Prop :=
 let K4 : Bool → World → Prop := fun (x2 : Bool) (w3 : World) => 
 R (.returned (.bool x2)) w3
 ifB (decide ((code_1 : Int) ≥ 1)) (
 K4 (decide ((code_1 : Int) ≤ 4)) w) (
 R (.returned (.bool false)) w)
set_option maxRecDepth 100000 in
theorem sh18_ok (code_1 : Int) {R : Ending → World → Prop} {w : World} : sh18 code_1 R w → Calls Tryz.prog 18 #[.int .u8 code_1] w R :=
  calls_of_eq (ann := fun _ => []) (fn := Tryz.f18) (c := bodyOf Tryz.f18) (args := #[.int .u8 code_1]) 400 follows_mixed Tryz.func18 (by kernel_rfl) (by kernel_rfl)
set_option maxRecDepth 100000 in
/-- joinery/joinerylaw23.Has -/
def sh27 (code_1 : Int) (t_2 : Option Addr) (l_p3 : Option Addr) (l_n4 : Nat) (l_c5 : Nat) (R : Ending → World → Prop) (w : World) : Prop :=
 doCall Tryz.prog (.func (.func 97) #[] #[]) #[.pointer t_2] w (retS (fun v10 w11 => ∃ (xp6 : Option Addr), ∃ (xn7 : Nat), ∃ (xc8 : Nat), ∃ (x9 : Bool), v10 = (.tuple #[.slice xp6 xn7 xc8, .bool x9] : Value) ∧ (
 let K14 : Bool → World → Prop := fun (x12 : Bool) (w13 : World) => 
 R (.returned (.bool x12)) w13
 ifB x9 (
 doCall Tryz.prog (.func (.func 98) #[] #[]) #[.int .u8 code_1, .slice xp6 xn7 xc8, .slice l_p3 l_n4 l_c5] w11 (retS (fun v16 w17 => ∃ (x15 : Bool), v16 = (.bool x15 : Value) ∧ (
 K14 x15 w17)) (fun ch w => Kfn R ch [] w))) (
 R (.returned (.bool false)) w11))) (fun ch w => Kfn R ch [] w))
set_option maxRecDepth 100000 in
theorem sh27_ok (code_1 : Int) (t_2 : Option Addr) (l_p3 : Option Addr) (l_n4 : Nat) (l_c5 : Nat) {R : Ending → World → Prop} {w : World} : sh27 code_1 t_2 l_p3 l_n4 l_c5 R w → Calls Tryz.prog 27 #[.int .u8 code_1, .pointer t_2, .slice l_p3 l_n4 l_c5] w R :=
  calls_of_eq (ann := fun _ => []) (fn := Tryz.f27) (c := bodyOf Tryz.f27) (args := #[.int .u8 code_1, .pointer t_2, .slice l_p3 l_n4 l_c5]) 400 follows_mixed Tryz.func27 (by kernel_rfl) (by kernel_rfl)
set_option maxRecDepth 100000 in
/-- joinery/joineryref04.May -/
def sh30 (o_1 : Int) (l_p2 : Option Addr) (l_n3 : Nat) (_l_c4 : Nat) (R : Ending → World → Prop) (w : World) : Prop :=
 ∃ (I5 : List Value → World → Prop) (μ6 : List Value → World → Nat), I5 [.int .i64 1] w ∧ (∀ (i_9 : Int), ∀ (_j7 : Nat → Value) (w8 : World), I5 [.int .i64 i_9] w8 → (
 ifB (decide ((i_9 : Int) < ((l_n3 : Nat) : Int))) (
 doDr w8 (fun w11 =>
 ∃ (C10 : World → Prop), C10 w11 ∧ (
 doIx l_p2 l_n3 2 (IntKind.wrap .i64 (i_9 - 1)) (fun a12 =>
 ∃ (x13 : Int), (∀ w, C10 w → World.cell? w (a12.add 0) = some (.int .i64 x13)) ∧ (
 doIx l_p2 l_n3 2 (i_9) (fun a14 =>
 ∃ (x15 : Int), (∀ w, C10 w → World.cell? w (a14.add 0) = some (.int .i64 x15)) ∧ (
 doCall Tryz.prog (.func (.func 100) #[] #[]) #[.int .u8 o_1, .int .i64 x13, .int .i64 x15] w11 (retS (fun v17 w18 => ∃ (x16 : Bool), v17 = (.bool x16 : Value) ∧ (
 ifB (!x16) (
 R (.returned (.bool false)) w18) (
 I5 [.int .i64 (IntKind.wrap .i64 (i_9 + 1))] w18 ∧ μ6 [.int .i64 (IntKind.wrap .i64 (i_9 + 1))] w18 < μ6 [.int .i64 i_9] w8))) (fun ch w => Kfn R ch [] w))))))))) (
 doCall Tryz.prog (.func (.func 16) #[] #[]) #[.int .u8 o_1] w8 (retS (fun v20 w21 => ∃ (x19 : Bool), v20 = (.bool x19 : Value) ∧ (
 R (.returned (.bool x19)) w21)) (fun ch w => Kfn R ch [] w)))))
set_option maxRecDepth 100000 in
theorem sh30_ok (o_1 : Int) (l_p2 : Option Addr) (l_n3 : Nat) (l_c4 : Nat) {R : Ending → World → Prop} {w : World} : sh30 o_1 l_p2 l_n3 l_c4 R w → Calls Tryz.prog 30 #[.int .u8 o_1, .slice l_p2 l_n3 l_c4] w R :=
  calls_of_eq (ann := fun i => if i = 0 then [(5, .int .i64 0)] else []) (fn := Tryz.f30) (c := bodyOf Tryz.f30) (args := #[.int .u8 o_1, .slice l_p2 l_n3 l_c4]) 400 follows_mixed Tryz.func30 (by kernel_rfl) (by kernel_rfl)
set_option maxRecDepth 100000 in
/-- joinery/joinerylaw24.Long -/
def sh36 (code_1 : Int) (o_2 : Int) (l_p3 : Option Addr) (l_n4 : Nat) (l_c5 : Nat) (R : Ending → World → Prop) (w : World) : Prop :=
 let K8 : Bool → World → Prop := fun (x6 : Bool) (w7 : World) => 
 R (.returned (.bool x6)) w7
 doCall Tryz.prog (.func (.func 52) #[] #[]) #[.slice l_p3 l_n4 l_c5] w (retS (fun v10 w11 => ∃ (x9 : Bool), v10 = (.bool x9 : Value) ∧ (
 ifB x9 (
 R (.returned (.bool true)) w11) (
 doCall Tryz.prog (.func (.func 104) #[] #[]) #[.int .u8 code_1, .int .u8 o_2, .slice l_p3 l_n4 l_c5] w11 (retS (fun v13 w14 => ∃ (x12 : Bool), v13 = (.bool x12 : Value) ∧ (
 K8 (!x12) w14)) (fun ch w => Kfn R ch [] w))))) (fun ch w => Kfn R ch [] w))
set_option maxRecDepth 100000 in
theorem sh36_ok (code_1 : Int) (o_2 : Int) (l_p3 : Option Addr) (l_n4 : Nat) (l_c5 : Nat) {R : Ending → World → Prop} {w : World} : sh36 code_1 o_2 l_p3 l_n4 l_c5 R w → Calls Tryz.prog 36 #[.int .u8 code_1, .int .u8 o_2, .slice l_p3 l_n4 l_c5] w R :=
  calls_of_eq (ann := fun _ => []) (fn := Tryz.f36) (c := bodyOf Tryz.f36) (args := #[.int .u8 code_1, .int .u8 o_2, .slice l_p3 l_n4 l_c5]) 400 follows_mixed Tryz.func36 (by kernel_rfl) (by kernel_rfl)
set_option maxRecDepth 100000 in
/-- joinery/joinerylaw09.Make -/
def sh39 (l_p1 : Option Addr) (l_n2 : Nat) (l_c3 : Nat) (R : Ending → World → Prop) (w : World) : Prop :=
 ifB ((((l_n2 : Nat) : Int) : Int) == 0) (
 R (.returned (.pointer none)) w) (
 doCall Tryz.prog (.func (.func 109) #[] #[]) #[.slice l_p1 l_n2 l_c3] w (retS (fun v17 w18 => ∃ (x4 : Int), ∃ (x5 : Int), ∃ (x6 : Int), ∃ (x7 : Int), ∃ (x8 : Int), ∃ (x9 : Bool), ∃ (x10 : Bool), ∃ (xp11 : Option Addr), ∃ (xn12 : Nat), ∃ (xc13 : Nat), ∃ (xp14 : Option Addr), ∃ (xn15 : Nat), ∃ (xc16 : Nat), v17 = (.tuple #[.agg #[.int .i64 x4, .int .i64 x5, .int .i64 x6, .int .i64 x7, .int .u64 x8, .bool x9, .bool x10], .slice xp11 xn12 xc13, .slice xp14 xn15 xc16] : Value) ∧ (
 doAl (.cells #[.int .i64 0, .int .i64 0, .int .i64 0, .int .i64 0, .int .u64 0, .bool false, .bool false] 150) w18 (fun b19 w20 =>
 doSt ((blk b19).add 0) (.int .i64 x4) w20 (fun w21 =>
 doSt ((blk b19).add 1) (.int .i64 x5) w21 (fun w22 =>
 doSt ((blk b19).add 2) (.int .i64 x6) w22 (fun w23 =>
 doSt ((blk b19).add 3) (.int .i64 x7) w23 (fun w24 =>
 doSt ((blk b19).add 4) (.int .u64 x8) w24 (fun w25 =>
 doSt ((blk b19).add 5) (.bool x9) w25 (fun w26 =>
 doSt ((blk b19).add 6) (.bool x10) w26 (fun w27 =>
 doDr w27 (fun w29 =>
 ∃ (C28 : World → Prop), C28 w29 ∧ (
 ∃ (x30 : Int), (∀ w, C28 w → World.cell? w ((blk b19).add 0) = some (.int .i64 x30)) ∧ (
 ∃ (x31 : Int), (∀ w, C28 w → World.cell? w ((blk b19).add 1) = some (.int .i64 x31)) ∧ (
 ∃ (x32 : Int), (∀ w, C28 w → World.cell? w ((blk b19).add 4) = some (.int .u64 x32)) ∧ (
 doCall Tryz.prog (.func (.func 39) #[] #[]) #[.slice xp11 xn12 xc13] w29 (retS (fun v34 w35 => ∃ (x33 : Option Addr), v34 = (.pointer x33 : Value) ∧ (
 C28 w35 ∧ (
 doCall Tryz.prog (.func (.func 39) #[] #[]) #[.slice xp14 xn15 xc16] w35 (retS (fun v37 w38 => ∃ (x36 : Option Addr), v37 = (.pointer x36 : Value) ∧ (
 C28 w38 ∧ (
 doCall Tryz.prog (.func (.func 105) #[] #[]) #[.pointer x33, .int .i64 x30, .int .i64 x31, .int .u64 x32, .pointer x36] w38 (retS (fun v40 w41 => ∃ (x39 : Option Addr), v40 = (.pointer x39 : Value) ∧ (
 R (.returned (.pointer x39)) w41)) (fun ch w => Kfn R ch [] w))))) (fun ch w => Kfn R ch [] w))))) (fun ch w => Kfn R ch [] w))))))))))))))))) (fun ch w => Kfn R ch [] w)))
set_option maxRecDepth 100000 in
theorem sh39_ok (l_p1 : Option Addr) (l_n2 : Nat) (l_c3 : Nat) {R : Ending → World → Prop} {w : World} : sh39 l_p1 l_n2 l_c3 R w → Calls Tryz.prog 39 #[.slice l_p1 l_n2 l_c3] w R :=
  calls_of_eq (ann := fun _ => []) (fn := Tryz.f39) (c := bodyOf Tryz.f39) (args := #[.slice l_p1 l_n2 l_c3]) 400 follows_mixed Tryz.func39 (by kernel_rfl) (by kernel_rfl)
set_option maxRecDepth 100000 in
/-- joinery/joineryref22.Items -/
def sh40 (code_1 : Int) (l_p2 : Option Addr) (l_n3 : Nat) (l_c4 : Nat) (R : Ending → World → Prop) (w : World) : Prop :=
 doCall Tryz.prog (.func (.func 110) #[] #[]) #[.slice l_p2 l_n3 l_c4] w (retS (fun v8 w9 => ∃ (xp5 : Option Addr), ∃ (xn6 : Nat), ∃ (xc7 : Nat), v8 = (.slice xp5 xn6 xc7 : Value) ∧ (
 let K11 : World → Prop := fun (w10 : World) => 
 R (.returned (.slice xp5 xn6 xc7)) w10
 ifB ((code_1 : Int) != 4) (
 ∃ (I12 : List Value → World → Prop) (μ13 : List Value → World → Nat), I12 [.int .i64 0] w9 ∧ (∀ (i_16 : Int), ∀ (_j14 : Nat → Value) (w15 : World), I12 [.int .i64 i_16] w15 → (
 ifB (decide ((i_16 : Int) < ((xn6 : Nat) : Int))) (
 doIx xp5 xn6 3 (i_16) (fun a17 =>
 doSt ((a17.add 2).add 0) (.int .u64 0) w15 (fun w18 =>
 I12 [.int .i64 (IntKind.wrap .i64 (i_16 + 1))] w18 ∧ μ13 [.int .i64 (IntKind.wrap .i64 (i_16 + 1))] w18 < μ13 [.int .i64 i_16] w15))) (
 K11 w15)))) (
 K11 w9))) (fun ch w => Kfn R ch [] w))
set_option maxRecDepth 100000 in
theorem sh40_ok (code_1 : Int) (l_p2 : Option Addr) (l_n3 : Nat) (l_c4 : Nat) {R : Ending → World → Prop} {w : World} : sh40 code_1 l_p2 l_n3 l_c4 R w → Calls Tryz.prog 40 #[.int .u8 code_1, .slice l_p2 l_n3 l_c4] w R :=
  calls_of_eq (ann := fun i => if i = 0 then [(6, .int .i64 0)] else []) (fn := Tryz.f40) (c := bodyOf Tryz.f40) (args := #[.int .u8 code_1, .slice l_p2 l_n3 l_c4]) 400 follows_mixed Tryz.func40 (by kernel_rfl) (by kernel_rfl)
set_option maxRecDepth 100000 in
/-- joinery/joinerylaw09.Is -/
def sh46 (t_1 : Option Addr) (l_p2 : Option Addr) (l_n3 : Nat) (l_c4 : Nat) (R : Ending → World → Prop) (w : World) : Prop :=
 doCall Tryz.prog (.func (.func 97) #[] #[]) #[.pointer t_1] w (retS (fun v9 w10 => ∃ (xp5 : Option Addr), ∃ (xn6 : Nat), ∃ (xc7 : Nat), ∃ (x8 : Bool), v9 = (.tuple #[.slice xp5 xn6 xc7, .bool x8] : Value) ∧ (
 let K13 : Bool → World → Prop := fun (x11 : Bool) (w12 : World) => 
 R (.returned (.bool x11)) w12
 ifB x8 (
 doCall Tryz.prog (.func (.func 53) #[] #[]) #[.slice xp5 xn6 xc7, .slice l_p2 l_n3 l_c4] w10 (retS (fun v15 w16 => ∃ (x14 : Bool), v15 = (.bool x14 : Value) ∧ (
 K13 x14 w16)) (fun ch w => Kfn R ch [] w))) (
 R (.returned (.bool false)) w10))) (fun ch w => Kfn R ch [] w))
set_option maxRecDepth 100000 in
theorem sh46_ok (t_1 : Option Addr) (l_p2 : Option Addr) (l_n3 : Nat) (l_c4 : Nat) {R : Ending → World → Prop} {w : World} : sh46 t_1 l_p2 l_n3 l_c4 R w → Calls Tryz.prog 46 #[.pointer t_1, .slice l_p2 l_n3 l_c4] w R :=
  calls_of_eq (ann := fun _ => []) (fn := Tryz.f46) (c := bodyOf Tryz.f46) (args := #[.pointer t_1, .slice l_p2 l_n3 l_c4]) 400 follows_mixed Tryz.func46 (by kernel_rfl) (by kernel_rfl)
set_option maxRecDepth 100000 in
/-- joinery/joineryref09.Of -/
def sh47 (l_p1 : Option Addr) (l_n2 : Nat) (l_c3 : Nat) (R : Ending → World → Prop) (w : World) : Prop :=
 ifB ((((l_n2 : Nat) : Int) : Int) == 0) (
 R (.returned (.slice none 0 0)) w) (
 doCall Tryz.prog (.func (.func 109) #[] #[]) #[.slice l_p1 l_n2 l_c3] w (retS (fun v17 w18 => ∃ (x4 : Int), ∃ (x5 : Int), ∃ (x6 : Int), ∃ (x7 : Int), ∃ (x8 : Int), ∃ (x9 : Bool), ∃ (x10 : Bool), ∃ (xp11 : Option Addr), ∃ (xn12 : Nat), ∃ (xc13 : Nat), ∃ (xp14 : Option Addr), ∃ (xn15 : Nat), ∃ (xc16 : Nat), v17 = (.tuple #[.agg #[.int .i64 x4, .int .i64 x5, .int .i64 x6, .int .i64 x7, .int .u64 x8, .bool x9, .bool x10], .slice xp11 xn12 xc13, .slice xp14 xn15 xc16] : Value) ∧ (
 doAl (.cells #[.int .i64 0, .int .i64 0, .int .i64 0, .int .i64 0, .int .u64 0, .bool false, .bool false] 150) w18 (fun b19 w20 =>
 doSt ((blk b19).add 0) (.int .i64 x4) w20 (fun w21 =>
 doSt ((blk b19).add 1) (.int .i64 x5) w21 (fun w22 =>
 doSt ((blk b19).add 2) (.int .i64 x6) w22 (fun w23 =>
 doSt ((blk b19).add 3) (.int .i64 x7) w23 (fun w24 =>
 doSt ((blk b19).add 4) (.int .u64 x8) w24 (fun w25 =>
 doSt ((blk b19).add 5) (.bool x9) w25 (fun w26 =>
 doSt ((blk b19).add 6) (.bool x10) w26 (fun w27 =>
 doSt (((blk b19).add 3).add 0) (.int .i64 ((l_n2 : Nat) : Int)) w27 (fun w28 =>
 doCall Tryz.prog (.func (.func 115) #[] #[]) #[.slice l_p1 l_n2 l_c3] w28 (retS (fun v30 w31 => ∃ (x29 : Int), v30 = (.int .i64 x29 : Value) ∧ (
 doSt (((blk b19).add 2).add 0) (.int .i64 x29) w31 (fun w32 =>
 let K37 : (Option Addr) → Nat → Nat → World → Prop := fun (out_p33 : Option Addr) (out_n34 : Nat) (out_c35 : Nat) (w36 : World) => 
 doCall Tryz.prog (.func (.func 47) #[] #[]) #[.slice xp14 xn15 xc16] w36 (retS (fun v41 w42 => ∃ (xp38 : Option Addr), ∃ (xn39 : Nat), ∃ (xc40 : Nat), v41 = (.slice xp38 xn39 xc40 : Value) ∧ (
 doGo Tryz.prog (.builtin .append #[57, 57] 57 #[false, false]) #[.slice out_p33 out_n34 out_c35, .slice xp38 xn39 xc40] w42 (retS (fun v46 w47 => ∃ (xp43 : Option Addr), ∃ (xn44 : Nat), ∃ (xc45 : Nat), v46 = (.slice xp43 xn44 xc45 : Value) ∧ (
 R (.returned (.slice xp43 xn44 xc45)) w47)) (fun ch w => Kfn R ch [] w)))) (fun ch w => Kfn R ch [] w))
 doDr w32 (fun w49 =>
 ∃ (C48 : World → Prop), C48 w49 ∧ (
 ∃ (x50 : Int), (∀ w, C48 w → World.cell? w ((blk b19).add 0) = some (.int .i64 x50)) ∧ (
 ∃ (x51 : Int), (∀ w, C48 w → World.cell? w ((blk b19).add 1) = some (.int .i64 x51)) ∧ (
 ∃ (x52 : Int), (∀ w, C48 w → World.cell? w ((blk b19).add 2) = some (.int .i64 x52)) ∧ (
 ∃ (x53 : Int), (∀ w, C48 w → World.cell? w ((blk b19).add 3) = some (.int .i64 x53)) ∧ (
 ∃ (x54 : Int), (∀ w, C48 w → World.cell? w ((blk b19).add 4) = some (.int .u64 x54)) ∧ (
 ∃ (x55 : Bool), (∀ w, C48 w → World.cell? w ((blk b19).add 5) = some (.bool x55)) ∧ (
 ∃ (x56 : Bool), (∀ w, C48 w → World.cell? w ((blk b19).add 6) = some (.bool x56)) ∧ (
 (doAl (.cells #[.int .i64 x50, .int .i64 x51, .int .i64 x52, .int .i64 x53, .int .u64 x54, .bool x55, .bool x56] 150) w49 (fun b57 w58 =>
 doCall Tryz.prog (.func (.func 47) #[] #[]) #[.slice xp11 xn12 xc13] w58 (retS (fun v62 w63 => ∃ (xp59 : Option Addr), ∃ (xn60 : Nat), ∃ (xc61 : Nat), v62 = (.slice xp59 xn60 xc61 : Value) ∧ (
 C48 w63 ∧ (
 doGo Tryz.prog (.builtin .append #[57, 57] 57 #[false, false]) #[.slice (some (blk b57)) 1 1, .slice xp59 xn60 xc61] w63 (retS (fun v67 w68 => ∃ (xp64 : Option Addr), ∃ (xn65 : Nat), ∃ (xc66 : Nat), v67 = (.slice xp64 xn65 xc66 : Value) ∧ (
 C48 w68 ∧ (
 K37 xp64 xn65 xc66 w68))) (fun ch w => Kfn R ch [] w))))) (fun ch w => Kfn R ch [] w)))) ∧ (doCall Tryz.prog (.func (.func 47) #[] #[]) #[.slice xp11 xn12 xc13] w49 (retS (fun v72 w73 => ∃ (xp69 : Option Addr), ∃ (xn70 : Nat), ∃ (xc71 : Nat), v72 = (.slice xp69 xn70 xc71 : Value) ∧ (
 C48 w73 ∧ (
 doAl (.cells #[.int .i64 x50, .int .i64 x51, .int .i64 x52, .int .i64 x53, .int .u64 x54, .bool x55, .bool x56] 150) w73 (fun b74 w75 =>
 doGo Tryz.prog (.builtin .append #[57, 57] 57 #[false, false]) #[.slice (some (blk b74)) 1 1, .slice xp69 xn70 xc71] w75 (retS (fun v79 w80 => ∃ (xp76 : Option Addr), ∃ (xn77 : Nat), ∃ (xc78 : Nat), v79 = (.slice xp76 xn77 xc78 : Value) ∧ (
 C48 w80 ∧ (
 K37 xp76 xn77 xc78 w80))) (fun ch w => Kfn R ch [] w)))))) (fun ch w => Kfn R ch [] w))))))))))))))) (fun ch w => Kfn R ch [] w))))))))))))) (fun ch w => Kfn R ch [] w)))
set_option maxRecDepth 100000 in
theorem sh47_ok (l_p1 : Option Addr) (l_n2 : Nat) (l_c3 : Nat) {R : Ending → World → Prop} {w : World} : sh47 l_p1 l_n2 l_c3 R w → Calls Tryz.prog 47 #[.slice l_p1 l_n2 l_c3] w R :=
  calls_of_eq (ann := fun _ => []) (fn := Tryz.f47) (c := bodyOf Tryz.f47) (args := #[.slice l_p1 l_n2 l_c3]) 400 follows_mixed Tryz.func47 (by kernel_rfl) (by kernel_rfl)
set_option maxRecDepth 100000 in
/-- joinery/joinerylaw09.Long -/
def sh52 (l_p1 : Option Addr) (l_n2 : Nat) (l_c3 : Nat) (R : Ending → World → Prop) (w : World) : Prop :=
 let K6 : Bool → World → Prop := fun (x4 : Bool) (w5 : World) => 
 R (.returned (.bool x4)) w5
 ifB (decide ((((l_n2 : Nat) : Int) : Int) > 400)) (
 R (.returned (.bool true)) w) (
 doCall Tryz.prog (.func (.func 120) #[] #[]) #[.slice l_p1 l_n2 l_c3] w (retS (fun v8 w9 => ∃ (x7 : Bool), v8 = (.bool x7 : Value) ∧ (
 K6 (!x7) w9)) (fun ch w => Kfn R ch [] w)))
set_option maxRecDepth 100000 in
theorem sh52_ok (l_p1 : Option Addr) (l_n2 : Nat) (l_c3 : Nat) {R : Ending → World → Prop} {w : World} : sh52 l_p1 l_n2 l_c3 R w → Calls Tryz.prog 52 #[.slice l_p1 l_n2 l_c3] w R :=
  calls_of_eq (ann := fun _ => []) (fn := Tryz.f52) (c := bodyOf Tryz.f52) (args := #[.slice l_p1 l_n2 l_c3]) 400 follows_mixed Tryz.func52 (by kernel_rfl) (by kernel_rfl)
set_option maxRecDepth 100000 in
/-- joinery/joineryref09.Same -/
def sh53 (a_p1 : Option Addr) (a_n2 : Nat) (_a_c3 : Nat) (b_p4 : Option Addr) (b_n5 : Nat) (_b_c6 : Nat) (R : Ending → World → Prop) (w : World) : Prop :=
 ifB ((((a_n2 : Nat) : Int) : Int) != ((b_n5 : Nat) : Int)) (
 R (.returned (.bool false)) w) (
 ∃ (I7 : List Value → World → Prop) (μ8 : List Value → World → Nat), I7 [.int .i64 0] w ∧ (∀ (i_11 : Int), ∀ (_j9 : Nat → Value) (w10 : World), I7 [.int .i64 i_11] w10 → (
 ifB (decide ((i_11 : Int) < ((a_n2 : Nat) : Int))) (
 doDr w10 (fun w13 =>
 ∃ (C12 : World → Prop), C12 w13 ∧ (
 doIx a_p1 a_n2 7 (i_11) (fun a14 =>
 ∃ (x15 : Int), (∀ w, C12 w → World.cell? w (a14.add 0) = some (.int .i64 x15)) ∧ (
 ∃ (x16 : Int), (∀ w, C12 w → World.cell? w (a14.add 1) = some (.int .i64 x16)) ∧ (
 ∃ (x17 : Int), (∀ w, C12 w → World.cell? w (a14.add 2) = some (.int .i64 x17)) ∧ (
 ∃ (x18 : Int), (∀ w, C12 w → World.cell? w (a14.add 3) = some (.int .i64 x18)) ∧ (
 ∃ (x19 : Int), (∀ w, C12 w → World.cell? w (a14.add 4) = some (.int .u64 x19)) ∧ (
 ∃ (x20 : Bool), (∀ w, C12 w → World.cell? w (a14.add 5) = some (.bool x20)) ∧ (
 ∃ (x21 : Bool), (∀ w, C12 w → World.cell? w (a14.add 6) = some (.bool x21)) ∧ (
 doIx b_p4 b_n5 7 (i_11) (fun a22 =>
 ∃ (x23 : Int), (∀ w, C12 w → World.cell? w (a22.add 0) = some (.int .i64 x23)) ∧ (
 ∃ (x24 : Int), (∀ w, C12 w → World.cell? w (a22.add 1) = some (.int .i64 x24)) ∧ (
 ∃ (x25 : Int), (∀ w, C12 w → World.cell? w (a22.add 2) = some (.int .i64 x25)) ∧ (
 ∃ (x26 : Int), (∀ w, C12 w → World.cell? w (a22.add 3) = some (.int .i64 x26)) ∧ (
 ∃ (x27 : Int), (∀ w, C12 w → World.cell? w (a22.add 4) = some (.int .u64 x27)) ∧ (
 ∃ (x28 : Bool), (∀ w, C12 w → World.cell? w (a22.add 5) = some (.bool x28)) ∧ (
 ∃ (x29 : Bool), (∀ w, C12 w → World.cell? w (a22.add 6) = some (.bool x29)) ∧ (
 ifB (!(((x15 : Int) == x23) && (((x16 : Int) == x24) && (((x17 : Int) == x25) && (((x18 : Int) == x26) && (((x19 : Int) == x27) && ((x20 == x28) && ((x21 == x29) && true)))))))) (
 R (.returned (.bool false)) w13) (
 I7 [.int .i64 (IntKind.wrap .i64 (i_11 + 1))] w13 ∧ μ8 [.int .i64 (IntKind.wrap .i64 (i_11 + 1))] w13 < μ8 [.int .i64 i_11] w10)))))))))))))))))))) (
 R (.returned (.bool true)) w10))))
set_option maxRecDepth 100000 in
theorem sh53_ok (a_p1 : Option Addr) (a_n2 : Nat) (a_c3 : Nat) (b_p4 : Option Addr) (b_n5 : Nat) (b_c6 : Nat) {R : Ending → World → Prop} {w : World} : sh53 a_p1 a_n2 a_c3 b_p4 b_n5 b_c6 R w → Calls Tryz.prog 53 #[.slice a_p1 a_n2 a_c3, .slice b_p4 b_n5 b_c6] w R :=
  calls_of_eq (ann := fun i => if i = 0 then [(5, .int .i64 0)] else []) (fn := Tryz.f53) (c := bodyOf Tryz.f53) (args := #[.slice a_p1 a_n2 a_c3, .slice b_p4 b_n5 b_c6]) 400 follows_mixed Tryz.func53 (by kernel_rfl) (by kernel_rfl)
set_option maxRecDepth 100000 in
/-- joinery/joineryref09.Pairs -/
def sh60 (l_p1 : Option Addr) (l_n2 : Nat) (l_c3 : Nat) (R : Ending → World → Prop) (w : World) : Prop :=
 ifB ((((l_n2 : Nat) : Int) : Int) == 0) (
 R (.returned (.slice none 0 0)) w) (
 doCall Tryz.prog (.func (.func 109) #[] #[]) #[.slice l_p1 l_n2 l_c3] w (retS (fun v17 w18 => ∃ (x4 : Int), ∃ (x5 : Int), ∃ (x6 : Int), ∃ (x7 : Int), ∃ (x8 : Int), ∃ (x9 : Bool), ∃ (x10 : Bool), ∃ (xp11 : Option Addr), ∃ (xn12 : Nat), ∃ (xc13 : Nat), ∃ (xp14 : Option Addr), ∃ (xn15 : Nat), ∃ (xc16 : Nat), v17 = (.tuple #[.agg #[.int .i64 x4, .int .i64 x5, .int .i64 x6, .int .i64 x7, .int .u64 x8, .bool x9, .bool x10], .slice xp11 xn12 xc13, .slice xp14 xn15 xc16] : Value) ∧ (
 doAl (.cells #[.int .i64 0, .int .i64 0, .int .i64 0, .int .i64 0, .int .u64 0, .bool false, .bool false] 150) w18 (fun b19 w20 =>
 doSt ((blk b19).add 0) (.int .i64 x4) w20 (fun w21 =>
 doSt ((blk b19).add 1) (.int .i64 x5) w21 (fun w22 =>
 doSt ((blk b19).add 2) (.int .i64 x6) w22 (fun w23 =>
 doSt ((blk b19).add 3) (.int .i64 x7) w23 (fun w24 =>
 doSt ((blk b19).add 4) (.int .u64 x8) w24 (fun w25 =>
 doSt ((blk b19).add 5) (.bool x9) w25 (fun w26 =>
 doSt ((blk b19).add 6) (.bool x10) w26 (fun w27 =>
 let K32 : (Option Addr) → Nat → Nat → World → Prop := fun (out_p28 : Option Addr) (out_n29 : Nat) (out_c30 : Nat) (w31 : World) => 
 doCall Tryz.prog (.func (.func 60) #[] #[]) #[.slice xp14 xn15 xc16] w31 (retS (fun v36 w37 => ∃ (xp33 : Option Addr), ∃ (xn34 : Nat), ∃ (xc35 : Nat), v36 = (.slice xp33 xn34 xc35 : Value) ∧ (
 doGo Tryz.prog (.builtin .append #[22, 22] 22 #[false, false]) #[.slice out_p28 out_n29 out_c30, .slice xp33 xn34 xc35] w37 (retS (fun v41 w42 => ∃ (xp38 : Option Addr), ∃ (xn39 : Nat), ∃ (xc40 : Nat), v41 = (.slice xp38 xn39 xc40 : Value) ∧ (
 R (.returned (.slice xp38 xn39 xc40)) w42)) (fun ch w => Kfn R ch [] w)))) (fun ch w => Kfn R ch [] w))
 doDr w27 (fun w44 =>
 ∃ (C43 : World → Prop), C43 w44 ∧ (
 ∃ (x45 : Int), (∀ w, C43 w → World.cell? w ((blk b19).add 0) = some (.int .i64 x45)) ∧ (
 ∃ (x46 : Int), (∀ w, C43 w → World.cell? w ((blk b19).add 1) = some (.int .i64 x46)) ∧ (
 (doCall Tryz.prog (.func (.func 60) #[] #[]) #[.slice xp11 xn12 xc13] w44 (retS (fun v50 w51 => ∃ (xp47 : Option Addr), ∃ (xn48 : Nat), ∃ (xc49 : Nat), v50 = (.slice xp47 xn48 xc49 : Value) ∧ (
 C43 w51 ∧ (
 doAl (.cells #[.int .i64 x45, .int .i64 x46] 46) w51 (fun b52 w53 =>
 C43 w53 ∧ (
 doGo Tryz.prog (.builtin .append #[22, 22] 22 #[false, false]) #[.slice xp47 xn48 xc49, .slice (some (blk b52)) 1 1] w53 (retS (fun v57 w58 => ∃ (xp54 : Option Addr), ∃ (xn55 : Nat), ∃ (xc56 : Nat), v57 = (.slice xp54 xn55 xc56 : Value) ∧ (
 C43 w58 ∧ (
 K32 xp54 xn55 xc56 w58))) (fun ch w => Kfn R ch [] w))))))) (fun ch w => Kfn R ch [] w))) ∧ (doAl (.cells #[.int .i64 x45, .int .i64 x46] 46) w44 (fun b59 w60 =>
 C43 w60 ∧ (
 doCall Tryz.prog (.func (.func 60) #[] #[]) #[.slice xp11 xn12 xc13] w60 (retS (fun v64 w65 => ∃ (xp61 : Option Addr), ∃ (xn62 : Nat), ∃ (xc63 : Nat), v64 = (.slice xp61 xn62 xc63 : Value) ∧ (
 C43 w65 ∧ (
 doGo Tryz.prog (.builtin .append #[22, 22] 22 #[false, false]) #[.slice xp61 xn62 xc63, .slice (some (blk b59)) 1 1] w65 (retS (fun v69 w70 => ∃ (xp66 : Option Addr), ∃ (xn67 : Nat), ∃ (xc68 : Nat), v69 = (.slice xp66 xn67 xc68 : Value) ∧ (
 C43 w70 ∧ (
 K32 xp66 xn67 xc68 w70))) (fun ch w => Kfn R ch [] w))))) (fun ch w => Kfn R ch [] w))))))))))))))))))) (fun ch w => Kfn R ch [] w)))
set_option maxRecDepth 100000 in
theorem sh60_ok (l_p1 : Option Addr) (l_n2 : Nat) (l_c3 : Nat) {R : Ending → World → Prop} {w : World} : sh60 l_p1 l_n2 l_c3 R w → Calls Tryz.prog 60 #[.slice l_p1 l_n2 l_c3] w R :=
  calls_of_eq (ann := fun _ => []) (fn := Tryz.f60) (c := bodyOf Tryz.f60) (args := #[.slice l_p1 l_n2 l_c3]) 400 follows_mixed Tryz.func60 (by kernel_rfl) (by kernel_rfl)
set_option maxRecDepth 100000 in
/-- joinery/joineryref02.Compare -/
def sh79 (o_1 : Int) (a_2 : Int) (b_3 : Int) (R : Ending → World → Prop) (w : World) : Prop :=
 let K6 : Bool → World → Prop := fun (x4 : Bool) (w5 : World) => 
 ifB x4 (
 R (.returned (.int .i64 0)) w5) (
 doCall Tryz.prog (.func (.func 150) #[] #[]) #[.int .u8 o_1, .int .i64 a_2] w5 (retS (fun v8 w9 => ∃ (x7 : Int), v8 = (.int .u64 x7 : Value) ∧ (
 doCall Tryz.prog (.func (.func 150) #[] #[]) #[.int .u8 o_1, .int .i64 b_3] w9 (retS (fun v11 w12 => ∃ (x10 : Int), v11 = (.int .u64 x10 : Value) ∧ (
 ifB (decide ((x7 : Int) < x10)) (
 R (.returned (.int .i64 (-1))) w12) (
 R (.returned (.int .i64 1)) w12))) (fun ch w => Kfn R ch [] w)))) (fun ch w => Kfn R ch [] w)))
 doCall Tryz.prog (.func (.func 16) #[] #[]) #[.int .u8 o_1] w (retS (fun v14 w15 => ∃ (x13 : Bool), v14 = (.bool x13 : Value) ∧ (
 ifB (!x13) (
 R (.returned (.int .i64 0)) w15) (
 doCall Tryz.prog (.func (.func 150) #[] #[]) #[.int .u8 o_1, .int .i64 a_2] w15 (retS (fun v17 w18 => ∃ (x16 : Int), v17 = (.int .u64 x16 : Value) ∧ (
 doCall Tryz.prog (.func (.func 150) #[] #[]) #[.int .u8 o_1, .int .i64 b_3] w18 (retS (fun v20 w21 => ∃ (x19 : Int), v20 = (.int .u64 x19 : Value) ∧ (
 K6 ((x16 : Int) == x19) w21)) (fun ch w => Kfn R ch [] w)))) (fun ch w => Kfn R ch [] w))))) (fun ch w => Kfn R ch [] w))
set_option maxRecDepth 100000 in
theorem sh79_ok (o_1 : Int) (a_2 : Int) (b_3 : Int) {R : Ending → World → Prop} {w : World} : sh79 o_1 a_2 b_3 R w → Calls Tryz.prog 79 #[.int .u8 o_1, .int .i64 a_2, .int .i64 b_3] w R :=
  calls_of_eq (ann := fun _ => []) (fn := Tryz.f79) (c := bodyOf Tryz.f79) (args := #[.int .u8 o_1, .int .i64 a_2, .int .i64 b_3]) 400 follows_mixed Tryz.func79 (by kernel_rfl) (by kernel_rfl)
set_option maxRecDepth 100000 in
/-- joinery/union.Union -/
def sh86 (s_1 : Option Addr) (o_2 : Int) (p_3 : Int) (a_4 : Option Addr) (b_5 : Option Addr) (R : Ending → World → Prop) (w : World) : Prop :=
 doCall Tryz.prog (.func (.func 156) #[] #[]) #[.pointer s_1, .int .u8 o_2, .int .u8 p_3] w (retS (fun v7 w8 => ∃ (x6 : Bool), v7 = (.bool x6 : Value) ∧ (
 ifB (!x6) (
 R (.returned (.tuple #[.pointer none, .int .i64 2])) w8) (
 doCall Tryz.prog (.func (.func 157) #[] #[]) #[.pointer s_1, .int .u8 o_2, .func (.func 158) #[.int .u8 p_3] #[], .pointer a_4, .pointer b_5] w8 (retS (fun v10 w11 => ∃ (x9 : Option Addr), v10 = (.pointer x9 : Value) ∧ (
 R (.returned (.tuple #[.pointer x9, .int .i64 0])) w11)) (fun ch w => Kfn R ch [] w))))) (fun ch w => Kfn R ch [] w))
set_option maxRecDepth 100000 in
theorem sh86_ok (s_1 : Option Addr) (o_2 : Int) (p_3 : Int) (a_4 : Option Addr) (b_5 : Option Addr) {R : Ending → World → Prop} {w : World} : sh86 s_1 o_2 p_3 a_4 b_5 R w → Calls Tryz.prog 86 #[.pointer s_1, .int .u8 o_2, .int .u8 p_3, .pointer a_4, .pointer b_5] w R :=
  calls_of_eq (ann := fun _ => []) (fn := Tryz.f86) (c := bodyOf Tryz.f86) (args := #[.pointer s_1, .int .u8 o_2, .int .u8 p_3, .pointer a_4, .pointer b_5]) 400 follows_mixed Tryz.func86 (by kernel_rfl) (by kernel_rfl)
end Go.Proofs.YtlddfgfmkapoiaaGreat

namespace Go.Proofs.YtlddfgfmkapoiaaGreat
open Go Go.Sh
set_option maxRecDepth 100000 in
/-- joinery/joinerylaw27.nothing -/
def sh19 (o_1 : Int) (p_2 : Int) (R : Ending → World → Prop) (w : World) : Prop :=
 doCall Tryz.prog (.func (.func 15) #[] #[]) #[.int .u8 4] w (retS (fun v5 w6 => ∃ (x3 : Option Addr), ∃ (x4 : Bool), v5 = (.tuple #[.pointer x3, .bool x4] : Value) ∧ (
 doCall Tryz.prog (.func (.func 32) #[] #[]) #[.pointer none, .int .u8 1, .pointer none, .slice none 0 0] w6 (retS (fun v9 w10 => ∃ (x7 : Option Addr), ∃ (x8 : Int), v9 = (.tuple #[.pointer x7, .int .i64 x8] : Value) ∧ (
 doAl (.cells #[.int .i64 1, .int .i64 0] 46) w10 (fun b11 w12 =>
 doCall Tryz.prog (.func (.func 23) #[] #[]) #[.pointer x3, .int .u8 o_1, .int .u8 p_2, .pointer none, .slice (some (blk b11)) 1 1] w12 (retS (fun v15 w16 => ∃ (x13 : Option Addr), ∃ (x14 : Int), v15 = (.tuple #[.pointer x13, .int .i64 x14] : Value) ∧ (
 doAl (.cells #[.int .i64 1] 2) w16 (fun b17 w18 =>
 doCall Tryz.prog (.func (.func 24) #[] #[]) #[.pointer x3, .int .u8 o_1, .pointer none, .slice (some (blk b17)) 1 1] w18 (retS (fun v21 w22 => ∃ (x19 : Option Addr), ∃ (x20 : Int), v21 = (.tuple #[.pointer x19, .int .i64 x20] : Value) ∧ (
 doCall Tryz.prog (.func (.func 16) #[] #[]) #[.int .u8 o_1] w22 (retS (fun v24 w25 => ∃ (x23 : Bool), v24 = (.bool x23 : Value) ∧ (
 let K28 : Bool → World → Prop := fun (x26 : Bool) (w27 : World) => 
 R (.returned (.bool x26)) w27
 ifB ((x7).isNone) (
 ifB ((x8 : Int) == 2) (
 doCall Tryz.prog (.func (.func 93) #[] #[]) #[.pointer none, .slice none 0 0] w25 (retS (fun v30 w31 => ∃ (x29 : Option Addr), v30 = (.pointer x29 : Value) ∧ (
 ifB ((x29).isNone) (
 ifB x23 (
 doCall Tryz.prog (.func (.func 17) #[] #[]) #[.int .u8 p_2] w31 (retS (fun v33 w34 => ∃ (x32 : Bool), v33 = (.bool x32 : Value) ∧ (
 ifB x32 (
 ifB x23 (
 R (.returned (.bool true)) w34) (
 ifB ((x19).isNone) (
 K28 ((x20 : Int) == 2) w34) (
 R (.returned (.bool false)) w34))) (
 ifB ((x13).isNone) (
 ifB ((x14 : Int) == 2) (
 ifB x23 (
 R (.returned (.bool true)) w34) (
 ifB ((x19).isNone) (
 K28 ((x20 : Int) == 2) w34) (
 R (.returned (.bool false)) w34))) (
 R (.returned (.bool false)) w34)) (
 R (.returned (.bool false)) w34)))) (fun ch w => Kfn R ch [] w))) (
 ifB ((x13).isNone) (
 ifB ((x14 : Int) == 2) (
 ifB x23 (
 R (.returned (.bool true)) w31) (
 ifB ((x19).isNone) (
 K28 ((x20 : Int) == 2) w31) (
 R (.returned (.bool false)) w31))) (
 R (.returned (.bool false)) w31)) (
 R (.returned (.bool false)) w31))) (
 R (.returned (.bool false)) w31))) (fun ch w => Kfn R ch [] w))) (
 R (.returned (.bool false)) w25)) (
 R (.returned (.bool false)) w25))) (fun ch w => Kfn R ch [] w)))) (fun ch w => Kfn R ch [] w))))) (fun ch w => Kfn R ch [] w))))) (fun ch w => Kfn R ch [] w)))) (fun ch w => Kfn R ch [] w))
set_option maxRecDepth 100000 in
theorem sh19_ok (o_1 : Int) (p_2 : Int) {R : Ending → World → Prop} {w : World} : sh19 o_1 p_2 R w → Calls Tryz.prog 19 #[.int .u8 o_1, .int .u8 p_2] w R :=
  calls_of_eq (ann := fun _ => []) (fn := Tryz.f19) (c := bodyOf Tryz.f19) (args := #[.int .u8 o_1, .int .u8 p_2]) 400 follows_mixed Tryz.func19 (by kernel_rfl) (by kernel_rfl)
set_option maxRecDepth 100000 in
/-- joinery/joinerylaw27.alive -/
def sh20  (R : Ending → World → Prop) (w : World) : Prop :=
 doCall Tryz.prog (.func (.func 15) #[] #[]) #[.int .u8 3] w (retS (fun v3 w4 => ∃ (x1 : Option Addr), ∃ (x2 : Bool), v3 = (.tuple #[.pointer x1, .bool x2] : Value) ∧ (
 ifB (!x2) (
 R (.returned (.bool false)) w4) (
 doAl (.cells #[.int .i64 2, .int .i64 20, .int .i64 1, .int .i64 10, .int .i64 2, .int .i64 5] 46) w4 (fun b5 w6 =>
 doCall Tryz.prog (.func (.func 23) #[] #[]) #[.pointer x1, .int .u8 1, .int .u8 3, .pointer none, .slice (some (blk b5)) 3 3] w6 (retS (fun v9 w10 => ∃ (x7 : Option Addr), ∃ (x8 : Int), v9 = (.tuple #[.pointer x7, .int .i64 x8] : Value) ∧ (
 doAl (.cells #[.int .i64 2, .int .i64 0, .int .i64 1, .int .i64 0] 46) w10 (fun b11 w12 =>
 doCall Tryz.prog (.func (.func 32) #[] #[]) #[.pointer x1, .int .u8 1, .pointer none, .slice (some (blk b11)) 2 2] w12 (retS (fun v15 w16 => ∃ (x13 : Option Addr), ∃ (x14 : Int), v15 = (.tuple #[.pointer x13, .int .i64 x14] : Value) ∧ (
 let K19 : Bool → World → Prop := fun (x17 : Bool) (w18 : World) => 
 R (.returned (.bool x17)) w18
 ifB ((x8 : Int) == 0) (
 ifB ((x14 : Int) == 2) (
 doAl (.cells #[.int .i64 1, .int .i64 10, .int .u64 0, .int .i64 2, .int .i64 25, .int .u64 0] 114) w16 (fun b20 w21 =>
 doCall Tryz.prog (.func (.func 27) #[] #[]) #[.int .u8 3, .pointer x7, .slice (some (blk b20)) 2 2] w21 (retS (fun v23 w24 => ∃ (x22 : Bool), v23 = (.bool x22 : Value) ∧ (
 K19 x22 w24)) (fun ch w => Kfn R ch [] w)))) (
 R (.returned (.bool false)) w16)) (
 R (.returned (.bool false)) w16))) (fun ch w => Kfn R ch [] w))))) (fun ch w => Kfn R ch [] w)))))) (fun ch w => Kfn R ch [] w))
set_option maxRecDepth 100000 in
theorem sh20_ok  {R : Ending → World → Prop} {w : World} : sh20  R w → Calls Tryz.prog 20 #[] w R :=
  calls_of_eq (ann := fun _ => []) (fn := Tryz.f20) (c := bodyOf Tryz.f20) (args := #[]) 400 follows_mixed Tryz.func20 (by kernel_rfl) (by kernel_rfl)
set_option maxRecDepth 100000 in
/-- joinery/joinerylaw27.Drawn -/
def sh21 (l_p1 : Option Addr) (l_n2 : Nat) (l_c3 : Nat) (none_4 : Bool) (R : Ending → World → Prop) (w : World) : Prop :=
 ifB none_4 (
 R (.returned (.pointer none)) w) (
 doGo Tryz.prog (.builtin .append #[23, 23] 23 #[true, false]) #[.slice none 0 0, .slice l_p1 l_n2 l_c3] w (retS (fun v8 w9 => ∃ (xp5 : Option Addr), ∃ (xn6 : Nat), ∃ (xc7 : Nat), v8 = (.slice xp5 xn6 xc7 : Value) ∧ (
 doCall Tryz.prog (.func (.func 94) #[] #[]) #[.slice xp5 xn6 xc7] w9 (retS (fun v11 w12 => ∃ (x10 : Option Addr), v11 = (.pointer x10 : Value) ∧ (
 R (.returned (.pointer x10)) w12)) (fun ch w => Kfn R ch [] w)))) (fun ch w => Kfn R ch [] w)))
set_option maxRecDepth 100000 in
theorem sh21_ok (l_p1 : Option Addr) (l_n2 : Nat) (l_c3 : Nat) (none_4 : Bool) {R : Ending → World → Prop} {w : World} : sh21 l_p1 l_n2 l_c3 none_4 R w → Calls Tryz.prog 21 #[.slice l_p1 l_n2 l_c3, .bool none_4] w R :=
  calls_of_eq (ann := fun _ => []) (fn := Tryz.f21) (c := bodyOf Tryz.f21) (args := #[.slice l_p1 l_n2 l_c3, .bool none_4]) 400 follows_mixed Tryz.func21 (by kernel_rfl) (by kernel_rfl)
set_option maxRecDepth 100000 in
/-- joinery/joineryref08.New -/
def sh22 (l_p1 : Option Addr) (l_n2 : Nat) (l_c3 : Nat) (R : Ending → World → Prop) (w : World) : Prop :=
 doGo Tryz.prog (.builtin .append #[23, 23] 23 #[true, false]) #[.slice none 0 0, .slice l_p1 l_n2 l_c3] w (retS (fun v7 w8 => ∃ (xp4 : Option Addr), ∃ (xn5 : Nat), ∃ (xc6 : Nat), v7 = (.slice xp4 xn5 xc6 : Value) ∧ (
 doAl (.cells #[.slice xp4 xn5 xc6] 128) w8 (fun b9 w10 =>
 R (.returned (.pointer (some (blk b9)))) w10))) (fun ch w => Kfn R ch [] w))
set_option maxRecDepth 100000 in
theorem sh22_ok (l_p1 : Option Addr) (l_n2 : Nat) (l_c3 : Nat) {R : Ending → World → Prop} {w : World} : sh22 l_p1 l_n2 l_c3 R w → Calls Tryz.prog 22 #[.slice l_p1 l_n2 l_c3] w R :=
  calls_of_eq (ann := fun _ => []) (fn := Tryz.f22) (c := bodyOf Tryz.f22) (args := #[.slice l_p1 l_n2 l_c3]) 400 follows_mixed Tryz.func22 (by kernel_rfl) (by kernel_rfl)
set_option maxRecDepth 100000 in
/-- joinery/build.Of -/
def sh23 (s_1 : Option Addr) (o_2 : Int) (p_3 : Int) (d_4 : Option Addr) (l_p5 : Option Addr) (l_n6 : Nat) (l_c7 : Nat) (R : Ending → World → Prop) (w : World) : Prop :=
 doCall Tryz.prog (.func (.func 95) #[] #[]) #[.int .u8 o_2, .int .u8 p_3, .slice l_p5 l_n6 l_c7] w (retS (fun v12 w13 => ∃ (xp8 : Option Addr), ∃ (xn9 : Nat), ∃ (xc10 : Nat), ∃ (x11 : Int), v12 = (.tuple #[.slice xp8 xn9 xc10, .int .i64 x11] : Value) ∧ (
 ifB ((x11 : Int) != 0) (
 R (.returned (.tuple #[.pointer none, .int .i64 x11])) w13) (
 doCall Tryz.prog (.func (.func 32) #[] #[]) #[.pointer s_1, .int .u8 o_2, .pointer d_4, .slice xp8 xn9 xc10] w13 (retS (fun v16 w17 => ∃ (x14 : Option Addr), ∃ (x15 : Int), v16 = (.tuple #[.pointer x14, .int .i64 x15] : Value) ∧ (
 R (.returned (.tuple #[.pointer x14, .int .i64 x15])) w17)) (fun ch w => Kfn R ch [] w))))) (fun ch w => Kfn R ch [] w))
set_option maxRecDepth 100000 in
theorem sh23_ok (s_1 : Option Addr) (o_2 : Int) (p_3 : Int) (d_4 : Option Addr) (l_p5 : Option Addr) (l_n6 : Nat) (l_c7 : Nat) {R : Ending → World → Prop} {w : World} : sh23 s_1 o_2 p_3 d_4 l_p5 l_n6 l_c7 R w → Calls Tryz.prog 23 #[.pointer s_1, .int .u8 o_2, .int .u8 p_3, .pointer d_4, .slice l_p5 l_n6 l_c7] w R :=
  calls_of_eq (ann := fun _ => []) (fn := Tryz.f23) (c := bodyOf Tryz.f23) (args := #[.pointer s_1, .int .u8 o_2, .int .u8 p_3, .pointer d_4, .slice l_p5 l_n6 l_c7]) 400 follows_mixed Tryz.func23 (by kernel_rfl) (by kernel_rfl)
set_option maxRecDepth 100000 in
/-- joinery/build.Keys -/
def sh24 (s_1 : Option Addr) (o_2 : Int) (d_3 : Option Addr) (keys_p4 : Option Addr) (keys_n5 : Nat) (_keys_c6 : Nat) (R : Ending → World → Prop) (w : World) : Prop :=
 ∃ (p7 : Option Addr) (n8 : Nat) (c9 : Nat) (w10 : World), (Instr.makeSlice 22 (.int .i64 ((keys_n5 : Nat) : Int)) (.int .i64 ((keys_n5 : Nat) : Int))).run Tryz.prog w = .ok (.slice p7 n8 c9) w10 ∧ (
 ∃ (I11 : List Value → World → Prop) (μ12 : List Value → World → Nat), I11 [.int .i64 0] w10 ∧ (∀ (x15 : Int), ∀ (_j13 : Nat → Value) (w14 : World), I11 [.int .i64 x15] w14 → (
 ifB (decide ((x15 : Int) < ((keys_n5 : Nat) : Int))) (
 doIx keys_p4 keys_n5 1 (x15) (fun a16 =>
 ∃ (x17 : Int), World.cell? w14 a16 = some (.int .i64 x17) ∧ (
 doIx p7 n8 2 (x15) (fun a18 =>
 doSt ((a18.add 0).add 0) (.int .i64 x17) w14 (fun w19 =>
 I11 [.int .i64 (IntKind.wrap .i64 (x15 + 1))] w19 ∧ μ12 [.int .i64 (IntKind.wrap .i64 (x15 + 1))] w19 < μ12 [.int .i64 x15] w14))))) (
 doCall Tryz.prog (.func (.func 23) #[] #[]) #[.pointer s_1, .int .u8 o_2, .int .u8 1, .pointer d_3, .slice p7 n8 c9] w14 (retS (fun v22 w23 => ∃ (x20 : Option Addr), ∃ (x21 : Int), v22 = (.tuple #[.pointer x20, .int .i64 x21] : Value) ∧ (
 R (.returned (.tuple #[.pointer x20, .int .i64 x21])) w23)) (fun ch w => Kfn R ch [] w))))))
set_option maxRecDepth 100000 in
theorem sh24_ok (s_1 : Option Addr) (o_2 : Int) (d_3 : Option Addr) (keys_p4 : Option Addr) (keys_n5 : Nat) (keys_c6 : Nat) {R : Ending → World → Prop} {w : World} : sh24 s_1 o_2 d_3 keys_p4 keys_n5 keys_c6 R w → Calls Tryz.prog 24 #[.pointer s_1, .int .u8 o_2, .pointer d_3, .slice keys_p4 keys_n5 keys_c6] w R :=
  calls_of_eq (ann := fun i => if i = 0 then [(18, .int .i64 0)] else []) (fn := Tryz.f24) (c := bodyOf Tryz.f24) (args := #[.pointer s_1, .int .u8 o_2, .pointer d_3, .slice keys_p4 keys_n5 keys_c6]) 400 follows_mixed Tryz.func24 (by kernel_rfl) (by kernel_rfl)
set_option maxRecDepth 100000 in
/-- joinery/joineryref27.Of -/
def sh25 (code_1 : Int) (o_2 : Int) (p_3 : Int) (d_4 : Option Addr) (l_p5 : Option Addr) (l_n6 : Nat) (l_c7 : Nat) (R : Ending → World → Prop) (w : World) : Prop :=
 doCall Tryz.prog (.func (.func 96) #[] #[]) #[.int .u8 o_2, .int .u8 p_3, .slice l_p5 l_n6 l_c7] w (retS (fun v12 w13 => ∃ (xp8 : Option Addr), ∃ (xn9 : Nat), ∃ (xc10 : Nat), ∃ (x11 : Int), v12 = (.tuple #[.slice xp8 xn9 xc10, .int .i64 x11] : Value) ∧ (
 doCall Tryz.prog (.func (.func 35) #[] #[]) #[.int .u8 code_1, .pointer d_4, .slice xp8 xn9 xc10] w13 (retS (fun v17 w18 => ∃ (xp14 : Option Addr), ∃ (xn15 : Nat), ∃ (xc16 : Nat), v17 = (.slice xp14 xn15 xc16 : Value) ∧ (
 R (.returned (.slice xp14 xn15 xc16)) w18)) (fun ch w => Kfn R ch [] w)))) (fun ch w => Kfn R ch [] w))
set_option maxRecDepth 100000 in
theorem sh25_ok (code_1 : Int) (o_2 : Int) (p_3 : Int) (d_4 : Option Addr) (l_p5 : Option Addr) (l_n6 : Nat) (l_c7 : Nat) {R : Ending → World → Prop} {w : World} : sh25 code_1 o_2 p_3 d_4 l_p5 l_n6 l_c7 R w → Calls Tryz.prog 25 #[.int .u8 code_1, .int .u8 o_2, .int .u8 p_3, .pointer d_4, .slice l_p5 l_n6 l_c7] w R :=
  calls_of_eq (ann := fun _ => []) (fn := Tryz.f25) (c := bodyOf Tryz.f25) (args := #[.int .u8 code_1, .int .u8 o_2, .int .u8 p_3, .pointer d_4, .slice l_p5 l_n6 l_c7]) 400 follows_mixed Tryz.func25 (by kernel_rfl) (by kernel_rfl)
set_option maxRecDepth 100000 in
/-- joinery/joineryref27.Zero -/
def sh26 (keys_p1 : Option Addr) (keys_n2 : Nat) (_keys_c3 : Nat) (R : Ending → World → Prop) (w : World) : Prop :=
 ∃ (I4 : List Value → World → Prop) (μ5 : List Value → World → Nat), I4 [.slice none 0 0, .int .i64 0] w ∧ (∀ (out_p8 : Option Addr), ∀ (out_n9 : Nat), ∀ (out_c10 : Nat), ∀ (i_11 : Int), ∀ (_j6 : Nat → Value) (w7 : World), I4 [.slice out_p8 out_n9 out_c10, .int .i64 i_11] w7 → (
 ifB (decide ((i_11 : Int) < ((keys_n2 : Nat) : Int))) (
 doIx keys_p1 keys_n2 1 (i_11) (fun a12 =>
 ∃ (x13 : Int), World.cell? w7 a12 = some (.int .i64 x13) ∧ (
 doAl (.cells #[.int .i64 x13, .int .i64 0] 46) w7 (fun b14 w15 =>
 doGo Tryz.prog (.builtin .append #[22, 22] 22 #[false, false]) #[.slice out_p8 out_n9 out_c10, .slice (some (blk b14)) 1 1] w15 (retS (fun v19 w20 => ∃ (xp16 : Option Addr), ∃ (xn17 : Nat), ∃ (xc18 : Nat), v19 = (.slice xp16 xn17 xc18 : Value) ∧ (
 I4 [.slice xp16 xn17 xc18, .int .i64 (IntKind.wrap .i64 (i_11 + 1))] w20 ∧ μ5 [.slice xp16 xn17 xc18, .int .i64 (IntKind.wrap .i64 (i_11 + 1))] w20 < μ5 [.slice out_p8 out_n9 out_c10, .int .i64 i_11] w7)) (fun ch w => Kfn R ch [] w)))))) (
 R (.returned (.slice out_p8 out_n9 out_c10)) w7)))
set_option maxRecDepth 100000 in
theorem sh26_ok (keys_p1 : Option Addr) (keys_n2 : Nat) (keys_c3 : Nat) {R : Ending → World → Prop} {w : World} : sh26 keys_p1 keys_n2 keys_c3 R w → Calls Tryz.prog 26 #[.slice keys_p1 keys_n2 keys_c3] w R :=
  calls_of_eq (ann := fun i => if i = 0 then [(3, .slice none 0 0), (4, .int .i64 0)] else []) (fn := Tryz.f26) (c := bodyOf Tryz.f26) (args := #[.slice keys_p1 keys_n2 keys_c3]) 400 follows_mixed Tryz.func26 (by kernel_rfl) (by kernel_rfl)
set_option maxRecDepth 100000 in
/-- joinery/build.Row -/
def sh32 (s_1 : Option Addr) (o_2 : Int) (d_3 : Option Addr) (l_p4 : Option Addr) (l_n5 : Nat) (l_c6 : Nat) (R : Ending → World → Prop) (w : World) : Prop :=
 let K13 : Bool → Value → Value → Value → Value → World → Prop := fun (x7 : Bool) (d8 : Value) (d9 : Value) (d10 : Value) (d11 : Value) (w12 : World) => 
 doAl (.cells #[.slice none 0 0] 40) w12 (fun b14 w15 =>
 doCall Tryz.prog (.func (.func 102) #[] #[]) #[.pointer s_1, .pointer d_3, .slice l_p4 l_n5 l_c6] w15 (retS (fun v19 w20 => ∃ (xf16 : Fn), ∃ (xx17 : Array Value), ∃ (xc18 : Array Value), v19 = (.func xf16 xx17 xc18 : Value) ∧ (
 rfW Tryz.prog (.func xf16 xx17 xc18) (mkLoop #[.pointer s_1, .int .u8 o_2, .pointer d_3, .slice l_p4 l_n5 l_c6, undef, undef, undef, undef, .pointer none, .int .i64 0, .pointer (some (blk b14)), undef, .pointer s_1, .bool ((s_1).isNone), .bool x7, d8, d9, d10, d11, .bool false, .pointer s_1, .pointer d_3, .slice l_p4 l_n5 l_c6, .func xf16 xx17 xc18, undef, undef, undef, undef, undef, undef, undef, undef] (rfOf Tryz.f32 0).1 (rfOf Tryz.f32 0).2.1 (rfOf Tryz.f32 0).2.2)
 (fun w21 =>
 ∃ (xp22 : Option Addr), ∃ (xn23 : Nat), ∃ (xc24 : Nat), World.cell? w21 (blk b14) = some (.slice xp22 xn23 xc24) ∧ (
 doCall Tryz.prog (.func (.func 93) #[] #[]) #[.pointer s_1, .slice xp22 xn23 xc24] w21 (retS (fun v26 w27 => ∃ (x25 : Option Addr), v26 = (.pointer x25 : Value) ∧ (
 w27.heap[w20.heap.size]? = some (.deferred (some [])) ∧ (
 let w28 : World := w27.putObj w20.heap.size (.deferred none)
 R (.returned (.tuple #[.pointer x25, .int .i64 0])) w28))) (fun ch w => Kfn R ch [{ target := .collected w20.heap.size, args := #[] }] w))))
 (fun w29 =>
 w29.heap[w20.heap.size]? = some (.deferred (some [])) ∧ (
 let w30 : World := w29.putObj w20.heap.size (.deferred none)
 R (.returned (.tuple #[.pointer none, .int .i64 0])) w30))
 [] w20)) (fun ch w => Kfn R ch [] w)))
 let _K38 : Bool → Value → Value → Value → Value → Bool → World → Prop := fun (x31 : Bool) (d32 : Value) (d33 : Value) (d34 : Value) (d35 : Value) (x36 : Bool) (w37 : World) => 
 ifB x36 (
 R (.returned (.tuple #[.pointer none, .int .i64 2])) w37) (
 K13 x31 (d32 : Value) (d33 : Value) (d34 : Value) (d35 : Value) w37)
 ifB ((s_1).isNone) (
 R (.returned (.tuple #[.pointer none, .int .i64 2])) w) (
 doCall Tryz.prog (.func (.func 101) #[] #[]) #[.int .u8 o_2, .slice l_p4 l_n5 l_c6] w (retS (fun v40 w41 => ∃ (x39 : Bool), v40 = (.bool x39 : Value) ∧ (
 ifB (!x39) (
 R (.returned (.tuple #[.pointer none, .int .i64 2])) w41) (
 K13 false (.int .u8 o_2 : Value) (.slice l_p4 l_n5 l_c6 : Value) (.bool x39 : Value) (.bool (!x39) : Value) w41))) (fun ch w => Kfn R ch [] w)))
set_option maxRecDepth 100000 in
theorem sh32_ok (s_1 : Option Addr) (o_2 : Int) (d_3 : Option Addr) (l_p4 : Option Addr) (l_n5 : Nat) (l_c6 : Nat) {R : Ending → World → Prop} {w : World} : sh32 s_1 o_2 d_3 l_p4 l_n5 l_c6 R w → Calls Tryz.prog 32 #[.pointer s_1, .int .u8 o_2, .pointer d_3, .slice l_p4 l_n5 l_c6] w R :=
  calls_of_eq (ann := fun _ => []) (fn := Tryz.f32) (c := bodyOf Tryz.f32) (args := #[.pointer s_1, .int .u8 o_2, .pointer d_3, .slice l_p4 l_n5 l_c6]) 400 follows_mixed Tryz.func32 (by kernel_rfl) (by kernel_rfl)
set_option maxRecDepth 100000 in
/-- joinery/build.Row, a round of loop 0 -/
def sh32_0 (all_1 : Addr) (y33 : Int) (y34 : Int) (y35 : Int) (l : Nat) (R : Ending → World → Prop) (w : World) : Prop :=
 doAl (.cells #[.int .i64 0, .int .i64 0, .int .u64 0] 114) w (fun b36 w37 =>
 doSt ((blk b36).add 0) (.int .i64 y33) w37 (fun w38 =>
 doSt ((blk b36).add 1) (.int .i64 y34) w38 (fun w39 =>
 doSt ((blk b36).add 2) (.int .u64 y35) w39 (fun w40 =>
 ∃ (r41 : Loop), w40.heap[l]? = some (.loop r41) ∧ r41.state = .ready ∧ (
 let w42 : World := w40.putObj l (.loop { r41 with state := .busy })
 ∃ (xp43 : Option Addr), ∃ (xn44 : Nat), ∃ (xc45 : Nat), World.cell? w42 all_1 = some (.slice xp43 xn44 xc45) ∧ (
 ∃ (x46 : Int), World.cell? w42 ((blk b36).add 0) = some (.int .i64 x46) ∧ (
 ∃ (x47 : Int), World.cell? w42 ((blk b36).add 1) = some (.int .i64 x47) ∧ (
 ∃ (x48 : Int), World.cell? w42 ((blk b36).add 2) = some (.int .u64 x48) ∧ (
 doAl (.cells #[.int .i64 x46, .int .i64 x47, .int .u64 x48] 114) w42 (fun b49 w50 =>
 doGo Tryz.prog (.builtin .append #[40, 40] 40 #[false, false]) #[.slice xp43 xn44 xc45, .slice (some (blk b49)) 1 1] w50 (retS (fun v54 w55 => ∃ (xp51 : Option Addr), ∃ (xn52 : Nat), ∃ (xc53 : Nat), v54 = (.slice xp51 xn52 xc53 : Value) ∧ (
 doSt (all_1.add 0) (.slice xp51 xn52 xc53) w55 (fun w56 =>
 ∃ (r57 : Loop), w56.heap[l]? = some (.loop r57) ∧ R (.returned (.bool true)) (w56.putObj l (.loop { r57 with state := .ready, pending := none }))))) (fun _ _ => False))))))))))))
set_option maxRecDepth 100000 in
theorem sh32_0_ok {dd2 : Value} {dd3 : Value} {dd4 : Value} {dd5 : Value} {dd6 : Value} {dd7 : Value} {dd8 : Value} {dd9 : Value} {dd10 : Value} {dd11 : Value} {dd12 : Value} {dd13 : Value} {dd14 : Value} {dd15 : Value} {dd16 : Value} {dd17 : Value} {dd18 : Value} {dd19 : Value} {dd20 : Value} {dd21 : Value} {dd22 : Value} {dd23 : Value} {dd24 : Value} {dd25 : Value} {dd26 : Value} {dd27 : Value} {dd28 : Value} {dd29 : Value} {dd30 : Value} {dd31 : Value} {dd32 : Value} {all_1 : Addr} {y33 : Int} {y34 : Int} {y35 : Int} {l fn D : Nat} {R : Ending → World → Prop} {w : World} (hl : w.heap[l]? = some (.loop (mkLoop #[dd2, dd3, dd4, dd5, dd6, dd7, dd8, dd9, dd10, dd11, .pointer (some all_1), dd12, dd13, dd14, dd15, dd16, dd17, dd18, dd19, dd20, dd21, dd22, dd23, dd24, dd25, dd26, dd27, dd28, dd29, dd30, dd31, dd32] (rfOf Tryz.f32 0).1 (rfOf Tryz.f32 0).2.1 (rfOf Tryz.f32 0).2.2 fn D))) : sh32_0 all_1 y33 y34 y35 l R w → doCall Tryz.prog (.func (.yield l) #[] #[]) #[.agg #[.int .i64 y33, .int .i64 y34, .int .u64 y35]] w R :=
  fun h => ⟨round_of_eq (ann := fun _ => []) 400 follows_mixed hl (by kernel_rfl) (by kernel_rfl) h⟩
set_option maxRecDepth 100000 in
/-- (*joinery/draw.Draws).Left -/
def sh33 (d_1 : Option Addr) (R : Ending → World → Prop) (w : World) : Prop :=
 ifB ((d_1).isNone) (
 R (.returned (.int .i64 0)) w) (
 ∃ (q2 : Addr), d_1 = some q2 ∧ (
 ∃ (xf3 : Fn), ∃ (xx4 : Array Value), ∃ (xc5 : Array Value), World.cell? w (q2.add 2) = some (.func xf3 xx4 xc5) ∧ (
 doCall Tryz.prog (.func xf3 xx4 xc5) #[] w (retS (fun v7 w8 => ∃ (x6 : Int), v7 = (.int .i64 x6 : Value) ∧ (
 R (.returned (.int .i64 x6)) w8)) (fun ch w => Kfn R ch [] w)))))
set_option maxRecDepth 100000 in
theorem sh33_ok (d_1 : Option Addr) {R : Ending → World → Prop} {w : World} : sh33 d_1 R w → Calls Tryz.prog 33 #[.pointer d_1] w R :=
  calls_of_eq (ann := fun _ => []) (fn := Tryz.f33) (c := bodyOf Tryz.f33) (args := #[.pointer d_1]) 400 follows_mixed Tryz.func33 (by kernel_rfl) (by kernel_rfl)
set_option maxRecDepth 100000 in
/-- joinery/joinerylaw27.left -/
def sh34 (_l_p1 : Option Addr) (l_n2 : Nat) (_l_c3 : Nat) (none_4 : Bool) (n_5 : Int) (R : Ending → World → Prop) (w : World) : Prop :=
 ifB none_4 (
 R (.returned (.int .i64 0)) w) (
 doGo Tryz.prog (.builtin .max #[3, 3] 3 #[false, true]) #[.int .i64 (IntKind.wrap .i64 (((l_n2 : Nat) : Int) - n_5)), .int .i64 0] w (retS (fun v7 w8 => ∃ (x6 : Int), v7 = (.int .i64 x6 : Value) ∧ (
 R (.returned (.int .i64 x6)) w8)) (fun ch w => Kfn R ch [] w)))
set_option maxRecDepth 100000 in
theorem sh34_ok (l_p1 : Option Addr) (l_n2 : Nat) (l_c3 : Nat) (none_4 : Bool) (n_5 : Int) {R : Ending → World → Prop} {w : World} : sh34 l_p1 l_n2 l_c3 none_4 n_5 R w → Calls Tryz.prog 34 #[.slice l_p1 l_n2 l_c3, .bool none_4, .int .i64 n_5] w R :=
  calls_of_eq (ann := fun _ => []) (fn := Tryz.f34) (c := bodyOf Tryz.f34) (args := #[.slice l_p1 l_n2 l_c3, .bool none_4, .int .i64 n_5]) 400 follows_mixed Tryz.func34 (by kernel_rfl) (by kernel_rfl)
end Go.Proofs.YtlddfgfmkapoiaaGreat

