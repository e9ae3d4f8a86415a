/-
  Printed by a program (gen.py): what the functions of the program do, as formulas; each with the proof that its call is what the formula says.
-/
import Derived.Test.YtinkkhcffoikmaaCd
import Derived.Test.YtinkkhcffoikmaaProg
import Derived.Test.YtinkkhcffoikmaaS1
namespace Go.Proofs.Ytinkkhcffoikmaa
open Go Go.Sh
set_option maxRecDepth 100000 in
/-- joinery/joineryref04.Put -/
def sh45 (o_1 : Int) (p_2 : Int) (l_p3 : Option Addr) (l_n4 : Nat) (l_c5 : Nat) (x_6 : Int) (x_7 : Int) (R : Ending → World → Prop) (w : World) : Prop :=
 doAl (.cells #[.int .i64 x_6, .int .i64 x_7] 38) w (fun b8 w9 =>
 let K12 : Bool → World → Prop := fun (x10 : Bool) (w11 : World) => 
 ifB x10 (
 R (.returned (.tuple #[.slice none 0 0, .int .i64 2])) w11) (
 ∃ (x13 : Int), World.cell? w11 ((blk b8).add 0) = some (.int .i64 x13) ∧ (
 doCall Try.prog (.func (.func 43) #[] #[]) #[.int .u8 o_1, .slice l_p3 l_n4 l_c5, .int .i64 x13] w11 (retS (fun v16 w17 => ∃ (x14 : Int), ∃ (x15 : Bool), v16 = (.tuple #[.int .i64 x14, .bool x15] : Value) ∧ (
 doSl l_p3 l_c5 2 (0) (x14) (fun p18 n19 c20 =>
 doGo Try.prog (.builtin .append #[33, 33] 33 #[true, false]) #[.slice none 0 0, .slice p18 n19 c20] w17 (retS (fun v24 w25 => ∃ (xp21 : Option Addr), ∃ (xn22 : Nat), ∃ (xc23 : Nat), v24 = (.slice xp21 xn22 xc23 : Value) ∧ (
 let K28 : Int → World → Prop := fun (i_26 : Int) (w27 : World) => 
 doDr w27 (fun w30 =>
 ∃ (C29 : World → Prop), C29 w30 ∧ (
 ∃ (x31 : Int), (∀ w, C29 w → World.cell? w ((blk b8).add 0) = some (.int .i64 x31)) ∧ (
 ∃ (x32 : Int), (∀ w, C29 w → World.cell? w ((blk b8).add 1) = some (.int .i64 x32)) ∧ (
 doSl l_p3 l_c5 2 (i_26) (((l_n4 : Nat) : Int)) (fun p33 n34 c35 =>
 doAl (.cells #[.int .i64 x31, .int .i64 x32] 38) w30 (fun b36 w37 =>
 doGo Try.prog (.builtin .append #[33, 33] 33 #[false, false]) #[.slice xp21 xn22 xc23, .slice (some (blk b36)) 1 1] w37 (retS (fun v41 w42 => ∃ (xp38 : Option Addr), ∃ (xn39 : Nat), ∃ (xc40 : Nat), v41 = (.slice xp38 xn39 xc40 : Value) ∧ (
 C29 w42 ∧ (
 doGo Try.prog (.builtin .append #[33, 33] 33 #[false, false]) #[.slice xp38 xn39 xc40, .slice p33 n34 c35] w42 (retS (fun v46 w47 => ∃ (xp43 : Option Addr), ∃ (xn44 : Nat), ∃ (xc45 : Nat), v46 = (.slice xp43 xn44 xc45 : Value) ∧ (
 C29 w47 ∧ (
 R (.returned (.tuple #[.slice xp43 xn44 xc45, .int .i64 0])) w47))) (fun ch w => Kfn R ch [] w))))) (fun ch w => Kfn R ch [] w))))))))
 ifB x15 (
 doDr w25 (fun w49 =>
 ∃ (C48 : World → Prop), C48 w49 ∧ (
 doIx l_p3 l_n4 2 (x14) (fun a50 =>
 ∃ (x51 : Int), (∀ w, C48 w → World.cell? w (a50.add 1) = some (.int .i64 x51)) ∧ (
 ∃ (x52 : Int), (∀ w, C48 w → World.cell? w ((blk b8).add 1) = some (.int .i64 x52)) ∧ (
 doCall Try.prog (.func (.func 97) #[] #[]) #[.int .u8 p_2, .int .i64 x51, .int .i64 x52] w49 (retS (fun v54 w55 => ∃ (x53 : Int), v54 = (.int .i64 x53 : Value) ∧ (
 doSt (((blk b8).add 1).add 0) (.int .i64 x53) w55 (fun w56 =>
 K28 (IntKind.wrap .i64 (x14 + 1)) w56))) (fun ch w => Kfn R ch [] w)))))))) (
 K28 x14 w25))) (fun ch w => Kfn R ch [] w))))) (fun ch w => Kfn R ch [] w))))
 doCall Try.prog (.func (.func 49) #[] #[]) #[.int .u8 o_1, .slice l_p3 l_n4 l_c5] w9 (retS (fun v58 w59 => ∃ (x57 : Bool), v58 = (.bool x57 : Value) ∧ (
 ifB (!x57) (
 R (.returned (.tuple #[.slice none 0 0, .int .i64 2])) w59) (
 doCall Try.prog (.func (.func 80) #[] #[]) #[.int .u8 p_2] w59 (retS (fun v61 w62 => ∃ (x60 : Bool), v61 = (.bool x60 : Value) ∧ (
 K12 (!x60) w62)) (fun ch w => Kfn R ch [] w))))) (fun ch w => Kfn R ch [] w)))
set_option maxRecDepth 100000 in
theorem sh45_ok (o_1 : Int) (p_2 : Int) (l_p3 : Option Addr) (l_n4 : Nat) (l_c5 : Nat) (x_6 : Int) (x_7 : Int) {R : Ending → World → Prop} {w : World} : sh45 o_1 p_2 l_p3 l_n4 l_c5 x_6 x_7 R w → Calls Try.prog 45 #[.int .u8 o_1, .int .u8 p_2, .slice l_p3 l_n4 l_c5, .agg #[.int .i64 x_6, .int .i64 x_7]] w R :=
  calls_of_eq (ann := fun _ => []) (fn := Try.f45) (c := bodyOf Try.f45) (args := #[.int .u8 o_1, .int .u8 p_2, .slice l_p3 l_n4 l_c5, .agg #[.int .i64 x_6, .int .i64 x_7]]) 400 follows_mixed Try.func45 (by kernel_rfl) (by kernel_rfl)
set_option maxRecDepth 100000 in
/-- joinery/joineryref04.Drop -/
def sh46 (o_1 : Int) (l_p2 : Option Addr) (l_n3 : Nat) (l_c4 : Nat) (key_5 : Int) (R : Ending → World → Prop) (w : World) : Prop :=
 doCall Try.prog (.func (.func 49) #[] #[]) #[.int .u8 o_1, .slice l_p2 l_n3 l_c4] w (retS (fun v7 w8 => ∃ (x6 : Bool), v7 = (.bool x6 : Value) ∧ (
 ifB (!x6) (
 R (.returned (.tuple #[.slice none 0 0, .bool false])) w8) (
 ∃ (I9 : List Value → World → Prop) (μ10 : List Value → World → Nat), I9 [.slice none 0 0, .bool false, .int .i64 0] w8 ∧ (∀ (out_p13 : Option Addr), ∀ (out_n14 : Nat), ∀ (out_c15 : Nat), ∀ (was_16 : Bool), ∀ (i_17 : Int), ∀ (_j11 : Nat → Value) (w12 : World), I9 [.slice out_p13 out_n14 out_c15, .bool was_16, .int .i64 i_17] w12 → (
 ifB (decide ((i_17 : Int) < ((l_n3 : Nat) : Int))) (
 let K23 : (Option Addr) → Nat → Nat → Bool → World → Prop := fun (out_p18 : Option Addr) (out_n19 : Nat) (out_c20 : Nat) (was_21 : Bool) (w22 : World) => 
 I9 [.slice out_p18 out_n19 out_c20, .bool was_21, .int .i64 (IntKind.wrap .i64 (i_17 + 1))] w22 ∧ μ10 [.slice out_p18 out_n19 out_c20, .bool was_21, .int .i64 (IntKind.wrap .i64 (i_17 + 1))] w22 < μ10 [.slice out_p13 out_n14 out_c15, .bool was_16, .int .i64 i_17] w12
 doIx l_p2 l_n3 2 (i_17) (fun a24 =>
 ∃ (x25 : Int), World.cell? w12 (a24.add 0) = some (.int .i64 x25) ∧ (
 ifB ((x25 : Int) == key_5) (
 I9 [.slice out_p13 out_n14 out_c15, .bool true, .int .i64 (IntKind.wrap .i64 (i_17 + 1))] w12 ∧ μ10 [.slice out_p13 out_n14 out_c15, .bool true, .int .i64 (IntKind.wrap .i64 (i_17 + 1))] w12 < μ10 [.slice out_p13 out_n14 out_c15, .bool was_16, .int .i64 i_17] w12) (
 doIx l_p2 l_n3 2 (i_17) (fun a26 =>
 ∃ (x27 : Int), World.cell? w12 (a26.add 0) = some (.int .i64 x27) ∧ (
 ∃ (x28 : Int), World.cell? w12 (a26.add 1) = some (.int .i64 x28) ∧ (
 doAl (.cells #[.int .i64 x27, .int .i64 x28] 38) w12 (fun b29 w30 =>
 doGo Try.prog (.builtin .append #[33, 33] 33 #[false, false]) #[.slice out_p13 out_n14 out_c15, .slice (some (blk b29)) 1 1] w30 (retS (fun v34 w35 => ∃ (xp31 : Option Addr), ∃ (xn32 : Nat), ∃ (xc33 : Nat), v34 = (.slice xp31 xn32 xc33 : Value) ∧ (
 K23 xp31 xn32 xc33 was_16 w35)) (fun ch w => Kfn R ch [] w)))))))))) (
 R (.returned (.tuple #[.slice out_p13 out_n14 out_c15, .bool was_16])) w12)))))) (fun ch w => Kfn R ch [] w))
set_option maxRecDepth 100000 in
theorem sh46_ok (o_1 : Int) (l_p2 : Option Addr) (l_n3 : Nat) (l_c4 : Nat) (key_5 : Int) {R : Ending → World → Prop} {w : World} : sh46 o_1 l_p2 l_n3 l_c4 key_5 R w → Calls Try.prog 46 #[.int .u8 o_1, .slice l_p2 l_n3 l_c4, .int .i64 key_5] w R :=
  calls_of_eq (ann := fun i => if i = 0 then [(8, .slice none 0 0), (9, .bool false), (10, .int .i64 0)] else []) (fn := Try.f46) (c := bodyOf Try.f46) (args := #[.int .u8 o_1, .slice l_p2 l_n3 l_c4, .int .i64 key_5]) 400 follows_mixed Try.func46 (by kernel_rfl) (by kernel_rfl)
set_option maxRecDepth 100000 in
/-- joinery/joineryref04.Floor -/
def sh47 (o_1 : Int) (l_p2 : Option Addr) (l_n3 : Nat) (l_c4 : Nat) (key_5 : Int) (R : Ending → World → Prop) (w : World) : Prop :=
 doAl (.cells #[.int .i64 0, .int .i64 0] 38) w (fun b6 w7 =>
 doAl (.cells #[.int .i64 0, .int .i64 0] 38) w7 (fun b8 w9 =>
 doSt ((blk b8).add 0) (.int .i64 0) w9 (fun w10 =>
 doSt ((blk b8).add 1) (.int .i64 0) w10 (fun w11 =>
 let K14 : Bool → World → Prop := fun (is_12 : Bool) (w13 : World) => 
 ∃ (x15 : Int), World.cell? w13 ((blk b8).add 0) = some (.int .i64 x15) ∧ (
 ∃ (x16 : Int), World.cell? w13 ((blk b8).add 1) = some (.int .i64 x16) ∧ (
 doSt ((blk b6).add 0) (.int .i64 x15) w13 (fun w17 =>
 doSt ((blk b6).add 1) (.int .i64 x16) w17 (fun w18 =>
 ∃ (x19 : Int), World.cell? w18 ((blk b6).add 0) = some (.int .i64 x19) ∧ (
 ∃ (x20 : Int), World.cell? w18 ((blk b6).add 1) = some (.int .i64 x20) ∧ (
 R (.returned (.tuple #[.agg #[.int .i64 x19, .int .i64 x20], .bool is_12])) w18))))))
 ∃ (I21 : List Value → World → Prop) (μ22 : List Value → World → Nat), I21 [.bool false, .int .i64 0] w11 ∧ (∀ (is_25 : Bool), ∀ (i_26 : Int), ∀ (_j23 : Nat → Value) (w24 : World), I21 [.bool is_25, .int .i64 i_26] w24 → (
 let K29 : Bool → World → Prop := fun (x27 : Bool) (w28 : World) => 
 ifB x27 (
 let K32 : Bool → World → Prop := fun (is_30 : Bool) (w31 : World) => 
 I21 [.bool is_30, .int .i64 (IntKind.wrap .i64 (i_26 + 1))] w31 ∧ μ22 [.bool is_30, .int .i64 (IntKind.wrap .i64 (i_26 + 1))] w31 < μ22 [.bool is_25, .int .i64 i_26] w24
 doIx l_p2 l_n3 2 (i_26) (fun a33 =>
 ∃ (x34 : Int), World.cell? w28 (a33.add 0) = some (.int .i64 x34) ∧ (
 doCall Try.prog (.func (.func 96) #[] #[]) #[.int .u8 o_1, .int .i64 key_5, .int .i64 x34] w28 (retS (fun v36 w37 => ∃ (x35 : Bool), v36 = (.bool x35 : Value) ∧ (
 ifB (!x35) (
 doIx l_p2 l_n3 2 (i_26) (fun a38 =>
 ∃ (x39 : Int), World.cell? w37 (a38.add 0) = some (.int .i64 x39) ∧ (
 ∃ (x40 : Int), World.cell? w37 (a38.add 1) = some (.int .i64 x40) ∧ (
 doSt ((blk b8).add 0) (.int .i64 x39) w37 (fun w41 =>
 doSt ((blk b8).add 1) (.int .i64 x40) w41 (fun w42 =>
 I21 [.bool true, .int .i64 (IntKind.wrap .i64 (i_26 + 1))] w42 ∧ μ22 [.bool true, .int .i64 (IntKind.wrap .i64 (i_26 + 1))] w42 < μ22 [.bool is_25, .int .i64 i_26] w24)))))) (
 K32 is_25 w37))) (fun ch w => Kfn R ch [] w))))) (
 K14 is_25 w28)
 doCall Try.prog (.func (.func 49) #[] #[]) #[.int .u8 o_1, .slice l_p2 l_n3 l_c4] w24 (retS (fun v44 w45 => ∃ (x43 : Bool), v44 = (.bool x43 : Value) ∧ (
 ifB x43 (
 K29 (decide ((i_26 : Int) < ((l_n3 : Nat) : Int))) w45) (
 K14 is_25 w45))) (fun ch w => Kfn R ch [] w))))))))
set_option maxRecDepth 100000 in
theorem sh47_ok (o_1 : Int) (l_p2 : Option Addr) (l_n3 : Nat) (l_c4 : Nat) (key_5 : Int) {R : Ending → World → Prop} {w : World} : sh47 o_1 l_p2 l_n3 l_c4 key_5 R w → Calls Try.prog 47 #[.int .u8 o_1, .slice l_p2 l_n3 l_c4, .int .i64 key_5] w R :=
  calls_of_eq (ann := fun i => if i = 0 then [(9, .bool false), (10, .int .i64 0)] else []) (fn := Try.f47) (c := bodyOf Try.f47) (args := #[.int .u8 o_1, .slice l_p2 l_n3 l_c4, .int .i64 key_5]) 400 follows_mixed Try.func47 (by kernel_rfl) (by kernel_rfl)
set_option maxRecDepth 100000 in
/-- joinery/joineryref04.Ceil -/
def sh48 (o_1 : Int) (l_p2 : Option Addr) (l_n3 : Nat) (l_c4 : Nat) (key_5 : Int) (R : Ending → World → Prop) (w : World) : Prop :=
 doAl (.cells #[.int .i64 0, .int .i64 0] 38) w (fun b6 w7 =>
 doCall Try.prog (.func (.func 43) #[] #[]) #[.int .u8 o_1, .slice l_p2 l_n3 l_c4, .int .i64 key_5] w7 (retS (fun v10 w11 => ∃ (x8 : Int), ∃ (x9 : Bool), v10 = (.tuple #[.int .i64 x8, .bool x9] : Value) ∧ (
 let K14 : Bool → World → Prop := fun (x12 : Bool) (w13 : World) => 
 ifB x12 (
 doSt ((blk b6).add 0) (.int .i64 0) w13 (fun w15 =>
 doSt ((blk b6).add 1) (.int .i64 0) w15 (fun w16 =>
 ∃ (x17 : Int), World.cell? w16 ((blk b6).add 0) = some (.int .i64 x17) ∧ (
 ∃ (x18 : Int), World.cell? w16 ((blk b6).add 1) = some (.int .i64 x18) ∧ (
 R (.returned (.tuple #[.agg #[.int .i64 x17, .int .i64 x18], .bool false])) w16))))) (
 doIx l_p2 l_n3 2 (x8) (fun a19 =>
 ∃ (x20 : Int), World.cell? w13 (a19.add 0) = some (.int .i64 x20) ∧ (
 ∃ (x21 : Int), World.cell? w13 (a19.add 1) = some (.int .i64 x21) ∧ (
 doSt ((blk b6).add 0) (.int .i64 x20) w13 (fun w22 =>
 doSt ((blk b6).add 1) (.int .i64 x21) w22 (fun w23 =>
 ∃ (x24 : Int), World.cell? w23 ((blk b6).add 0) = some (.int .i64 x24) ∧ (
 ∃ (x25 : Int), World.cell? w23 ((blk b6).add 1) = some (.int .i64 x25) ∧ (
 R (.returned (.tuple #[.agg #[.int .i64 x24, .int .i64 x25], .bool true])) w23))))))))
 doCall Try.prog (.func (.func 49) #[] #[]) #[.int .u8 o_1, .slice l_p2 l_n3 l_c4] w11 (retS (fun v27 w28 => ∃ (x26 : Bool), v27 = (.bool x26 : Value) ∧ (
 ifB (!x26) (
 doSt ((blk b6).add 0) (.int .i64 0) w28 (fun w29 =>
 doSt ((blk b6).add 1) (.int .i64 0) w29 (fun w30 =>
 ∃ (x31 : Int), World.cell? w30 ((blk b6).add 0) = some (.int .i64 x31) ∧ (
 ∃ (x32 : Int), World.cell? w30 ((blk b6).add 1) = some (.int .i64 x32) ∧ (
 R (.returned (.tuple #[.agg #[.int .i64 x31, .int .i64 x32], .bool false])) w30))))) (
 K14 (decide ((x8 : Int) ≥ ((l_n3 : Nat) : Int))) w28))) (fun ch w => Kfn R ch [] w)))) (fun ch w => Kfn R ch [] w)))
set_option maxRecDepth 100000 in
theorem sh48_ok (o_1 : Int) (l_p2 : Option Addr) (l_n3 : Nat) (l_c4 : Nat) (key_5 : Int) {R : Ending → World → Prop} {w : World} : sh48 o_1 l_p2 l_n3 l_c4 key_5 R w → Calls Try.prog 48 #[.int .u8 o_1, .slice l_p2 l_n3 l_c4, .int .i64 key_5] w R :=
  calls_of_eq (ann := fun _ => []) (fn := Try.f48) (c := bodyOf Try.f48) (args := #[.int .u8 o_1, .slice l_p2 l_n3 l_c4, .int .i64 key_5]) 400 follows_mixed Try.func48 (by kernel_rfl) (by kernel_rfl)
set_option maxRecDepth 100000 in
/-- joinery/joineryref04.May -/
def sh49 (o_1 : Int) (l_p2 : Option Addr) (l_n3 : Nat) (_l_c4 : Nat) (R : Ending → World → Prop) (w : World) : Prop :=
 ∃ (I5 : List Value → World → Prop) (μ6 : List Value → World → Nat), I5 [.int .i64 1] w ∧ (∀ (i_9 : Int), ∀ (_j7 : Nat → Value) (w8 : World), I5 [.int .i64 i_9] w8 → (
 ifB (decide ((i_9 : Int) < ((l_n3 : Nat) : Int))) (
 doDr w8 (fun w11 =>
 ∃ (C10 : World → Prop), C10 w11 ∧ (
 doIx l_p2 l_n3 2 (IntKind.wrap .i64 (i_9 - 1)) (fun a12 =>
 ∃ (x13 : Int), (∀ w, C10 w → World.cell? w (a12.add 0) = some (.int .i64 x13)) ∧ (
 doIx l_p2 l_n3 2 (i_9) (fun a14 =>
 ∃ (x15 : Int), (∀ w, C10 w → World.cell? w (a14.add 0) = some (.int .i64 x15)) ∧ (
 doCall Try.prog (.func (.func 96) #[] #[]) #[.int .u8 o_1, .int .i64 x13, .int .i64 x15] w11 (retS (fun v17 w18 => ∃ (x16 : Bool), v17 = (.bool x16 : Value) ∧ (
 ifB (!x16) (
 R (.returned (.bool false)) w18) (
 I5 [.int .i64 (IntKind.wrap .i64 (i_9 + 1))] w18 ∧ μ6 [.int .i64 (IntKind.wrap .i64 (i_9 + 1))] w18 < μ6 [.int .i64 i_9] w8))) (fun ch w => Kfn R ch [] w))))))))) (
 doCall Try.prog (.func (.func 75) #[] #[]) #[.int .u8 o_1] w8 (retS (fun v20 w21 => ∃ (x19 : Bool), v20 = (.bool x19 : Value) ∧ (
 R (.returned (.bool x19)) w21)) (fun ch w => Kfn R ch [] w)))))
set_option maxRecDepth 100000 in
theorem sh49_ok (o_1 : Int) (l_p2 : Option Addr) (l_n3 : Nat) (l_c4 : Nat) {R : Ending → World → Prop} {w : World} : sh49 o_1 l_p2 l_n3 l_c4 R w → Calls Try.prog 49 #[.int .u8 o_1, .slice l_p2 l_n3 l_c4] w R :=
  calls_of_eq (ann := fun i => if i = 0 then [(5, .int .i64 0)] else []) (fn := Try.f49) (c := bodyOf Try.f49) (args := #[.int .u8 o_1, .slice l_p2 l_n3 l_c4]) 400 follows_mixed Try.func49 (by kernel_rfl) (by kernel_rfl)
set_option maxRecDepth 100000 in
/-- joinery/joineryref04.Same -/
def sh50 (a_p1 : Option Addr) (a_n2 : Nat) (_a_c3 : Nat) (b_p4 : Option Addr) (b_n5 : Nat) (_b_c6 : Nat) (R : Ending → World → Prop) (w : World) : Prop :=
 ifB ((((a_n2 : Nat) : Int) : Int) != ((b_n5 : Nat) : Int)) (
 R (.returned (.bool false)) w) (
 ∃ (I7 : List Value → World → Prop) (μ8 : List Value → World → Nat), I7 [.int .i64 0] w ∧ (∀ (i_11 : Int), ∀ (_j9 : Nat → Value) (w10 : World), I7 [.int .i64 i_11] w10 → (
 ifB (decide ((i_11 : Int) < ((a_n2 : Nat) : Int))) (
 doDr w10 (fun w13 =>
 ∃ (C12 : World → Prop), C12 w13 ∧ (
 doIx a_p1 a_n2 2 (i_11) (fun a14 =>
 ∃ (x15 : Int), (∀ w, C12 w → World.cell? w (a14.add 0) = some (.int .i64 x15)) ∧ (
 ∃ (x16 : Int), (∀ w, C12 w → World.cell? w (a14.add 1) = some (.int .i64 x16)) ∧ (
 doIx b_p4 b_n5 2 (i_11) (fun a17 =>
 ∃ (x18 : Int), (∀ w, C12 w → World.cell? w (a17.add 0) = some (.int .i64 x18)) ∧ (
 ∃ (x19 : Int), (∀ w, C12 w → World.cell? w (a17.add 1) = some (.int .i64 x19)) ∧ (
 ifB (!(((x15 : Int) == x18) && (((x16 : Int) == x19) && true))) (
 R (.returned (.bool false)) w13) (
 I7 [.int .i64 (IntKind.wrap .i64 (i_11 + 1))] w13 ∧ μ8 [.int .i64 (IntKind.wrap .i64 (i_11 + 1))] w13 < μ8 [.int .i64 i_11] w10)))))))))) (
 R (.returned (.bool true)) w10))))
set_option maxRecDepth 100000 in
theorem sh50_ok (a_p1 : Option Addr) (a_n2 : Nat) (a_c3 : Nat) (b_p4 : Option Addr) (b_n5 : Nat) (b_c6 : Nat) {R : Ending → World → Prop} {w : World} : sh50 a_p1 a_n2 a_c3 b_p4 b_n5 b_c6 R w → Calls Try.prog 50 #[.slice a_p1 a_n2 a_c3, .slice b_p4 b_n5 b_c6] w R :=
  calls_of_eq (ann := fun i => if i = 0 then [(5, .int .i64 0)] else []) (fn := Try.f50) (c := bodyOf Try.f50) (args := #[.slice a_p1 a_n2 a_c3, .slice b_p4 b_n5 b_c6]) 400 follows_mixed Try.func50 (by kernel_rfl) (by kernel_rfl)
set_option maxRecDepth 100000 in
/-- joinery/row.Sum -/
def sh51 (l_p1 : Option Addr) (l_n2 : Nat) (_l_c3 : Nat) (R : Ending → World → Prop) (w : World) : Prop :=
 ∃ (I4 : List Value → World → Prop) (μ5 : List Value → World → Nat), I4 [.slice none 0 0, .int .i64 0] w ∧ (∀ (v_p8 : Option Addr), ∀ (v_n9 : Nat), ∀ (v_c10 : Nat), ∀ (x11 : Int), ∀ (_j6 : Nat → Value) (w7 : World), I4 [.slice v_p8 v_n9 v_c10, .int .i64 x11] w7 → (
 ifB (decide ((x11 : Int) < ((l_n2 : Nat) : Int))) (
 doIx l_p1 l_n2 2 (x11) (fun a12 =>
 ∃ (x13 : Int), World.cell? w7 (a12.add 0) = some (.int .i64 x13) ∧ (
 ∃ (x14 : Int), World.cell? w7 (a12.add 1) = some (.int .i64 x14) ∧ (
 doAl (.cells #[.int .i64 0, .int .i64 0] 38) w7 (fun b15 w16 =>
 doSt ((blk b15).add 0) (.int .i64 x13) w16 (fun w17 =>
 doSt ((blk b15).add 1) (.int .i64 x14) w17 (fun w18 =>
 ∃ (x19 : Int), World.cell? w18 ((blk b15).add 1) = some (.int .i64 x19) ∧ (
 doAl (.cells #[.int .i64 x19] 2) w18 (fun b20 w21 =>
 doGo Try.prog (.builtin .append #[23, 23] 23 #[false, false]) #[.slice v_p8 v_n9 v_c10, .slice (some (blk b20)) 1 1] w21 (retS (fun v25 w26 => ∃ (xp22 : Option Addr), ∃ (xn23 : Nat), ∃ (xc24 : Nat), v25 = (.slice xp22 xn23 xc24 : Value) ∧ (
 I4 [.slice xp22 xn23 xc24, .int .i64 (IntKind.wrap .i64 (x11 + 1))] w26 ∧ μ5 [.slice xp22 xn23 xc24, .int .i64 (IntKind.wrap .i64 (x11 + 1))] w26 < μ5 [.slice v_p8 v_n9 v_c10, .int .i64 x11] w7)) (fun ch w => Kfn R ch [] w))))))))))) (
 doCall Try.prog (.func (.func 98) #[] #[]) #[.slice v_p8 v_n9 v_c10] w7 (retS (fun v28 w29 => ∃ (x27 : Int), v28 = (.int .i64 x27 : Value) ∧ (
 R (.returned (.int .i64 x27)) w29)) (fun ch w => Kfn R ch [] w)))))
set_option maxRecDepth 100000 in
theorem sh51_ok (l_p1 : Option Addr) (l_n2 : Nat) (l_c3 : Nat) {R : Ending → World → Prop} {w : World} : sh51 l_p1 l_n2 l_c3 R w → Calls Try.prog 51 #[.slice l_p1 l_n2 l_c3] w R :=
  calls_of_eq (ann := fun i => if i = 0 then [(3, .slice none 0 0), (8, .int .i64 0)] else []) (fn := Try.f51) (c := bodyOf Try.f51) (args := #[.slice l_p1 l_n2 l_c3]) 400 follows_mixed Try.func51 (by kernel_rfl) (by kernel_rfl)
set_option maxRecDepth 100000 in
/-- joinery/joineryref04.Sum -/
def sh52 (l_p1 : Option Addr) (l_n2 : Nat) (_l_c3 : Nat) (R : Ending → World → Prop) (w : World) : Prop :=
 ∃ (I4 : List Value → World → Prop) (μ5 : List Value → World → Nat), I4 [.int .i64 0, .int .i64 0] w ∧ (∀ (v_8 : Int), ∀ (i_9 : Int), ∀ (_j6 : Nat → Value) (w7 : World), I4 [.int .i64 v_8, .int .i64 i_9] w7 → (
 ifB (decide ((i_9 : Int) < ((l_n2 : Nat) : Int))) (
 doIx l_p1 l_n2 2 (i_9) (fun a10 =>
 ∃ (x11 : Int), World.cell? w7 (a10.add 1) = some (.int .i64 x11) ∧ (
 I4 [.int .i64 (IntKind.wrap .i64 (v_8 + x11)), .int .i64 (IntKind.wrap .i64 (i_9 + 1))] w7 ∧ μ5 [.int .i64 (IntKind.wrap .i64 (v_8 + x11)), .int .i64 (IntKind.wrap .i64 (i_9 + 1))] w7 < μ5 [.int .i64 v_8, .int .i64 i_9] w7))) (
 R (.returned (.int .i64 v_8)) w7)))
set_option maxRecDepth 100000 in
theorem sh52_ok (l_p1 : Option Addr) (l_n2 : Nat) (l_c3 : Nat) {R : Ending → World → Prop} {w : World} : sh52 l_p1 l_n2 l_c3 R w → Calls Try.prog 52 #[.slice l_p1 l_n2 l_c3] w R :=
  calls_of_eq (ann := fun i => if i = 0 then [(3, .int .i64 0), (4, .int .i64 0)] else []) (fn := Try.f52) (c := bodyOf Try.f52) (args := #[.slice l_p1 l_n2 l_c3]) 400 follows_mixed Try.func52 (by kernel_rfl) (by kernel_rfl)
set_option maxRecDepth 100000 in
/-- joinery/joinerylaw05.alive -/
def sh53  (R : Ending → World → Prop) (w : World) : Prop :=
 doAl (.cells #[.int .i64 1, .int .i64 10, .int .i64 2, .int .i64 20] 38) w (fun b1 w2 =>
 doAl (.cells #[.int .i64 2, .int .i64 5, .int .i64 3, .int .i64 30] 38) w2 (fun b3 w4 =>
 doCall Try.prog (.func (.func 55) #[] #[]) #[.int .u8 1, .int .u8 3, .slice (some (blk b1)) 2 2, .slice (some (blk b3)) 2 2] w4 (retS (fun v9 w10 => ∃ (xp5 : Option Addr), ∃ (xn6 : Nat), ∃ (xc7 : Nat), ∃ (x8 : Int), v9 = (.tuple #[.slice xp5 xn6 xc7, .int .i64 x8] : Value) ∧ (
 doCall Try.prog (.func (.func 56) #[] #[]) #[.int .u8 1, .int .u8 1, .slice (some (blk b1)) 2 2, .slice (some (blk b3)) 2 2] w10 (retS (fun v15 w16 => ∃ (xp11 : Option Addr), ∃ (xn12 : Nat), ∃ (xc13 : Nat), ∃ (x14 : Int), v15 = (.tuple #[.slice xp11 xn12 xc13, .int .i64 x14] : Value) ∧ (
 doCall Try.prog (.func (.func 57) #[] #[]) #[.int .u8 1, .slice (some (blk b1)) 2 2, .slice (some (blk b3)) 2 2] w16 (retS (fun v21 w22 => ∃ (xp17 : Option Addr), ∃ (xn18 : Nat), ∃ (xc19 : Nat), ∃ (x20 : Int), v21 = (.tuple #[.slice xp17 xn18 xc19, .int .i64 x20] : Value) ∧ (
 doCall Try.prog (.func (.func 58) #[] #[]) #[.int .u8 1, .slice (some (blk b1)) 2 2, .slice (some (blk b3)) 2 2] w22 (retS (fun v27 w28 => ∃ (xp23 : Option Addr), ∃ (xn24 : Nat), ∃ (xc25 : Nat), ∃ (x26 : Int), v27 = (.tuple #[.slice xp23 xn24 xc25, .int .i64 x26] : Value) ∧ (
 doCall Try.prog (.func (.func 66) #[] #[]) #[.int .u8 1, .slice (some (blk b1)) 2 2, .int .i64 2] w28 (retS (fun v37 w38 => ∃ (xp29 : Option Addr), ∃ (xn30 : Nat), ∃ (xc31 : Nat), ∃ (x32 : Int), ∃ (x33 : Bool), ∃ (xp34 : Option Addr), ∃ (xn35 : Nat), ∃ (xc36 : Nat), v37 = (.tuple #[.slice xp29 xn30 xc31, .int .i64 x32, .bool x33, .slice xp34 xn35 xc36] : Value) ∧ (
 let K41 : Bool → World → Prop := fun (x39 : Bool) (w40 : World) => 
 ifB x39 (
 R (.returned (.bool false)) w40) (
 let K44 : Bool → World → Prop := fun (x42 : Bool) (w43 : World) => 
 R (.returned (.bool x42)) w43
 doDr w40 (fun w46 =>
 ∃ (C45 : World → Prop), C45 w46 ∧ (
 doAl (.cells #[.int .i64 1, .int .i64 10, .int .i64 2, .int .i64 25, .int .i64 3, .int .i64 30] 38) w46 (fun b47 w48 =>
 C45 w48 ∧ (
 doCall Try.prog (.func (.func 50) #[] #[]) #[.slice xp5 xn6 xc7, .slice (some (blk b47)) 3 3] w48 (retS (fun v50 w51 => ∃ (x49 : Bool), v50 = (.bool x49 : Value) ∧ (
 C45 w51 ∧ (
 ifB x49 (
 doSl (some (blk b1)) 2 2 (1) (((2 : Nat) : Int)) (fun p52 n53 c54 =>
 doCall Try.prog (.func (.func 50) #[] #[]) #[.slice xp11 xn12 xc13, .slice p52 n53 c54] w51 (retS (fun v56 w57 => ∃ (x55 : Bool), v56 = (.bool x55 : Value) ∧ (
 C45 w57 ∧ (
 ifB x55 (
 doSl (some (blk b1)) 2 2 (0) (1) (fun p58 n59 c60 =>
 doCall Try.prog (.func (.func 50) #[] #[]) #[.slice xp17 xn18 xc19, .slice p58 n59 c60] w57 (retS (fun v62 w63 => ∃ (x61 : Bool), v62 = (.bool x61 : Value) ∧ (
 C45 w63 ∧ (
 ifB x61 (
 doIx (some (blk b1)) 2 2 (0) (fun a64 =>
 ∃ (x65 : Int), (∀ w, C45 w → World.cell? w (a64.add 0) = some (.int .i64 x65)) ∧ (
 ∃ (x66 : Int), (∀ w, C45 w → World.cell? w (a64.add 1) = some (.int .i64 x66)) ∧ (
 doIx (some (blk b3)) 2 2 (1) (fun a67 =>
 ∃ (x68 : Int), (∀ w, C45 w → World.cell? w (a67.add 0) = some (.int .i64 x68)) ∧ (
 ∃ (x69 : Int), (∀ w, C45 w → World.cell? w (a67.add 1) = some (.int .i64 x69)) ∧ (
 doAl (.cells #[.int .i64 x65, .int .i64 x66, .int .i64 x68, .int .i64 x69] 38) w63 (fun b70 w71 =>
 doCall Try.prog (.func (.func 50) #[] #[]) #[.slice xp23 xn24 xc25, .slice (some (blk b70)) 2 2] w71 (retS (fun v73 w74 => ∃ (x72 : Bool), v73 = (.bool x72 : Value) ∧ (
 C45 w74 ∧ (
 ifB x72 (
 doSl (some (blk b1)) 2 2 (0) (1) (fun p75 n76 c77 =>
 doCall Try.prog (.func (.func 50) #[] #[]) #[.slice xp29 xn30 xc31, .slice p75 n76 c77] w74 (retS (fun v79 w80 => ∃ (x78 : Bool), v79 = (.bool x78 : Value) ∧ (
 C45 w80 ∧ (
 K44 x78 w80))) (fun ch w => Kfn R ch [] w)))) (
 R (.returned (.bool false)) w74)))) (fun ch w => Kfn R ch [] w)))))))))) (
 R (.returned (.bool false)) w63)))) (fun ch w => Kfn R ch [] w)))) (
 R (.returned (.bool false)) w57)))) (fun ch w => Kfn R ch [] w)))) (
 R (.returned (.bool false)) w51)))) (fun ch w => Kfn R ch [] w)))))))
 ifB ((x8 : Int) != 0) (
 R (.returned (.bool false)) w38) (
 ifB ((x14 : Int) != 0) (
 R (.returned (.bool false)) w38) (
 ifB ((x20 : Int) != 0) (
 R (.returned (.bool false)) w38) (
 ifB ((x26 : Int) != 0) (
 R (.returned (.bool false)) w38) (
 ifB ((x32 : Int) != 20) (
 R (.returned (.bool false)) w38) (
 ifB (!x33) (
 R (.returned (.bool false)) w38) (
 K41 ((((xn35 : Nat) : Int) : Int) != 0) w38)))))))) (fun ch w => Kfn R ch [] w)))) (fun ch w => Kfn R ch [] w)))) (fun ch w => Kfn R ch [] w)))) (fun ch w => Kfn R ch [] w)))) (fun ch w => Kfn R ch [] w))))
set_option maxRecDepth 100000 in
theorem sh53_ok  {R : Ending → World → Prop} {w : World} : sh53  R w → Calls Try.prog 53 #[] w R :=
  calls_of_eq (ann := fun _ => []) (fn := Try.f53) (c := bodyOf Try.f53) (args := #[]) 400 follows_mixed Try.func53 (by kernel_rfl) (by kernel_rfl)
set_option maxRecDepth 100000 in
/-- joinery/joinerylaw05.sorted -/
def sh54 (o_1 : Int) (a_p2 : Option Addr) (a_n3 : Nat) (a_c4 : Nat) (b_p5 : Option Addr) (b_n6 : Nat) (b_c7 : Nat) (c_p8 : Option Addr) (c_n9 : Nat) (c_c10 : Nat) (R : Ending → World → Prop) (w : World) : Prop :=
 doCall Try.prog (.func (.func 59) #[] #[]) #[.int .u8 o_1, .int .u8 2, .slice a_p2 a_n3 a_c4] w (retS (fun v15 w16 => ∃ (xp11 : Option Addr), ∃ (xn12 : Nat), ∃ (xc13 : Nat), ∃ (x14 : Int), v15 = (.tuple #[.slice xp11 xn12 xc13, .int .i64 x14] : Value) ∧ (
 doCall Try.prog (.func (.func 59) #[] #[]) #[.int .u8 o_1, .int .u8 2, .slice b_p5 b_n6 b_c7] w16 (retS (fun v21 w22 => ∃ (xp17 : Option Addr), ∃ (xn18 : Nat), ∃ (xc19 : Nat), ∃ (x20 : Int), v21 = (.tuple #[.slice xp17 xn18 xc19, .int .i64 x20] : Value) ∧ (
 doCall Try.prog (.func (.func 59) #[] #[]) #[.int .u8 o_1, .int .u8 2, .slice c_p8 c_n9 c_c10] w22 (retS (fun v27 w28 => ∃ (xp23 : Option Addr), ∃ (xn24 : Nat), ∃ (xc25 : Nat), ∃ (x26 : Int), v27 = (.tuple #[.slice xp23 xn24 xc25, .int .i64 x26] : Value) ∧ (
 let K31 : Bool → World → Prop := fun (x29 : Bool) (w30 : World) => 
 R (.returned (.tuple #[.slice xp11 xn12 xc13, .slice xp17 xn18 xc19, .slice xp23 xn24 xc25, .bool x29])) w30
 ifB ((x14 : Int) == 0) (
 ifB ((x20 : Int) == 0) (
 K31 ((x26 : Int) == 0) w28) (
 R (.returned (.tuple #[.slice xp11 xn12 xc13, .slice xp17 xn18 xc19, .slice xp23 xn24 xc25, .bool false])) w28)) (
 R (.returned (.tuple #[.slice xp11 xn12 xc13, .slice xp17 xn18 xc19, .slice xp23 xn24 xc25, .bool false])) w28))) (fun ch w => Kfn R ch [] w)))) (fun ch w => Kfn R ch [] w)))) (fun ch w => Kfn R ch [] w))
set_option maxRecDepth 100000 in
theorem sh54_ok (o_1 : Int) (a_p2 : Option Addr) (a_n3 : Nat) (a_c4 : Nat) (b_p5 : Option Addr) (b_n6 : Nat) (b_c7 : Nat) (c_p8 : Option Addr) (c_n9 : Nat) (c_c10 : Nat) {R : Ending → World → Prop} {w : World} : sh54 o_1 a_p2 a_n3 a_c4 b_p5 b_n6 b_c7 c_p8 c_n9 c_c10 R w → Calls Try.prog 54 #[.int .u8 o_1, .slice a_p2 a_n3 a_c4, .slice b_p5 b_n6 b_c7, .slice c_p8 c_n9 c_c10] w R :=
  calls_of_eq (ann := fun _ => []) (fn := Try.f54) (c := bodyOf Try.f54) (args := #[.int .u8 o_1, .slice a_p2 a_n3 a_c4, .slice b_p5 b_n6 b_c7, .slice c_p8 c_n9 c_c10]) 400 follows_mixed Try.func54 (by kernel_rfl) (by kernel_rfl)
set_option maxRecDepth 100000 in
/-- joinery/rowset.Union -/
def sh55 (o_1 : Int) (p_2 : Int) (a_p3 : Option Addr) (a_n4 : Nat) (a_c5 : Nat) (b_p6 : Option Addr) (b_n7 : Nat) (b_c8 : Nat) (R : Ending → World → Prop) (w : World) : Prop :=
 doCall Try.prog (.func (.func 99) #[] #[]) #[.int .u8 o_1, .int .u8 p_2, .slice a_p3 a_n4 a_c5, .slice b_p6 b_n7 b_c8, .agg #[.func (.func 100) #[] #[]]] w (retS (fun v13 w14 => ∃ (xp9 : Option Addr), ∃ (xn10 : Nat), ∃ (xc11 : Nat), ∃ (x12 : Int), v13 = (.tuple #[.slice xp9 xn10 xc11, .int .i64 x12] : Value) ∧ (
 R (.returned (.tuple #[.slice xp9 xn10 xc11, .int .i64 x12])) w14)) (fun ch w => Kfn R ch [] w))
set_option maxRecDepth 100000 in
theorem sh55_ok (o_1 : Int) (p_2 : Int) (a_p3 : Option Addr) (a_n4 : Nat) (a_c5 : Nat) (b_p6 : Option Addr) (b_n7 : Nat) (b_c8 : Nat) {R : Ending → World → Prop} {w : World} : sh55 o_1 p_2 a_p3 a_n4 a_c5 b_p6 b_n7 b_c8 R w → Calls Try.prog 55 #[.int .u8 o_1, .int .u8 p_2, .slice a_p3 a_n4 a_c5, .slice b_p6 b_n7 b_c8] w R :=
  calls_of_eq (ann := fun _ => []) (fn := Try.f55) (c := bodyOf Try.f55) (args := #[.int .u8 o_1, .int .u8 p_2, .slice a_p3 a_n4 a_c5, .slice b_p6 b_n7 b_c8]) 400 follows_mixed Try.func55 (by kernel_rfl) (by kernel_rfl)
set_option maxRecDepth 100000 in
/-- joinery/rowset.Meet -/
def sh56 (o_1 : Int) (p_2 : Int) (a_p3 : Option Addr) (a_n4 : Nat) (a_c5 : Nat) (b_p6 : Option Addr) (b_n7 : Nat) (b_c8 : Nat) (R : Ending → World → Prop) (w : World) : Prop :=
 doCall Try.prog (.func (.func 99) #[] #[]) #[.int .u8 o_1, .int .u8 p_2, .slice a_p3 a_n4 a_c5, .slice b_p6 b_n7 b_c8, .agg #[.func (.func 101) #[] #[]]] w (retS (fun v13 w14 => ∃ (xp9 : Option Addr), ∃ (xn10 : Nat), ∃ (xc11 : Nat), ∃ (x12 : Int), v13 = (.tuple #[.slice xp9 xn10 xc11, .int .i64 x12] : Value) ∧ (
 R (.returned (.tuple #[.slice xp9 xn10 xc11, .int .i64 x12])) w14)) (fun ch w => Kfn R ch [] w))
set_option maxRecDepth 100000 in
theorem sh56_ok (o_1 : Int) (p_2 : Int) (a_p3 : Option Addr) (a_n4 : Nat) (a_c5 : Nat) (b_p6 : Option Addr) (b_n7 : Nat) (b_c8 : Nat) {R : Ending → World → Prop} {w : World} : sh56 o_1 p_2 a_p3 a_n4 a_c5 b_p6 b_n7 b_c8 R w → Calls Try.prog 56 #[.int .u8 o_1, .int .u8 p_2, .slice a_p3 a_n4 a_c5, .slice b_p6 b_n7 b_c8] w R :=
  calls_of_eq (ann := fun _ => []) (fn := Try.f56) (c := bodyOf Try.f56) (args := #[.int .u8 o_1, .int .u8 p_2, .slice a_p3 a_n4 a_c5, .slice b_p6 b_n7 b_c8]) 400 follows_mixed Try.func56 (by kernel_rfl) (by kernel_rfl)
set_option maxRecDepth 100000 in
/-- joinery/rowset.Less -/
def sh57 (o_1 : Int) (a_p2 : Option Addr) (a_n3 : Nat) (a_c4 : Nat) (b_p5 : Option Addr) (b_n6 : Nat) (b_c7 : Nat) (R : Ending → World → Prop) (w : World) : Prop :=
 doCall Try.prog (.func (.func 99) #[] #[]) #[.int .u8 o_1, .int .u8 1, .slice a_p2 a_n3 a_c4, .slice b_p5 b_n6 b_c7, .agg #[.func (.func 102) #[] #[]]] w (retS (fun v12 w13 => ∃ (xp8 : Option Addr), ∃ (xn9 : Nat), ∃ (xc10 : Nat), ∃ (x11 : Int), v12 = (.tuple #[.slice xp8 xn9 xc10, .int .i64 x11] : Value) ∧ (
 R (.returned (.tuple #[.slice xp8 xn9 xc10, .int .i64 x11])) w13)) (fun ch w => Kfn R ch [] w))
set_option maxRecDepth 100000 in
theorem sh57_ok (o_1 : Int) (a_p2 : Option Addr) (a_n3 : Nat) (a_c4 : Nat) (b_p5 : Option Addr) (b_n6 : Nat) (b_c7 : Nat) {R : Ending → World → Prop} {w : World} : sh57 o_1 a_p2 a_n3 a_c4 b_p5 b_n6 b_c7 R w → Calls Try.prog 57 #[.int .u8 o_1, .slice a_p2 a_n3 a_c4, .slice b_p5 b_n6 b_c7] w R :=
  calls_of_eq (ann := fun _ => []) (fn := Try.f57) (c := bodyOf Try.f57) (args := #[.int .u8 o_1, .slice a_p2 a_n3 a_c4, .slice b_p5 b_n6 b_c7]) 400 follows_mixed Try.func57 (by kernel_rfl) (by kernel_rfl)
set_option maxRecDepth 100000 in
/-- joinery/rowset.Apart -/
def sh58 (o_1 : Int) (a_p2 : Option Addr) (a_n3 : Nat) (a_c4 : Nat) (b_p5 : Option Addr) (b_n6 : Nat) (b_c7 : Nat) (R : Ending → World → Prop) (w : World) : Prop :=
 doCall Try.prog (.func (.func 99) #[] #[]) #[.int .u8 o_1, .int .u8 1, .slice a_p2 a_n3 a_c4, .slice b_p5 b_n6 b_c7, .agg #[.func (.func 103) #[] #[]]] w (retS (fun v12 w13 => ∃ (xp8 : Option Addr), ∃ (xn9 : Nat), ∃ (xc10 : Nat), ∃ (x11 : Int), v12 = (.tuple #[.slice xp8 xn9 xc10, .int .i64 x11] : Value) ∧ (
 R (.returned (.tuple #[.slice xp8 xn9 xc10, .int .i64 x11])) w13)) (fun ch w => Kfn R ch [] w))
set_option maxRecDepth 100000 in
theorem sh58_ok (o_1 : Int) (a_p2 : Option Addr) (a_n3 : Nat) (a_c4 : Nat) (b_p5 : Option Addr) (b_n6 : Nat) (b_c7 : Nat) {R : Ending → World → Prop} {w : World} : sh58 o_1 a_p2 a_n3 a_c4 b_p5 b_n6 b_c7 R w → Calls Try.prog 58 #[.int .u8 o_1, .slice a_p2 a_n3 a_c4, .slice b_p5 b_n6 b_c7] w R :=
  calls_of_eq (ann := fun _ => []) (fn := Try.f58) (c := bodyOf Try.f58) (args := #[.int .u8 o_1, .slice a_p2 a_n3 a_c4, .slice b_p5 b_n6 b_c7]) 400 follows_mixed Try.func58 (by kernel_rfl) (by kernel_rfl)
set_option maxRecDepth 100000 in
/-- joinery/rowset.Sort -/
def sh59 (o_1 : Int) (p_2 : Int) (l_p3 : Option Addr) (l_n4 : Nat) (l_c5 : Nat) (R : Ending → World → Prop) (w : World) : Prop :=
 doAl (.cells #[.int .u8 o_1] 5) w (fun b6 w7 =>
 let K10 : Bool → World → Prop := fun (x8 : Bool) (w9 : World) => 
 ifB x8 (
 R (.returned (.tuple #[.slice none 0 0, .int .i64 2])) w9) (
 doCall Try.prog (.func (.func 87) #[] #[]) #[.slice l_p3 l_n4 l_c5] w9 (retS (fun v14 w15 => ∃ (xp11 : Option Addr), ∃ (xn12 : Nat), ∃ (xc13 : Nat), v14 = (.slice xp11 xn12 xc13 : Value) ∧ (
 doCall Try.prog (.func (.func 104) #[] #[]) #[.slice xp11 xn12 xc13, .func (.func 105) #[] #[.pointer (some (blk b6))]] w15 (retS (fun v16 w17 => v16 = (.tuple #[] : Value) ∧ (
 ∃ (I18 : List Value → World → Prop) (μ19 : List Value → World → Nat), I18 [.slice none 0 0, .int .i64 0] w17 ∧ (∀ (out_p22 : Option Addr), ∀ (out_n23 : Nat), ∀ (out_c24 : Nat), ∀ (x25 : Int), ∀ (_j20 : Nat → Value) (w21 : World), I18 [.slice out_p22 out_n23 out_c24, .int .i64 x25] w21 → (
 ifB (decide ((x25 : Int) < ((xn12 : Nat) : Int))) (
 let K30 : (Option Addr) → Nat → Nat → World → Prop := fun (out_p26 : Option Addr) (out_n27 : Nat) (out_c28 : Nat) (w29 : World) => 
 I18 [.slice out_p26 out_n27 out_c28, .int .i64 (IntKind.wrap .i64 (x25 + 1))] w29 ∧ μ19 [.slice out_p26 out_n27 out_c28, .int .i64 (IntKind.wrap .i64 (x25 + 1))] w29 < μ19 [.slice out_p22 out_n23 out_c24, .int .i64 x25] w21
 doIx xp11 xn12 2 (x25) (fun a31 =>
 ∃ (x32 : Int), World.cell? w21 (a31.add 0) = some (.int .i64 x32) ∧ (
 ∃ (x33 : Int), World.cell? w21 (a31.add 1) = some (.int .i64 x33) ∧ (
 doAl (.cells #[.int .i64 0, .int .i64 0] 38) w21 (fun b34 w35 =>
 doSt ((blk b34).add 0) (.int .i64 x32) w35 (fun w36 =>
 doSt ((blk b34).add 1) (.int .i64 x33) w36 (fun w37 =>
 let K40 : Bool → World → Prop := fun (x38 : Bool) (w39 : World) => 
 ifB x38 (
 ∃ (x41 : Int), World.cell? w39 ((blk b34).add 0) = some (.int .i64 x41) ∧ (
 ∃ (x42 : Int), World.cell? w39 ((blk b34).add 1) = some (.int .i64 x42) ∧ (
 doAl (.cells #[.int .i64 x41, .int .i64 x42] 38) w39 (fun b43 w44 =>
 doGo Try.prog (.builtin .append #[33, 33] 33 #[false, false]) #[.slice out_p22 out_n23 out_c24, .slice (some (blk b43)) 1 1] w44 (retS (fun v48 w49 => ∃ (xp45 : Option Addr), ∃ (xn46 : Nat), ∃ (xc47 : Nat), v48 = (.slice xp45 xn46 xc47 : Value) ∧ (
 K30 xp45 xn46 xc47 w49)) (fun ch w => Kfn R ch [] w)))))) (
 doDr w39 (fun w51 =>
 ∃ (C50 : World → Prop), C50 w51 ∧ (
 doIx out_p22 out_n23 2 (IntKind.wrap .i64 (((out_n23 : Nat) : Int) - 1)) (fun a52 =>
 ∃ (x53 : Int), (∀ w, C50 w → World.cell? w (a52.add 1) = some (.int .i64 x53)) ∧ (
 ∃ (x54 : Int), (∀ w, C50 w → World.cell? w ((blk b34).add 1) = some (.int .i64 x54)) ∧ (
 doCall Try.prog (.func (.func 91) #[] #[]) #[.int .u8 p_2, .int .i64 x53, .int .i64 x54] w51 (retS (fun v57 w58 => ∃ (x55 : Int), ∃ (x56 : Int), v57 = (.tuple #[.int .i64 x55, .int .i64 x56] : Value) ∧ (
 doIx out_p22 out_n23 2 (IntKind.wrap .i64 (((out_n23 : Nat) : Int) - 1)) (fun a59 =>
 doSt ((a59.add 1).add 0) (.int .i64 x55) w58 (fun w60 =>
 K30 out_p22 out_n23 out_c24 w60)))) (fun ch w => Kfn R ch [] w))))))))
 doDr w37 (fun w62 =>
 ∃ (C61 : World → Prop), C61 w62 ∧ (
 ifB ((((out_n23 : Nat) : Int) : Int) == 0) (
 K40 true w62) (
 doIx out_p22 out_n23 2 (IntKind.wrap .i64 (((out_n23 : Nat) : Int) - 1)) (fun a63 =>
 ∃ (x64 : Int), (∀ w, C61 w → World.cell? w (a63.add 0) = some (.int .i64 x64)) ∧ (
 ∃ (x65 : Int), (∀ w, C61 w → World.cell? w ((blk b34).add 0) = some (.int .i64 x65)) ∧ (
 K40 ((x64 : Int) != x65) w62))))))))))))) (
 R (.returned (.tuple #[.slice out_p22 out_n23 out_c24, .int .i64 0])) w21))))) (fun ch w => Kfn R ch [] w)))) (fun ch w => Kfn R ch [] w)))
 ∃ (x66 : Int), World.cell? w7 (blk b6) = some (.int .u8 x66) ∧ (
 doCall Try.prog (.func (.func 94) #[] #[]) #[.int .u8 x66] w7 (retS (fun v68 w69 => ∃ (x67 : ByteArray), v68 = (.string x67 : Value) ∧ (
 ifB (x67.toList == (⟨#[]⟩ : ByteArray).toList) (
 R (.returned (.tuple #[.slice none 0 0, .int .i64 2])) w69) (
 doCall Try.prog (.func (.func 89) #[] #[]) #[.int .u8 p_2] w69 (retS (fun v71 w72 => ∃ (x70 : Bool), v71 = (.bool x70 : Value) ∧ (
 K10 (!x70) w72)) (fun ch w => Kfn R ch [] w))))) (fun ch w => Kfn R ch [] w))))
set_option maxRecDepth 100000 in
theorem sh59_ok (o_1 : Int) (p_2 : Int) (l_p3 : Option Addr) (l_n4 : Nat) (l_c5 : Nat) {R : Ending → World → Prop} {w : World} : sh59 o_1 p_2 l_p3 l_n4 l_c5 R w → Calls Try.prog 59 #[.int .u8 o_1, .int .u8 p_2, .slice l_p3 l_n4 l_c5] w R :=
  calls_of_eq (ann := fun i => if i = 0 then [(6, .slice none 0 0), (26, .int .i64 0)] else []) (fn := Try.f59) (c := bodyOf Try.f59) (args := #[.int .u8 o_1, .int .u8 p_2, .slice l_p3 l_n4 l_c5]) 400 follows_mixed Try.func59 (by kernel_rfl) (by kernel_rfl)
set_option maxRecDepth 100000 in
/-- joinery/joineryref05.Union -/
def sh60 (o_1 : Int) (p_2 : Int) (a_p3 : Option Addr) (a_n4 : Nat) (a_c5 : Nat) (b_p6 : Option Addr) (b_n7 : Nat) (b_c8 : Nat) (R : Ending → World → Prop) (w : World) : Prop :=
 doCall Try.prog (.func (.func 106) #[] #[]) #[.int .u8 o_1, .slice a_p3 a_n4 a_c5, .slice b_p6 b_n7 b_c8] w (retS (fun v10 w11 => ∃ (x9 : Bool), v10 = (.bool x9 : Value) ∧ (
 ifB (!x9) (
 R (.returned (.tuple #[.slice none 0 0, .int .i64 2])) w11) (
 doGo Try.prog (.builtin .append #[33, 33] 33 #[true, false]) #[.slice none 0 0, .slice a_p3 a_n4 a_c5] w11 (retS (fun v15 w16 => ∃ (xp12 : Option Addr), ∃ (xn13 : Nat), ∃ (xc14 : Nat), v15 = (.slice xp12 xn13 xc14 : Value) ∧ (
 doGo Try.prog (.builtin .append #[33, 33] 33 #[false, false]) #[.slice xp12 xn13 xc14, .slice b_p6 b_n7 b_c8] w16 (retS (fun v20 w21 => ∃ (xp17 : Option Addr), ∃ (xn18 : Nat), ∃ (xc19 : Nat), v20 = (.slice xp17 xn18 xc19 : Value) ∧ (
 doCall Try.prog (.func (.func 23) #[] #[]) #[.int .u8 o_1, .int .u8 p_2, .slice xp17 xn18 xc19] w21 (retS (fun v26 w27 => ∃ (xp22 : Option Addr), ∃ (xn23 : Nat), ∃ (xc24 : Nat), ∃ (x25 : Int), v26 = (.tuple #[.slice xp22 xn23 xc24, .int .i64 x25] : Value) ∧ (
 R (.returned (.tuple #[.slice xp22 xn23 xc24, .int .i64 x25])) w27)) (fun ch w => Kfn R ch [] w)))) (fun ch w => Kfn R ch [] w)))) (fun ch w => Kfn R ch [] w))))) (fun ch w => Kfn R ch [] w))
set_option maxRecDepth 100000 in
theorem sh60_ok (o_1 : Int) (p_2 : Int) (a_p3 : Option Addr) (a_n4 : Nat) (a_c5 : Nat) (b_p6 : Option Addr) (b_n7 : Nat) (b_c8 : Nat) {R : Ending → World → Prop} {w : World} : sh60 o_1 p_2 a_p3 a_n4 a_c5 b_p6 b_n7 b_c8 R w → Calls Try.prog 60 #[.int .u8 o_1, .int .u8 p_2, .slice a_p3 a_n4 a_c5, .slice b_p6 b_n7 b_c8] w R :=
  calls_of_eq (ann := fun _ => []) (fn := Try.f60) (c := bodyOf Try.f60) (args := #[.int .u8 o_1, .int .u8 p_2, .slice a_p3 a_n4 a_c5, .slice b_p6 b_n7 b_c8]) 400 follows_mixed Try.func60 (by kernel_rfl) (by kernel_rfl)
end Go.Proofs.Ytinkkhcffoikmaa
