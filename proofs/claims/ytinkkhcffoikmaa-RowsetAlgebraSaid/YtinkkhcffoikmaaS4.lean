/-
  Printed by a program (gen.py): what the functions of the program do, as formulas; each with the proof that its call is what the formula says.
-/
import Derived.Test.YtinkkhcffoikmaaCd
import Derived.Test.YtinkkhcffoikmaaProg
import Derived.Test.YtinkkhcffoikmaaS1
namespace Go.Proofs.Ytinkkhcffoikmaa
open Go Go.Sh
set_option maxRecDepth 100000 in
/-- joinery/joineryref05.Meet -/
def sh61 (o_1 : Int) (p_2 : Int) (a_p3 : Option Addr) (a_n4 : Nat) (a_c5 : Nat) (b_p6 : Option Addr) (b_n7 : Nat) (b_c8 : Nat) (R : Ending → World → Prop) (w : World) : Prop :=
 let K11 : Bool → World → Prop := fun (x9 : Bool) (w10 : World) => 
 ifB x9 (
 R (.returned (.tuple #[.slice none 0 0, .int .i64 2])) w10) (
 ∃ (I12 : List Value → World → Prop) (μ13 : List Value → World → Nat), I12 [.slice none 0 0, .int .i64 0] w10 ∧ (∀ (out_p16 : Option Addr), ∀ (out_n17 : Nat), ∀ (out_c18 : Nat), ∀ (i_19 : Int), ∀ (_j14 : Nat → Value) (w15 : World), I12 [.slice out_p16 out_n17 out_c18, .int .i64 i_19] w15 → (
 ifB (decide ((i_19 : Int) < ((a_n4 : Nat) : Int))) (
 let K24 : (Option Addr) → Nat → Nat → World → Prop := fun (out_p20 : Option Addr) (out_n21 : Nat) (out_c22 : Nat) (w23 : World) => 
 I12 [.slice out_p20 out_n21 out_c22, .int .i64 (IntKind.wrap .i64 (i_19 + 1))] w23 ∧ μ13 [.slice out_p20 out_n21 out_c22, .int .i64 (IntKind.wrap .i64 (i_19 + 1))] w23 < μ13 [.slice out_p16 out_n17 out_c18, .int .i64 i_19] w15
 doIx a_p3 a_n4 2 (i_19) (fun a25 =>
 ∃ (x26 : Int), World.cell? w15 (a25.add 0) = some (.int .i64 x26) ∧ (
 doCall Try.prog (.func (.func 44) #[] #[]) #[.int .u8 o_1, .slice b_p6 b_n7 b_c8, .int .i64 x26] w15 (retS (fun v29 w30 => ∃ (x27 : Int), ∃ (x28 : Bool), v29 = (.tuple #[.int .i64 x27, .bool x28] : Value) ∧ (
 ifB x28 (
 doDr w30 (fun w32 =>
 ∃ (C31 : World → Prop), C31 w32 ∧ (
 doIx a_p3 a_n4 2 (i_19) (fun a33 =>
 ∃ (x34 : Int), (∀ w, C31 w → World.cell? w (a33.add 0) = some (.int .i64 x34)) ∧ (
 doIx a_p3 a_n4 2 (i_19) (fun a35 =>
 ∃ (x36 : Int), (∀ w, C31 w → World.cell? w (a35.add 1) = some (.int .i64 x36)) ∧ (
 doCall Try.prog (.func (.func 97) #[] #[]) #[.int .u8 p_2, .int .i64 x36, .int .i64 x27] w32 (retS (fun v38 w39 => ∃ (x37 : Int), v38 = (.int .i64 x37 : Value) ∧ (
 C31 w39 ∧ (
 doAl (.cells #[.int .i64 x34, .int .i64 x37] 38) w39 (fun b40 w41 =>
 C31 w41 ∧ (
 doGo Try.prog (.builtin .append #[33, 33] 33 #[false, false]) #[.slice out_p16 out_n17 out_c18, .slice (some (blk b40)) 1 1] w41 (retS (fun v45 w46 => ∃ (xp42 : Option Addr), ∃ (xn43 : Nat), ∃ (xc44 : Nat), v45 = (.slice xp42 xn43 xc44 : Value) ∧ (
 C31 w46 ∧ (
 K24 xp42 xn43 xc44 w46))) (fun ch w => Kfn R ch [] w))))))) (fun ch w => Kfn R ch [] w))))))))) (
 K24 out_p16 out_n17 out_c18 w30))) (fun ch w => Kfn R ch [] w))))) (
 R (.returned (.tuple #[.slice out_p16 out_n17 out_c18, .int .i64 0])) w15))))
 doCall Try.prog (.func (.func 106) #[] #[]) #[.int .u8 o_1, .slice a_p3 a_n4 a_c5, .slice b_p6 b_n7 b_c8] w (retS (fun v48 w49 => ∃ (x47 : Bool), v48 = (.bool x47 : Value) ∧ (
 ifB (!x47) (
 R (.returned (.tuple #[.slice none 0 0, .int .i64 2])) w49) (
 doCall Try.prog (.func (.func 80) #[] #[]) #[.int .u8 p_2] w49 (retS (fun v51 w52 => ∃ (x50 : Bool), v51 = (.bool x50 : Value) ∧ (
 K11 (!x50) w52)) (fun ch w => Kfn R ch [] w))))) (fun ch w => Kfn R ch [] w))
set_option maxRecDepth 100000 in
theorem sh61_ok (o_1 : Int) (p_2 : Int) (a_p3 : Option Addr) (a_n4 : Nat) (a_c5 : Nat) (b_p6 : Option Addr) (b_n7 : Nat) (b_c8 : Nat) {R : Ending → World → Prop} {w : World} : sh61 o_1 p_2 a_p3 a_n4 a_c5 b_p6 b_n7 b_c8 R w → Calls Try.prog 61 #[.int .u8 o_1, .int .u8 p_2, .slice a_p3 a_n4 a_c5, .slice b_p6 b_n7 b_c8] w R :=
  calls_of_eq (ann := fun i => if i = 0 then [(10, .slice none 0 0), (11, .int .i64 0)] else []) (fn := Try.f61) (c := bodyOf Try.f61) (args := #[.int .u8 o_1, .int .u8 p_2, .slice a_p3 a_n4 a_c5, .slice b_p6 b_n7 b_c8]) 400 follows_mixed Try.func61 (by kernel_rfl) (by kernel_rfl)
set_option maxRecDepth 100000 in
/-- joinery/joineryref05.Less -/
def sh62 (o_1 : Int) (a_p2 : Option Addr) (a_n3 : Nat) (a_c4 : Nat) (b_p5 : Option Addr) (b_n6 : Nat) (b_c7 : Nat) (R : Ending → World → Prop) (w : World) : Prop :=
 doCall Try.prog (.func (.func 106) #[] #[]) #[.int .u8 o_1, .slice a_p2 a_n3 a_c4, .slice b_p5 b_n6 b_c7] w (retS (fun v9 w10 => ∃ (x8 : Bool), v9 = (.bool x8 : Value) ∧ (
 ifB (!x8) (
 R (.returned (.tuple #[.slice none 0 0, .int .i64 2])) w10) (
 ∃ (I11 : List Value → World → Prop) (μ12 : List Value → World → Nat), I11 [.slice none 0 0, .int .i64 0] w10 ∧ (∀ (out_p15 : Option Addr), ∀ (out_n16 : Nat), ∀ (out_c17 : Nat), ∀ (i_18 : Int), ∀ (_j13 : Nat → Value) (w14 : World), I11 [.slice out_p15 out_n16 out_c17, .int .i64 i_18] w14 → (
 ifB (decide ((i_18 : Int) < ((a_n3 : Nat) : Int))) (
 let K23 : (Option Addr) → Nat → Nat → World → Prop := fun (out_p19 : Option Addr) (out_n20 : Nat) (out_c21 : Nat) (w22 : World) => 
 I11 [.slice out_p19 out_n20 out_c21, .int .i64 (IntKind.wrap .i64 (i_18 + 1))] w22 ∧ μ12 [.slice out_p19 out_n20 out_c21, .int .i64 (IntKind.wrap .i64 (i_18 + 1))] w22 < μ12 [.slice out_p15 out_n16 out_c17, .int .i64 i_18] w14
 doIx a_p2 a_n3 2 (i_18) (fun a24 =>
 ∃ (x25 : Int), World.cell? w14 (a24.add 0) = some (.int .i64 x25) ∧ (
 doCall Try.prog (.func (.func 44) #[] #[]) #[.int .u8 o_1, .slice b_p5 b_n6 b_c7, .int .i64 x25] w14 (retS (fun v28 w29 => ∃ (x26 : Int), ∃ (x27 : Bool), v28 = (.tuple #[.int .i64 x26, .bool x27] : Value) ∧ (
 ifB (!x27) (
 doIx a_p2 a_n3 2 (i_18) (fun a30 =>
 ∃ (x31 : Int), World.cell? w29 (a30.add 0) = some (.int .i64 x31) ∧ (
 ∃ (x32 : Int), World.cell? w29 (a30.add 1) = some (.int .i64 x32) ∧ (
 doAl (.cells #[.int .i64 x31, .int .i64 x32] 38) w29 (fun b33 w34 =>
 doGo Try.prog (.builtin .append #[33, 33] 33 #[false, false]) #[.slice out_p15 out_n16 out_c17, .slice (some (blk b33)) 1 1] w34 (retS (fun v38 w39 => ∃ (xp35 : Option Addr), ∃ (xn36 : Nat), ∃ (xc37 : Nat), v38 = (.slice xp35 xn36 xc37 : Value) ∧ (
 K23 xp35 xn36 xc37 w39)) (fun ch w => Kfn R ch [] w))))))) (
 K23 out_p15 out_n16 out_c17 w29))) (fun ch w => Kfn R ch [] w))))) (
 R (.returned (.tuple #[.slice out_p15 out_n16 out_c17, .int .i64 0])) w14)))))) (fun ch w => Kfn R ch [] w))
set_option maxRecDepth 100000 in
theorem sh62_ok (o_1 : Int) (a_p2 : Option Addr) (a_n3 : Nat) (a_c4 : Nat) (b_p5 : Option Addr) (b_n6 : Nat) (b_c7 : Nat) {R : Ending → World → Prop} {w : World} : sh62 o_1 a_p2 a_n3 a_c4 b_p5 b_n6 b_c7 R w → Calls Try.prog 62 #[.int .u8 o_1, .slice a_p2 a_n3 a_c4, .slice b_p5 b_n6 b_c7] w R :=
  calls_of_eq (ann := fun i => if i = 0 then [(8, .slice none 0 0), (9, .int .i64 0)] else []) (fn := Try.f62) (c := bodyOf Try.f62) (args := #[.int .u8 o_1, .slice a_p2 a_n3 a_c4, .slice b_p5 b_n6 b_c7]) 400 follows_mixed Try.func62 (by kernel_rfl) (by kernel_rfl)
set_option maxRecDepth 100000 in
/-- joinery/joineryref05.Apart -/
def sh63 (o_1 : Int) (a_p2 : Option Addr) (a_n3 : Nat) (a_c4 : Nat) (b_p5 : Option Addr) (b_n6 : Nat) (b_c7 : Nat) (R : Ending → World → Prop) (w : World) : Prop :=
 doCall Try.prog (.func (.func 62) #[] #[]) #[.int .u8 o_1, .slice a_p2 a_n3 a_c4, .slice b_p5 b_n6 b_c7] w (retS (fun v12 w13 => ∃ (xp8 : Option Addr), ∃ (xn9 : Nat), ∃ (xc10 : Nat), ∃ (x11 : Int), v12 = (.tuple #[.slice xp8 xn9 xc10, .int .i64 x11] : Value) ∧ (
 ifB ((x11 : Int) != 0) (
 R (.returned (.tuple #[.slice none 0 0, .int .i64 x11])) w13) (
 doCall Try.prog (.func (.func 62) #[] #[]) #[.int .u8 o_1, .slice b_p5 b_n6 b_c7, .slice a_p2 a_n3 a_c4] w13 (retS (fun v18 w19 => ∃ (xp14 : Option Addr), ∃ (xn15 : Nat), ∃ (xc16 : Nat), ∃ (x17 : Int), v18 = (.tuple #[.slice xp14 xn15 xc16, .int .i64 x17] : Value) ∧ (
 doCall Try.prog (.func (.func 60) #[] #[]) #[.int .u8 o_1, .int .u8 1, .slice xp8 xn9 xc10, .slice xp14 xn15 xc16] w19 (retS (fun v24 w25 => ∃ (xp20 : Option Addr), ∃ (xn21 : Nat), ∃ (xc22 : Nat), ∃ (x23 : Int), v24 = (.tuple #[.slice xp20 xn21 xc22, .int .i64 x23] : Value) ∧ (
 R (.returned (.tuple #[.slice xp20 xn21 xc22, .int .i64 x23])) w25)) (fun ch w => Kfn R ch [] w)))) (fun ch w => Kfn R ch [] w))))) (fun ch w => Kfn R ch [] w))
set_option maxRecDepth 100000 in
theorem sh63_ok (o_1 : Int) (a_p2 : Option Addr) (a_n3 : Nat) (a_c4 : Nat) (b_p5 : Option Addr) (b_n6 : Nat) (b_c7 : Nat) {R : Ending → World → Prop} {w : World} : sh63 o_1 a_p2 a_n3 a_c4 b_p5 b_n6 b_c7 R w → Calls Try.prog 63 #[.int .u8 o_1, .slice a_p2 a_n3 a_c4, .slice b_p5 b_n6 b_c7] w R :=
  calls_of_eq (ann := fun _ => []) (fn := Try.f63) (c := bodyOf Try.f63) (args := #[.int .u8 o_1, .slice a_p2 a_n3 a_c4, .slice b_p5 b_n6 b_c7]) 400 follows_mixed Try.func63 (by kernel_rfl) (by kernel_rfl)
set_option maxRecDepth 100000 in
/-- joinery/rowset.Range -/
def sh64 (o_1 : Int) (l_p2 : Option Addr) (l_n3 : Nat) (l_c4 : Nat) (lo_5 : Int) (hi_6 : Int) (R : Ending → World → Prop) (w : World) : Prop :=
 doAl (.cells #[.int .u8 o_1] 5) w (fun b7 w8 =>
 doAl (.cells #[.int .i64 lo_5] 2) w8 (fun b9 w10 =>
 doAl (.cells #[.int .i64 hi_6] 2) w10 (fun b11 w12 =>
 ∃ (x13 : Int), World.cell? w12 (blk b7) = some (.int .u8 x13) ∧ (
 doCall Try.prog (.func (.func 99) #[] #[]) #[.int .u8 x13, .int .u8 1, .slice l_p2 l_n3 l_c4, .slice none 0 0, .agg #[.func (.func 107) #[] #[.pointer (some (blk b7)), .pointer (some (blk b9)), .pointer (some (blk b11))]]] w12 (retS (fun v18 w19 => ∃ (xp14 : Option Addr), ∃ (xn15 : Nat), ∃ (xc16 : Nat), ∃ (x17 : Int), v18 = (.tuple #[.slice xp14 xn15 xc16, .int .i64 x17] : Value) ∧ (
 R (.returned (.tuple #[.slice xp14 xn15 xc16, .int .i64 x17])) w19)) (fun ch w => Kfn R ch [] w))))))
set_option maxRecDepth 100000 in
theorem sh64_ok (o_1 : Int) (l_p2 : Option Addr) (l_n3 : Nat) (l_c4 : Nat) (lo_5 : Int) (hi_6 : Int) {R : Ending → World → Prop} {w : World} : sh64 o_1 l_p2 l_n3 l_c4 lo_5 hi_6 R w → Calls Try.prog 64 #[.int .u8 o_1, .slice l_p2 l_n3 l_c4, .int .i64 lo_5, .int .i64 hi_6] w R :=
  calls_of_eq (ann := fun _ => []) (fn := Try.f64) (c := bodyOf Try.f64) (args := #[.int .u8 o_1, .slice l_p2 l_n3 l_c4, .int .i64 lo_5, .int .i64 hi_6]) 400 follows_mixed Try.func64 (by kernel_rfl) (by kernel_rfl)
set_option maxRecDepth 100000 in
/-- joinery/joineryref05.Range -/
def sh65 (o_1 : Int) (l_p2 : Option Addr) (l_n3 : Nat) (l_c4 : Nat) (lo_5 : Int) (hi_6 : Int) (R : Ending → World → Prop) (w : World) : Prop :=
 doCall Try.prog (.func (.func 49) #[] #[]) #[.int .u8 o_1, .slice l_p2 l_n3 l_c4] w (retS (fun v8 w9 => ∃ (x7 : Bool), v8 = (.bool x7 : Value) ∧ (
 ifB (!x7) (
 R (.returned (.tuple #[.slice none 0 0, .int .i64 2])) w9) (
 ∃ (I10 : List Value → World → Prop) (μ11 : List Value → World → Nat), I10 [.slice none 0 0, .int .i64 0] w9 ∧ (∀ (out_p14 : Option Addr), ∀ (out_n15 : Nat), ∀ (out_c16 : Nat), ∀ (i_17 : Int), ∀ (_j12 : Nat → Value) (w13 : World), I10 [.slice out_p14 out_n15 out_c16, .int .i64 i_17] w13 → (
 ifB (decide ((i_17 : Int) < ((l_n3 : Nat) : Int))) (
 let K22 : (Option Addr) → Nat → Nat → World → Prop := fun (out_p18 : Option Addr) (out_n19 : Nat) (out_c20 : Nat) (w21 : World) => 
 I10 [.slice out_p18 out_n19 out_c20, .int .i64 (IntKind.wrap .i64 (i_17 + 1))] w21 ∧ μ11 [.slice out_p18 out_n19 out_c20, .int .i64 (IntKind.wrap .i64 (i_17 + 1))] w21 < μ11 [.slice out_p14 out_n15 out_c16, .int .i64 i_17] w13
 let K25 : Bool → World → Prop := fun (x23 : Bool) (w24 : World) => 
 ifB x23 (
 doIx l_p2 l_n3 2 (i_17) (fun a26 =>
 ∃ (x27 : Int), World.cell? w24 (a26.add 0) = some (.int .i64 x27) ∧ (
 ∃ (x28 : Int), World.cell? w24 (a26.add 1) = some (.int .i64 x28) ∧ (
 doAl (.cells #[.int .i64 x27, .int .i64 x28] 38) w24 (fun b29 w30 =>
 doGo Try.prog (.builtin .append #[33, 33] 33 #[false, false]) #[.slice out_p14 out_n15 out_c16, .slice (some (blk b29)) 1 1] w30 (retS (fun v34 w35 => ∃ (xp31 : Option Addr), ∃ (xn32 : Nat), ∃ (xc33 : Nat), v34 = (.slice xp31 xn32 xc33 : Value) ∧ (
 K22 xp31 xn32 xc33 w35)) (fun ch w => Kfn R ch [] w))))))) (
 K22 out_p14 out_n15 out_c16 w24)
 doIx l_p2 l_n3 2 (i_17) (fun a36 =>
 ∃ (x37 : Int), World.cell? w13 (a36.add 0) = some (.int .i64 x37) ∧ (
 doCall Try.prog (.func (.func 96) #[] #[]) #[.int .u8 o_1, .int .i64 x37, .int .i64 lo_5] w13 (retS (fun v39 w40 => ∃ (x38 : Bool), v39 = (.bool x38 : Value) ∧ (
 ifB (!x38) (
 doIx l_p2 l_n3 2 (i_17) (fun a41 =>
 ∃ (x42 : Int), World.cell? w40 (a41.add 0) = some (.int .i64 x42) ∧ (
 doCall Try.prog (.func (.func 96) #[] #[]) #[.int .u8 o_1, .int .i64 hi_6, .int .i64 x42] w40 (retS (fun v44 w45 => ∃ (x43 : Bool), v44 = (.bool x43 : Value) ∧ (
 K25 (!x43) w45)) (fun ch w => Kfn R ch [] w))))) (
 K22 out_p14 out_n15 out_c16 w40))) (fun ch w => Kfn R ch [] w))))) (
 R (.returned (.tuple #[.slice out_p14 out_n15 out_c16, .int .i64 0])) w13)))))) (fun ch w => Kfn R ch [] w))
set_option maxRecDepth 100000 in
theorem sh65_ok (o_1 : Int) (l_p2 : Option Addr) (l_n3 : Nat) (l_c4 : Nat) (lo_5 : Int) (hi_6 : Int) {R : Ending → World → Prop} {w : World} : sh65 o_1 l_p2 l_n3 l_c4 lo_5 hi_6 R w → Calls Try.prog 65 #[.int .u8 o_1, .slice l_p2 l_n3 l_c4, .int .i64 lo_5, .int .i64 hi_6] w R :=
  calls_of_eq (ann := fun i => if i = 0 then [(10, .slice none 0 0), (11, .int .i64 0)] else []) (fn := Try.f65) (c := bodyOf Try.f65) (args := #[.int .u8 o_1, .slice l_p2 l_n3 l_c4, .int .i64 lo_5, .int .i64 hi_6]) 400 follows_mixed Try.func65 (by kernel_rfl) (by kernel_rfl)
set_option maxRecDepth 100000 in
/-- joinery/rowset.Cut -/
def sh66 (o_1 : Int) (l_p2 : Option Addr) (l_n3 : Nat) (l_c4 : Nat) (key_5 : Int) (R : Ending → World → Prop) (w : World) : Prop :=
 doCall Try.prog (.func (.func 40) #[] #[]) #[.int .u8 o_1, .slice l_p2 l_n3 l_c4] w (retS (fun v7 w8 => ∃ (x6 : Bool), v7 = (.bool x6 : Value) ∧ (
 ifB (!x6) (
 R (.returned (.tuple #[.slice none 0 0, .int .i64 0, .bool false, .slice none 0 0])) w8) (
 doCall Try.prog (.func (.func 25) #[] #[]) #[.int .u8 o_1, .slice l_p2 l_n3 l_c4, .int .i64 key_5] w8 (retS (fun v11 w12 => ∃ (x9 : Int), ∃ (x10 : Bool), v11 = (.tuple #[.int .i64 x9, .bool x10] : Value) ∧ (
 doDr w12 (fun w13 =>
 doSl l_p2 l_c4 2 (0) (x9) (fun p14 n15 c16 =>
 doSl l_p2 l_c4 2 (x9) (((l_n3 : Nat) : Int)) (fun p17 n18 c19 =>
 doCall Try.prog (.func (.func 87) #[] #[]) #[.slice p14 n15 c16] w13 (retS (fun v23 w24 => ∃ (xp20 : Option Addr), ∃ (xn21 : Nat), ∃ (xc22 : Nat), v23 = (.slice xp20 xn21 xc22 : Value) ∧ (
 doCall Try.prog (.func (.func 87) #[] #[]) #[.slice p17 n18 c19] w24 (retS (fun v28 w29 => ∃ (xp25 : Option Addr), ∃ (xn26 : Nat), ∃ (xc27 : Nat), v28 = (.slice xp25 xn26 xc27 : Value) ∧ (
 let K35 : Int → (Option Addr) → Nat → Nat → World → Prop := fun (val_30 : Int) (behind_p31 : Option Addr) (behind_n32 : Nat) (behind_c33 : Nat) (w34 : World) => 
 R (.returned (.tuple #[.slice xp20 xn21 xc22, .int .i64 val_30, .bool x10, .slice behind_p31 behind_n32 behind_c33])) w34
 ifB x10 (
 doDr w29 (fun w37 =>
 ∃ (C36 : World → Prop), C36 w37 ∧ (
 doIx xp25 xn26 2 (0) (fun a38 =>
 ∃ (x39 : Int), (∀ w, C36 w → World.cell? w (a38.add 1) = some (.int .i64 x39)) ∧ (
 doSl xp25 xc27 2 (1) (((xn26 : Nat) : Int)) (fun p40 n41 c42 =>
 K35 x39 p40 n41 c42 w37)))))) (
 K35 0 xp25 xn26 xc27 w29))) (fun ch w => Kfn R ch [] w)))) (fun ch w => Kfn R ch [] w))))))) (fun ch w => Kfn R ch [] w))))) (fun ch w => Kfn R ch [] w))
set_option maxRecDepth 100000 in
theorem sh66_ok (o_1 : Int) (l_p2 : Option Addr) (l_n3 : Nat) (l_c4 : Nat) (key_5 : Int) {R : Ending → World → Prop} {w : World} : sh66 o_1 l_p2 l_n3 l_c4 key_5 R w → Calls Try.prog 66 #[.int .u8 o_1, .slice l_p2 l_n3 l_c4, .int .i64 key_5] w R :=
  calls_of_eq (ann := fun _ => []) (fn := Try.f66) (c := bodyOf Try.f66) (args := #[.int .u8 o_1, .slice l_p2 l_n3 l_c4, .int .i64 key_5]) 400 follows_mixed Try.func66 (by kernel_rfl) (by kernel_rfl)
set_option maxRecDepth 100000 in
/-- joinery/joineryref05.Cut -/
def sh67 (o_1 : Int) (l_p2 : Option Addr) (l_n3 : Nat) (l_c4 : Nat) (key_5 : Int) (R : Ending → World → Prop) (w : World) : Prop :=
 doCall Try.prog (.func (.func 49) #[] #[]) #[.int .u8 o_1, .slice l_p2 l_n3 l_c4] w (retS (fun v7 w8 => ∃ (x6 : Bool), v7 = (.bool x6 : Value) ∧ (
 ifB (!x6) (
 R (.returned (.tuple #[.slice none 0 0, .int .i64 0, .bool false, .slice none 0 0])) w8) (
 ∃ (I9 : List Value → World → Prop) (μ10 : List Value → World → Nat), I9 [.slice none 0 0, .slice none 0 0, .int .i64 0] w8 ∧ (∀ (a_p13 : Option Addr), ∀ (a_n14 : Nat), ∀ (a_c15 : Nat), ∀ (b_p16 : Option Addr), ∀ (b_n17 : Nat), ∀ (b_c18 : Nat), ∀ (i_19 : Int), ∀ (_j11 : Nat → Value) (w12 : World), I9 [.slice a_p13 a_n14 a_c15, .slice b_p16 b_n17 b_c18, .int .i64 i_19] w12 → (
 ifB (decide ((i_19 : Int) < ((l_n3 : Nat) : Int))) (
 let K27 : (Option Addr) → Nat → Nat → (Option Addr) → Nat → Nat → World → Prop := fun (a_p20 : Option Addr) (a_n21 : Nat) (a_c22 : Nat) (b_p23 : Option Addr) (b_n24 : Nat) (b_c25 : Nat) (w26 : World) => 
 I9 [.slice a_p20 a_n21 a_c22, .slice b_p23 b_n24 b_c25, .int .i64 (IntKind.wrap .i64 (i_19 + 1))] w26 ∧ μ10 [.slice a_p20 a_n21 a_c22, .slice b_p23 b_n24 b_c25, .int .i64 (IntKind.wrap .i64 (i_19 + 1))] w26 < μ10 [.slice a_p13 a_n14 a_c15, .slice b_p16 b_n17 b_c18, .int .i64 i_19] w12
 let K32 : (Option Addr) → Nat → Nat → World → Prop := fun (a_p28 : Option Addr) (a_n29 : Nat) (a_c30 : Nat) (w31 : World) => 
 doIx l_p2 l_n3 2 (i_19) (fun a33 =>
 ∃ (x34 : Int), World.cell? w31 (a33.add 0) = some (.int .i64 x34) ∧ (
 doCall Try.prog (.func (.func 96) #[] #[]) #[.int .u8 o_1, .int .i64 key_5, .int .i64 x34] w31 (retS (fun v36 w37 => ∃ (x35 : Bool), v36 = (.bool x35 : Value) ∧ (
 ifB x35 (
 doIx l_p2 l_n3 2 (i_19) (fun a38 =>
 ∃ (x39 : Int), World.cell? w37 (a38.add 0) = some (.int .i64 x39) ∧ (
 ∃ (x40 : Int), World.cell? w37 (a38.add 1) = some (.int .i64 x40) ∧ (
 doAl (.cells #[.int .i64 x39, .int .i64 x40] 38) w37 (fun b41 w42 =>
 doGo Try.prog (.builtin .append #[33, 33] 33 #[false, false]) #[.slice b_p16 b_n17 b_c18, .slice (some (blk b41)) 1 1] w42 (retS (fun v46 w47 => ∃ (xp43 : Option Addr), ∃ (xn44 : Nat), ∃ (xc45 : Nat), v46 = (.slice xp43 xn44 xc45 : Value) ∧ (
 K27 a_p28 a_n29 a_c30 xp43 xn44 xc45 w47)) (fun ch w => Kfn R ch [] w))))))) (
 K27 a_p28 a_n29 a_c30 b_p16 b_n17 b_c18 w37))) (fun ch w => Kfn R ch [] w))))
 doIx l_p2 l_n3 2 (i_19) (fun a48 =>
 ∃ (x49 : Int), World.cell? w12 (a48.add 0) = some (.int .i64 x49) ∧ (
 doCall Try.prog (.func (.func 96) #[] #[]) #[.int .u8 o_1, .int .i64 x49, .int .i64 key_5] w12 (retS (fun v51 w52 => ∃ (x50 : Bool), v51 = (.bool x50 : Value) ∧ (
 ifB x50 (
 doIx l_p2 l_n3 2 (i_19) (fun a53 =>
 ∃ (x54 : Int), World.cell? w52 (a53.add 0) = some (.int .i64 x54) ∧ (
 ∃ (x55 : Int), World.cell? w52 (a53.add 1) = some (.int .i64 x55) ∧ (
 doAl (.cells #[.int .i64 x54, .int .i64 x55] 38) w52 (fun b56 w57 =>
 doGo Try.prog (.builtin .append #[33, 33] 33 #[false, false]) #[.slice a_p13 a_n14 a_c15, .slice (some (blk b56)) 1 1] w57 (retS (fun v61 w62 => ∃ (xp58 : Option Addr), ∃ (xn59 : Nat), ∃ (xc60 : Nat), v61 = (.slice xp58 xn59 xc60 : Value) ∧ (
 K32 xp58 xn59 xc60 w62)) (fun ch w => Kfn R ch [] w))))))) (
 K32 a_p13 a_n14 a_c15 w52))) (fun ch w => Kfn R ch [] w))))) (
 doCall Try.prog (.func (.func 44) #[] #[]) #[.int .u8 o_1, .slice l_p2 l_n3 l_c4, .int .i64 key_5] w12 (retS (fun v65 w66 => ∃ (x63 : Int), ∃ (x64 : Bool), v65 = (.tuple #[.int .i64 x63, .bool x64] : Value) ∧ (
 R (.returned (.tuple #[.slice a_p13 a_n14 a_c15, .int .i64 x63, .bool x64, .slice b_p16 b_n17 b_c18])) w66)) (fun ch w => Kfn R ch [] w)))))))) (fun ch w => Kfn R ch [] w))
set_option maxRecDepth 100000 in
theorem sh67_ok (o_1 : Int) (l_p2 : Option Addr) (l_n3 : Nat) (l_c4 : Nat) (key_5 : Int) {R : Ending → World → Prop} {w : World} : sh67 o_1 l_p2 l_n3 l_c4 key_5 R w → Calls Try.prog 67 #[.int .u8 o_1, .slice l_p2 l_n3 l_c4, .int .i64 key_5] w R :=
  calls_of_eq (ann := fun i => if i = 0 then [(10, .slice none 0 0), (11, .slice none 0 0), (12, .int .i64 0)] else []) (fn := Try.f67) (c := bodyOf Try.f67) (args := #[.int .u8 o_1, .slice l_p2 l_n3 l_c4, .int .i64 key_5]) 400 follows_mixed Try.func67 (by kernel_rfl) (by kernel_rfl)
set_option maxRecDepth 100000 in
/-- joinery/joineryref09.May -/
def sh68 (l_p1 : Option Addr) (l_n2 : Nat) (l_c3 : Nat) (R : Ending → World → Prop) (w : World) : Prop :=
 let K6 : Bool → World → Prop := fun (x4 : Bool) (w5 : World) => 
 R (.returned (.bool x4)) w5
 ifB ((((l_n2 : Nat) : Int) : Int) == 0) (
 R (.returned (.bool true)) w) (
 doCall Try.prog (.func (.func 108) #[] #[]) #[.slice l_p1 l_n2 l_c3, .int .i64 0, .int .i64 0] w (retS (fun v8 w9 => ∃ (x7 : Int), v8 = (.int .i64 x7 : Value) ∧ (
 K6 ((x7 : Int) == ((l_n2 : Nat) : Int)) w9)) (fun ch w => Kfn R ch [] w)))
set_option maxRecDepth 100000 in
theorem sh68_ok (l_p1 : Option Addr) (l_n2 : Nat) (l_c3 : Nat) {R : Ending → World → Prop} {w : World} : sh68 l_p1 l_n2 l_c3 R w → Calls Try.prog 68 #[.slice l_p1 l_n2 l_c3] w R :=
  calls_of_eq (ann := fun _ => []) (fn := Try.f68) (c := bodyOf Try.f68) (args := #[.slice l_p1 l_n2 l_c3]) 400 follows_mixed Try.func68 (by kernel_rfl) (by kernel_rfl)
set_option maxRecDepth 100000 in
/-- joinery/node.New -/
def sh69 (l_1 : Option Addr) (key_2 : Int) (val_3 : Int) (tag_4 : Int) (r_5 : Option Addr) (R : Ending → World → Prop) (w : World) : Prop :=
 doCall Try.prog (.func (.func 74) #[] #[]) #[.pointer l_1] w (retS (fun v7 w8 => ∃ (x6 : Int), v7 = (.int .i64 x6 : Value) ∧ (
 doCall Try.prog (.func (.func 74) #[] #[]) #[.pointer r_5] w8 (retS (fun v10 w11 => ∃ (x9 : Int), v10 = (.int .i64 x9 : Value) ∧ (
 doCall Try.prog (.func (.func 109) #[] #[]) #[.pointer l_1] w11 (retS (fun v13 w14 => ∃ (x12 : Int), v13 = (.int .i64 x12 : Value) ∧ (
 doCall Try.prog (.func (.func 109) #[] #[]) #[.pointer r_5] w14 (retS (fun v16 w17 => ∃ (x15 : Int), v16 = (.int .i64 x15 : Value) ∧ (
 doAl (.cells #[.int .i64 key_2, .int .i64 val_3, .int .i64 (IntKind.wrap .i64 ((IntKind.wrap .i64 (x12 + val_3)) + x15)), .int .u64 tag_4, .int .i64 (IntKind.wrap .i64 ((IntKind.wrap .i64 (x6 + 1)) + x9)), .pointer l_1, .pointer r_5] 133) w17 (fun b18 w19 =>
 R (.returned (.pointer (some (blk b18)))) w19))) (fun ch w => Kfn R ch [] w)))) (fun ch w => Kfn R ch [] w)))) (fun ch w => Kfn R ch [] w)))) (fun ch w => Kfn R ch [] w))
set_option maxRecDepth 100000 in
theorem sh69_ok (l_1 : Option Addr) (key_2 : Int) (val_3 : Int) (tag_4 : Int) (r_5 : Option Addr) {R : Ending → World → Prop} {w : World} : sh69 l_1 key_2 val_3 tag_4 r_5 R w → Calls Try.prog 69 #[.pointer l_1, .int .i64 key_2, .int .i64 val_3, .int .u64 tag_4, .pointer r_5] w R :=
  calls_of_eq (ann := fun _ => []) (fn := Try.f69) (c := bodyOf Try.f69) (args := #[.pointer l_1, .int .i64 key_2, .int .i64 val_3, .int .u64 tag_4, .pointer r_5]) 400 follows_mixed Try.func69 (by kernel_rfl) (by kernel_rfl)
set_option maxRecDepth 100000 in
/-- joinery/joineryref09.Parts -/
def sh70 (l_p1 : Option Addr) (l_n2 : Nat) (l_c3 : Nat) (R : Ending → World → Prop) (w : World) : Prop :=
 doAl (.cells #[.int .i64 0, .int .i64 0, .int .i64 0, .int .i64 0, .int .u64 0, .bool false, .bool false] 88) w (fun b4 w5 =>
 let K8 : Int → World → Prop := fun (n_6 : Int) (w7 : World) => 
 doDr w7 (fun w10 =>
 ∃ (C9 : World → Prop), C9 w10 ∧ (
 doIx l_p1 l_n2 7 (0) (fun a11 =>
 ∃ (x12 : Int), (∀ w, C9 w → World.cell? w (a11.add 0) = some (.int .i64 x12)) ∧ (
 ∃ (x13 : Int), (∀ w, C9 w → World.cell? w (a11.add 1) = some (.int .i64 x13)) ∧ (
 ∃ (x14 : Int), (∀ w, C9 w → World.cell? w (a11.add 2) = some (.int .i64 x14)) ∧ (
 ∃ (x15 : Int), (∀ w, C9 w → World.cell? w (a11.add 3) = some (.int .i64 x15)) ∧ (
 ∃ (x16 : Int), (∀ w, C9 w → World.cell? w (a11.add 4) = some (.int .u64 x16)) ∧ (
 ∃ (x17 : Bool), (∀ w, C9 w → World.cell? w (a11.add 5) = some (.bool x17)) ∧ (
 ∃ (x18 : Bool), (∀ w, C9 w → World.cell? w (a11.add 6) = some (.bool x18)) ∧ (
 doSl l_p1 l_c3 7 (1) (IntKind.wrap .i64 (1 + n_6)) (fun p19 n20 c21 =>
 doSl l_p1 l_c3 7 (IntKind.wrap .i64 (1 + n_6)) (((l_n2 : Nat) : Int)) (fun p22 n23 c24 =>
 doSt ((blk b4).add 0) (.int .i64 x12) w10 (fun w25 =>
 doSt ((blk b4).add 1) (.int .i64 x13) w25 (fun w26 =>
 doSt ((blk b4).add 2) (.int .i64 x14) w26 (fun w27 =>
 doSt ((blk b4).add 3) (.int .i64 x15) w27 (fun w28 =>
 doSt ((blk b4).add 4) (.int .u64 x16) w28 (fun w29 =>
 doSt ((blk b4).add 5) (.bool x17) w29 (fun w30 =>
 doSt ((blk b4).add 6) (.bool x18) w30 (fun w31 =>
 ∃ (x32 : Int), World.cell? w31 ((blk b4).add 0) = some (.int .i64 x32) ∧ (
 ∃ (x33 : Int), World.cell? w31 ((blk b4).add 1) = some (.int .i64 x33) ∧ (
 ∃ (x34 : Int), World.cell? w31 ((blk b4).add 2) = some (.int .i64 x34) ∧ (
 ∃ (x35 : Int), World.cell? w31 ((blk b4).add 3) = some (.int .i64 x35) ∧ (
 ∃ (x36 : Int), World.cell? w31 ((blk b4).add 4) = some (.int .u64 x36) ∧ (
 ∃ (x37 : Bool), World.cell? w31 ((blk b4).add 5) = some (.bool x37) ∧ (
 ∃ (x38 : Bool), World.cell? w31 ((blk b4).add 6) = some (.bool x38) ∧ (
 R (.returned (.tuple #[.agg #[.int .i64 x32, .int .i64 x33, .int .i64 x34, .int .i64 x35, .int .u64 x36, .bool x37, .bool x38], .slice p19 n20 c21, .slice p22 n23 c24])) w31))))))))))))))))))))))))))
 doIx l_p1 l_n2 7 (0) (fun a39 =>
 ∃ (x40 : Bool), World.cell? w5 (a39.add 5) = some (.bool x40) ∧ (
 ifB x40 (
 doCall Try.prog (.func (.func 108) #[] #[]) #[.slice l_p1 l_n2 l_c3, .int .i64 1, .int .i64 0] w5 (retS (fun v42 w43 => ∃ (x41 : Int), v42 = (.int .i64 x41 : Value) ∧ (
 K8 x41 w43)) (fun ch w => Kfn R ch [] w))) (
 K8 0 w5))))
set_option maxRecDepth 100000 in
theorem sh70_ok (l_p1 : Option Addr) (l_n2 : Nat) (l_c3 : Nat) {R : Ending → World → Prop} {w : World} : sh70 l_p1 l_n2 l_c3 R w → Calls Try.prog 70 #[.slice l_p1 l_n2 l_c3] w R :=
  calls_of_eq (ann := fun _ => []) (fn := Try.f70) (c := bodyOf Try.f70) (args := #[.slice l_p1 l_n2 l_c3]) 400 follows_mixed Try.func70 (by kernel_rfl) (by kernel_rfl)
set_option maxRecDepth 100000 in
/-- joinery/rank.tally -/
def sh71  (R : Ending → World → Prop) (w : World) : Prop :=
 doAl (.cells #[.int .i64 0] 3) w (fun b1 w2 =>
 doSt ((blk b1).add 0) (.int .i64 0) w2 (fun w3 =>
 R (.returned (.tuple #[.func (.func 110) #[] #[.pointer (some (blk b1))], .func (.func 111) #[] #[.pointer (some (blk b1))]])) w3))
set_option maxRecDepth 100000 in
theorem sh71_ok  {R : Ending → World → Prop} {w : World} : sh71  R w → Calls Try.prog 71 #[] w R :=
  calls_of_eq (ann := fun _ => []) (fn := Try.f71) (c := bodyOf Try.f71) (args := #[]) 400 follows_mixed Try.func71 (by kernel_rfl) (by kernel_rfl)
set_option maxRecDepth 100000 in
/-- joinery/rank.way -/
def sh72 (o_1 : Int) (t_2 : Option Addr) (key_3 : Int) (R : Ending → World → Prop) (w : World) : Prop :=
 doAl (.cells #[.int .u8 o_1] 5) w (fun b4 w5 =>
 doAl (.cells #[.pointer t_2] 27) w5 (fun b6 w7 =>
 doAl (.cells #[.int .i64 key_3] 2) w7 (fun b8 w9 =>
 R (.returned (.func (.func 112) #[] #[.pointer (some (blk b6)), .pointer (some (blk b4)), .pointer (some (blk b8))])) w9)))
set_option maxRecDepth 100000 in
theorem sh72_ok (o_1 : Int) (t_2 : Option Addr) (key_3 : Int) {R : Ending → World → Prop} {w : World} : sh72 o_1 t_2 key_3 R w → Calls Try.prog 72 #[.int .u8 o_1, .pointer t_2, .int .i64 key_3] w R :=
  calls_of_eq (ann := fun _ => []) (fn := Try.f72) (c := bodyOf Try.f72) (args := #[.int .u8 o_1, .pointer t_2, .int .i64 key_3]) 400 follows_mixed Try.func72 (by kernel_rfl) (by kernel_rfl)
set_option maxRecDepth 100000 in
/-- (*joinery/node.Node).Left -/
def sh73 (n_1 : Option Addr) (R : Ending → World → Prop) (w : World) : Prop :=
 ifB ((n_1).isNone) (
 R (.returned (.pointer none)) w) (
 ∃ (q2 : Addr), n_1 = some q2 ∧ (
 ∃ (x3 : Option Addr), World.cell? w (q2.add 5) = some (.pointer x3) ∧ (
 R (.returned (.pointer x3)) w)))
set_option maxRecDepth 100000 in
theorem sh73_ok (n_1 : Option Addr) {R : Ending → World → Prop} {w : World} : sh73 n_1 R w → Calls Try.prog 73 #[.pointer n_1] w R :=
  calls_of_eq (ann := fun _ => []) (fn := Try.f73) (c := bodyOf Try.f73) (args := #[.pointer n_1]) 400 follows_mixed Try.func73 (by kernel_rfl) (by kernel_rfl)
set_option maxRecDepth 100000 in
/-- (*joinery/node.Node).Size -/
def sh74 (n_1 : Option Addr) (R : Ending → World → Prop) (w : World) : Prop :=
 doCall Try.prog (.func (.func 113) #[] #[]) #[.pointer n_1] w (retS (fun v7 w8 => ∃ (x2 : Int), ∃ (x3 : Int), ∃ (x4 : Int), ∃ (x5 : Int), ∃ (x6 : Int), v7 = (.agg #[.int .i64 x2, .int .i64 x3, .int .i64 x4, .int .u64 x5, .int .i64 x6] : Value) ∧ (
 R (.returned (.int .i64 x6)) w8)) (fun ch w => Kfn R ch [] w))
set_option maxRecDepth 100000 in
theorem sh74_ok (n_1 : Option Addr) {R : Ending → World → Prop} {w : World} : sh74 n_1 R w → Calls Try.prog 74 #[.pointer n_1] w R :=
  calls_of_eq (ann := fun _ => []) (fn := Try.f74) (c := bodyOf Try.f74) (args := #[.pointer n_1]) 400 follows_mixed Try.func74 (by kernel_rfl) (by kernel_rfl)
set_option maxRecDepth 100000 in
/-- joinery/joineryref02.Is -/
def sh75 (o_1 : Int) (R : Ending → World → Prop) (w : World) : Prop :=
 let K4 : Bool → World → Prop := fun (x2 : Bool) (w3 : World) => 
 R (.returned (.bool x2)) w3
 ifB (decide ((o_1 : Int) ≥ 1)) (
 K4 (decide ((o_1 : Int) ≤ 7)) w) (
 R (.returned (.bool false)) w)
set_option maxRecDepth 100000 in
theorem sh75_ok (o_1 : Int) {R : Ending → World → Prop} {w : World} : sh75 o_1 R w → Calls Try.prog 75 #[.int .u8 o_1] w R :=
  calls_of_eq (ann := fun _ => []) (fn := Try.f75) (c := bodyOf Try.f75) (args := #[.int .u8 o_1]) 400 follows_mixed Try.func75 (by kernel_rfl) (by kernel_rfl)
set_option maxRecDepth 100000 in
/-- (*joinery/node.Node).Key -/
def sh76 (n_1 : Option Addr) (R : Ending → World → Prop) (w : World) : Prop :=
 doCall Try.prog (.func (.func 113) #[] #[]) #[.pointer n_1] w (retS (fun v7 w8 => ∃ (x2 : Int), ∃ (x3 : Int), ∃ (x4 : Int), ∃ (x5 : Int), ∃ (x6 : Int), v7 = (.agg #[.int .i64 x2, .int .i64 x3, .int .i64 x4, .int .u64 x5, .int .i64 x6] : Value) ∧ (
 R (.returned (.int .i64 x2)) w8)) (fun ch w => Kfn R ch [] w))
set_option maxRecDepth 100000 in
theorem sh76_ok (n_1 : Option Addr) {R : Ending → World → Prop} {w : World} : sh76 n_1 R w → Calls Try.prog 76 #[.pointer n_1] w R :=
  calls_of_eq (ann := fun _ => []) (fn := Try.f76) (c := bodyOf Try.f76) (args := #[.pointer n_1]) 400 follows_mixed Try.func76 (by kernel_rfl) (by kernel_rfl)
end Go.Proofs.Ytinkkhcffoikmaa
