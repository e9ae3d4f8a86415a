/-
  Printed by a program (gen.py): what the functions of the program do, as formulas; each with the proof that its call is what the formula says.
-/
/-
  Printed by a program (gen.py): what the functions of the program do, as formulas; each with the proof that its call is what the formula says.
-/
import Derived.Test.YtlddfgfmkapoiaaGreatZ02
import Derived.Test.YtlddfgfmkapoiaaGreatProg
import Derived.Test.YtlddfgfmkapoiaaGreatZ05

namespace Go.Proofs.YtlddfgfmkapoiaaGreat
open Go Go.Sh
set_option maxRecDepth 100000 in
/-- joinery/meet.Less -/
def sh88 (s_1 : Option Addr) (o_2 : Int) (a_3 : Option Addr) (b_4 : Option Addr) (R : Ending → World → Prop) (w : World) : Prop :=
 doCall Tryz.prog (.func (.func 161) #[] #[]) #[.agg #[.func (.func 162) #[.pointer s_1] #[], .func (.func 159) #[] #[], .func (.func 163) #[] #[]], .pointer s_1, .int .u8 o_2, .pointer a_3, .pointer b_4] w (retS (fun v7 w8 => ∃ (x5 : Option Addr), ∃ (x6 : Int), v7 = (.tuple #[.pointer x5, .int .i64 x6] : Value) ∧ (
 R (.returned (.tuple #[.pointer x5, .int .i64 x6])) w8)) (fun ch w => Kfn R ch [] w))
set_option maxRecDepth 100000 in
theorem sh88_ok (s_1 : Option Addr) (o_2 : Int) (a_3 : Option Addr) (b_4 : Option Addr) {R : Ending → World → Prop} {w : World} : sh88 s_1 o_2 a_3 b_4 R w → Calls Tryz.prog 88 #[.pointer s_1, .int .u8 o_2, .pointer a_3, .pointer b_4] w R :=
  calls_of_eq (ann := fun _ => []) (fn := Tryz.f88) (c := bodyOf Tryz.f88) (args := #[.pointer s_1, .int .u8 o_2, .pointer a_3, .pointer b_4]) 400 follows_mixed Tryz.func88 (by kernel_rfl) (by kernel_rfl)
set_option maxRecDepth 100000 in
/-- joinery/split.Split -/
def sh89 (s_1 : Option Addr) (o_2 : Int) (t_3 : Option Addr) (key_4 : Int) (R : Ending → World → Prop) (w : World) : Prop :=
 doAl (.cells #[.int .i64 0, .int .i64 0, .int .u64 0] 114) w (fun b5 w6 =>
 let K10 : Int → Value → World → Prop := fun (e_7 : Int) (d8 : Value) (w9 : World) => 
 let K13 : Bool → World → Prop := fun (x11 : Bool) (w12 : World) => 
 ifB x11 (
 doDr w12 (fun w15 =>
 ∃ (C14 : World → Prop), C14 w15 ∧ (
 ∃ (x16 : Int), (∀ w, C14 w → World.cell? w ((blk b5).add 0) = some (.int .i64 x16)) ∧ (
 ∃ (x17 : Int), (∀ w, C14 w → World.cell? w ((blk b5).add 1) = some (.int .i64 x17)) ∧ (
 ∃ (x18 : Int), (∀ w, C14 w → World.cell? w ((blk b5).add 2) = some (.int .u64 x18)) ∧ (
 doSt ((blk b5).add 0) (.int .i64 x16) w15 (fun w19 =>
 doSt ((blk b5).add 1) (.int .i64 x17) w19 (fun w20 =>
 doSt ((blk b5).add 2) (.int .u64 x18) w20 (fun w21 =>
 ∃ (x22 : Int), World.cell? w21 ((blk b5).add 0) = some (.int .i64 x22) ∧ (
 ∃ (x23 : Int), World.cell? w21 ((blk b5).add 1) = some (.int .i64 x23) ∧ (
 ∃ (x24 : Int), World.cell? w21 ((blk b5).add 2) = some (.int .u64 x24) ∧ (
 R (.returned (.tuple #[.pointer none, .agg #[.int .i64 x22, .int .i64 x23, .int .u64 x24], .bool false, .pointer none, .int .i64 2])) w21)))))))))))) (
 doCall Tryz.prog (.func (.func 165) #[] #[]) #[.pointer s_1, d8, .pointer t_3] w12 (retS (fun v31 w32 => ∃ (x25 : Option Addr), ∃ (x26 : Int), ∃ (x27 : Int), ∃ (x28 : Int), ∃ (x29 : Bool), ∃ (x30 : Option Addr), v31 = (.tuple #[.pointer x25, .agg #[.int .i64 x26, .int .i64 x27, .int .u64 x28], .bool x29, .pointer x30] : Value) ∧ (
 doSt ((blk b5).add 0) (.int .i64 x26) w32 (fun w33 =>
 doSt ((blk b5).add 1) (.int .i64 x27) w33 (fun w34 =>
 doSt ((blk b5).add 2) (.int .u64 x28) w34 (fun w35 =>
 doDr w35 (fun w37 =>
 ∃ (C36 : World → Prop), C36 w37 ∧ (
 ∃ (x38 : Int), (∀ w, C36 w → World.cell? w ((blk b5).add 0) = some (.int .i64 x38)) ∧ (
 ∃ (x39 : Int), (∀ w, C36 w → World.cell? w ((blk b5).add 1) = some (.int .i64 x39)) ∧ (
 ∃ (x40 : Int), (∀ w, C36 w → World.cell? w ((blk b5).add 2) = some (.int .u64 x40)) ∧ (
 doSt ((blk b5).add 0) (.int .i64 x38) w37 (fun w41 =>
 doSt ((blk b5).add 1) (.int .i64 x39) w41 (fun w42 =>
 doSt ((blk b5).add 2) (.int .u64 x40) w42 (fun w43 =>
 ∃ (x44 : Int), World.cell? w43 ((blk b5).add 0) = some (.int .i64 x44) ∧ (
 ∃ (x45 : Int), World.cell? w43 ((blk b5).add 1) = some (.int .i64 x45) ∧ (
 ∃ (x46 : Int), World.cell? w43 ((blk b5).add 2) = some (.int .u64 x46) ∧ (
 R (.returned (.tuple #[.pointer x25, .agg #[.int .i64 x44, .int .i64 x45, .int .u64 x46], .bool x29, .pointer x30, .int .i64 0])) w43)))))))))))))))) (fun ch w => Kfn R ch [] w)))
 ifB ((s_1).isNone) (
 K13 true w9) (
 K13 ((e_7 : Int) != 0) w9)
 doCall Tryz.prog (.func (.func 164) #[] #[]) #[.int .u8 o_2, .int .i64 key_4] w6 (retS (fun v51 w52 => (∃ (xf47 : Fn), ∃ (xx48 : Array Value), ∃ (xc49 : Array Value), ∃ (x50 : Int), v51 = (.tuple #[.func xf47 xx48 xc49, .int .i64 x50] : Value) ∧ (
 K10 x50 (.func xf47 xx48 xc49 : Value) w52)) ∨ (∃ (x53 : Int), v51 = (.tuple #[.nilFunc, .int .i64 x53] : Value) ∧ (
 K10 x53 (.nilFunc : Value) w52))) (fun ch w => Kfn R ch [] w)))
set_option maxRecDepth 100000 in
theorem sh89_ok (s_1 : Option Addr) (o_2 : Int) (t_3 : Option Addr) (key_4 : Int) {R : Ending → World → Prop} {w : World} : sh89 s_1 o_2 t_3 key_4 R w → Calls Tryz.prog 89 #[.pointer s_1, .int .u8 o_2, .pointer t_3, .int .i64 key_4] w R :=
  calls_of_eq (ann := fun _ => []) (fn := Tryz.f89) (c := bodyOf Tryz.f89) (args := #[.pointer s_1, .int .u8 o_2, .pointer t_3, .int .i64 key_4]) 400 follows_mixed Tryz.func89 (by kernel_rfl) (by kernel_rfl)
set_option maxRecDepth 100000 in
/-- (*joinery/node.Node).Size -/
def sh91 (n_1 : Option Addr) (R : Ending → World → Prop) (w : World) : Prop :=
 doCall Tryz.prog (.func (.func 166) #[] #[]) #[.pointer n_1] w (retS (fun v7 w8 => ∃ (x2 : Int), ∃ (x3 : Int), ∃ (x4 : Int), ∃ (x5 : Int), ∃ (x6 : Int), v7 = (.agg #[.int .i64 x2, .int .i64 x3, .int .i64 x4, .int .u64 x5, .int .i64 x6] : Value) ∧ (
 R (.returned (.int .i64 x6)) w8)) (fun ch w => Kfn R ch [] w))
set_option maxRecDepth 100000 in
theorem sh91_ok (n_1 : Option Addr) {R : Ending → World → Prop} {w : World} : sh91 n_1 R w → Calls Tryz.prog 91 #[.pointer n_1] w R :=
  calls_of_eq (ann := fun _ => []) (fn := Tryz.f91) (c := bodyOf Tryz.f91) (args := #[.pointer n_1]) 400 follows_mixed Tryz.func91 (by kernel_rfl) (by kernel_rfl)
set_option maxRecDepth 100000 in
/-- joinery/scheme.Of -/
def sh92 (code_1 : Int) (R : Ending → World → Prop) (w : World) : Prop :=
 doCall Tryz.prog (.func (.func 167) #[] #[]) #[.int .u8 code_1] w (retS (fun v3 w4 => ∃ (x2 : Value), v3 = (x2 : Value) ∧ (
 doEqN Tryz.prog .eql 208 (.tmp 5) (.const (.nilIface)) (x2) (fun b5 =>
 ifB b5 (
 R (.returned (.tuple #[.pointer none, .int .i64 2])) w4) (
 doAl (.cells #[.int .u8 code_1, .int .u32 0, .int .i32 0, .int .u32 0, .string (⟨#[]⟩ : ByteArray), .nilFunc, .nilFunc, .nilFunc, .nilFunc, .nilFunc, .nilFunc, .bool false, .int .u64 0] 231) w4 (fun b6 w7 =>
 R (.returned (.tuple #[.pointer (some (blk b6)), .int .i64 0])) w7))))) (fun ch w => Kfn R ch [] w))
set_option maxRecDepth 100000 in
theorem sh92_ok (code_1 : Int) {R : Ending → World → Prop} {w : World} : sh92 code_1 R w → Calls Tryz.prog 92 #[.int .u8 code_1] w R :=
  calls_of_eq (ann := fun _ => []) (fn := Tryz.f92) (c := bodyOf Tryz.f92) (args := #[.int .u8 code_1]) 400 follows_mixed Tryz.func92 (by kernel_rfl) (by kernel_rfl)
set_option maxRecDepth 100000 in
/-- joinery/rowset.Sort -/
def sh95 (o_1 : Int) (p_2 : Int) (l_p3 : Option Addr) (l_n4 : Nat) (l_c5 : Nat) (R : Ending → World → Prop) (w : World) : Prop :=
 doAl (.cells #[.int .u8 o_1] 5) w (fun b6 w7 =>
 let K10 : Bool → World → Prop := fun (x8 : Bool) (w9 : World) => 
 ifB x8 (
 R (.returned (.tuple #[.slice none 0 0, .int .i64 2])) w9) (
 doCall Tryz.prog (.func (.func 173) #[] #[]) #[.slice l_p3 l_n4 l_c5] w9 (retS (fun v14 w15 => ∃ (xp11 : Option Addr), ∃ (xn12 : Nat), ∃ (xc13 : Nat), v14 = (.slice xp11 xn12 xc13 : Value) ∧ (
 doCall Tryz.prog (.func (.func 174) #[] #[]) #[.slice xp11 xn12 xc13, .func (.func 175) #[] #[.pointer (some (blk b6))]] w15 (retS (fun v16 w17 => v16 = (.tuple #[] : Value) ∧ (
 ∃ (I18 : List Value → World → Prop) (μ19 : List Value → World → Nat), I18 [.slice none 0 0, .int .i64 0] w17 ∧ (∀ (out_p22 : Option Addr), ∀ (out_n23 : Nat), ∀ (out_c24 : Nat), ∀ (x25 : Int), ∀ (_j20 : Nat → Value) (w21 : World), I18 [.slice out_p22 out_n23 out_c24, .int .i64 x25] w21 → (
 ifB (decide ((x25 : Int) < ((xn12 : Nat) : Int))) (
 let K30 : (Option Addr) → Nat → Nat → World → Prop := fun (out_p26 : Option Addr) (out_n27 : Nat) (out_c28 : Nat) (w29 : World) => 
 I18 [.slice out_p26 out_n27 out_c28, .int .i64 (IntKind.wrap .i64 (x25 + 1))] w29 ∧ μ19 [.slice out_p26 out_n27 out_c28, .int .i64 (IntKind.wrap .i64 (x25 + 1))] w29 < μ19 [.slice out_p22 out_n23 out_c24, .int .i64 x25] w21
 doIx xp11 xn12 2 (x25) (fun a31 =>
 ∃ (x32 : Int), World.cell? w21 (a31.add 0) = some (.int .i64 x32) ∧ (
 ∃ (x33 : Int), World.cell? w21 (a31.add 1) = some (.int .i64 x33) ∧ (
 doAl (.cells #[.int .i64 0, .int .i64 0] 46) w21 (fun b34 w35 =>
 doSt ((blk b34).add 0) (.int .i64 x32) w35 (fun w36 =>
 doSt ((blk b34).add 1) (.int .i64 x33) w36 (fun w37 =>
 let K40 : Bool → World → Prop := fun (x38 : Bool) (w39 : World) => 
 ifB x38 (
 ∃ (x41 : Int), World.cell? w39 ((blk b34).add 0) = some (.int .i64 x41) ∧ (
 ∃ (x42 : Int), World.cell? w39 ((blk b34).add 1) = some (.int .i64 x42) ∧ (
 doAl (.cells #[.int .i64 x41, .int .i64 x42] 46) w39 (fun b43 w44 =>
 doGo Tryz.prog (.builtin .append #[22, 22] 22 #[false, false]) #[.slice out_p22 out_n23 out_c24, .slice (some (blk b43)) 1 1] w44 (retS (fun v48 w49 => ∃ (xp45 : Option Addr), ∃ (xn46 : Nat), ∃ (xc47 : Nat), v48 = (.slice xp45 xn46 xc47 : Value) ∧ (
 K30 xp45 xn46 xc47 w49)) (fun ch w => Kfn R ch [] w)))))) (
 doDr w39 (fun w51 =>
 ∃ (C50 : World → Prop), C50 w51 ∧ (
 doIx out_p22 out_n23 2 (IntKind.wrap .i64 (((out_n23 : Nat) : Int) - 1)) (fun a52 =>
 ∃ (x53 : Int), (∀ w, C50 w → World.cell? w (a52.add 1) = some (.int .i64 x53)) ∧ (
 ∃ (x54 : Int), (∀ w, C50 w → World.cell? w ((blk b34).add 1) = some (.int .i64 x54)) ∧ (
 doCall Tryz.prog (.func (.func 154) #[] #[]) #[.int .u8 p_2, .int .i64 x53, .int .i64 x54] w51 (retS (fun v57 w58 => ∃ (x55 : Int), ∃ (x56 : Int), v57 = (.tuple #[.int .i64 x55, .int .i64 x56] : Value) ∧ (
 doIx out_p22 out_n23 2 (IntKind.wrap .i64 (((out_n23 : Nat) : Int) - 1)) (fun a59 =>
 doSt ((a59.add 1).add 0) (.int .i64 x55) w58 (fun w60 =>
 K30 out_p22 out_n23 out_c24 w60)))) (fun ch w => Kfn R ch [] w))))))))
 doDr w37 (fun w62 =>
 ∃ (C61 : World → Prop), C61 w62 ∧ (
 ifB ((((out_n23 : Nat) : Int) : Int) == 0) (
 K40 true w62) (
 doIx out_p22 out_n23 2 (IntKind.wrap .i64 (((out_n23 : Nat) : Int) - 1)) (fun a63 =>
 ∃ (x64 : Int), (∀ w, C61 w → World.cell? w (a63.add 0) = some (.int .i64 x64)) ∧ (
 ∃ (x65 : Int), (∀ w, C61 w → World.cell? w ((blk b34).add 0) = some (.int .i64 x65)) ∧ (
 K40 ((x64 : Int) != x65) w62))))))))))))) (
 R (.returned (.tuple #[.slice out_p22 out_n23 out_c24, .int .i64 0])) w21))))) (fun ch w => Kfn R ch [] w)))) (fun ch w => Kfn R ch [] w)))
 ∃ (x66 : Int), World.cell? w7 (blk b6) = some (.int .u8 x66) ∧ (
 doCall Tryz.prog (.func (.func 172) #[] #[]) #[.int .u8 x66] w7 (retS (fun v68 w69 => ∃ (x67 : ByteArray), v68 = (.string x67 : Value) ∧ (
 ifB (x67.toList == (⟨#[]⟩ : ByteArray).toList) (
 R (.returned (.tuple #[.slice none 0 0, .int .i64 2])) w69) (
 doCall Tryz.prog (.func (.func 151) #[] #[]) #[.int .u8 p_2] w69 (retS (fun v71 w72 => ∃ (x70 : Bool), v71 = (.bool x70 : Value) ∧ (
 K10 (!x70) w72)) (fun ch w => Kfn R ch [] w))))) (fun ch w => Kfn R ch [] w))))
set_option maxRecDepth 100000 in
theorem sh95_ok (o_1 : Int) (p_2 : Int) (l_p3 : Option Addr) (l_n4 : Nat) (l_c5 : Nat) {R : Ending → World → Prop} {w : World} : sh95 o_1 p_2 l_p3 l_n4 l_c5 R w → Calls Tryz.prog 95 #[.int .u8 o_1, .int .u8 p_2, .slice l_p3 l_n4 l_c5] w R :=
  calls_of_eq (ann := fun i => if i = 0 then [(6, .slice none 0 0), (26, .int .i64 0)] else []) (fn := Tryz.f95) (c := bodyOf Tryz.f95) (args := #[.int .u8 o_1, .int .u8 p_2, .slice l_p3 l_n4 l_c5]) 400 follows_mixed Tryz.func95 (by kernel_rfl) (by kernel_rfl)
set_option maxRecDepth 100000 in
/-- joinery/joinerylaw09.See -/
def sh97 (t_1 : Option Addr) (R : Ending → World → Prop) (w : World) : Prop :=
 doCall Tryz.prog (.func (.func 178) #[] #[]) #[.pointer t_1, .slice none 0 0, .int .i64 0] w (retS (fun v6 w7 => ∃ (xp2 : Option Addr), ∃ (xn3 : Nat), ∃ (xc4 : Nat), ∃ (x5 : Bool), v6 = (.tuple #[.slice xp2 xn3 xc4, .bool x5] : Value) ∧ (
 R (.returned (.tuple #[.slice xp2 xn3 xc4, .bool x5])) w7)) (fun ch w => Kfn R ch [] w))
set_option maxRecDepth 100000 in
theorem sh97_ok (t_1 : Option Addr) {R : Ending → World → Prop} {w : World} : sh97 t_1 R w → Calls Tryz.prog 97 #[.pointer t_1] w R :=
  calls_of_eq (ann := fun _ => []) (fn := Tryz.f97) (c := bodyOf Tryz.f97) (args := #[.pointer t_1]) 400 follows_mixed Tryz.func97 (by kernel_rfl) (by kernel_rfl)
set_option maxRecDepth 100000 in
/-- joinery/row.May -/
def sh101 (o_1 : Int) (l_p2 : Option Addr) (l_n3 : Nat) (l_c4 : Nat) (R : Ending → World → Prop) (w : World) : Prop :=
 doAl (.cells #[.int .u8 o_1] 5) w (fun b5 w6 =>
 doAl (.cells #[.bool false] 4) w6 (fun b7 w8 =>
 doCall Tryz.prog (.func (.func 182) #[] #[]) #[.slice l_p2 l_n3 l_c4] w8 (retS (fun v12 w13 => ∃ (xf9 : Fn), ∃ (xx10 : Array Value), ∃ (xc11 : Array Value), v12 = (.func xf9 xx10 xc11 : Value) ∧ (
 rfW Tryz.prog (.func xf9 xx10 xc11) (mkLoop #[.int .u8 o_1, .slice l_p2 l_n3 l_c4, .pointer (some (blk b5)), undef, .pointer (some (blk b7)), undef, undef, .slice l_p2 l_n3 l_c4, .func xf9 xx10 xc11, undef, undef, undef, undef, undef, undef, undef, undef, undef, undef, undef, undef] (rfOf Tryz.f101 0).1 (rfOf Tryz.f101 0).2.1 (rfOf Tryz.f101 0).2.2)
 (fun w14 =>
 ∃ (x15 : Int), World.cell? w14 (blk b5) = some (.int .u8 x15) ∧ (
 doCall Tryz.prog (.func (.func 172) #[] #[]) #[.int .u8 x15] w14 (retS (fun v17 w18 => ∃ (x16 : ByteArray), v17 = (.string x16 : Value) ∧ (
 doSt ((blk b7).add 0) (.bool (!(x16.toList == (⟨#[]⟩ : ByteArray).toList))) w18 (fun w19 =>
 w19.heap[w13.heap.size]? = some (.deferred (some [])) ∧ (
 let w20 : World := w19.putObj w13.heap.size (.deferred none)
 ∃ (x21 : Bool), World.cell? w20 (blk b7) = some (.bool x21) ∧ (
 R (.returned (.bool x21)) w20))))) (fun ch w => Kfn R ch [{ target := .collected w13.heap.size, args := #[] }] w))))
 (fun w22 =>
 w22.heap[w13.heap.size]? = some (.deferred (some [])) ∧ (
 let w23 : World := w22.putObj w13.heap.size (.deferred none)
 ∃ (x24 : Bool), World.cell? w23 (blk b7) = some (.bool x24) ∧ (
 R (.returned (.bool x24)) w23)))
 [] w13)) (fun ch w => Kfn R ch [] w))))
set_option maxRecDepth 100000 in
theorem sh101_ok (o_1 : Int) (l_p2 : Option Addr) (l_n3 : Nat) (l_c4 : Nat) {R : Ending → World → Prop} {w : World} : sh101 o_1 l_p2 l_n3 l_c4 R w → Calls Tryz.prog 101 #[.int .u8 o_1, .slice l_p2 l_n3 l_c4] w R :=
  calls_of_eq (ann := fun _ => []) (fn := Tryz.f101) (c := bodyOf Tryz.f101) (args := #[.int .u8 o_1, .slice l_p2 l_n3 l_c4]) 400 follows_mixed Tryz.func101 (by kernel_rfl) (by kernel_rfl)
set_option maxRecDepth 100000 in
/-- joinery/row.May, a round of loop 0 -/
def sh101_0 (o_1 : Addr) (x2 : Addr) (y22 : Int) (y23 : Int) (y24 : Int) (y25 : Int) (l : Nat) (R : Ending → World → Prop) (w : World) : Prop :=
 doAl (.cells #[.int .i64 0, .int .i64 0] 46) w (fun b26 w27 =>
 doSt ((blk b26).add 0) (.int .i64 y22) w27 (fun w28 =>
 doSt ((blk b26).add 1) (.int .i64 y23) w28 (fun w29 =>
 doAl (.cells #[.int .i64 0, .int .i64 0] 46) w29 (fun b30 w31 =>
 doSt ((blk b30).add 0) (.int .i64 y24) w31 (fun w32 =>
 doSt ((blk b30).add 1) (.int .i64 y25) w32 (fun w33 =>
 ∃ (r34 : Loop), w33.heap[l]? = some (.loop r34) ∧ r34.state = .ready ∧ (
 let w35 : World := w33.putObj l (.loop { r34 with state := .busy })
 ∃ (x36 : Int), World.cell? w35 o_1 = some (.int .u8 x36) ∧ (
 ∃ (x37 : Int), World.cell? w35 ((blk b26).add 0) = some (.int .i64 x37) ∧ (
 ∃ (x38 : Int), World.cell? w35 ((blk b30).add 0) = some (.int .i64 x38) ∧ (
 doCall Tryz.prog (.func (.func 176) #[] #[]) #[.int .u8 x36, .int .i64 x37, .int .i64 x38] w35 (retS (fun v40 w41 => ∃ (x39 : Int), v40 = (.int .i64 x39 : Value) ∧ (
 ifB (decide ((x39 : Int) ≥ 0)) (
 doSt (x2.add 0) (.bool false) w41 (fun w42 =>
 ∃ (r43 : Loop), w42.heap[l]? = some (.loop r43) ∧ R (.returned (.bool false)) (w42.putObj l (.loop { r43 with state := .done, pending := some .ret })))) (
 ∃ (r44 : Loop), w41.heap[l]? = some (.loop r44) ∧ R (.returned (.bool true)) (w41.putObj l (.loop { r44 with state := .ready, pending := none }))))) (fun _ _ => False))))))))))))
set_option maxRecDepth 100000 in
theorem sh101_0_ok {dd3 : Value} {dd4 : Value} {dd5 : Value} {dd6 : Value} {dd7 : Value} {dd8 : Value} {dd9 : Value} {dd10 : Value} {dd11 : Value} {dd12 : Value} {dd13 : Value} {dd14 : Value} {dd15 : Value} {dd16 : Value} {dd17 : Value} {dd18 : Value} {dd19 : Value} {dd20 : Value} {dd21 : Value} {o_1 : Addr} {x2 : Addr} {y22 : Int} {y23 : Int} {y24 : Int} {y25 : Int} {l fn D : Nat} {R : Ending → World → Prop} {w : World} (hl : w.heap[l]? = some (.loop (mkLoop #[dd3, dd4, .pointer (some o_1), dd5, .pointer (some x2), dd6, dd7, dd8, dd9, dd10, dd11, dd12, dd13, dd14, dd15, dd16, dd17, dd18, dd19, dd20, dd21] (rfOf Tryz.f101 0).1 (rfOf Tryz.f101 0).2.1 (rfOf Tryz.f101 0).2.2 fn D))) : sh101_0 o_1 x2 y22 y23 y24 y25 l R w → doCall Tryz.prog (.func (.yield l) #[] #[]) #[.agg #[.int .i64 y22, .int .i64 y23], .agg #[.int .i64 y24, .int .i64 y25]] w R :=
  fun h => ⟨round_of_eq (ann := fun _ => []) 400 follows_mixed hl (by kernel_rfl) (by kernel_rfl) h⟩
set_option maxRecDepth 100000 in
/-- joinery/joineryref24.Stands -/
def sh104 (code_1 : Int) (o_2 : Int) (l_p3 : Option Addr) (l_n4 : Nat) (l_c5 : Nat) (R : Ending → World → Prop) (w : World) : Prop :=
 let K8 : Bool → World → Prop := fun (x6 : Bool) (w7 : World) => 
 R (.returned (.bool x6)) w7
 doCall Tryz.prog (.func (.func 18) #[] #[]) #[.int .u8 code_1] w (retS (fun v10 w11 => ∃ (x9 : Bool), v10 = (.bool x9 : Value) ∧ (
 ifB x9 (
 doCall Tryz.prog (.func (.func 127) #[] #[]) #[.int .u8 o_2] w11 (retS (fun v13 w14 => ∃ (x12 : Bool), v13 = (.bool x12 : Value) ∧ (
 ifB x12 (
 doCall Tryz.prog (.func (.func 179) #[] #[]) #[.int .u8 code_1, .slice l_p3 l_n4 l_c5] w14 (retS (fun v16 w17 => ∃ (x15 : Bool), v16 = (.bool x15 : Value) ∧ (
 ifB x15 (
 doCall Tryz.prog (.func (.func 128) #[] #[]) #[.int .u8 o_2, .slice l_p3 l_n4 l_c5] w17 (retS (fun v19 w20 => ∃ (x18 : Bool), v19 = (.bool x18 : Value) ∧ (
 K8 x18 w20)) (fun ch w => Kfn R ch [] w))) (
 R (.returned (.bool false)) w17))) (fun ch w => Kfn R ch [] w))) (
 R (.returned (.bool false)) w14))) (fun ch w => Kfn R ch [] w))) (
 R (.returned (.bool false)) w11))) (fun ch w => Kfn R ch [] w))
set_option maxRecDepth 100000 in
theorem sh104_ok (code_1 : Int) (o_2 : Int) (l_p3 : Option Addr) (l_n4 : Nat) (l_c5 : Nat) {R : Ending → World → Prop} {w : World} : sh104 code_1 o_2 l_p3 l_n4 l_c5 R w → Calls Tryz.prog 104 #[.int .u8 code_1, .int .u8 o_2, .slice l_p3 l_n4 l_c5] w R :=
  calls_of_eq (ann := fun _ => []) (fn := Tryz.f104) (c := bodyOf Tryz.f104) (args := #[.int .u8 code_1, .int .u8 o_2, .slice l_p3 l_n4 l_c5]) 400 follows_mixed Tryz.func104 (by kernel_rfl) (by kernel_rfl)
set_option maxRecDepth 100000 in
/-- joinery/node.New -/
def sh105 (l_1 : Option Addr) (key_2 : Int) (val_3 : Int) (tag_4 : Int) (r_5 : Option Addr) (R : Ending → World → Prop) (w : World) : Prop :=
 doCall Tryz.prog (.func (.func 91) #[] #[]) #[.pointer l_1] w (retS (fun v7 w8 => ∃ (x6 : Int), v7 = (.int .i64 x6 : Value) ∧ (
 doCall Tryz.prog (.func (.func 91) #[] #[]) #[.pointer r_5] w8 (retS (fun v10 w11 => ∃ (x9 : Int), v10 = (.int .i64 x9 : Value) ∧ (
 doCall Tryz.prog (.func (.func 107) #[] #[]) #[.pointer l_1] w11 (retS (fun v13 w14 => ∃ (x12 : Int), v13 = (.int .i64 x12 : Value) ∧ (
 doCall Tryz.prog (.func (.func 107) #[] #[]) #[.pointer r_5] w14 (retS (fun v16 w17 => ∃ (x15 : Int), v16 = (.int .i64 x15 : Value) ∧ (
 doAl (.cells #[.int .i64 key_2, .int .i64 val_3, .int .i64 (IntKind.wrap .i64 ((IntKind.wrap .i64 (x12 + val_3)) + x15)), .int .u64 tag_4, .int .i64 (IntKind.wrap .i64 ((IntKind.wrap .i64 (x6 + 1)) + x9)), .pointer l_1, .pointer r_5] 249) w17 (fun b18 w19 =>
 R (.returned (.pointer (some (blk b18)))) w19))) (fun ch w => Kfn R ch [] w)))) (fun ch w => Kfn R ch [] w)))) (fun ch w => Kfn R ch [] w)))) (fun ch w => Kfn R ch [] w))
set_option maxRecDepth 100000 in
theorem sh105_ok (l_1 : Option Addr) (key_2 : Int) (val_3 : Int) (tag_4 : Int) (r_5 : Option Addr) {R : Ending → World → Prop} {w : World} : sh105 l_1 key_2 val_3 tag_4 r_5 R w → Calls Tryz.prog 105 #[.pointer l_1, .int .i64 key_2, .int .i64 val_3, .int .u64 tag_4, .pointer r_5] w R :=
  calls_of_eq (ann := fun _ => []) (fn := Tryz.f105) (c := bodyOf Tryz.f105) (args := #[.pointer l_1, .int .i64 key_2, .int .i64 val_3, .int .u64 tag_4, .pointer r_5]) 400 follows_mixed Tryz.func105 (by kernel_rfl) (by kernel_rfl)
set_option maxRecDepth 100000 in
/-- (*joinery/scheme.Scheme).Join -/
def sh106 (s_1 : Option Addr) (l_2 : Option Addr) (x_3 : Int) (x_4 : Int) (x_5 : Int) (r_6 : Option Addr) (R : Ending → World → Prop) (w : World) : Prop :=
 doAl (.cells #[.int .i64 x_3, .int .i64 x_4, .int .u64 x_5] 114) w (fun b7 w8 =>
 ifB ((s_1).isNone) (
 R (.returned (.pointer none)) w8) (
 ∃ (q9 : Addr), s_1 = some q9 ∧ (
 doCall Tryz.prog (.func (.func 187) #[] #[]) #[.pointer (some (q9.add 12)), .int .u64 1] w8 (retS (fun v11 w12 => ∃ (x10 : Int), v11 = (.int .u64 x10 : Value) ∧ (
 doDr w12 (fun w14 =>
 ∃ (C13 : World → Prop), C13 w14 ∧ (
 ∃ (x15 : Int), (∀ w, C13 w → World.cell? w ((blk b7).add 0) = some (.int .i64 x15)) ∧ (
 ∃ (x16 : Int), (∀ w, C13 w → World.cell? w ((blk b7).add 1) = some (.int .i64 x16)) ∧ (
 ∃ (x17 : Int), (∀ w, C13 w → World.cell? w ((blk b7).add 2) = some (.int .u64 x17)) ∧ (
 doCall Tryz.prog (.func (.func 188) #[] #[]) #[.pointer s_1] w14 (retS (fun v38 w39 => ∃ (x18 : ByteArray), ∃ (xf19 : Fn), ∃ (xx20 : Array Value), ∃ (xc21 : Array Value), ∃ (xf22 : Fn), ∃ (xx23 : Array Value), ∃ (xc24 : Array Value), ∃ (xf25 : Fn), ∃ (xx26 : Array Value), ∃ (xc27 : Array Value), ∃ (xf28 : Fn), ∃ (xx29 : Array Value), ∃ (xc30 : Array Value), ∃ (xf31 : Fn), ∃ (xx32 : Array Value), ∃ (xc33 : Array Value), ∃ (xf34 : Fn), ∃ (xx35 : Array Value), ∃ (xc36 : Array Value), ∃ (x37 : Bool), v38 = (.agg #[.string x18, .func xf19 xx20 xc21, .func xf22 xx23 xc24, .func xf25 xx26 xc27, .func xf28 xx29 xc30, .func xf31 xx32 xc33, .func xf34 xx35 xc36, .bool x37] : Value) ∧ (
 C13 w39 ∧ (
 doCall Tryz.prog (.func xf19 xx20 xc21) #[.pointer l_2, .agg #[.int .i64 x15, .int .i64 x16, .int .u64 x17], .pointer r_6] w39 (retS (fun v41 w42 => ∃ (x40 : Option Addr), v41 = (.pointer x40 : Value) ∧ (
 R (.returned (.pointer x40)) w42)) (fun ch w => Kfn R ch [] w))))) (fun ch w => Kfn R ch [] w))))))))) (fun ch w => Kfn R ch [] w)))))
set_option maxRecDepth 100000 in
theorem sh106_ok (s_1 : Option Addr) (l_2 : Option Addr) (x_3 : Int) (x_4 : Int) (x_5 : Int) (r_6 : Option Addr) {R : Ending → World → Prop} {w : World} : sh106 s_1 l_2 x_3 x_4 x_5 r_6 R w → Calls Tryz.prog 106 #[.pointer s_1, .pointer l_2, .agg #[.int .i64 x_3, .int .i64 x_4, .int .u64 x_5], .pointer r_6] w R :=
  calls_of_eq (ann := fun _ => []) (fn := Tryz.f106) (c := bodyOf Tryz.f106) (args := #[.pointer s_1, .pointer l_2, .agg #[.int .i64 x_3, .int .i64 x_4, .int .u64 x_5], .pointer r_6]) 400 follows_mixed Tryz.func106 (by kernel_rfl) (by kernel_rfl)
set_option maxRecDepth 100000 in
/-- (*joinery/node.Node).Sum -/
def sh107 (n_1 : Option Addr) (R : Ending → World → Prop) (w : World) : Prop :=
 doCall Tryz.prog (.func (.func 166) #[] #[]) #[.pointer n_1] w (retS (fun v7 w8 => ∃ (x2 : Int), ∃ (x3 : Int), ∃ (x4 : Int), ∃ (x5 : Int), ∃ (x6 : Int), v7 = (.agg #[.int .i64 x2, .int .i64 x3, .int .i64 x4, .int .u64 x5, .int .i64 x6] : Value) ∧ (
 R (.returned (.int .i64 x4)) w8)) (fun ch w => Kfn R ch [] w))
set_option maxRecDepth 100000 in
theorem sh107_ok (n_1 : Option Addr) {R : Ending → World → Prop} {w : World} : sh107 n_1 R w → Calls Tryz.prog 107 #[.pointer n_1] w R :=
  calls_of_eq (ann := fun _ => []) (fn := Tryz.f107) (c := bodyOf Tryz.f107) (args := #[.pointer n_1]) 400 follows_mixed Tryz.func107 (by kernel_rfl) (by kernel_rfl)
set_option maxRecDepth 100000 in
/-- (*joinery/node.Node).Key -/
def sh108 (n_1 : Option Addr) (R : Ending → World → Prop) (w : World) : Prop :=
 doCall Tryz.prog (.func (.func 166) #[] #[]) #[.pointer n_1] w (retS (fun v7 w8 => ∃ (x2 : Int), ∃ (x3 : Int), ∃ (x4 : Int), ∃ (x5 : Int), ∃ (x6 : Int), v7 = (.agg #[.int .i64 x2, .int .i64 x3, .int .i64 x4, .int .u64 x5, .int .i64 x6] : Value) ∧ (
 R (.returned (.int .i64 x2)) w8)) (fun ch w => Kfn R ch [] w))
set_option maxRecDepth 100000 in
theorem sh108_ok (n_1 : Option Addr) {R : Ending → World → Prop} {w : World} : sh108 n_1 R w → Calls Tryz.prog 108 #[.pointer n_1] w R :=
  calls_of_eq (ann := fun _ => []) (fn := Tryz.f108) (c := bodyOf Tryz.f108) (args := #[.pointer n_1]) 400 follows_mixed Tryz.func108 (by kernel_rfl) (by kernel_rfl)
set_option maxRecDepth 100000 in
/-- joinery/joineryref09.Parts -/
def sh109 (l_p1 : Option Addr) (l_n2 : Nat) (l_c3 : Nat) (R : Ending → World → Prop) (w : World) : Prop :=
 doAl (.cells #[.int .i64 0, .int .i64 0, .int .i64 0, .int .i64 0, .int .u64 0, .bool false, .bool false] 150) w (fun b4 w5 =>
 let K8 : Int → World → Prop := fun (n_6 : Int) (w7 : World) => 
 doDr w7 (fun w10 =>
 ∃ (C9 : World → Prop), C9 w10 ∧ (
 doIx l_p1 l_n2 7 (0) (fun a11 =>
 ∃ (x12 : Int), (∀ w, C9 w → World.cell? w (a11.add 0) = some (.int .i64 x12)) ∧ (
 ∃ (x13 : Int), (∀ w, C9 w → World.cell? w (a11.add 1) = some (.int .i64 x13)) ∧ (
 ∃ (x14 : Int), (∀ w, C9 w → World.cell? w (a11.add 2) = some (.int .i64 x14)) ∧ (
 ∃ (x15 : Int), (∀ w, C9 w → World.cell? w (a11.add 3) = some (.int .i64 x15)) ∧ (
 ∃ (x16 : Int), (∀ w, C9 w → World.cell? w (a11.add 4) = some (.int .u64 x16)) ∧ (
 ∃ (x17 : Bool), (∀ w, C9 w → World.cell? w (a11.add 5) = some (.bool x17)) ∧ (
 ∃ (x18 : Bool), (∀ w, C9 w → World.cell? w (a11.add 6) = some (.bool x18)) ∧ (
 doSl l_p1 l_c3 7 (1) (IntKind.wrap .i64 (1 + n_6)) (fun p19 n20 c21 =>
 doSl l_p1 l_c3 7 (IntKind.wrap .i64 (1 + n_6)) (((l_n2 : Nat) : Int)) (fun p22 n23 c24 =>
 doSt ((blk b4).add 0) (.int .i64 x12) w10 (fun w25 =>
 doSt ((blk b4).add 1) (.int .i64 x13) w25 (fun w26 =>
 doSt ((blk b4).add 2) (.int .i64 x14) w26 (fun w27 =>
 doSt ((blk b4).add 3) (.int .i64 x15) w27 (fun w28 =>
 doSt ((blk b4).add 4) (.int .u64 x16) w28 (fun w29 =>
 doSt ((blk b4).add 5) (.bool x17) w29 (fun w30 =>
 doSt ((blk b4).add 6) (.bool x18) w30 (fun w31 =>
 ∃ (x32 : Int), World.cell? w31 ((blk b4).add 0) = some (.int .i64 x32) ∧ (
 ∃ (x33 : Int), World.cell? w31 ((blk b4).add 1) = some (.int .i64 x33) ∧ (
 ∃ (x34 : Int), World.cell? w31 ((blk b4).add 2) = some (.int .i64 x34) ∧ (
 ∃ (x35 : Int), World.cell? w31 ((blk b4).add 3) = some (.int .i64 x35) ∧ (
 ∃ (x36 : Int), World.cell? w31 ((blk b4).add 4) = some (.int .u64 x36) ∧ (
 ∃ (x37 : Bool), World.cell? w31 ((blk b4).add 5) = some (.bool x37) ∧ (
 ∃ (x38 : Bool), World.cell? w31 ((blk b4).add 6) = some (.bool x38) ∧ (
 R (.returned (.tuple #[.agg #[.int .i64 x32, .int .i64 x33, .int .i64 x34, .int .i64 x35, .int .u64 x36, .bool x37, .bool x38], .slice p19 n20 c21, .slice p22 n23 c24])) w31))))))))))))))))))))))))))
 doIx l_p1 l_n2 7 (0) (fun a39 =>
 ∃ (x40 : Bool), World.cell? w5 (a39.add 5) = some (.bool x40) ∧ (
 ifB x40 (
 doCall Tryz.prog (.func (.func 189) #[] #[]) #[.slice l_p1 l_n2 l_c3, .int .i64 1, .int .i64 0] w5 (retS (fun v42 w43 => ∃ (x41 : Int), v42 = (.int .i64 x41 : Value) ∧ (
 K8 x41 w43)) (fun ch w => Kfn R ch [] w))) (
 K8 0 w5))))
set_option maxRecDepth 100000 in
theorem sh109_ok (l_p1 : Option Addr) (l_n2 : Nat) (l_c3 : Nat) {R : Ending → World → Prop} {w : World} : sh109 l_p1 l_n2 l_c3 R w → Calls Tryz.prog 109 #[.slice l_p1 l_n2 l_c3] w R :=
  calls_of_eq (ann := fun _ => []) (fn := Tryz.f109) (c := bodyOf Tryz.f109) (args := #[.slice l_p1 l_n2 l_c3]) 400 follows_mixed Tryz.func109 (by kernel_rfl) (by kernel_rfl)
end Go.Proofs.YtlddfgfmkapoiaaGreat

namespace Go.Proofs.YtlddfgfmkapoiaaGreat
open Go Go.Sh
set_option maxRecDepth 100000 in
/-- joinery/joineryref09.Sum -/
def sh115 (l_p1 : Option Addr) (l_n2 : Nat) (_l_c3 : Nat) (R : Ending → World → Prop) (w : World) : Prop :=
 ∃ (I4 : List Value → World → Prop) (μ5 : List Value → World → Nat), I4 [.int .i64 0, .int .i64 0] w ∧ (∀ (n_8 : Int), ∀ (i_9 : Int), ∀ (_j6 : Nat → Value) (w7 : World), I4 [.int .i64 n_8, .int .i64 i_9] w7 → (
 ifB (decide ((i_9 : Int) < ((l_n2 : Nat) : Int))) (
 doIx l_p1 l_n2 7 (i_9) (fun a10 =>
 ∃ (x11 : Int), World.cell? w7 (a10.add 1) = some (.int .i64 x11) ∧ (
 I4 [.int .i64 (IntKind.wrap .i64 (n_8 + x11)), .int .i64 (IntKind.wrap .i64 (i_9 + 1))] w7 ∧ μ5 [.int .i64 (IntKind.wrap .i64 (n_8 + x11)), .int .i64 (IntKind.wrap .i64 (i_9 + 1))] w7 < μ5 [.int .i64 n_8, .int .i64 i_9] w7))) (
 R (.returned (.int .i64 n_8)) w7)))
set_option maxRecDepth 100000 in
theorem sh115_ok (l_p1 : Option Addr) (l_n2 : Nat) (l_c3 : Nat) {R : Ending → World → Prop} {w : World} : sh115 l_p1 l_n2 l_c3 R w → Calls Tryz.prog 115 #[.slice l_p1 l_n2 l_c3] w R :=
  calls_of_eq (ann := fun i => if i = 0 then [(3, .int .i64 0), (4, .int .i64 0)] else []) (fn := Tryz.f115) (c := bodyOf Tryz.f115) (args := #[.slice l_p1 l_n2 l_c3]) 400 follows_mixed Tryz.func115 (by kernel_rfl) (by kernel_rfl)
set_option maxRecDepth 100000 in
/-- joinery/mix.Mix -/
def sh122 (x_1 : Int) (R : Ending → World → Prop) (w : World) : Prop :=
 doAl (.cells #[.int .u64 x_1] 75) w (fun b2 w3 =>
 doCall Tryz.prog (.func (.func 197) #[] #[]) #[.bool false] w3 (retS (fun v7 w8 => ∃ (xf4 : Fn), ∃ (xx5 : Array Value), ∃ (xc6 : Array Value), v7 = (.func xf4 xx5 xc6 : Value) ∧ (
 rfW Tryz.prog (.func xf4 xx5 xc6) (mkLoop #[.int .u64 x_1, .pointer (some (blk b2)), .int .u64 0, undef, .func xf4 xx5 xc6, undef, undef, undef, undef, undef, undef, undef, undef, undef, undef, undef] (rfOf Tryz.f122 0).1 (rfOf Tryz.f122 0).2.1 (rfOf Tryz.f122 0).2.2)
 (fun w9 =>
 ∃ (x10 : Int), World.cell? w9 (blk b2) = some (.int .u64 x10) ∧ (
 w9.heap[w8.heap.size]? = some (.deferred (some [])) ∧ (
 let w11 : World := w9.putObj w8.heap.size (.deferred none)
 R (.returned (.int .u64 x10)) w11)))
 (fun w12 =>
 w12.heap[w8.heap.size]? = some (.deferred (some [])) ∧ (
 let w13 : World := w12.putObj w8.heap.size (.deferred none)
 R (.returned (.int .u64 0)) w13))
 [] w8)) (fun ch w => Kfn R ch [] w)))
set_option maxRecDepth 100000 in
theorem sh122_ok (x_1 : Int) {R : Ending → World → Prop} {w : World} : sh122 x_1 R w → Calls Tryz.prog 122 #[.int .u64 x_1] w R :=
  calls_of_eq (ann := fun _ => []) (fn := Tryz.f122) (c := bodyOf Tryz.f122) (args := #[.int .u64 x_1]) 400 follows_mixed Tryz.func122 (by kernel_rfl) (by kernel_rfl)
set_option maxRecDepth 100000 in
/-- joinery/mix.Mix, a round of loop 0 -/
def sh122_0 (x_1 : Addr) (y17 : Int) (y18 : Int) (l : Nat) (R : Ending → World → Prop) (w : World) : Prop :=
 doAl (.cells #[.int .i64 0, .int .u64 0] 265) w (fun b19 w20 =>
 doSt ((blk b19).add 0) (.int .i64 y17) w20 (fun w21 =>
 doSt ((blk b19).add 1) (.int .u64 y18) w21 (fun w22 =>
 ∃ (r23 : Loop), w22.heap[l]? = some (.loop r23) ∧ r23.state = .ready ∧ (
 let w24 : World := w22.putObj l (.loop { r23 with state := .busy })
 doDr w24 (fun w26 =>
 ∃ (C25 : World → Prop), C25 w26 ∧ (
 ∃ (x27 : Int), (∀ w, C25 w → World.cell? w x_1 = some (.int .u64 x27)) ∧ (
 ∃ (x28 : Int), (∀ w, C25 w → World.cell? w x_1 = some (.int .u64 x28)) ∧ (
 ∃ (x29 : Int), (∀ w, C25 w → World.cell? w ((blk b19).add 0) = some (.int .i64 x29)) ∧ (
 (0 : Int) ≤ x29 ∧ (
 ∃ (x30 : Int), (∀ w, C25 w → World.cell? w ((blk b19).add 1) = some (.int .u64 x30)) ∧ (
 doSt (x_1.add 0) (.int .u64 (IntKind.wrap .u64 ((bXor .u64 x27 (Int.fdiv x28 (2 ^ (min (x29 : Int).toNat (IntKind.bits .u64))))) * x30))) w26 (fun w31 =>
 ∃ (r32 : Loop), w31.heap[l]? = some (.loop r32) ∧ R (.returned (.bool true)) (w31.putObj l (.loop { r32 with state := .ready, pending := none }))))))))))))))
set_option maxRecDepth 100000 in
theorem sh122_0_ok {dd2 : Value} {dd3 : Value} {dd4 : Value} {dd5 : Value} {dd6 : Value} {dd7 : Value} {dd8 : Value} {dd9 : Value} {dd10 : Value} {dd11 : Value} {dd12 : Value} {dd13 : Value} {dd14 : Value} {dd15 : Value} {dd16 : Value} {x_1 : Addr} {y17 : Int} {y18 : Int} {l fn D : Nat} {R : Ending → World → Prop} {w : World} (hl : w.heap[l]? = some (.loop (mkLoop #[dd2, .pointer (some x_1), dd3, dd4, dd5, dd6, dd7, dd8, dd9, dd10, dd11, dd12, dd13, dd14, dd15, dd16] (rfOf Tryz.f122 0).1 (rfOf Tryz.f122 0).2.1 (rfOf Tryz.f122 0).2.2 fn D))) : sh122_0 x_1 y17 y18 l R w → doCall Tryz.prog (.func (.yield l) #[] #[]) #[.agg #[.int .i64 y17, .int .u64 y18]] w R :=
  fun h => ⟨round_of_eq (ann := fun _ => []) 400 follows_mixed hl (by kernel_rfl) (by kernel_rfl) h⟩
set_option maxRecDepth 100000 in
/-- (*joinery/node.Node).Left -/
def sh123 (n_1 : Option Addr) (R : Ending → World → Prop) (w : World) : Prop :=
 ifB ((n_1).isNone) (
 R (.returned (.pointer none)) w) (
 ∃ (q2 : Addr), n_1 = some q2 ∧ (
 ∃ (x3 : Option Addr), World.cell? w (q2.add 5) = some (.pointer x3) ∧ (
 R (.returned (.pointer x3)) w)))
set_option maxRecDepth 100000 in
theorem sh123_ok (n_1 : Option Addr) {R : Ending → World → Prop} {w : World} : sh123 n_1 R w → Calls Tryz.prog 123 #[.pointer n_1] w R :=
  calls_of_eq (ann := fun _ => []) (fn := Tryz.f123) (c := bodyOf Tryz.f123) (args := #[.pointer n_1]) 400 follows_mixed Tryz.func123 (by kernel_rfl) (by kernel_rfl)
set_option maxRecDepth 100000 in
/-- joinery/mix.Turn -/
def sh124 (x_1 : Int) (n_2 : Int) (R : Ending → World → Prop) (w : World) : Prop :=
 64 ≠ (0 : Int) ∧ (
 doCall Tryz.prog (.func (.func 198) #[] #[]) #[.int .u64 x_1, .int .i64 (Int.tmod n_2 64)] w (retS (fun v4 w5 => ∃ (x3 : Int), v4 = (.int .u64 x3 : Value) ∧ (
 R (.returned (.int .u64 x3)) w5)) (fun ch w => Kfn R ch [] w)))
set_option maxRecDepth 100000 in
theorem sh124_ok (x_1 : Int) (n_2 : Int) {R : Ending → World → Prop} {w : World} : sh124 x_1 n_2 R w → Calls Tryz.prog 124 #[.int .u64 x_1, .int .i64 n_2] w R :=
  calls_of_eq (ann := fun _ => []) (fn := Tryz.f124) (c := bodyOf Tryz.f124) (args := #[.int .u64 x_1, .int .i64 n_2]) 400 follows_mixed Tryz.func124 (by kernel_rfl) (by kernel_rfl)
set_option maxRecDepth 100000 in
/-- (*joinery/node.Node).Right -/
def sh125 (n_1 : Option Addr) (R : Ending → World → Prop) (w : World) : Prop :=
 ifB ((n_1).isNone) (
 R (.returned (.pointer none)) w) (
 ∃ (q2 : Addr), n_1 = some q2 ∧ (
 ∃ (x3 : Option Addr), World.cell? w (q2.add 6) = some (.pointer x3) ∧ (
 R (.returned (.pointer x3)) w)))
set_option maxRecDepth 100000 in
theorem sh125_ok (n_1 : Option Addr) {R : Ending → World → Prop} {w : World} : sh125 n_1 R w → Calls Tryz.prog 125 #[.pointer n_1] w R :=
  calls_of_eq (ann := fun _ => []) (fn := Tryz.f125) (c := bodyOf Tryz.f125) (args := #[.pointer n_1]) 400 follows_mixed Tryz.func125 (by kernel_rfl) (by kernel_rfl)
set_option maxRecDepth 100000 in
/-- (*joinery/node.Node).Val -/
def sh126 (n_1 : Option Addr) (R : Ending → World → Prop) (w : World) : Prop :=
 doCall Tryz.prog (.func (.func 166) #[] #[]) #[.pointer n_1] w (retS (fun v7 w8 => ∃ (x2 : Int), ∃ (x3 : Int), ∃ (x4 : Int), ∃ (x5 : Int), ∃ (x6 : Int), v7 = (.agg #[.int .i64 x2, .int .i64 x3, .int .i64 x4, .int .u64 x5, .int .i64 x6] : Value) ∧ (
 R (.returned (.int .i64 x3)) w8)) (fun ch w => Kfn R ch [] w))
set_option maxRecDepth 100000 in
theorem sh126_ok (n_1 : Option Addr) {R : Ending → World → Prop} {w : World} : sh126 n_1 R w → Calls Tryz.prog 126 #[.pointer n_1] w R :=
  calls_of_eq (ann := fun _ => []) (fn := Tryz.f126) (c := bodyOf Tryz.f126) (args := #[.pointer n_1]) 400 follows_mixed Tryz.func126 (by kernel_rfl) (by kernel_rfl)
set_option maxRecDepth 100000 in
/-- joinery/joineryref02.May -/
def sh127 (o_1 : Int) (R : Ending → World → Prop) (w : World) : Prop :=
 doCall Tryz.prog (.func (.func 16) #[] #[]) #[.int .u8 o_1] w (retS (fun v3 w4 => ∃ (x2 : Bool), v3 = (.bool x2 : Value) ∧ (
 R (.returned (.bool x2)) w4)) (fun ch w => Kfn R ch [] w))
set_option maxRecDepth 100000 in
theorem sh127_ok (o_1 : Int) {R : Ending → World → Prop} {w : World} : sh127 o_1 R w → Calls Tryz.prog 127 #[.int .u8 o_1] w R :=
  calls_of_eq (ann := fun _ => []) (fn := Tryz.f127) (c := bodyOf Tryz.f127) (args := #[.int .u8 o_1]) 400 follows_mixed Tryz.func127 (by kernel_rfl) (by kernel_rfl)
set_option maxRecDepth 100000 in
/-- joinery/joineryref12.Sound -/
def sh128 (o_1 : Int) (l_p2 : Option Addr) (l_n3 : Nat) (l_c4 : Nat) (R : Ending → World → Prop) (w : World) : Prop :=
 doCall Tryz.prog (.func (.func 60) #[] #[]) #[.slice l_p2 l_n3 l_c4] w (retS (fun v8 w9 => ∃ (xp5 : Option Addr), ∃ (xn6 : Nat), ∃ (xc7 : Nat), v8 = (.slice xp5 xn6 xc7 : Value) ∧ (
 doCall Tryz.prog (.func (.func 199) #[] #[]) #[.int .u8 o_1, .slice xp5 xn6 xc7] w9 (retS (fun v11 w12 => ∃ (x10 : Bool), v11 = (.bool x10 : Value) ∧ (
 R (.returned (.bool x10)) w12)) (fun ch w => Kfn R ch [] w)))) (fun ch w => Kfn R ch [] w))
set_option maxRecDepth 100000 in
theorem sh128_ok (o_1 : Int) (l_p2 : Option Addr) (l_n3 : Nat) (l_c4 : Nat) {R : Ending → World → Prop} {w : World} : sh128 o_1 l_p2 l_n3 l_c4 R w → Calls Tryz.prog 128 #[.int .u8 o_1, .slice l_p2 l_n3 l_c4] w R :=
  calls_of_eq (ann := fun _ => []) (fn := Tryz.f128) (c := bodyOf Tryz.f128) (args := #[.int .u8 o_1, .slice l_p2 l_n3 l_c4]) 400 follows_mixed Tryz.func128 (by kernel_rfl) (by kernel_rfl)
set_option maxRecDepth 100000 in
/-- joinery/joineryref01.Mix -/
def sh131 (x_1 : Int) (R : Ending → World → Prop) (w : World) : Prop :=
 1073741824 ≠ (0 : Int) ∧ (
 134217728 ≠ (0 : Int) ∧ (
 2147483648 ≠ (0 : Int) ∧ (
 R (.returned (.int .u64 (bXor .u64 (IntKind.wrap .u64 ((bXor .u64 (IntKind.wrap .u64 ((bXor .u64 x_1 (IntKind.wrap .u64 (Int.tdiv x_1 1073741824))) * 13787848793156543929)) (IntKind.wrap .u64 (Int.tdiv (IntKind.wrap .u64 ((bXor .u64 x_1 (IntKind.wrap .u64 (Int.tdiv x_1 1073741824))) * 13787848793156543929)) 134217728))) * 10723151780598845931)) (IntKind.wrap .u64 (Int.tdiv (IntKind.wrap .u64 ((bXor .u64 (IntKind.wrap .u64 ((bXor .u64 x_1 (IntKind.wrap .u64 (Int.tdiv x_1 1073741824))) * 13787848793156543929)) (IntKind.wrap .u64 (Int.tdiv (IntKind.wrap .u64 ((bXor .u64 x_1 (IntKind.wrap .u64 (Int.tdiv x_1 1073741824))) * 13787848793156543929)) 134217728))) * 10723151780598845931)) 2147483648))))) w)))
set_option maxRecDepth 100000 in
theorem sh131_ok (x_1 : Int) {R : Ending → World → Prop} {w : World} : sh131 x_1 R w → Calls Tryz.prog 131 #[.int .u64 x_1] w R :=
  calls_of_eq (ann := fun _ => []) (fn := Tryz.f131) (c := bodyOf Tryz.f131) (args := #[.int .u64 x_1]) 400 follows_mixed Tryz.func131 (by kernel_rfl) (by kernel_rfl)
set_option maxRecDepth 100000 in
/-- joinery/joineryref01.Turn -/
def sh132 (x_1 : Int) (n_2 : Int) (R : Ending → World → Prop) (w : World) : Prop :=
 64 ≠ (0 : Int) ∧ (
 64 ≠ (0 : Int) ∧ (
 ∃ (I3 : List Value → World → Prop) (μ4 : List Value → World → Nat), I3 [.int .u64 0, .int .i64 0] w ∧ (∀ (y_7 : Int), ∀ (i_8 : Int), ∀ (_j5 : Nat → Value) (w6 : World), I3 [.int .u64 y_7, .int .i64 i_8] w6 → (
 ifB (decide ((i_8 : Int) < 64)) (
 (0 : Int) ≤ (IntKind.wrap .u64 i_8) ∧ (
 2 ≠ (0 : Int) ∧ (
 64 ≠ (0 : Int) ∧ (
 (0 : Int) ≤ (IntKind.wrap .u64 (Int.tmod (IntKind.wrap .i64 (i_8 + (Int.tmod (IntKind.wrap .i64 ((Int.tmod n_2 64) + 64)) 64))) 64)) ∧ (
 I3 [.int .u64 (IntKind.wrap .u64 (y_7 + (IntKind.wrap .u64 ((Int.tmod (Int.fdiv x_1 (2 ^ (min ((IntKind.wrap .u64 i_8) : Int).toNat (IntKind.bits .u64)))) 2) * 2 ^ (min ((IntKind.wrap .u64 (Int.tmod (IntKind.wrap .i64 (i_8 + (Int.tmod (IntKind.wrap .i64 ((Int.tmod n_2 64) + 64)) 64))) 64)) : Int).toNat (IntKind.bits .u64)))))), .int .i64 (IntKind.wrap .i64 (i_8 + 1))] w6 ∧ μ4 [.int .u64 (IntKind.wrap .u64 (y_7 + (IntKind.wrap .u64 ((Int.tmod (Int.fdiv x_1 (2 ^ (min ((IntKind.wrap .u64 i_8) : Int).toNat (IntKind.bits .u64)))) 2) * 2 ^ (min ((IntKind.wrap .u64 (Int.tmod (IntKind.wrap .i64 (i_8 + (Int.tmod (IntKind.wrap .i64 ((Int.tmod n_2 64) + 64)) 64))) 64)) : Int).toNat (IntKind.bits .u64)))))), .int .i64 (IntKind.wrap .i64 (i_8 + 1))] w6 < μ4 [.int .u64 y_7, .int .i64 i_8] w6))))) (
 R (.returned (.int .u64 y_7)) w6)))))
set_option maxRecDepth 100000 in
theorem sh132_ok (x_1 : Int) (n_2 : Int) {R : Ending → World → Prop} {w : World} : sh132 x_1 n_2 R w → Calls Tryz.prog 132 #[.int .u64 x_1, .int .i64 n_2] w R :=
  calls_of_eq (ann := fun i => if i = 0 then [(5, .int .u64 0), (6, .int .i64 0)] else []) (fn := Tryz.f132) (c := bodyOf Tryz.f132) (args := #[.int .u64 x_1, .int .i64 n_2]) 400 follows_mixed Tryz.func132 (by kernel_rfl) (by kernel_rfl)
set_option maxRecDepth 100000 in
/-- joinery/rank.Select -/
def sh148 (t_1 : Option Addr) (n_2 : Int) (R : Ending → World → Prop) (w : World) : Prop :=
 doAl (.cells #[.int .i64 0, .int .i64 0] 46) w (fun b3 w4 =>
 let K7 : Bool → World → Prop := fun (x5 : Bool) (w6 : World) => 
 ifB x5 (
 doSt ((blk b3).add 0) (.int .i64 0) w6 (fun w8 =>
 doSt ((blk b3).add 1) (.int .i64 0) w8 (fun w9 =>
 ∃ (x10 : Int), World.cell? w9 ((blk b3).add 0) = some (.int .i64 x10) ∧ (
 ∃ (x11 : Int), World.cell? w9 ((blk b3).add 1) = some (.int .i64 x11) ∧ (
 R (.returned (.tuple #[.agg #[.int .i64 x10, .int .i64 x11], .int .i64 320])) w9))))) (
 ∃ (I12 : List Value → World → Prop) (μ13 : List Value → World → Nat), I12 [.pointer t_1, .int .i64 n_2] w6 ∧ (∀ (t_16 : Option Addr), ∀ (n_17 : Int), ∀ (_j14 : Nat → Value) (w15 : World), I12 [.pointer t_16, .int .i64 n_17] w15 → (
 doCall Tryz.prog (.func (.func 123) #[] #[]) #[.pointer t_16] w15 (retS (fun v19 w20 => ∃ (x18 : Option Addr), v19 = (.pointer x18 : Value) ∧ (
 doCall Tryz.prog (.func (.func 91) #[] #[]) #[.pointer x18] w20 (retS (fun v22 w23 => ∃ (x21 : Int), v22 = (.int .i64 x21 : Value) ∧ (
 ifB (decide ((n_17 : Int) < x21)) (
 doCall Tryz.prog (.func (.func 123) #[] #[]) #[.pointer t_16] w23 (retS (fun v25 w26 => ∃ (x24 : Option Addr), v25 = (.pointer x24 : Value) ∧ (
 I12 [.pointer x24, .int .i64 n_17] w26 ∧ μ13 [.pointer x24, .int .i64 n_17] w26 < μ13 [.pointer t_16, .int .i64 n_17] w15)) (fun ch w => Kfn R ch [] w))) (
 ifB ((n_17 : Int) == x21) (
 doCall Tryz.prog (.func (.func 108) #[] #[]) #[.pointer t_16] w23 (retS (fun v28 w29 => ∃ (x27 : Int), v28 = (.int .i64 x27 : Value) ∧ (
 doCall Tryz.prog (.func (.func 126) #[] #[]) #[.pointer t_16] w29 (retS (fun v31 w32 => ∃ (x30 : Int), v31 = (.int .i64 x30 : Value) ∧ (
 doSt ((blk b3).add 0) (.int .i64 x27) w32 (fun w33 =>
 doSt ((blk b3).add 1) (.int .i64 x30) w33 (fun w34 =>
 ∃ (x35 : Int), World.cell? w34 ((blk b3).add 0) = some (.int .i64 x35) ∧ (
 ∃ (x36 : Int), World.cell? w34 ((blk b3).add 1) = some (.int .i64 x36) ∧ (
 R (.returned (.tuple #[.agg #[.int .i64 x35, .int .i64 x36], .int .i64 0])) w34)))))) (fun ch w => Kfn R ch [] w)))) (fun ch w => Kfn R ch [] w))) (
 doCall Tryz.prog (.func (.func 125) #[] #[]) #[.pointer t_16] w23 (retS (fun v38 w39 => ∃ (x37 : Option Addr), v38 = (.pointer x37 : Value) ∧ (
 I12 [.pointer x37, .int .i64 (IntKind.wrap .i64 ((IntKind.wrap .i64 (n_17 - x21)) - 1))] w39 ∧ μ13 [.pointer x37, .int .i64 (IntKind.wrap .i64 ((IntKind.wrap .i64 (n_17 - x21)) - 1))] w39 < μ13 [.pointer t_16, .int .i64 n_17] w15)) (fun ch w => Kfn R ch [] w)))))) (fun ch w => Kfn R ch [] w)))) (fun ch w => Kfn R ch [] w)))))
 ifB (decide ((n_2 : Int) < 0)) (
 doSt ((blk b3).add 0) (.int .i64 0) w4 (fun w40 =>
 doSt ((blk b3).add 1) (.int .i64 0) w40 (fun w41 =>
 ∃ (x42 : Int), World.cell? w41 ((blk b3).add 0) = some (.int .i64 x42) ∧ (
 ∃ (x43 : Int), World.cell? w41 ((blk b3).add 1) = some (.int .i64 x43) ∧ (
 R (.returned (.tuple #[.agg #[.int .i64 x42, .int .i64 x43], .int .i64 320])) w41))))) (
 doCall Tryz.prog (.func (.func 91) #[] #[]) #[.pointer t_1] w4 (retS (fun v45 w46 => ∃ (x44 : Int), v45 = (.int .i64 x44 : Value) ∧ (
 K7 (decide ((n_2 : Int) ≥ x44)) w46)) (fun ch w => Kfn R ch [] w))))
set_option maxRecDepth 100000 in
theorem sh148_ok (t_1 : Option Addr) (n_2 : Int) {R : Ending → World → Prop} {w : World} : sh148 t_1 n_2 R w → Calls Tryz.prog 148 #[.pointer t_1, .int .i64 n_2] w R :=
  calls_of_eq (ann := fun i => if i = 0 then [(0, .pointer none), (1, .int .i64 0)] else []) (fn := Tryz.f148) (c := bodyOf Tryz.f148) (args := #[.pointer t_1, .int .i64 n_2]) 400 follows_mixed Tryz.func148 (by kernel_rfl) (by kernel_rfl)
set_option maxRecDepth 100000 in
/-- joinery/find.Get -/
def sh149 (o_1 : Int) (t_2 : Option Addr) (key_3 : Int) (R : Ending → World → Prop) (w : World) : Prop :=
 let K11 : Addr → Value → Value → Value → Value → Value → World → Prop := fun (keep_4 : Addr) (d5 : Value) (d6 : Value) (d7 : Value) (d8 : Value) (d9 : Value) (w10 : World) => 
 doCall Tryz.prog (.func (.func 206) #[] #[]) #[.int .u8 o_1, .pointer t_2, .int .i64 key_3] w10 (retS (fun v15 w16 => ∃ (xf12 : Fn), ∃ (xx13 : Array Value), ∃ (xc14 : Array Value), v15 = (.func xf12 xx13 xc14 : Value) ∧ (
 rfW Tryz.prog (.func xf12 xx13 xc14) (mkLoop #[.int .u8 o_1, .pointer t_2, .int .i64 key_3, undef, undef, undef, .int .i64 0, .bool false, .pointer (some keep_4), d5, undef, undef, undef, undef, d6, d7, d8, d9, .int .u8 o_1, .pointer t_2, .int .i64 key_3, .func xf12 xx13 xc14, undef, undef, undef, undef, undef, undef, undef, undef, undef, undef, undef, undef, undef, undef, undef, undef] (rfOf Tryz.f149 0).1 (rfOf Tryz.f149 0).2.1 (rfOf Tryz.f149 0).2.2)
 (fun w17 =>
 doCall Tryz.prog (d5) #[] w17 (retS (fun v19 w20 => ∃ (x18 : Option Addr), v19 = (.pointer x18 : Value) ∧ (
 doCall Tryz.prog (.func (.func 207) #[] #[]) #[.pointer x18] w20 (retS (fun v24 w25 => ∃ (x21 : Int), ∃ (x22 : Int), ∃ (x23 : Bool), v24 = (.tuple #[.agg #[.int .i64 x21, .int .i64 x22], .bool x23] : Value) ∧ (
 doAl (.cells #[.int .i64 0, .int .i64 0] 46) w25 (fun b26 w27 =>
 doSt ((blk b26).add 0) (.int .i64 x21) w27 (fun w28 =>
 doSt ((blk b26).add 1) (.int .i64 x22) w28 (fun w29 =>
 ∃ (x30 : Int), World.cell? w29 ((blk b26).add 1) = some (.int .i64 x30) ∧ (
 w29.heap[w16.heap.size]? = some (.deferred (some [])) ∧ (
 let w31 : World := w29.putObj w16.heap.size (.deferred none)
 R (.returned (.tuple #[.int .i64 x30, .bool x23])) w31))))))) (fun ch w => Kfn R ch [{ target := .collected w16.heap.size, args := #[] }] w)))) (fun ch w => Kfn R ch [{ target := .collected w16.heap.size, args := #[] }] w)))
 (fun w32 =>
 w32.heap[w16.heap.size]? = some (.deferred (some [])) ∧ (
 let w33 : World := w32.putObj w16.heap.size (.deferred none)
 R (.returned (.tuple #[.int .i64 0, .bool false])) w33))
 [] w16)) (fun ch w => Kfn R ch [] w))
 doCall Tryz.prog (.func (.func 205) #[] #[]) #[] w (retS (fun v40 w41 => (∃ (xf34 : Fn), ∃ (xx35 : Array Value), ∃ (xc36 : Array Value), ∃ (xf37 : Fn), ∃ (xx38 : Array Value), ∃ (xc39 : Array Value), v40 = (.tuple #[.func xf34 xx35 xc36, .func xf37 xx38 xc39] : Value) ∧ (
 doAl (.cells #[.nilFunc] 270) w41 (fun b42 w43 =>
 doSt ((blk b42).add 0) (.func xf34 xx35 xc36) w43 (fun w44 =>
 K11 (blk b42) (.func xf37 xx38 xc39 : Value) (.tuple #[.func xf34 xx35 xc36, .func xf37 xx38 xc39] : Value) (.tuple #[.func xf34 xx35 xc36, .func xf37 xx38 xc39] : Value) (.func xf34 xx35 xc36 : Value) (.func xf37 xx38 xc39 : Value) w44)))) ∨ (v40 = (.tuple #[.nilFunc, .nilFunc] : Value) ∧ (
 doAl (.cells #[.nilFunc] 270) w41 (fun b45 w46 =>
 doSt ((blk b45).add 0) (.nilFunc) w46 (fun w47 =>
 K11 (blk b45) (.nilFunc : Value) (.tuple #[.nilFunc, .nilFunc] : Value) (.tuple #[.nilFunc, .nilFunc] : Value) (.nilFunc : Value) (.nilFunc : Value) w47))))) (fun ch w => Kfn R ch [] w))
set_option maxRecDepth 100000 in
theorem sh149_ok (o_1 : Int) (t_2 : Option Addr) (key_3 : Int) {R : Ending → World → Prop} {w : World} : sh149 o_1 t_2 key_3 R w → Calls Tryz.prog 149 #[.int .u8 o_1, .pointer t_2, .int .i64 key_3] w R :=
  calls_of_eq (ann := fun _ => []) (fn := Tryz.f149) (c := bodyOf Tryz.f149) (args := #[.int .u8 o_1, .pointer t_2, .int .i64 key_3]) 400 follows_mixed Tryz.func149 (by kernel_rfl) (by kernel_rfl)
set_option maxRecDepth 100000 in
/-- joinery/find.Get, a round of loop 0 -/
def sh149_0 (keep_1 : Addr) (y39 : Option Addr) (y40 : Int) (l : Nat) (R : Ending → World → Prop) (w : World) : Prop :=
 ∃ (r41 : Loop), w.heap[l]? = some (.loop r41) ∧ r41.state = .ready ∧ (
 let w42 : World := w.putObj l (.loop { r41 with state := .busy })
 ∃ (xf43 : Fn), ∃ (xx44 : Array Value), ∃ (xc45 : Array Value), World.cell? w42 keep_1 = some (.func xf43 xx44 xc45) ∧ (
 doCall Tryz.prog (.func xf43 xx44 xc45) #[.pointer y39, .bool ((y40 : Int) == 0)] w42 (retS (fun v46 w47 => v46 = (.tuple #[] : Value) ∧ (
 ∃ (r48 : Loop), w47.heap[l]? = some (.loop r48) ∧ R (.returned (.bool true)) (w47.putObj l (.loop { r48 with state := .ready, pending := none })))) (fun _ _ => False))))
set_option maxRecDepth 100000 in
theorem sh149_0_ok {dd2 : Value} {dd3 : Value} {dd4 : Value} {dd5 : Value} {dd6 : Value} {dd7 : Value} {dd8 : Value} {dd9 : Value} {dd10 : Value} {dd11 : Value} {dd12 : Value} {dd13 : Value} {dd14 : Value} {dd15 : Value} {dd16 : Value} {dd17 : Value} {dd18 : Value} {dd19 : Value} {dd20 : Value} {dd21 : Value} {dd22 : Value} {dd23 : Value} {dd24 : Value} {dd25 : Value} {dd26 : Value} {dd27 : Value} {dd28 : Value} {dd29 : Value} {dd30 : Value} {dd31 : Value} {dd32 : Value} {dd33 : Value} {dd34 : Value} {dd35 : Value} {dd36 : Value} {dd37 : Value} {dd38 : Value} {keep_1 : Addr} {y39 : Option Addr} {y40 : Int} {l fn D : Nat} {R : Ending → World → Prop} {w : World} (hl : w.heap[l]? = some (.loop (mkLoop #[dd2, dd3, dd4, dd5, dd6, dd7, dd8, dd9, .pointer (some keep_1), dd10, dd11, dd12, dd13, dd14, dd15, dd16, dd17, dd18, dd19, dd20, dd21, dd22, dd23, dd24, dd25, dd26, dd27, dd28, dd29, dd30, dd31, dd32, dd33, dd34, dd35, dd36, dd37, dd38] (rfOf Tryz.f149 0).1 (rfOf Tryz.f149 0).2.1 (rfOf Tryz.f149 0).2.2 fn D))) : sh149_0 keep_1 y39 y40 l R w → doCall Tryz.prog (.func (.yield l) #[] #[]) #[.pointer y39, .int .i64 y40] w R :=
  fun h => ⟨round_of_eq (ann := fun _ => []) 400 follows_mixed hl (by kernel_rfl) (by kernel_rfl) h⟩
set_option maxRecDepth 100000 in
/-- joinery/joineryref02.Code -/
def sh150 (o_1 : Int) (k_2 : Int) (R : Ending → World → Prop) (w : World) : Prop :=
 ifB ((o_1 : Int) == 1) (
 doCall Tryz.prog (.func (.func 208) #[] #[]) #[.int .i64 k_2] w (retS (fun v4 w5 => ∃ (x3 : Int), v4 = (.int .u64 x3 : Value) ∧ (
 R (.returned (.int .u64 x3)) w5)) (fun ch w => Kfn R ch [] w))) (
 ifB ((o_1 : Int) == 2) (
 doCall Tryz.prog (.func (.func 208) #[] #[]) #[.int .i64 k_2] w (retS (fun v7 w8 => ∃ (x6 : Int), v7 = (.int .u64 x6 : Value) ∧ (
 R (.returned (.int .u64 (IntKind.wrap .u64 (18446744073709551615 - x6)))) w8)) (fun ch w => Kfn R ch [] w))) (
 ifB ((o_1 : Int) == 3) (
 ifB (decide ((k_2 : Int) < 0)) (
 R (.returned (.int .u64 (IntKind.wrap .u64 ((IntKind.wrap .u64 ((IntKind.wrap .u64 (IntKind.wrap .i64 (0 - (IntKind.wrap .i64 (k_2 + 1))))) * 2)) + 1)))) w) (
 R (.returned (.int .u64 (IntKind.wrap .u64 ((IntKind.wrap .u64 k_2) * 2)))) w)) (
 ifB ((o_1 : Int) == 4) (
 doCall Tryz.prog (.func (.func 209) #[] #[]) #[.int .u64 (IntKind.wrap .u64 k_2)] w (retS (fun v10 w11 => ∃ (x9 : Int), v10 = (.int .u64 x9 : Value) ∧ (
 R (.returned (.int .u64 x9)) w11)) (fun ch w => Kfn R ch [] w))) (
 ifB ((o_1 : Int) == 5) (
 doCall Tryz.prog (.func (.func 208) #[] #[]) #[.int .i64 k_2] w (retS (fun v13 w14 => ∃ (x12 : Int), v13 = (.int .u64 x12 : Value) ∧ (
 2 ≠ (0 : Int) ∧ (
 let K17 : Int → World → Prop := fun (half_15 : Int) (w16 : World) => 
 R (.returned (.int .u64 half_15)) w16
 2 ≠ (0 : Int) ∧ (
 ifB (((Int.tmod (IntKind.wrap .u64 k_2) 2) : Int) == 1) (
 K17 (IntKind.wrap .u64 ((IntKind.wrap .u64 (Int.tdiv x12 2)) + 9223372036854775808)) w14) (
 K17 (IntKind.wrap .u64 (Int.tdiv x12 2)) w14))))) (fun ch w => Kfn R ch [] w))) (
 ifB ((o_1 : Int) == 6) (
 doCall Tryz.prog (.func (.func 208) #[] #[]) #[.int .i64 k_2] w (retS (fun v19 w20 => ∃ (x18 : Int), v19 = (.int .u64 x18 : Value) ∧ (
 doCall Tryz.prog (.func (.func 132) #[] #[]) #[.int .u64 x18, .int .i64 32] w20 (retS (fun v22 w23 => ∃ (x21 : Int), v22 = (.int .u64 x21 : Value) ∧ (
 R (.returned (.int .u64 x21)) w23)) (fun ch w => Kfn R ch [] w)))) (fun ch w => Kfn R ch [] w))) (
 doCall Tryz.prog (.func (.func 131) #[] #[]) #[.int .u64 (IntKind.wrap .u64 k_2)] w (retS (fun v25 w26 => ∃ (x24 : Int), v25 = (.int .u64 x24 : Value) ∧ (
 R (.returned (.int .u64 x24)) w26)) (fun ch w => Kfn R ch [] w))))))))
set_option maxRecDepth 100000 in
theorem sh150_ok (o_1 : Int) (k_2 : Int) {R : Ending → World → Prop} {w : World} : sh150 o_1 k_2 R w → Calls Tryz.prog 150 #[.int .u8 o_1, .int .i64 k_2] w R :=
  calls_of_eq (ann := fun _ => []) (fn := Tryz.f150) (c := bodyOf Tryz.f150) (args := #[.int .u8 o_1, .int .i64 k_2]) 400 follows_mixed Tryz.func150 (by kernel_rfl) (by kernel_rfl)
set_option maxRecDepth 100000 in
/-- joinery/fold.May -/
def sh151 (p_1 : Int) (R : Ending → World → Prop) (w : World) : Prop :=
 let K4 : Bool → World → Prop := fun (is_2 : Bool) (w3 : World) => 
 R (.returned (.bool is_2)) w3
 doCall Tryz.prog (.func (.func 210) #[] #[]) #[] w (retS (fun v6 w7 => ∃ (x5 : Option Nat), v6 = (.map x5 : Value) ∧ (
 doLk Tryz.prog 282 (.map x5) (.int .u8 p_1) true w7 (fun v12 => (∃ (xf8 : Fn), ∃ (xx9 : Array Value), ∃ (xc10 : Array Value), ∃ (x11 : Bool), v12 = (.tuple #[.agg #[.func xf8 xx9 xc10], .bool x11] : Value) ∧ (
 doAl (.cells #[.nilFunc] 280) w7 (fun b13 w14 =>
 doSt ((blk b13).add 0) (.func xf8 xx9 xc10) w14 (fun w15 =>
 K4 x11 w15)))) ∨ (v12 = (.tuple #[.agg #[.nilFunc], .bool false] : Value) ∧ (
 doAl (.cells #[.nilFunc] 280) w7 (fun b16 w17 =>
 doSt ((blk b16).add 0) (.nilFunc) w17 (fun w18 =>
 R (.returned (.bool false)) w18))))))) (fun ch w => Kfn R ch [] w))
set_option maxRecDepth 100000 in
theorem sh151_ok (p_1 : Int) {R : Ending → World → Prop} {w : World} : sh151 p_1 R w → Calls Tryz.prog 151 #[.int .u8 p_1] w R :=
  calls_of_eq (ann := fun _ => []) (fn := Tryz.f151) (c := bodyOf Tryz.f151) (args := #[.int .u8 p_1]) 400 follows_mixed Tryz.func151 (by kernel_rfl) (by kernel_rfl)
end Go.Proofs.YtlddfgfmkapoiaaGreat

