/-
  Printed by a program (gen.py): what the functions of the program do, as formulas; each with the proof that its call is what the formula says.
-/
/-
  Printed by a program (gen.py): what the functions of the program do, as formulas; each with the proof that its call is what the formula says.
-/
/-
  Printed by a program (gen.py): what the functions of the program do, as formulas; each with the proof that its call is what the formula says.
-/
/-
  Printed by a program (gen.py): what the functions of the program do, as formulas; each with the proof that its call is what the formula says.
-/
/-
  Printed by a program (gen.py): what the functions of the program do, as formulas; each with the proof that its call is what the formula says.
-/
/-
  Printed by a program (gen.py): what the functions of the program do, as formulas; each with the proof that its call is what the formula says.
-/
import Derived.Test.YtlddfgfmkapoiaaGreatZ02
import Derived.Test.YtlddfgfmkapoiaaGreatProg

namespace Go.Proofs.YtlddfgfmkapoiaaGreat
open Go Go.Sh
theorem follows_mixed : Tryz.prog.follows .mixedOrders = true := by kernel_rfl
set_option maxRecDepth 100000 in
/-- joinery/joinerylaw22.Of -/
def sh15 (code_1 : Int) (R : Ending → World → Prop) (w : World) : Prop :=
 doCall Tryz.prog (.func (.func 92) #[] #[]) #[.int .u8 code_1] w (retS (fun v4 w5 => ∃ (x2 : Option Addr), ∃ (x3 : Int), v4 = (.tuple #[.pointer x2, .int .i64 x3] : Value) ∧ (
 let K8 : Bool → World → Prop := fun (x6 : Bool) (w7 : World) => 
 R (.returned (.tuple #[.pointer x2, .bool x6])) w7
 ifB ((x3 : Int) == 0) (
 K8 (!(x2).isNone) w5) (
 R (.returned (.tuple #[.pointer x2, .bool false])) w5))) (fun ch w => Kfn R ch [] w))
set_option maxRecDepth 100000 in
theorem sh15_ok (code_1 : Int) {R : Ending → World → Prop} {w : World} : sh15 code_1 R w → Calls Tryz.prog 15 #[.int .u8 code_1] w R :=
  calls_of_eq (ann := fun _ => []) (fn := Tryz.f15) (c := bodyOf Tryz.f15) (args := #[.int .u8 code_1]) 400 follows_mixed Tryz.func15 (by kernel_rfl) (by kernel_rfl)
set_option maxRecDepth 100000 in
/-- joinery/joineryref02.Is -/
def sh16 (o_1 : Int) (R : Ending → World → Prop) (w : World) : Prop :=
 let K4 : Bool → World → Prop := fun (x2 : Bool) (w3 : World) => 
 R (.returned (.bool x2)) w3
 ifB (decide ((o_1 : Int) ≥ 1)) (
 K4 (decide ((o_1 : Int) ≤ 7)) w) (
 R (.returned (.bool false)) w)
set_option maxRecDepth 100000 in
theorem sh16_ok (o_1 : Int) {R : Ending → World → Prop} {w : World} : sh16 o_1 R w → Calls Tryz.prog 16 #[.int .u8 o_1] w R :=
  calls_of_eq (ann := fun _ => []) (fn := Tryz.f16) (c := bodyOf Tryz.f16) (args := #[.int .u8 o_1]) 400 follows_mixed Tryz.func16 (by kernel_rfl) (by kernel_rfl)
set_option maxRecDepth 100000 in
/-- joinery/joineryref22.Is -/
def sh18 (code_1 : Int) (R : Ending → World → Prop) (w : World) : Prop :=
 let K4 : Bool → World → Prop := fun (x2 : Bool) (w3 : World) => 
 R (.returned (.bool x2)) w3
 ifB (decide ((code_1 : Int) ≥ 1)) (
 K4 (decide ((code_1 : Int) ≤ 4)) w) (
 R (.returned (.bool false)) w)
set_option maxRecDepth 100000 in
theorem sh18_ok (code_1 : Int) {R : Ending → World → Prop} {w : World} : sh18 code_1 R w → Calls Tryz.prog 18 #[.int .u8 code_1] w R :=
  calls_of_eq (ann := fun _ => []) (fn := Tryz.f18) (c := bodyOf Tryz.f18) (args := #[.int .u8 code_1]) 400 follows_mixed Tryz.func18 (by kernel_rfl) (by kernel_rfl)
set_option maxRecDepth 100000 in
/-- joinery/joineryref09.Pairs -/
def sh60 (l_p1 : Option Addr) (l_n2 : Nat) (l_c3 : Nat) (R : Ending → World → Prop) (w : World) : Prop :=
 ifB ((((l_n2 : Nat) : Int) : Int) == 0) (
 R (.returned (.slice none 0 0)) w) (
 doCall Tryz.prog (.func (.func 109) #[] #[]) #[.slice l_p1 l_n2 l_c3] w (retS (fun v17 w18 => ∃ (x4 : Int), ∃ (x5 : Int), ∃ (x6 : Int), ∃ (x7 : Int), ∃ (x8 : Int), ∃ (x9 : Bool), ∃ (x10 : Bool), ∃ (xp11 : Option Addr), ∃ (xn12 : Nat), ∃ (xc13 : Nat), ∃ (xp14 : Option Addr), ∃ (xn15 : Nat), ∃ (xc16 : Nat), v17 = (.tuple #[.agg #[.int .i64 x4, .int .i64 x5, .int .i64 x6, .int .i64 x7, .int .u64 x8, .bool x9, .bool x10], .slice xp11 xn12 xc13, .slice xp14 xn15 xc16] : Value) ∧ (
 doAl (.cells #[.int .i64 0, .int .i64 0, .int .i64 0, .int .i64 0, .int .u64 0, .bool false, .bool false] 150) w18 (fun b19 w20 =>
 doSt ((blk b19).add 0) (.int .i64 x4) w20 (fun w21 =>
 doSt ((blk b19).add 1) (.int .i64 x5) w21 (fun w22 =>
 doSt ((blk b19).add 2) (.int .i64 x6) w22 (fun w23 =>
 doSt ((blk b19).add 3) (.int .i64 x7) w23 (fun w24 =>
 doSt ((blk b19).add 4) (.int .u64 x8) w24 (fun w25 =>
 doSt ((blk b19).add 5) (.bool x9) w25 (fun w26 =>
 doSt ((blk b19).add 6) (.bool x10) w26 (fun w27 =>
 let K32 : (Option Addr) → Nat → Nat → World → Prop := fun (out_p28 : Option Addr) (out_n29 : Nat) (out_c30 : Nat) (w31 : World) => 
 doCall Tryz.prog (.func (.func 60) #[] #[]) #[.slice xp14 xn15 xc16] w31 (retS (fun v36 w37 => ∃ (xp33 : Option Addr), ∃ (xn34 : Nat), ∃ (xc35 : Nat), v36 = (.slice xp33 xn34 xc35 : Value) ∧ (
 doGo Tryz.prog (.builtin .append #[22, 22] 22 #[false, false]) #[.slice out_p28 out_n29 out_c30, .slice xp33 xn34 xc35] w37 (retS (fun v41 w42 => ∃ (xp38 : Option Addr), ∃ (xn39 : Nat), ∃ (xc40 : Nat), v41 = (.slice xp38 xn39 xc40 : Value) ∧ (
 R (.returned (.slice xp38 xn39 xc40)) w42)) (fun ch w => Kfn R ch [] w)))) (fun ch w => Kfn R ch [] w))
 doDr w27 (fun w44 =>
 ∃ (C43 : World → Prop), C43 w44 ∧ (
 ∃ (x45 : Int), (∀ w, C43 w → World.cell? w ((blk b19).add 0) = some (.int .i64 x45)) ∧ (
 ∃ (x46 : Int), (∀ w, C43 w → World.cell? w ((blk b19).add 1) = some (.int .i64 x46)) ∧ (
 (doCall Tryz.prog (.func (.func 60) #[] #[]) #[.slice xp11 xn12 xc13] w44 (retS (fun v50 w51 => ∃ (xp47 : Option Addr), ∃ (xn48 : Nat), ∃ (xc49 : Nat), v50 = (.slice xp47 xn48 xc49 : Value) ∧ (
 C43 w51 ∧ (
 doAl (.cells #[.int .i64 x45, .int .i64 x46] 46) w51 (fun b52 w53 =>
 C43 w53 ∧ (
 doGo Tryz.prog (.builtin .append #[22, 22] 22 #[false, false]) #[.slice xp47 xn48 xc49, .slice (some (blk b52)) 1 1] w53 (retS (fun v57 w58 => ∃ (xp54 : Option Addr), ∃ (xn55 : Nat), ∃ (xc56 : Nat), v57 = (.slice xp54 xn55 xc56 : Value) ∧ (
 C43 w58 ∧ (
 K32 xp54 xn55 xc56 w58))) (fun ch w => Kfn R ch [] w))))))) (fun ch w => Kfn R ch [] w))) ∧ (doAl (.cells #[.int .i64 x45, .int .i64 x46] 46) w44 (fun b59 w60 =>
 C43 w60 ∧ (
 doCall Tryz.prog (.func (.func 60) #[] #[]) #[.slice xp11 xn12 xc13] w60 (retS (fun v64 w65 => ∃ (xp61 : Option Addr), ∃ (xn62 : Nat), ∃ (xc63 : Nat), v64 = (.slice xp61 xn62 xc63 : Value) ∧ (
 C43 w65 ∧ (
 doGo Tryz.prog (.builtin .append #[22, 22] 22 #[false, false]) #[.slice xp61 xn62 xc63, .slice (some (blk b59)) 1 1] w65 (retS (fun v69 w70 => ∃ (xp66 : Option Addr), ∃ (xn67 : Nat), ∃ (xc68 : Nat), v69 = (.slice xp66 xn67 xc68 : Value) ∧ (
 C43 w70 ∧ (
 K32 xp66 xn67 xc68 w70))) (fun ch w => Kfn R ch [] w))))) (fun ch w => Kfn R ch [] w))))))))))))))))))) (fun ch w => Kfn R ch [] w)))
set_option maxRecDepth 100000 in
theorem sh60_ok (l_p1 : Option Addr) (l_n2 : Nat) (l_c3 : Nat) {R : Ending → World → Prop} {w : World} : sh60 l_p1 l_n2 l_c3 R w → Calls Tryz.prog 60 #[.slice l_p1 l_n2 l_c3] w R :=
  calls_of_eq (ann := fun _ => []) (fn := Tryz.f60) (c := bodyOf Tryz.f60) (args := #[.slice l_p1 l_n2 l_c3]) 400 follows_mixed Tryz.func60 (by kernel_rfl) (by kernel_rfl)
set_option maxRecDepth 100000 in
/-- joinery/joineryref02.Compare -/
def sh79 (o_1 : Int) (a_2 : Int) (b_3 : Int) (R : Ending → World → Prop) (w : World) : Prop :=
 let K6 : Bool → World → Prop := fun (x4 : Bool) (w5 : World) => 
 ifB x4 (
 R (.returned (.int .i64 0)) w5) (
 doCall Tryz.prog (.func (.func 150) #[] #[]) #[.int .u8 o_1, .int .i64 a_2] w5 (retS (fun v8 w9 => ∃ (x7 : Int), v8 = (.int .u64 x7 : Value) ∧ (
 doCall Tryz.prog (.func (.func 150) #[] #[]) #[.int .u8 o_1, .int .i64 b_3] w9 (retS (fun v11 w12 => ∃ (x10 : Int), v11 = (.int .u64 x10 : Value) ∧ (
 ifB (decide ((x7 : Int) < x10)) (
 R (.returned (.int .i64 (-1))) w12) (
 R (.returned (.int .i64 1)) w12))) (fun ch w => Kfn R ch [] w)))) (fun ch w => Kfn R ch [] w)))
 doCall Tryz.prog (.func (.func 16) #[] #[]) #[.int .u8 o_1] w (retS (fun v14 w15 => ∃ (x13 : Bool), v14 = (.bool x13 : Value) ∧ (
 ifB (!x13) (
 R (.returned (.int .i64 0)) w15) (
 doCall Tryz.prog (.func (.func 150) #[] #[]) #[.int .u8 o_1, .int .i64 a_2] w15 (retS (fun v17 w18 => ∃ (x16 : Int), v17 = (.int .u64 x16 : Value) ∧ (
 doCall Tryz.prog (.func (.func 150) #[] #[]) #[.int .u8 o_1, .int .i64 b_3] w18 (retS (fun v20 w21 => ∃ (x19 : Int), v20 = (.int .u64 x19 : Value) ∧ (
 K6 ((x16 : Int) == x19) w21)) (fun ch w => Kfn R ch [] w)))) (fun ch w => Kfn R ch [] w))))) (fun ch w => Kfn R ch [] w))
set_option maxRecDepth 100000 in
theorem sh79_ok (o_1 : Int) (a_2 : Int) (b_3 : Int) {R : Ending → World → Prop} {w : World} : sh79 o_1 a_2 b_3 R w → Calls Tryz.prog 79 #[.int .u8 o_1, .int .i64 a_2, .int .i64 b_3] w R :=
  calls_of_eq (ann := fun _ => []) (fn := Tryz.f79) (c := bodyOf Tryz.f79) (args := #[.int .u8 o_1, .int .i64 a_2, .int .i64 b_3]) 400 follows_mixed Tryz.func79 (by kernel_rfl) (by kernel_rfl)
set_option maxRecDepth 100000 in
/-- joinery/union.Union -/
def sh86 (s_1 : Option Addr) (o_2 : Int) (p_3 : Int) (a_4 : Option Addr) (b_5 : Option Addr) (R : Ending → World → Prop) (w : World) : Prop :=
 doCall Tryz.prog (.func (.func 156) #[] #[]) #[.pointer s_1, .int .u8 o_2, .int .u8 p_3] w (retS (fun v7 w8 => ∃ (x6 : Bool), v7 = (.bool x6 : Value) ∧ (
 ifB (!x6) (
 R (.returned (.tuple #[.pointer none, .int .i64 2])) w8) (
 doCall Tryz.prog (.func (.func 157) #[] #[]) #[.pointer s_1, .int .u8 o_2, .func (.func 158) #[.int .u8 p_3] #[], .pointer a_4, .pointer b_5] w8 (retS (fun v10 w11 => ∃ (x9 : Option Addr), v10 = (.pointer x9 : Value) ∧ (
 R (.returned (.tuple #[.pointer x9, .int .i64 0])) w11)) (fun ch w => Kfn R ch [] w))))) (fun ch w => Kfn R ch [] w))
set_option maxRecDepth 100000 in
theorem sh86_ok (s_1 : Option Addr) (o_2 : Int) (p_3 : Int) (a_4 : Option Addr) (b_5 : Option Addr) {R : Ending → World → Prop} {w : World} : sh86 s_1 o_2 p_3 a_4 b_5 R w → Calls Tryz.prog 86 #[.pointer s_1, .int .u8 o_2, .int .u8 p_3, .pointer a_4, .pointer b_5] w R :=
  calls_of_eq (ann := fun _ => []) (fn := Tryz.f86) (c := bodyOf Tryz.f86) (args := #[.pointer s_1, .int .u8 o_2, .int .u8 p_3, .pointer a_4, .pointer b_5]) 400 follows_mixed Tryz.func86 (by kernel_rfl) (by kernel_rfl)
end Go.Proofs.YtlddfgfmkapoiaaGreat

namespace Go.Proofs.YtlddfgfmkapoiaaGreat
open Go Go.Sh
set_option maxRecDepth 100000 in
/-- joinery/joinerylaw27.Drawn -/
def sh21 (l_p1 : Option Addr) (l_n2 : Nat) (l_c3 : Nat) (none_4 : Bool) (R : Ending → World → Prop) (w : World) : Prop :=
 ifB none_4 (
 R (.returned (.pointer none)) w) (
 doGo Tryz.prog (.builtin .append #[23, 23] 23 #[true, false]) #[.slice none 0 0, .slice l_p1 l_n2 l_c3] w (retS (fun v8 w9 => ∃ (xp5 : Option Addr), ∃ (xn6 : Nat), ∃ (xc7 : Nat), v8 = (.slice xp5 xn6 xc7 : Value) ∧ (
 doCall Tryz.prog (.func (.func 94) #[] #[]) #[.slice xp5 xn6 xc7] w9 (retS (fun v11 w12 => ∃ (x10 : Option Addr), v11 = (.pointer x10 : Value) ∧ (
 R (.returned (.pointer x10)) w12)) (fun ch w => Kfn R ch [] w)))) (fun ch w => Kfn R ch [] w)))
set_option maxRecDepth 100000 in
theorem sh21_ok (l_p1 : Option Addr) (l_n2 : Nat) (l_c3 : Nat) (none_4 : Bool) {R : Ending → World → Prop} {w : World} : sh21 l_p1 l_n2 l_c3 none_4 R w → Calls Tryz.prog 21 #[.slice l_p1 l_n2 l_c3, .bool none_4] w R :=
  calls_of_eq (ann := fun _ => []) (fn := Tryz.f21) (c := bodyOf Tryz.f21) (args := #[.slice l_p1 l_n2 l_c3, .bool none_4]) 400 follows_mixed Tryz.func21 (by kernel_rfl) (by kernel_rfl)
set_option maxRecDepth 100000 in
/-- joinery/build.Of -/
def sh23 (s_1 : Option Addr) (o_2 : Int) (p_3 : Int) (d_4 : Option Addr) (l_p5 : Option Addr) (l_n6 : Nat) (l_c7 : Nat) (R : Ending → World → Prop) (w : World) : Prop :=
 doCall Tryz.prog (.func (.func 95) #[] #[]) #[.int .u8 o_2, .int .u8 p_3, .slice l_p5 l_n6 l_c7] w (retS (fun v12 w13 => ∃ (xp8 : Option Addr), ∃ (xn9 : Nat), ∃ (xc10 : Nat), ∃ (x11 : Int), v12 = (.tuple #[.slice xp8 xn9 xc10, .int .i64 x11] : Value) ∧ (
 ifB ((x11 : Int) != 0) (
 R (.returned (.tuple #[.pointer none, .int .i64 x11])) w13) (
 doCall Tryz.prog (.func (.func 32) #[] #[]) #[.pointer s_1, .int .u8 o_2, .pointer d_4, .slice xp8 xn9 xc10] w13 (retS (fun v16 w17 => ∃ (x14 : Option Addr), ∃ (x15 : Int), v16 = (.tuple #[.pointer x14, .int .i64 x15] : Value) ∧ (
 R (.returned (.tuple #[.pointer x14, .int .i64 x15])) w17)) (fun ch w => Kfn R ch [] w))))) (fun ch w => Kfn R ch [] w))
set_option maxRecDepth 100000 in
theorem sh23_ok (s_1 : Option Addr) (o_2 : Int) (p_3 : Int) (d_4 : Option Addr) (l_p5 : Option Addr) (l_n6 : Nat) (l_c7 : Nat) {R : Ending → World → Prop} {w : World} : sh23 s_1 o_2 p_3 d_4 l_p5 l_n6 l_c7 R w → Calls Tryz.prog 23 #[.pointer s_1, .int .u8 o_2, .int .u8 p_3, .pointer d_4, .slice l_p5 l_n6 l_c7] w R :=
  calls_of_eq (ann := fun _ => []) (fn := Tryz.f23) (c := bodyOf Tryz.f23) (args := #[.pointer s_1, .int .u8 o_2, .int .u8 p_3, .pointer d_4, .slice l_p5 l_n6 l_c7]) 400 follows_mixed Tryz.func23 (by kernel_rfl) (by kernel_rfl)
set_option maxRecDepth 100000 in
/-- joinery/build.Keys -/
def sh24 (s_1 : Option Addr) (o_2 : Int) (d_3 : Option Addr) (keys_p4 : Option Addr) (keys_n5 : Nat) (_keys_c6 : Nat) (R : Ending → World → Prop) (w : World) : Prop :=
 ∃ (p7 : Option Addr) (n8 : Nat) (c9 : Nat) (w10 : World), (Instr.makeSlice 22 (.int .i64 ((keys_n5 : Nat) : Int)) (.int .i64 ((keys_n5 : Nat) : Int))).run Tryz.prog w = .ok (.slice p7 n8 c9) w10 ∧ (
 ∃ (I11 : List Value → World → Prop) (μ12 : List Value → World → Nat), I11 [.int .i64 0] w10 ∧ (∀ (x15 : Int), ∀ (_j13 : Nat → Value) (w14 : World), I11 [.int .i64 x15] w14 → (
 ifB (decide ((x15 : Int) < ((keys_n5 : Nat) : Int))) (
 doIx keys_p4 keys_n5 1 (x15) (fun a16 =>
 ∃ (x17 : Int), World.cell? w14 a16 = some (.int .i64 x17) ∧ (
 doIx p7 n8 2 (x15) (fun a18 =>
 doSt ((a18.add 0).add 0) (.int .i64 x17) w14 (fun w19 =>
 I11 [.int .i64 (IntKind.wrap .i64 (x15 + 1))] w19 ∧ μ12 [.int .i64 (IntKind.wrap .i64 (x15 + 1))] w19 < μ12 [.int .i64 x15] w14))))) (
 doCall Tryz.prog (.func (.func 23) #[] #[]) #[.pointer s_1, .int .u8 o_2, .int .u8 1, .pointer d_3, .slice p7 n8 c9] w14 (retS (fun v22 w23 => ∃ (x20 : Option Addr), ∃ (x21 : Int), v22 = (.tuple #[.pointer x20, .int .i64 x21] : Value) ∧ (
 R (.returned (.tuple #[.pointer x20, .int .i64 x21])) w23)) (fun ch w => Kfn R ch [] w))))))
set_option maxRecDepth 100000 in
theorem sh24_ok (s_1 : Option Addr) (o_2 : Int) (d_3 : Option Addr) (keys_p4 : Option Addr) (keys_n5 : Nat) (keys_c6 : Nat) {R : Ending → World → Prop} {w : World} : sh24 s_1 o_2 d_3 keys_p4 keys_n5 keys_c6 R w → Calls Tryz.prog 24 #[.pointer s_1, .int .u8 o_2, .pointer d_3, .slice keys_p4 keys_n5 keys_c6] w R :=
  calls_of_eq (ann := fun i => if i = 0 then [(18, .int .i64 0)] else []) (fn := Tryz.f24) (c := bodyOf Tryz.f24) (args := #[.pointer s_1, .int .u8 o_2, .pointer d_3, .slice keys_p4 keys_n5 keys_c6]) 400 follows_mixed Tryz.func24 (by kernel_rfl) (by kernel_rfl)
set_option maxRecDepth 100000 in
/-- joinery/build.Row -/
def sh32 (s_1 : Option Addr) (o_2 : Int) (d_3 : Option Addr) (l_p4 : Option Addr) (l_n5 : Nat) (l_c6 : Nat) (R : Ending → World → Prop) (w : World) : Prop :=
 let K13 : Bool → Value → Value → Value → Value → World → Prop := fun (x7 : Bool) (d8 : Value) (d9 : Value) (d10 : Value) (d11 : Value) (w12 : World) => 
 doAl (.cells #[.slice none 0 0] 40) w12 (fun b14 w15 =>
 doCall Tryz.prog (.func (.func 102) #[] #[]) #[.pointer s_1, .pointer d_3, .slice l_p4 l_n5 l_c6] w15 (retS (fun v19 w20 => ∃ (xf16 : Fn), ∃ (xx17 : Array Value), ∃ (xc18 : Array Value), v19 = (.func xf16 xx17 xc18 : Value) ∧ (
 rfW Tryz.prog (.func xf16 xx17 xc18) (mkLoop #[.pointer s_1, .int .u8 o_2, .pointer d_3, .slice l_p4 l_n5 l_c6, undef, undef, undef, undef, .pointer none, .int .i64 0, .pointer (some (blk b14)), undef, .pointer s_1, .bool ((s_1).isNone), .bool x7, d8, d9, d10, d11, .bool false, .pointer s_1, .pointer d_3, .slice l_p4 l_n5 l_c6, .func xf16 xx17 xc18, undef, undef, undef, undef, undef, undef, undef, undef] (rfOf Tryz.f32 0).1 (rfOf Tryz.f32 0).2.1 (rfOf Tryz.f32 0).2.2)
 (fun w21 =>
 ∃ (xp22 : Option Addr), ∃ (xn23 : Nat), ∃ (xc24 : Nat), World.cell? w21 (blk b14) = some (.slice xp22 xn23 xc24) ∧ (
 doCall Tryz.prog (.func (.func 93) #[] #[]) #[.pointer s_1, .slice xp22 xn23 xc24] w21 (retS (fun v26 w27 => ∃ (x25 : Option Addr), v26 = (.pointer x25 : Value) ∧ (
 w27.heap[w20.heap.size]? = some (.deferred (some [])) ∧ (
 let w28 : World := w27.putObj w20.heap.size (.deferred none)
 R (.returned (.tuple #[.pointer x25, .int .i64 0])) w28))) (fun ch w => Kfn R ch [{ target := .collected w20.heap.size, args := #[] }] w))))
 (fun w29 =>
 w29.heap[w20.heap.size]? = some (.deferred (some [])) ∧ (
 let w30 : World := w29.putObj w20.heap.size (.deferred none)
 R (.returned (.tuple #[.pointer none, .int .i64 0])) w30))
 [] w20)) (fun ch w => Kfn R ch [] w)))
 let _K38 : Bool → Value → Value → Value → Value → Bool → World → Prop := fun (x31 : Bool) (d32 : Value) (d33 : Value) (d34 : Value) (d35 : Value) (x36 : Bool) (w37 : World) => 
 ifB x36 (
 R (.returned (.tuple #[.pointer none, .int .i64 2])) w37) (
 K13 x31 (d32 : Value) (d33 : Value) (d34 : Value) (d35 : Value) w37)
 ifB ((s_1).isNone) (
 R (.returned (.tuple #[.pointer none, .int .i64 2])) w) (
 doCall Tryz.prog (.func (.func 101) #[] #[]) #[.int .u8 o_2, .slice l_p4 l_n5 l_c6] w (retS (fun v40 w41 => ∃ (x39 : Bool), v40 = (.bool x39 : Value) ∧ (
 ifB (!x39) (
 R (.returned (.tuple #[.pointer none, .int .i64 2])) w41) (
 K13 false (.int .u8 o_2 : Value) (.slice l_p4 l_n5 l_c6 : Value) (.bool x39 : Value) (.bool (!x39) : Value) w41))) (fun ch w => Kfn R ch [] w)))
set_option maxRecDepth 100000 in
theorem sh32_ok (s_1 : Option Addr) (o_2 : Int) (d_3 : Option Addr) (l_p4 : Option Addr) (l_n5 : Nat) (l_c6 : Nat) {R : Ending → World → Prop} {w : World} : sh32 s_1 o_2 d_3 l_p4 l_n5 l_c6 R w → Calls Tryz.prog 32 #[.pointer s_1, .int .u8 o_2, .pointer d_3, .slice l_p4 l_n5 l_c6] w R :=
  calls_of_eq (ann := fun _ => []) (fn := Tryz.f32) (c := bodyOf Tryz.f32) (args := #[.pointer s_1, .int .u8 o_2, .pointer d_3, .slice l_p4 l_n5 l_c6]) 400 follows_mixed Tryz.func32 (by kernel_rfl) (by kernel_rfl)
set_option maxRecDepth 100000 in
/-- joinery/build.Row, a round of loop 0 -/
def sh32_0 (all_1 : Addr) (y33 : Int) (y34 : Int) (y35 : Int) (l : Nat) (R : Ending → World → Prop) (w : World) : Prop :=
 doAl (.cells #[.int .i64 0, .int .i64 0, .int .u64 0] 114) w (fun b36 w37 =>
 doSt ((blk b36).add 0) (.int .i64 y33) w37 (fun w38 =>
 doSt ((blk b36).add 1) (.int .i64 y34) w38 (fun w39 =>
 doSt ((blk b36).add 2) (.int .u64 y35) w39 (fun w40 =>
 ∃ (r41 : Loop), w40.heap[l]? = some (.loop r41) ∧ r41.state = .ready ∧ (
 let w42 : World := w40.putObj l (.loop { r41 with state := .busy })
 ∃ (xp43 : Option Addr), ∃ (xn44 : Nat), ∃ (xc45 : Nat), World.cell? w42 all_1 = some (.slice xp43 xn44 xc45) ∧ (
 ∃ (x46 : Int), World.cell? w42 ((blk b36).add 0) = some (.int .i64 x46) ∧ (
 ∃ (x47 : Int), World.cell? w42 ((blk b36).add 1) = some (.int .i64 x47) ∧ (
 ∃ (x48 : Int), World.cell? w42 ((blk b36).add 2) = some (.int .u64 x48) ∧ (
 doAl (.cells #[.int .i64 x46, .int .i64 x47, .int .u64 x48] 114) w42 (fun b49 w50 =>
 doGo Tryz.prog (.builtin .append #[40, 40] 40 #[false, false]) #[.slice xp43 xn44 xc45, .slice (some (blk b49)) 1 1] w50 (retS (fun v54 w55 => ∃ (xp51 : Option Addr), ∃ (xn52 : Nat), ∃ (xc53 : Nat), v54 = (.slice xp51 xn52 xc53 : Value) ∧ (
 doSt (all_1.add 0) (.slice xp51 xn52 xc53) w55 (fun w56 =>
 ∃ (r57 : Loop), w56.heap[l]? = some (.loop r57) ∧ R (.returned (.bool true)) (w56.putObj l (.loop { r57 with state := .ready, pending := none }))))) (fun _ _ => False))))))))))))
set_option maxRecDepth 100000 in
theorem sh32_0_ok {dd2 : Value} {dd3 : Value} {dd4 : Value} {dd5 : Value} {dd6 : Value} {dd7 : Value} {dd8 : Value} {dd9 : Value} {dd10 : Value} {dd11 : Value} {dd12 : Value} {dd13 : Value} {dd14 : Value} {dd15 : Value} {dd16 : Value} {dd17 : Value} {dd18 : Value} {dd19 : Value} {dd20 : Value} {dd21 : Value} {dd22 : Value} {dd23 : Value} {dd24 : Value} {dd25 : Value} {dd26 : Value} {dd27 : Value} {dd28 : Value} {dd29 : Value} {dd30 : Value} {dd31 : Value} {dd32 : Value} {all_1 : Addr} {y33 : Int} {y34 : Int} {y35 : Int} {l fn D : Nat} {R : Ending → World → Prop} {w : World} (hl : w.heap[l]? = some (.loop (mkLoop #[dd2, dd3, dd4, dd5, dd6, dd7, dd8, dd9, dd10, dd11, .pointer (some all_1), dd12, dd13, dd14, dd15, dd16, dd17, dd18, dd19, dd20, dd21, dd22, dd23, dd24, dd25, dd26, dd27, dd28, dd29, dd30, dd31, dd32] (rfOf Tryz.f32 0).1 (rfOf Tryz.f32 0).2.1 (rfOf Tryz.f32 0).2.2 fn D))) : sh32_0 all_1 y33 y34 y35 l R w → doCall Tryz.prog (.func (.yield l) #[] #[]) #[.agg #[.int .i64 y33, .int .i64 y34, .int .u64 y35]] w R :=
  fun h => ⟨round_of_eq (ann := fun _ => []) 400 follows_mixed hl (by kernel_rfl) (by kernel_rfl) h⟩
end Go.Proofs.YtlddfgfmkapoiaaGreat

namespace Go.Proofs.YtlddfgfmkapoiaaGreat
open Go Go.Sh
end Go.Proofs.YtlddfgfmkapoiaaGreat

namespace Go.Proofs.YtlddfgfmkapoiaaGreat
open Go Go.Sh
set_option maxRecDepth 100000 in
/-- joinery/joineryref10.SameKeys -/
def sh61 (a_p1 : Option Addr) (a_n2 : Nat) (_a_c3 : Nat) (b_p4 : Option Addr) (b_n5 : Nat) (_b_c6 : Nat) (R : Ending → World → Prop) (w : World) : Prop :=
 ifB ((((a_n2 : Nat) : Int) : Int) != ((b_n5 : Nat) : Int)) (
 R (.returned (.bool false)) w) (
 ∃ (I7 : List Value → World → Prop) (μ8 : List Value → World → Nat), I7 [.int .i64 0] w ∧ (∀ (i_11 : Int), ∀ (_j9 : Nat → Value) (w10 : World), I7 [.int .i64 i_11] w10 → (
 ifB (decide ((i_11 : Int) < ((a_n2 : Nat) : Int))) (
 doDr w10 (fun w13 =>
 ∃ (C12 : World → Prop), C12 w13 ∧ (
 doIx a_p1 a_n2 1 (i_11) (fun a14 =>
 ∃ (x15 : Int), (∀ w, C12 w → World.cell? w a14 = some (.int .i64 x15)) ∧ (
 doIx b_p4 b_n5 1 (i_11) (fun a16 =>
 ∃ (x17 : Int), (∀ w, C12 w → World.cell? w a16 = some (.int .i64 x17)) ∧ (
 ifB ((x15 : Int) != x17) (
 R (.returned (.bool false)) w13) (
 I7 [.int .i64 (IntKind.wrap .i64 (i_11 + 1))] w13 ∧ μ8 [.int .i64 (IntKind.wrap .i64 (i_11 + 1))] w13 < μ8 [.int .i64 i_11] w10)))))))) (
 R (.returned (.bool true)) w10))))
set_option maxRecDepth 100000 in
theorem sh61_ok (a_p1 : Option Addr) (a_n2 : Nat) (a_c3 : Nat) (b_p4 : Option Addr) (b_n5 : Nat) (b_c6 : Nat) {R : Ending → World → Prop} {w : World} : sh61 a_p1 a_n2 a_c3 b_p4 b_n5 b_c6 R w → Calls Tryz.prog 61 #[.slice a_p1 a_n2 a_c3, .slice b_p4 b_n5 b_c6] w R :=
  calls_of_eq (ann := fun i => if i = 0 then [(5, .int .i64 0)] else []) (fn := Tryz.f61) (c := bodyOf Tryz.f61) (args := #[.slice a_p1 a_n2 a_c3, .slice b_p4 b_n5 b_c6]) 400 follows_mixed Tryz.func61 (by kernel_rfl) (by kernel_rfl)
set_option maxRecDepth 100000 in
/-- joinery/joinerylaw40.alive -/
def sh62  (R : Ending → World → Prop) (w : World) : Prop :=
 doCall Tryz.prog (.func (.func 15) #[] #[]) #[.int .u8 2] w (retS (fun v3 w4 => ∃ (x1 : Option Addr), ∃ (x2 : Bool), v3 = (.tuple #[.pointer x1, .bool x2] : Value) ∧ (
 ifB (!x2) (
 R (.returned (.bool false)) w4) (
 doAl (.cells #[.int .i64 1, .int .i64 3, .int .i64 2, .int .i64 3] 2) w4 (fun b5 w6 =>
 doCall Tryz.prog (.func (.func 63) #[] #[]) #[.pointer x1, .int .u8 2, .pointer none, .slice (some (blk b5)) 4 4] w6 (retS (fun v9 w10 => ∃ (x7 : Option Addr), ∃ (x8 : Int), v9 = (.tuple #[.pointer x7, .int .i64 x8] : Value) ∧ (
 let K13 : Bool → World → Prop := fun (x11 : Bool) (w12 : World) => 
 ifB x11 (
 R (.returned (.bool false)) w12) (
 doAl (.cells #[.int .i64 2, .int .i64 5, .int .i64 5] 2) w12 (fun b14 w15 =>
 doCall Tryz.prog (.func (.func 74) #[] #[]) #[.pointer x7, .slice (some (blk b14)) 3 3] w15 (retS (fun v18 w19 => ∃ (x16 : Int), ∃ (x17 : Int), v18 = (.tuple #[.int .i64 x16, .int .i64 x17] : Value) ∧ (
 doAl (.cells #[.int .i64 1, .int .i64 7] 2) w19 (fun b20 w21 =>
 doCall Tryz.prog (.func (.func 75) #[] #[]) #[.pointer x7, .slice (some (blk b20)) 2 2] w21 (retS (fun v24 w25 => ∃ (x22 : Int), ∃ (x23 : Int), v24 = (.tuple #[.int .i64 x22, .int .i64 x23] : Value) ∧ (
 doCall Tryz.prog (.func (.func 77) #[] #[]) #[.pointer x7, .int .i64 0] w25 (retS (fun v28 w29 => ∃ (x26 : Int), ∃ (x27 : Int), v28 = (.tuple #[.int .i64 x26, .int .i64 x27] : Value) ∧ (
 let K32 : Bool → World → Prop := fun (x30 : Bool) (w31 : World) => 
 R (.returned (.bool x30)) w31
 ifB ((x16 : Int) == 1) (
 ifB ((x22 : Int) == 1) (
 ifB ((x26 : Int) == 5) (
 ifB ((x17 : Int) == 0) (
 ifB ((x23 : Int) == 0) (
 ifB ((x27 : Int) == 0) (
 doCall Tryz.prog (.func (.func 72) #[] #[]) #[.pointer x7] w29 (retS (fun v34 w35 => ∃ (x33 : Int), v34 = (.int .i64 x33 : Value) ∧ (
 K32 ((x33 : Int) == 3) w35)) (fun ch w => Kfn R ch [] w))) (
 R (.returned (.bool false)) w29)) (
 R (.returned (.bool false)) w29)) (
 R (.returned (.bool false)) w29)) (
 R (.returned (.bool false)) w29)) (
 R (.returned (.bool false)) w29)) (
 R (.returned (.bool false)) w29))) (fun ch w => Kfn R ch [] w)))) (fun ch w => Kfn R ch [] w))))) (fun ch w => Kfn R ch [] w))))
 ifB ((x8 : Int) != 0) (
 R (.returned (.bool false)) w10) (
 ifB ((x7).isNone) (
 R (.returned (.bool false)) w10) (
 doCall Tryz.prog (.func (.func 76) #[] #[]) #[.pointer x7] w10 (retS (fun v39 w40 => ∃ (xp36 : Option Addr), ∃ (xn37 : Nat), ∃ (xc38 : Nat), v39 = (.slice xp36 xn37 xc38 : Value) ∧ (
 doAl (.cells #[.int .i64 3, .int .i64 2, .int .i64 1] 2) w40 (fun b41 w42 =>
 doCall Tryz.prog (.func (.func 61) #[] #[]) #[.slice xp36 xn37 xc38, .slice (some (blk b41)) 3 3] w42 (retS (fun v44 w45 => ∃ (x43 : Bool), v44 = (.bool x43 : Value) ∧ (
 K13 (!x43) w45)) (fun ch w => Kfn R ch [] w))))) (fun ch w => Kfn R ch [] w)))))) (fun ch w => Kfn R ch [] w)))))) (fun ch w => Kfn R ch [] w))
set_option maxRecDepth 100000 in
theorem sh62_ok  {R : Ending → World → Prop} {w : World} : sh62  R w → Calls Tryz.prog 62 #[] w R :=
  calls_of_eq (ann := fun _ => []) (fn := Tryz.f62) (c := bodyOf Tryz.f62) (args := #[]) 400 follows_mixed Tryz.func62 (by kernel_rfl) (by kernel_rfl)
set_option maxRecDepth 100000 in
/-- joinery/set.New -/
def sh63 (s_1 : Option Addr) (o_2 : Int) (d_3 : Option Addr) (keys_p4 : Option Addr) (keys_n5 : Nat) (keys_c6 : Nat) (R : Ending → World → Prop) (w : World) : Prop :=
 doAl (.cells #[.pointer none, .int .u8 0, .pointer none] 171) w (fun b7 w8 =>
 doSt ((blk b7).add 0) (.pointer s_1) w8 (fun w9 =>
 doSt ((blk b7).add 1) (.int .u8 o_2) w9 (fun w10 =>
 doSt ((blk b7).add 2) (.pointer d_3) w10 (fun w11 =>
 ∃ (x12 : Option Addr), World.cell? w11 ((blk b7).add 0) = some (.pointer x12) ∧ (
 ∃ (x13 : Int), World.cell? w11 ((blk b7).add 1) = some (.int .u8 x13) ∧ (
 ∃ (x14 : Option Addr), World.cell? w11 ((blk b7).add 2) = some (.pointer x14) ∧ (
 doCall Tryz.prog (.func (.func 136) #[] #[]) #[.agg #[.pointer x12, .int .u8 x13, .pointer x14], .slice keys_p4 keys_n5 keys_c6] w11 (retS (fun v17 w18 => ∃ (x15 : Option Addr), ∃ (x16 : Int), v17 = (.tuple #[.pointer x15, .int .i64 x16] : Value) ∧ (
 ifB ((x16 : Int) != 0) (
 R (.returned (.tuple #[.pointer none, .int .i64 x16])) w18) (
 ∃ (x19 : Option Addr), World.cell? w18 ((blk b7).add 0) = some (.pointer x19) ∧ (
 ∃ (x20 : Int), World.cell? w18 ((blk b7).add 1) = some (.int .u8 x20) ∧ (
 ∃ (x21 : Option Addr), World.cell? w18 ((blk b7).add 2) = some (.pointer x21) ∧ (
 doAl (.cells #[.pointer x19, .int .u8 x20, .pointer x21, .pointer x15] 174) w18 (fun b22 w23 =>
 R (.returned (.tuple #[.pointer (some (blk b22)), .int .i64 0])) w23))))))) (fun ch w => Kfn R ch [] w)))))))))
set_option maxRecDepth 100000 in
theorem sh63_ok (s_1 : Option Addr) (o_2 : Int) (d_3 : Option Addr) (keys_p4 : Option Addr) (keys_n5 : Nat) (keys_c6 : Nat) {R : Ending → World → Prop} {w : World} : sh63 s_1 o_2 d_3 keys_p4 keys_n5 keys_c6 R w → Calls Tryz.prog 63 #[.pointer s_1, .int .u8 o_2, .pointer d_3, .slice keys_p4 keys_n5 keys_c6] w R :=
  calls_of_eq (ann := fun _ => []) (fn := Tryz.f63) (c := bodyOf Tryz.f63) (args := #[.pointer s_1, .int .u8 o_2, .pointer d_3, .slice keys_p4 keys_n5 keys_c6]) 400 follows_mixed Tryz.func63 (by kernel_rfl) (by kernel_rfl)
set_option maxRecDepth 100000 in
/-- (*joinery/set.Set).Union -/
def sh64 (x_1 : Option Addr) (y_2 : Option Addr) (R : Ending → World → Prop) (w : World) : Prop :=
 doCall Tryz.prog (.func (.func 138) #[] #[]) #[.agg #[.func (.func 137) #[] #[]], .pointer x_1, .pointer y_2] w (retS (fun v5 w6 => ∃ (x3 : Option Addr), ∃ (x4 : Int), v5 = (.tuple #[.pointer x3, .int .i64 x4] : Value) ∧ (
 R (.returned (.tuple #[.pointer x3, .int .i64 x4])) w6)) (fun ch w => Kfn R ch [] w))
set_option maxRecDepth 100000 in
theorem sh64_ok (x_1 : Option Addr) (y_2 : Option Addr) {R : Ending → World → Prop} {w : World} : sh64 x_1 y_2 R w → Calls Tryz.prog 64 #[.pointer x_1, .pointer y_2] w R :=
  calls_of_eq (ann := fun _ => []) (fn := Tryz.f64) (c := bodyOf Tryz.f64) (args := #[.pointer x_1, .pointer y_2]) 400 follows_mixed Tryz.func64 (by kernel_rfl) (by kernel_rfl)
set_option maxRecDepth 100000 in
/-- (*joinery/set.Set).Meet -/
def sh65 (x_1 : Option Addr) (y_2 : Option Addr) (R : Ending → World → Prop) (w : World) : Prop :=
 doCall Tryz.prog (.func (.func 138) #[] #[]) #[.agg #[.func (.func 139) #[] #[]], .pointer x_1, .pointer y_2] w (retS (fun v5 w6 => ∃ (x3 : Option Addr), ∃ (x4 : Int), v5 = (.tuple #[.pointer x3, .int .i64 x4] : Value) ∧ (
 R (.returned (.tuple #[.pointer x3, .int .i64 x4])) w6)) (fun ch w => Kfn R ch [] w))
set_option maxRecDepth 100000 in
theorem sh65_ok (x_1 : Option Addr) (y_2 : Option Addr) {R : Ending → World → Prop} {w : World} : sh65 x_1 y_2 R w → Calls Tryz.prog 65 #[.pointer x_1, .pointer y_2] w R :=
  calls_of_eq (ann := fun _ => []) (fn := Tryz.f65) (c := bodyOf Tryz.f65) (args := #[.pointer x_1, .pointer y_2]) 400 follows_mixed Tryz.func65 (by kernel_rfl) (by kernel_rfl)
set_option maxRecDepth 100000 in
/-- (*joinery/set.Set).Less -/
def sh66 (x_1 : Option Addr) (y_2 : Option Addr) (R : Ending → World → Prop) (w : World) : Prop :=
 doCall Tryz.prog (.func (.func 138) #[] #[]) #[.agg #[.func (.func 88) #[] #[]], .pointer x_1, .pointer y_2] w (retS (fun v5 w6 => ∃ (x3 : Option Addr), ∃ (x4 : Int), v5 = (.tuple #[.pointer x3, .int .i64 x4] : Value) ∧ (
 R (.returned (.tuple #[.pointer x3, .int .i64 x4])) w6)) (fun ch w => Kfn R ch [] w))
set_option maxRecDepth 100000 in
theorem sh66_ok (x_1 : Option Addr) (y_2 : Option Addr) {R : Ending → World → Prop} {w : World} : sh66 x_1 y_2 R w → Calls Tryz.prog 66 #[.pointer x_1, .pointer y_2] w R :=
  calls_of_eq (ann := fun _ => []) (fn := Tryz.f66) (c := bodyOf Tryz.f66) (args := #[.pointer x_1, .pointer y_2]) 400 follows_mixed Tryz.func66 (by kernel_rfl) (by kernel_rfl)
set_option maxRecDepth 100000 in
/-- (*joinery/set.Set).Within -/
def sh67 (x_1 : Option Addr) (y_2 : Option Addr) (R : Ending → World → Prop) (w : World) : Prop :=
 doCall Tryz.prog (.func (.func 140) #[] #[]) #[.agg #[.func (.func 88) #[] #[]], .pointer x_1, .pointer y_2] w (retS (fun v5 w6 => ∃ (x3 : Option Addr), ∃ (x4 : Int), v5 = (.tuple #[.pointer x3, .int .i64 x4] : Value) ∧ (
 let K9 : Bool → World → Prop := fun (x7 : Bool) (w8 : World) => 
 R (.returned (.tuple #[.bool x7, .int .i64 x4])) w8
 ifB ((x4 : Int) == 0) (
 K9 ((x3).isNone) w6) (
 R (.returned (.tuple #[.bool false, .int .i64 x4])) w6))) (fun ch w => Kfn R ch [] w))
set_option maxRecDepth 100000 in
theorem sh67_ok (x_1 : Option Addr) (y_2 : Option Addr) {R : Ending → World → Prop} {w : World} : sh67 x_1 y_2 R w → Calls Tryz.prog 67 #[.pointer x_1, .pointer y_2] w R :=
  calls_of_eq (ann := fun _ => []) (fn := Tryz.f67) (c := bodyOf Tryz.f67) (args := #[.pointer x_1, .pointer y_2]) 400 follows_mixed Tryz.func67 (by kernel_rfl) (by kernel_rfl)
set_option maxRecDepth 100000 in
/-- joinery/joineryref40.Add -/
def sh68 (o_1 : Int) (l_p2 : Option Addr) (l_n3 : Nat) (l_c4 : Nat) (keys_p5 : Option Addr) (keys_n6 : Nat) (_keys_c7 : Nat) (R : Ending → World → Prop) (w : World) : Prop :=
 ∃ (I8 : List Value → World → Prop) (μ9 : List Value → World → Nat), I8 [.slice l_p2 l_n3 l_c4, .int .i64 0] w ∧ (∀ (l_p12 : Option Addr), ∀ (l_n13 : Nat), ∀ (l_c14 : Nat), ∀ (i_15 : Int), ∀ (_j10 : Nat → Value) (w11 : World), I8 [.slice l_p12 l_n13 l_c14, .int .i64 i_15] w11 → (
 ifB (decide ((i_15 : Int) < ((keys_n6 : Nat) : Int))) (
 doIx keys_p5 keys_n6 1 (i_15) (fun a16 =>
 ∃ (x17 : Int), World.cell? w11 a16 = some (.int .i64 x17) ∧ (
 doCall Tryz.prog (.func (.func 141) #[] #[]) #[.int .u8 o_1, .slice l_p12 l_n13 l_c14, .int .i64 x17] w11 (retS (fun v21 w22 => ∃ (xp18 : Option Addr), ∃ (xn19 : Nat), ∃ (xc20 : Nat), v21 = (.slice xp18 xn19 xc20 : Value) ∧ (
 I8 [.slice xp18 xn19 xc20, .int .i64 (IntKind.wrap .i64 (i_15 + 1))] w22 ∧ μ9 [.slice xp18 xn19 xc20, .int .i64 (IntKind.wrap .i64 (i_15 + 1))] w22 < μ9 [.slice l_p12 l_n13 l_c14, .int .i64 i_15] w11)) (fun ch w => Kfn R ch [] w))))) (
 R (.returned (.slice l_p12 l_n13 l_c14)) w11)))
set_option maxRecDepth 100000 in
theorem sh68_ok (o_1 : Int) (l_p2 : Option Addr) (l_n3 : Nat) (l_c4 : Nat) (keys_p5 : Option Addr) (keys_n6 : Nat) (keys_c7 : Nat) {R : Ending → World → Prop} {w : World} : sh68 o_1 l_p2 l_n3 l_c4 keys_p5 keys_n6 keys_c7 R w → Calls Tryz.prog 68 #[.int .u8 o_1, .slice l_p2 l_n3 l_c4, .slice keys_p5 keys_n6 keys_c7] w R :=
  calls_of_eq (ann := fun i => if i = 0 then [(1, .slice none 0 0), (7, .int .i64 0)] else []) (fn := Tryz.f68) (c := bodyOf Tryz.f68) (args := #[.int .u8 o_1, .slice l_p2 l_n3 l_c4, .slice keys_p5 keys_n6 keys_c7]) 400 follows_mixed Tryz.func68 (by kernel_rfl) (by kernel_rfl)
set_option maxRecDepth 100000 in
/-- joinery/joineryref40.Keep -/
def sh69 (l_p1 : Option Addr) (l_n2 : Nat) (_l_c3 : Nat) (keys_p4 : Option Addr) (keys_n5 : Nat) (keys_c6 : Nat) (are_7 : Bool) (R : Ending → World → Prop) (w : World) : Prop :=
 ∃ (I8 : List Value → World → Prop) (μ9 : List Value → World → Nat), I8 [.slice none 0 0, .int .i64 0] w ∧ (∀ (out_p12 : Option Addr), ∀ (out_n13 : Nat), ∀ (out_c14 : Nat), ∀ (i_15 : Int), ∀ (_j10 : Nat → Value) (w11 : World), I8 [.slice out_p12 out_n13 out_c14, .int .i64 i_15] w11 → (
 ifB (decide ((i_15 : Int) < ((l_n2 : Nat) : Int))) (
 let K20 : (Option Addr) → Nat → Nat → World → Prop := fun (out_p16 : Option Addr) (out_n17 : Nat) (out_c18 : Nat) (w19 : World) => 
 I8 [.slice out_p16 out_n17 out_c18, .int .i64 (IntKind.wrap .i64 (i_15 + 1))] w19 ∧ μ9 [.slice out_p16 out_n17 out_c18, .int .i64 (IntKind.wrap .i64 (i_15 + 1))] w19 < μ9 [.slice out_p12 out_n13 out_c14, .int .i64 i_15] w11
 doIx l_p1 l_n2 1 (i_15) (fun a21 =>
 ∃ (x22 : Int), World.cell? w11 a21 = some (.int .i64 x22) ∧ (
 doCall Tryz.prog (.func (.func 82) #[] #[]) #[.slice keys_p4 keys_n5 keys_c6, .int .i64 x22] w11 (retS (fun v24 w25 => ∃ (x23 : Bool), v24 = (.bool x23 : Value) ∧ (
 ifB (x23 == are_7) (
 doIx l_p1 l_n2 1 (i_15) (fun a26 =>
 ∃ (x27 : Int), World.cell? w25 a26 = some (.int .i64 x27) ∧ (
 doAl (.cells #[.int .i64 x27] 2) w25 (fun b28 w29 =>
 doGo Tryz.prog (.builtin .append #[24, 24] 24 #[false, false]) #[.slice out_p12 out_n13 out_c14, .slice (some (blk b28)) 1 1] w29 (retS (fun v33 w34 => ∃ (xp30 : Option Addr), ∃ (xn31 : Nat), ∃ (xc32 : Nat), v33 = (.slice xp30 xn31 xc32 : Value) ∧ (
 K20 xp30 xn31 xc32 w34)) (fun ch w => Kfn R ch [] w)))))) (
 K20 out_p12 out_n13 out_c14 w25))) (fun ch w => Kfn R ch [] w))))) (
 R (.returned (.slice out_p12 out_n13 out_c14)) w11)))
set_option maxRecDepth 100000 in
theorem sh69_ok (l_p1 : Option Addr) (l_n2 : Nat) (l_c3 : Nat) (keys_p4 : Option Addr) (keys_n5 : Nat) (keys_c6 : Nat) (are_7 : Bool) {R : Ending → World → Prop} {w : World} : sh69 l_p1 l_n2 l_c3 keys_p4 keys_n5 keys_c6 are_7 R w → Calls Tryz.prog 69 #[.slice l_p1 l_n2 l_c3, .slice keys_p4 keys_n5 keys_c6, .bool are_7] w R :=
  calls_of_eq (ann := fun i => if i = 0 then [(7, .slice none 0 0), (8, .int .i64 0)] else []) (fn := Tryz.f69) (c := bodyOf Tryz.f69) (args := #[.slice l_p1 l_n2 l_c3, .slice keys_p4 keys_n5 keys_c6, .bool are_7]) 400 follows_mixed Tryz.func69 (by kernel_rfl) (by kernel_rfl)
set_option maxRecDepth 100000 in
/-- joinery/joinerylaw40.is -/
def sh70 (code_1 : Int) (o_2 : Int) (x_3 : Option Addr) (l_p4 : Option Addr) (l_n5 : Nat) (l_c6 : Nat) (R : Ending → World → Prop) (w : World) : Prop :=
 let K9 : Bool → World → Prop := fun (x7 : Bool) (w8 : World) => 
 R (.returned (.bool x7)) w8
 ifB (!(x_3).isNone) (
 doCall Tryz.prog (.func (.func 72) #[] #[]) #[.pointer x_3] w (retS (fun v11 w12 => ∃ (x10 : Int), v11 = (.int .i64 x10 : Value) ∧ (
 ifB ((x10 : Int) == ((l_n5 : Nat) : Int)) (
 doCall Tryz.prog (.func (.func 76) #[] #[]) #[.pointer x_3] w12 (retS (fun v16 w17 => ∃ (xp13 : Option Addr), ∃ (xn14 : Nat), ∃ (xc15 : Nat), v16 = (.slice xp13 xn14 xc15 : Value) ∧ (
 doCall Tryz.prog (.func (.func 61) #[] #[]) #[.slice xp13 xn14 xc15, .slice l_p4 l_n5 l_c6] w17 (retS (fun v19 w20 => ∃ (x18 : Bool), v19 = (.bool x18 : Value) ∧ (
 ifB x18 (
 doCall Tryz.prog (.func (.func 142) #[] #[]) #[.int .u8 code_1, .int .u8 o_2, .pointer x_3, .slice l_p4 l_n5 l_c6] w20 (retS (fun v22 w23 => ∃ (x21 : Bool), v22 = (.bool x21 : Value) ∧ (
 K9 x21 w23)) (fun ch w => Kfn R ch [] w))) (
 R (.returned (.bool false)) w20))) (fun ch w => Kfn R ch [] w)))) (fun ch w => Kfn R ch [] w))) (
 R (.returned (.bool false)) w12))) (fun ch w => Kfn R ch [] w))) (
 R (.returned (.bool false)) w)
set_option maxRecDepth 100000 in
theorem sh70_ok (code_1 : Int) (o_2 : Int) (x_3 : Option Addr) (l_p4 : Option Addr) (l_n5 : Nat) (l_c6 : Nat) {R : Ending → World → Prop} {w : World} : sh70 code_1 o_2 x_3 l_p4 l_n5 l_c6 R w → Calls Tryz.prog 70 #[.int .u8 code_1, .int .u8 o_2, .pointer x_3, .slice l_p4 l_n5 l_c6] w R :=
  calls_of_eq (ann := fun _ => []) (fn := Tryz.f70) (c := bodyOf Tryz.f70) (args := #[.int .u8 code_1, .int .u8 o_2, .pointer x_3, .slice l_p4 l_n5 l_c6]) 400 follows_mixed Tryz.func70 (by kernel_rfl) (by kernel_rfl)
end Go.Proofs.YtlddfgfmkapoiaaGreat

namespace Go.Proofs.YtlddfgfmkapoiaaGreat
open Go Go.Sh
set_option maxRecDepth 100000 in
/-- (*joinery/set.Set).Len -/
def sh72 (x_1 : Option Addr) (R : Ending → World → Prop) (w : World) : Prop :=
 doCall Tryz.prog (.func (.func 143) #[] #[]) #[.pointer x_1] w (retS (fun v3 w4 => ∃ (x2 : Option Addr), v3 = (.pointer x2 : Value) ∧ (
 doCall Tryz.prog (.func (.func 91) #[] #[]) #[.pointer x2] w4 (retS (fun v6 w7 => ∃ (x5 : Int), v6 = (.int .i64 x5 : Value) ∧ (
 R (.returned (.int .i64 x5)) w7)) (fun ch w => Kfn R ch [] w)))) (fun ch w => Kfn R ch [] w))
set_option maxRecDepth 100000 in
theorem sh72_ok (x_1 : Option Addr) {R : Ending → World → Prop} {w : World} : sh72 x_1 R w → Calls Tryz.prog 72 #[.pointer x_1] w R :=
  calls_of_eq (ann := fun _ => []) (fn := Tryz.f72) (c := bodyOf Tryz.f72) (args := #[.pointer x_1]) 400 follows_mixed Tryz.func72 (by kernel_rfl) (by kernel_rfl)
set_option maxRecDepth 100000 in
/-- (*joinery/set.Set).Copy -/
def sh73 (x_1 : Option Addr) (R : Ending → World → Prop) (w : World) : Prop :=
 ifB ((x_1).isNone) (
 R (.returned (.pointer none)) w) (
 ∃ (q2 : Addr), x_1 = some q2 ∧ (
 ∃ (x3 : Option Addr), World.cell? w (q2.add 0) = some (.pointer x3) ∧ (
 ∃ (x4 : Int), World.cell? w (q2.add 1) = some (.int .u8 x4) ∧ (
 ∃ (x5 : Option Addr), World.cell? w (q2.add 2) = some (.pointer x5) ∧ (
 ∃ (x6 : Option Addr), World.cell? w (q2.add 3) = some (.pointer x6) ∧ (
 doAl (.cells #[.pointer none, .int .u8 0, .pointer none, .pointer none] 174) w (fun b7 w8 =>
 doSt ((blk b7).add 0) (.pointer x3) w8 (fun w9 =>
 doSt ((blk b7).add 1) (.int .u8 x4) w9 (fun w10 =>
 doSt ((blk b7).add 2) (.pointer x5) w10 (fun w11 =>
 doSt ((blk b7).add 3) (.pointer x6) w11 (fun w12 =>
 R (.returned (.pointer (some (blk b7)))) w12)))))))))))
set_option maxRecDepth 100000 in
theorem sh73_ok (x_1 : Option Addr) {R : Ending → World → Prop} {w : World} : sh73 x_1 R w → Calls Tryz.prog 73 #[.pointer x_1] w R :=
  calls_of_eq (ann := fun _ => []) (fn := Tryz.f73) (c := bodyOf Tryz.f73) (args := #[.pointer x_1]) 400 follows_mixed Tryz.func73 (by kernel_rfl) (by kernel_rfl)
set_option maxRecDepth 100000 in
/-- (*joinery/set.Set).Add -/
def sh74 (x_1 : Option Addr) (keys_p2 : Option Addr) (keys_n3 : Nat) (keys_c4 : Nat) (R : Ending → World → Prop) (w : World) : Prop :=
 doAl (.cells #[.pointer x_1] 85) w (fun b5 w6 =>
 ∃ (x7 : Option Addr), World.cell? w6 (blk b5) = some (.pointer x7) ∧ (
 doCall Tryz.prog (.func (.func 144) #[] #[]) #[.pointer x7, .slice keys_p2 keys_n3 keys_c4, .func (.func 145) #[] #[.pointer (some (blk b5))]] w6 (retS (fun v10 w11 => ∃ (x8 : Int), ∃ (x9 : Int), v10 = (.tuple #[.int .i64 x8, .int .i64 x9] : Value) ∧ (
 R (.returned (.tuple #[.int .i64 x8, .int .i64 x9])) w11)) (fun ch w => Kfn R ch [] w))))
set_option maxRecDepth 100000 in
theorem sh74_ok (x_1 : Option Addr) (keys_p2 : Option Addr) (keys_n3 : Nat) (keys_c4 : Nat) {R : Ending → World → Prop} {w : World} : sh74 x_1 keys_p2 keys_n3 keys_c4 R w → Calls Tryz.prog 74 #[.pointer x_1, .slice keys_p2 keys_n3 keys_c4] w R :=
  calls_of_eq (ann := fun _ => []) (fn := Tryz.f74) (c := bodyOf Tryz.f74) (args := #[.pointer x_1, .slice keys_p2 keys_n3 keys_c4]) 400 follows_mixed Tryz.func74 (by kernel_rfl) (by kernel_rfl)
set_option maxRecDepth 100000 in
/-- (*joinery/set.Set).Drop -/
def sh75 (x_1 : Option Addr) (keys_p2 : Option Addr) (keys_n3 : Nat) (keys_c4 : Nat) (R : Ending → World → Prop) (w : World) : Prop :=
 doAl (.cells #[.pointer x_1] 85) w (fun b5 w6 =>
 ∃ (x7 : Option Addr), World.cell? w6 (blk b5) = some (.pointer x7) ∧ (
 doCall Tryz.prog (.func (.func 144) #[] #[]) #[.pointer x7, .slice keys_p2 keys_n3 keys_c4, .func (.func 146) #[] #[.pointer (some (blk b5))]] w6 (retS (fun v10 w11 => ∃ (x8 : Int), ∃ (x9 : Int), v10 = (.tuple #[.int .i64 x8, .int .i64 x9] : Value) ∧ (
 R (.returned (.tuple #[.int .i64 x8, .int .i64 x9])) w11)) (fun ch w => Kfn R ch [] w))))
set_option maxRecDepth 100000 in
theorem sh75_ok (x_1 : Option Addr) (keys_p2 : Option Addr) (keys_n3 : Nat) (keys_c4 : Nat) {R : Ending → World → Prop} {w : World} : sh75 x_1 keys_p2 keys_n3 keys_c4 R w → Calls Tryz.prog 75 #[.pointer x_1, .slice keys_p2 keys_n3 keys_c4] w R :=
  calls_of_eq (ann := fun _ => []) (fn := Tryz.f75) (c := bodyOf Tryz.f75) (args := #[.pointer x_1, .slice keys_p2 keys_n3 keys_c4]) 400 follows_mixed Tryz.func75 (by kernel_rfl) (by kernel_rfl)
set_option maxRecDepth 100000 in
/-- (*joinery/set.Set).Keys -/
def sh76 (x_1 : Option Addr) (R : Ending → World → Prop) (w : World) : Prop :=
 doCall Tryz.prog (.func (.func 143) #[] #[]) #[.pointer x_1] w (retS (fun v3 w4 => ∃ (x2 : Option Addr), v3 = (.pointer x2 : Value) ∧ (
 doCall Tryz.prog (.func (.func 147) #[] #[]) #[.pointer x2] w4 (retS (fun v8 w9 => ∃ (xp5 : Option Addr), ∃ (xn6 : Nat), ∃ (xc7 : Nat), v8 = (.slice xp5 xn6 xc7 : Value) ∧ (
 R (.returned (.slice xp5 xn6 xc7)) w9)) (fun ch w => Kfn R ch [] w)))) (fun ch w => Kfn R ch [] w))
set_option maxRecDepth 100000 in
theorem sh76_ok (x_1 : Option Addr) {R : Ending → World → Prop} {w : World} : sh76 x_1 R w → Calls Tryz.prog 76 #[.pointer x_1] w R :=
  calls_of_eq (ann := fun _ => []) (fn := Tryz.f76) (c := bodyOf Tryz.f76) (args := #[.pointer x_1]) 400 follows_mixed Tryz.func76 (by kernel_rfl) (by kernel_rfl)
set_option maxRecDepth 100000 in
/-- (*joinery/set.Set).At -/
def sh77 (x_1 : Option Addr) (n_2 : Int) (R : Ending → World → Prop) (w : World) : Prop :=
 ifB ((x_1).isNone) (
 R (.returned (.tuple #[.int .i64 0, .int .i64 1])) w) (
 ∃ (q3 : Addr), x_1 = some q3 ∧ (
 ∃ (x4 : Option Addr), World.cell? w (q3.add 3) = some (.pointer x4) ∧ (
 doCall Tryz.prog (.func (.func 148) #[] #[]) #[.pointer x4, .int .i64 n_2] w (retS (fun v8 w9 => ∃ (x5 : Int), ∃ (x6 : Int), ∃ (x7 : Int), v8 = (.tuple #[.agg #[.int .i64 x5, .int .i64 x6], .int .i64 x7] : Value) ∧ (
 doAl (.cells #[.int .i64 0, .int .i64 0] 46) w9 (fun b10 w11 =>
 doSt ((blk b10).add 0) (.int .i64 x5) w11 (fun w12 =>
 doSt ((blk b10).add 1) (.int .i64 x6) w12 (fun w13 =>
 ∃ (x14 : Int), World.cell? w13 ((blk b10).add 0) = some (.int .i64 x14) ∧ (
 R (.returned (.tuple #[.int .i64 x14, .int .i64 x7])) w13)))))) (fun ch w => Kfn R ch [] w)))))
set_option maxRecDepth 100000 in
theorem sh77_ok (x_1 : Option Addr) (n_2 : Int) {R : Ending → World → Prop} {w : World} : sh77 x_1 n_2 R w → Calls Tryz.prog 77 #[.pointer x_1, .int .i64 n_2] w R :=
  calls_of_eq (ann := fun _ => []) (fn := Tryz.f77) (c := bodyOf Tryz.f77) (args := #[.pointer x_1, .int .i64 n_2]) 400 follows_mixed Tryz.func77 (by kernel_rfl) (by kernel_rfl)
set_option maxRecDepth 100000 in
/-- (*joinery/set.Set).Has -/
def sh78 (x_1 : Option Addr) (key_2 : Int) (R : Ending → World → Prop) (w : World) : Prop :=
 ifB ((x_1).isNone) (
 R (.returned (.bool false)) w) (
 doDr w (fun w4 =>
 ∃ (C3 : World → Prop), C3 w4 ∧ (
 ∃ (q5 : Addr), x_1 = some q5 ∧ (
 ∃ (x6 : Int), (∀ w, C3 w → World.cell? w ((q5.add 0).add 1) = some (.int .u8 x6)) ∧ (
 ∃ (q7 : Addr), x_1 = some q7 ∧ (
 ∃ (x8 : Option Addr), (∀ w, C3 w → World.cell? w (q7.add 3) = some (.pointer x8)) ∧ (
 doCall Tryz.prog (.func (.func 149) #[] #[]) #[.int .u8 x6, .pointer x8, .int .i64 key_2] w4 (retS (fun v11 w12 => ∃ (x9 : Int), ∃ (x10 : Bool), v11 = (.tuple #[.int .i64 x9, .bool x10] : Value) ∧ (
 R (.returned (.bool x10)) w12)) (fun ch w => Kfn R ch [] w)))))))))
set_option maxRecDepth 100000 in
theorem sh78_ok (x_1 : Option Addr) (key_2 : Int) {R : Ending → World → Prop} {w : World} : sh78 x_1 key_2 R w → Calls Tryz.prog 78 #[.pointer x_1, .int .i64 key_2] w R :=
  calls_of_eq (ann := fun _ => []) (fn := Tryz.f78) (c := bodyOf Tryz.f78) (args := #[.pointer x_1, .int .i64 key_2]) 400 follows_mixed Tryz.func78 (by kernel_rfl) (by kernel_rfl)
set_option maxRecDepth 100000 in
/-- joinery/joinerylaw40.heavy -/
def sh80 (l_p1 : Option Addr) (l_n2 : Nat) (_l_c3 : Nat) (R : Ending → World → Prop) (w : World) : Prop :=
 let K6 : Int → World → Prop := fun (n_4 : Int) (w5 : World) => 
 let K9 : Bool → World → Prop := fun (x7 : Bool) (w8 : World) => 
 R (.returned (.bool x7)) w8
 ifB (decide ((((l_n2 : Nat) : Int) : Int) > 30)) (
 R (.returned (.bool true)) w5) (
 K9 (decide ((n_4 : Int) > 300)) w5)
 ∃ (I10 : List Value → World → Prop) (μ11 : List Value → World → Nat), I10 [.int .i64 0, .int .i64 0] w ∧ (∀ (n_14 : Int), ∀ (i_15 : Int), ∀ (_j12 : Nat → Value) (w13 : World), I10 [.int .i64 n_14, .int .i64 i_15] w13 → (
 let K18 : Bool → World → Prop := fun (x16 : Bool) (w17 : World) => 
 ifB x16 (
 doIx l_p1 l_n2 2 (i_15) (fun a19 =>
 ∃ (xp20 : Option Addr), ∃ (xn21 : Nat), ∃ (xc22 : Nat), World.cell? w17 (a19.add 1) = some (.slice xp20 xn21 xc22) ∧ (
 I10 [.int .i64 (IntKind.wrap .i64 (n_14 + ((xn21 : Nat) : Int))), .int .i64 (IntKind.wrap .i64 (i_15 + 1))] w17 ∧ μ11 [.int .i64 (IntKind.wrap .i64 (n_14 + ((xn21 : Nat) : Int))), .int .i64 (IntKind.wrap .i64 (i_15 + 1))] w17 < μ11 [.int .i64 n_14, .int .i64 i_15] w13))) (
 K6 n_14 w17)
 ifB (decide ((i_15 : Int) < ((l_n2 : Nat) : Int))) (
 K18 (decide ((i_15 : Int) < 100)) w13) (
 K6 n_14 w13)))
set_option maxRecDepth 100000 in
theorem sh80_ok (l_p1 : Option Addr) (l_n2 : Nat) (l_c3 : Nat) {R : Ending → World → Prop} {w : World} : sh80 l_p1 l_n2 l_c3 R w → Calls Tryz.prog 80 #[.slice l_p1 l_n2 l_c3] w R :=
  calls_of_eq (ann := fun i => if i = 0 then [(3, .int .i64 0), (4, .int .i64 0)] else []) (fn := Tryz.f80) (c := bodyOf Tryz.f80) (args := #[.slice l_p1 l_n2 l_c3]) 400 follows_mixed Tryz.func80 (by kernel_rfl) (by kernel_rfl)
set_option maxRecDepth 100000 in
/-- joinery/joinerylaw40.nothing -/
def sh81  (R : Ending → World → Prop) (w : World) : Prop :=
 doCall Tryz.prog (.func (.func 63) #[] #[]) #[.pointer none, .int .u8 1, .pointer none, .slice none 0 0] w (retS (fun v3 w4 => ∃ (x1 : Option Addr), ∃ (x2 : Int), v3 = (.tuple #[.pointer x1, .int .i64 x2] : Value) ∧ (
 doAl (.cells #[.int .i64 1] 2) w4 (fun b5 w6 =>
 doCall Tryz.prog (.func (.func 74) #[] #[]) #[.pointer none, .slice (some (blk b5)) 1 1] w6 (retS (fun v9 w10 => ∃ (x7 : Int), ∃ (x8 : Int), v9 = (.tuple #[.int .i64 x7, .int .i64 x8] : Value) ∧ (
 doAl (.cells #[.int .i64 1] 2) w10 (fun b11 w12 =>
 doCall Tryz.prog (.func (.func 75) #[] #[]) #[.pointer none, .slice (some (blk b11)) 1 1] w12 (retS (fun v15 w16 => ∃ (x13 : Int), ∃ (x14 : Int), v15 = (.tuple #[.int .i64 x13, .int .i64 x14] : Value) ∧ (
 doCall Tryz.prog (.func (.func 77) #[] #[]) #[.pointer none, .int .i64 0] w16 (retS (fun v19 w20 => ∃ (x17 : Int), ∃ (x18 : Int), v19 = (.tuple #[.int .i64 x17, .int .i64 x18] : Value) ∧ (
 doCall Tryz.prog (.func (.func 64) #[] #[]) #[.pointer none, .pointer none] w20 (retS (fun v23 w24 => ∃ (x21 : Option Addr), ∃ (x22 : Int), v23 = (.tuple #[.pointer x21, .int .i64 x22] : Value) ∧ (
 doCall Tryz.prog (.func (.func 65) #[] #[]) #[.pointer none, .pointer none] w24 (retS (fun v27 w28 => ∃ (x25 : Option Addr), ∃ (x26 : Int), v27 = (.tuple #[.pointer x25, .int .i64 x26] : Value) ∧ (
 doCall Tryz.prog (.func (.func 66) #[] #[]) #[.pointer none, .pointer none] w28 (retS (fun v31 w32 => ∃ (x29 : Option Addr), ∃ (x30 : Int), v31 = (.tuple #[.pointer x29, .int .i64 x30] : Value) ∧ (
 doCall Tryz.prog (.func (.func 67) #[] #[]) #[.pointer none, .pointer none] w32 (retS (fun v35 w36 => ∃ (x33 : Bool), ∃ (x34 : Int), v35 = (.tuple #[.bool x33, .int .i64 x34] : Value) ∧ (
 let K39 : Bool → World → Prop := fun (x37 : Bool) (w38 : World) => 
 R (.returned (.bool x37)) w38
 ifB ((x1).isNone) (
 ifB ((x2 : Int) == 2) (
 ifB ((x7 : Int) == 0) (
 ifB ((x8 : Int) == 1) (
 ifB ((x13 : Int) == 0) (
 ifB ((x14 : Int) == 1) (
 ifB ((x17 : Int) == 0) (
 ifB ((x18 : Int) == 1) (
 ifB ((x21).isNone) (
 ifB ((x22 : Int) == 1) (
 ifB ((x25).isNone) (
 ifB ((x26 : Int) == 1) (
 ifB ((x29).isNone) (
 ifB ((x30 : Int) == 1) (
 ifB (!x33) (
 ifB ((x34 : Int) == 1) (
 doCall Tryz.prog (.func (.func 78) #[] #[]) #[.pointer none, .int .i64 0] w36 (retS (fun v41 w42 => ∃ (x40 : Bool), v41 = (.bool x40 : Value) ∧ (
 ifB (!x40) (
 doCall Tryz.prog (.func (.func 72) #[] #[]) #[.pointer none] w42 (retS (fun v44 w45 => ∃ (x43 : Int), v44 = (.int .i64 x43 : Value) ∧ (
 ifB ((x43 : Int) == 0) (
 doCall Tryz.prog (.func (.func 76) #[] #[]) #[.pointer none] w45 (retS (fun v49 w50 => ∃ (xp46 : Option Addr), ∃ (xn47 : Nat), ∃ (xc48 : Nat), v49 = (.slice xp46 xn47 xc48 : Value) ∧ (
 ifB ((((xn47 : Nat) : Int) : Int) == 0) (
 doCall Tryz.prog (.func (.func 143) #[] #[]) #[.pointer none] w50 (retS (fun v52 w53 => ∃ (x51 : Option Addr), v52 = (.pointer x51 : Value) ∧ (
 ifB ((x51).isNone) (
 doCall Tryz.prog (.func (.func 73) #[] #[]) #[.pointer none] w53 (retS (fun v55 w56 => ∃ (x54 : Option Addr), v55 = (.pointer x54 : Value) ∧ (
 K39 ((x54).isNone) w56)) (fun ch w => Kfn R ch [] w))) (
 R (.returned (.bool false)) w53))) (fun ch w => Kfn R ch [] w))) (
 R (.returned (.bool false)) w50))) (fun ch w => Kfn R ch [] w))) (
 R (.returned (.bool false)) w45))) (fun ch w => Kfn R ch [] w))) (
 R (.returned (.bool false)) w42))) (fun ch w => Kfn R ch [] w))) (
 R (.returned (.bool false)) w36)) (
 R (.returned (.bool false)) w36)) (
 R (.returned (.bool false)) w36)) (
 R (.returned (.bool false)) w36)) (
 R (.returned (.bool false)) w36)) (
 R (.returned (.bool false)) w36)) (
 R (.returned (.bool false)) w36)) (
 R (.returned (.bool false)) w36)) (
 R (.returned (.bool false)) w36)) (
 R (.returned (.bool false)) w36)) (
 R (.returned (.bool false)) w36)) (
 R (.returned (.bool false)) w36)) (
 R (.returned (.bool false)) w36)) (
 R (.returned (.bool false)) w36)) (
 R (.returned (.bool false)) w36)) (
 R (.returned (.bool false)) w36))) (fun ch w => Kfn R ch [] w)))) (fun ch w => Kfn R ch [] w)))) (fun ch w => Kfn R ch [] w)))) (fun ch w => Kfn R ch [] w)))) (fun ch w => Kfn R ch [] w)))) (fun ch w => Kfn R ch [] w))))) (fun ch w => Kfn R ch [] w))))) (fun ch w => Kfn R ch [] w))
set_option maxRecDepth 100000 in
theorem sh81_ok  {R : Ending → World → Prop} {w : World} : sh81  R w → Calls Tryz.prog 81 #[] w R :=
  calls_of_eq (ann := fun _ => []) (fn := Tryz.f81) (c := bodyOf Tryz.f81) (args := #[]) 400 follows_mixed Tryz.func81 (by kernel_rfl) (by kernel_rfl)
set_option maxRecDepth 100000 in
/-- joinery/joineryref40.Has -/
def sh82 (l_p1 : Option Addr) (l_n2 : Nat) (_l_c3 : Nat) (key_4 : Int) (R : Ending → World → Prop) (w : World) : Prop :=
 ∃ (I5 : List Value → World → Prop) (μ6 : List Value → World → Nat), I5 [.int .i64 0] w ∧ (∀ (i_9 : Int), ∀ (_j7 : Nat → Value) (w8 : World), I5 [.int .i64 i_9] w8 → (
 ifB (decide ((i_9 : Int) < ((l_n2 : Nat) : Int))) (
 doIx l_p1 l_n2 1 (i_9) (fun a10 =>
 ∃ (x11 : Int), World.cell? w8 a10 = some (.int .i64 x11) ∧ (
 ifB ((x11 : Int) == key_4) (
 R (.returned (.bool true)) w8) (
 I5 [.int .i64 (IntKind.wrap .i64 (i_9 + 1))] w8 ∧ μ6 [.int .i64 (IntKind.wrap .i64 (i_9 + 1))] w8 < μ6 [.int .i64 i_9] w8)))) (
 R (.returned (.bool false)) w8)))
set_option maxRecDepth 100000 in
theorem sh82_ok (l_p1 : Option Addr) (l_n2 : Nat) (l_c3 : Nat) (key_4 : Int) {R : Ending → World → Prop} {w : World} : sh82 l_p1 l_n2 l_c3 key_4 R w → Calls Tryz.prog 82 #[.slice l_p1 l_n2 l_c3, .int .i64 key_4] w R :=
  calls_of_eq (ann := fun i => if i = 0 then [(5, .int .i64 0)] else []) (fn := Tryz.f82) (c := bodyOf Tryz.f82) (args := #[.slice l_p1 l_n2 l_c3, .int .i64 key_4]) 400 follows_mixed Tryz.func82 (by kernel_rfl) (by kernel_rfl)
set_option maxRecDepth 100000 in
/-- joinery/mix.Of -/
def sh83 (key_1 : Int) (R : Ending → World → Prop) (w : World) : Prop :=
 doCall Tryz.prog (.func (.func 122) #[] #[]) #[.int .u64 (IntKind.wrap .u64 ((IntKind.wrap .u64 key_1) + 11400714819323198485))] w (retS (fun v3 w4 => ∃ (x2 : Int), v3 = (.int .u64 x2 : Value) ∧ (
 R (.returned (.int .u64 x2)) w4)) (fun ch w => Kfn R ch [] w))
set_option maxRecDepth 100000 in
theorem sh83_ok (key_1 : Int) {R : Ending → World → Prop} {w : World} : sh83 key_1 R w → Calls Tryz.prog 83 #[.int .i64 key_1] w R :=
  calls_of_eq (ann := fun _ => []) (fn := Tryz.f83) (c := bodyOf Tryz.f83) (args := #[.int .i64 key_1]) 400 follows_mixed Tryz.func83 (by kernel_rfl) (by kernel_rfl)
set_option maxRecDepth 100000 in
/-- joinery/build.Items -/
def sh93 (s_1 : Option Addr) (l_p2 : Option Addr) (l_n3 : Nat) (l_c4 : Nat) (R : Ending → World → Prop) (w : World) : Prop :=
 doAl (.cells #[.pointer s_1] 25) w (fun b5 w6 =>
 doAl (.cells #[.nilFunc] 232) w6 (fun b7 w8 =>
 doSt ((blk b7).add 0) (.func (.func 168) #[] #[.pointer (some (blk b5)), .pointer (some (blk b7))]) w8 (fun w9 =>
 ∃ (xf10 : Fn), ∃ (xx11 : Array Value), ∃ (xc12 : Array Value), World.cell? w9 (blk b7) = some (.func xf10 xx11 xc12) ∧ (
 doCall Tryz.prog (.func xf10 xx11 xc12) #[.slice l_p2 l_n3 l_c4] w9 (retS (fun v14 w15 => ∃ (x13 : Option Addr), v14 = (.pointer x13 : Value) ∧ (
 R (.returned (.pointer x13)) w15)) (fun ch w => Kfn R ch [] w))))))
set_option maxRecDepth 100000 in
theorem sh93_ok (s_1 : Option Addr) (l_p2 : Option Addr) (l_n3 : Nat) (l_c4 : Nat) {R : Ending → World → Prop} {w : World} : sh93 s_1 l_p2 l_n3 l_c4 R w → Calls Tryz.prog 93 #[.pointer s_1, .slice l_p2 l_n3 l_c4] w R :=
  calls_of_eq (ann := fun _ => []) (fn := Tryz.f93) (c := bodyOf Tryz.f93) (args := #[.pointer s_1, .slice l_p2 l_n3 l_c4]) 400 follows_mixed Tryz.func93 (by kernel_rfl) (by kernel_rfl)
end Go.Proofs.YtlddfgfmkapoiaaGreat

namespace Go.Proofs.YtlddfgfmkapoiaaGreat
open Go Go.Sh
set_option maxRecDepth 100000 in
/-- joinery/draw.New -/
def sh94 (l_p1 : Option Addr) (l_n2 : Nat) (l_c3 : Nat) (R : Ending → World → Prop) (w : World) : Prop :=
 doCall Tryz.prog (.func (.func 169) #[] #[]) #[.slice l_p1 l_n2 l_c3] w (retS (fun v7 w8 => ∃ (xp4 : Option Addr), ∃ (xn5 : Nat), ∃ (xc6 : Nat), v7 = (.slice xp4 xn5 xc6 : Value) ∧ (
 doAl (.cells #[.slice none 0 0] 23) w8 (fun b9 w10 =>
 doSt ((blk b9).add 0) (.slice xp4 xn5 xc6) w10 (fun w11 =>
 doAl (.cells #[.slice none 0 0, .nilFunc, .nilFunc] 145) w11 (fun b12 w13 =>
 doAl (.cells #[.pointer none] 31) w13 (fun b14 w15 =>
 doSt ((blk b14).add 0) (.pointer (some (blk b12))) w15 (fun w16 =>
 ∃ (x17 : Option Addr), World.cell? w16 (blk b14) = some (.pointer x17) ∧ (
 ∃ (q18 : Addr), x17 = some q18 ∧ (
 doSt ((q18.add 2).add 0) (.func (.func 170) #[] #[.pointer (some (blk b9))]) w16 (fun w19 =>
 ∃ (x20 : Option Addr), World.cell? w19 (blk b14) = some (.pointer x20) ∧ (
 ∃ (q21 : Addr), x20 = some q21 ∧ (
 doSt ((q21.add 1).add 0) (.func (.func 171) #[] #[.pointer (some (blk b9)), .pointer (some (blk b14))]) w19 (fun w22 =>
 ∃ (x23 : Option Addr), World.cell? w22 (blk b14) = some (.pointer x23) ∧ (
 ∃ (xp24 : Option Addr), ∃ (xn25 : Nat), ∃ (xc26 : Nat), World.cell? w22 (blk b9) = some (.slice xp24 xn25 xc26) ∧ (
 ∃ (q27 : Addr), x23 = some q27 ∧ (
 doSt ((q27.add 0).add 0) (.slice xp24 xn25 xc26) w22 (fun w28 =>
 ∃ (x29 : Option Addr), World.cell? w28 (blk b14) = some (.pointer x29) ∧ (
 R (.returned (.pointer x29)) w28)))))))))))))))))) (fun ch w => Kfn R ch [] w))
set_option maxRecDepth 100000 in
theorem sh94_ok (l_p1 : Option Addr) (l_n2 : Nat) (l_c3 : Nat) {R : Ending → World → Prop} {w : World} : sh94 l_p1 l_n2 l_c3 R w → Calls Tryz.prog 94 #[.slice l_p1 l_n2 l_c3] w R :=
  calls_of_eq (ann := fun _ => []) (fn := Tryz.f94) (c := bodyOf Tryz.f94) (args := #[.slice l_p1 l_n2 l_c3]) 400 follows_mixed Tryz.func94 (by kernel_rfl) (by kernel_rfl)
set_option maxRecDepth 100000 in
/-- joinery/look.All -/
def sh99 (t_1 : Option Addr) (R : Ending → World → Prop) (w : World) : Prop :=
 doCall Tryz.prog (.func (.func 181) #[] #[]) #[.pointer t_1] w (retS (fun v5 w6 => ∃ (xf2 : Fn), ∃ (xx3 : Array Value), ∃ (xc4 : Array Value), v5 = (.func xf2 xx3 xc4 : Value) ∧ (
 doCall Tryz.prog (.func (.func 180) #[] #[]) #[.func xf2 xx3 xc4] w6 (retS (fun v10 w11 => ∃ (xf7 : Fn), ∃ (xx8 : Array Value), ∃ (xc9 : Array Value), v10 = (.func xf7 xx8 xc9 : Value) ∧ (
 R (.returned (.func xf7 xx8 xc9)) w11)) (fun ch w => Kfn R ch [] w)))) (fun ch w => Kfn R ch [] w))
set_option maxRecDepth 100000 in
theorem sh99_ok (t_1 : Option Addr) {R : Ending → World → Prop} {w : World} : sh99 t_1 R w → Calls Tryz.prog 99 #[.pointer t_1] w R :=
  calls_of_eq (ann := fun _ => []) (fn := Tryz.f99) (c := bodyOf Tryz.f99) (args := #[.pointer t_1]) 400 follows_mixed Tryz.func99 (by kernel_rfl) (by kernel_rfl)
set_option maxRecDepth 100000 in
/-- joinery/build.tagged -/
def sh102 (s_1 : Option Addr) (d_2 : Option Addr) (l_p3 : Option Addr) (l_n4 : Nat) (l_c5 : Nat) (R : Ending → World → Prop) (w : World) : Prop :=
 doAl (.cells #[.pointer s_1] 25) w (fun b6 w7 =>
 doAl (.cells #[.pointer d_2] 31) w7 (fun b8 w9 =>
 doAl (.cells #[.slice l_p3 l_n4 l_c5] 22) w9 (fun b10 w11 =>
 R (.returned (.func (.func 183) #[] #[.pointer (some (blk b10)), .pointer (some (blk b6)), .pointer (some (blk b8))])) w11)))
set_option maxRecDepth 100000 in
theorem sh102_ok (s_1 : Option Addr) (d_2 : Option Addr) (l_p3 : Option Addr) (l_n4 : Nat) (l_c5 : Nat) {R : Ending → World → Prop} {w : World} : sh102 s_1 d_2 l_p3 l_n4 l_c5 R w → Calls Tryz.prog 102 #[.pointer s_1, .pointer d_2, .slice l_p3 l_n4 l_c5] w R :=
  calls_of_eq (ann := fun _ => []) (fn := Tryz.f102) (c := bodyOf Tryz.f102) (args := #[.pointer s_1, .pointer d_2, .slice l_p3 l_n4 l_c5]) 400 follows_mixed Tryz.func102 (by kernel_rfl) (by kernel_rfl)
end Go.Proofs.YtlddfgfmkapoiaaGreat

