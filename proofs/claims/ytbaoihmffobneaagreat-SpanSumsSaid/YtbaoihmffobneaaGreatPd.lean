/-
  Printed by a program (gen.py): what the functions of the program do, as formulas; each with the proof that its call is what the formula says.
-/
/-
  Printed by a program (gen.py): what the functions of the program do, as formulas; each with the proof that its call is what the formula says.
-/
/-
  Printed by a program (gen.py): what the functions of the program do, as formulas; each with the proof that its call is what the formula says.
-/
import Derived.Test.YtbaoihmffobneaaGreatPb
import Derived.Test.YtbaoihmffobneaaGreatProg

namespace Go.Proofs.YtbaoihmffobneaaGreat
open Go Go.Sh
theorem follows_mixed : Tryz.prog.follows .mixedOrders = true := by kernel_rfl
set_option maxRecDepth 100000 in
/-- joinery/joinerylaw22.Of -/
def sh9 (code_1 : Int) (R : Ending → World → Prop) (w : World) : Prop :=
 doCall Tryz.prog (.func (.func 59) #[] #[]) #[.int .u8 code_1] w (retS (fun v4 w5 => ∃ (x2 : Option Addr), ∃ (x3 : Int), v4 = (.tuple #[.pointer x2, .int .i64 x3] : Value) ∧ (
 let K8 : Bool → World → Prop := fun (x6 : Bool) (w7 : World) => 
 R (.returned (.tuple #[.pointer x2, .bool x6])) w7
 ifB ((x3 : Int) == 0) (
 K8 (!(x2).isNone) w5) (
 R (.returned (.tuple #[.pointer x2, .bool false])) w5))) (fun ch w => Kfn R ch [] w))
set_option maxRecDepth 100000 in
theorem sh9_ok (code_1 : Int) {R : Ending → World → Prop} {w : World} : sh9 code_1 R w → Calls Tryz.prog 9 #[.int .u8 code_1] w R :=
  calls_of_eq (ann := fun _ => []) (fn := Tryz.f9) (c := bodyOf Tryz.f9) (args := #[.int .u8 code_1]) 400 follows_mixed Tryz.func9 (by kernel_rfl) (by kernel_rfl)
set_option maxRecDepth 100000 in
/-- joinery/joinerylaw28.Long -/
def sh10 (code_1 : Int) (o_2 : Int) (l_p3 : Option Addr) (l_n4 : Nat) (l_c5 : Nat) (m_p6 : Option Addr) (m_n7 : Nat) (m_c8 : Nat) (R : Ending → World → Prop) (w : World) : Prop :=
 let K11 : Bool → World → Prop := fun (x9 : Bool) (w10 : World) => 
 R (.returned (.bool x9)) w10
 doCall Tryz.prog (.func (.func 28) #[] #[]) #[.int .u8 code_1, .int .u8 o_2, .slice l_p3 l_n4 l_c5] w (retS (fun v13 w14 => ∃ (x12 : Bool), v13 = (.bool x12 : Value) ∧ (
 ifB x12 (
 R (.returned (.bool true)) w14) (
 doCall Tryz.prog (.func (.func 28) #[] #[]) #[.int .u8 code_1, .int .u8 o_2, .slice m_p6 m_n7 m_c8] w14 (retS (fun v16 w17 => ∃ (x15 : Bool), v16 = (.bool x15 : Value) ∧ (
 K11 x15 w17)) (fun ch w => Kfn R ch [] w))))) (fun ch w => Kfn R ch [] w))
set_option maxRecDepth 100000 in
theorem sh10_ok (code_1 : Int) (o_2 : Int) (l_p3 : Option Addr) (l_n4 : Nat) (l_c5 : Nat) (m_p6 : Option Addr) (m_n7 : Nat) (m_c8 : Nat) {R : Ending → World → Prop} {w : World} : sh10 code_1 o_2 l_p3 l_n4 l_c5 m_p6 m_n7 m_c8 R w → Calls Tryz.prog 10 #[.int .u8 code_1, .int .u8 o_2, .slice l_p3 l_n4 l_c5, .slice m_p6 m_n7 m_c8] w R :=
  calls_of_eq (ann := fun _ => []) (fn := Tryz.f10) (c := bodyOf Tryz.f10) (args := #[.int .u8 code_1, .int .u8 o_2, .slice l_p3 l_n4 l_c5, .slice m_p6 m_n7 m_c8]) 400 follows_mixed Tryz.func10 (by kernel_rfl) (by kernel_rfl)
set_option maxRecDepth 100000 in
/-- joinery/joineryref03.May -/
def sh11 (p_1 : Int) (R : Ending → World → Prop) (w : World) : Prop :=
 let K4 : Bool → World → Prop := fun (x2 : Bool) (w3 : World) => 
 R (.returned (.bool x2)) w3
 ifB ((p_1 : Int) == 1) (
 R (.returned (.bool true)) w) (
 ifB ((p_1 : Int) == 2) (
 R (.returned (.bool true)) w) (
 K4 ((p_1 : Int) == 3) w))
set_option maxRecDepth 100000 in
theorem sh11_ok (p_1 : Int) {R : Ending → World → Prop} {w : World} : sh11 p_1 R w → Calls Tryz.prog 11 #[.int .u8 p_1] w R :=
  calls_of_eq (ann := fun _ => []) (fn := Tryz.f11) (c := bodyOf Tryz.f11) (args := #[.int .u8 p_1]) 400 follows_mixed Tryz.func11 (by kernel_rfl) (by kernel_rfl)
set_option maxRecDepth 100000 in
/-- joinery/joineryref22.Is -/
def sh12 (code_1 : Int) (R : Ending → World → Prop) (w : World) : Prop :=
 let K4 : Bool → World → Prop := fun (x2 : Bool) (w3 : World) => 
 R (.returned (.bool x2)) w3
 ifB (decide ((code_1 : Int) ≥ 1)) (
 K4 (decide ((code_1 : Int) ≤ 4)) w) (
 R (.returned (.bool false)) w)
set_option maxRecDepth 100000 in
theorem sh12_ok (code_1 : Int) {R : Ending → World → Prop} {w : World} : sh12 code_1 R w → Calls Tryz.prog 12 #[.int .u8 code_1] w R :=
  calls_of_eq (ann := fun _ => []) (fn := Tryz.f12) (c := bodyOf Tryz.f12) (args := #[.int .u8 code_1]) 400 follows_mixed Tryz.func12 (by kernel_rfl) (by kernel_rfl)
set_option maxRecDepth 100000 in
/-- joinery/joinerylaw09.Make -/
def sh15 (l_p1 : Option Addr) (l_n2 : Nat) (l_c3 : Nat) (R : Ending → World → Prop) (w : World) : Prop :=
 ifB ((((l_n2 : Nat) : Int) : Int) == 0) (
 R (.returned (.pointer none)) w) (
 doCall Tryz.prog (.func (.func 64) #[] #[]) #[.slice l_p1 l_n2 l_c3] w (retS (fun v17 w18 => ∃ (x4 : Int), ∃ (x5 : Int), ∃ (x6 : Int), ∃ (x7 : Int), ∃ (x8 : Int), ∃ (x9 : Bool), ∃ (x10 : Bool), ∃ (xp11 : Option Addr), ∃ (xn12 : Nat), ∃ (xc13 : Nat), ∃ (xp14 : Option Addr), ∃ (xn15 : Nat), ∃ (xc16 : Nat), v17 = (.tuple #[.agg #[.int .i64 x4, .int .i64 x5, .int .i64 x6, .int .i64 x7, .int .u64 x8, .bool x9, .bool x10], .slice xp11 xn12 xc13, .slice xp14 xn15 xc16] : Value) ∧ (
 doAl (.cells #[.int .i64 0, .int .i64 0, .int .i64 0, .int .i64 0, .int .u64 0, .bool false, .bool false] 97) w18 (fun b19 w20 =>
 doSt ((blk b19).add 0) (.int .i64 x4) w20 (fun w21 =>
 doSt ((blk b19).add 1) (.int .i64 x5) w21 (fun w22 =>
 doSt ((blk b19).add 2) (.int .i64 x6) w22 (fun w23 =>
 doSt ((blk b19).add 3) (.int .i64 x7) w23 (fun w24 =>
 doSt ((blk b19).add 4) (.int .u64 x8) w24 (fun w25 =>
 doSt ((blk b19).add 5) (.bool x9) w25 (fun w26 =>
 doSt ((blk b19).add 6) (.bool x10) w26 (fun w27 =>
 doDr w27 (fun w29 =>
 ∃ (C28 : World → Prop), C28 w29 ∧ (
 ∃ (x30 : Int), (∀ w, C28 w → World.cell? w ((blk b19).add 0) = some (.int .i64 x30)) ∧ (
 ∃ (x31 : Int), (∀ w, C28 w → World.cell? w ((blk b19).add 1) = some (.int .i64 x31)) ∧ (
 ∃ (x32 : Int), (∀ w, C28 w → World.cell? w ((blk b19).add 4) = some (.int .u64 x32)) ∧ (
 doCall Tryz.prog (.func (.func 15) #[] #[]) #[.slice xp11 xn12 xc13] w29 (retS (fun v34 w35 => ∃ (x33 : Option Addr), v34 = (.pointer x33 : Value) ∧ (
 C28 w35 ∧ (
 doCall Tryz.prog (.func (.func 15) #[] #[]) #[.slice xp14 xn15 xc16] w35 (retS (fun v37 w38 => ∃ (x36 : Option Addr), v37 = (.pointer x36 : Value) ∧ (
 C28 w38 ∧ (
 doCall Tryz.prog (.func (.func 60) #[] #[]) #[.pointer x33, .int .i64 x30, .int .i64 x31, .int .u64 x32, .pointer x36] w38 (retS (fun v40 w41 => ∃ (x39 : Option Addr), v40 = (.pointer x39 : Value) ∧ (
 R (.returned (.pointer x39)) w41)) (fun ch w => Kfn R ch [] w))))) (fun ch w => Kfn R ch [] w))))) (fun ch w => Kfn R ch [] w))))))))))))))))) (fun ch w => Kfn R ch [] w)))
set_option maxRecDepth 100000 in
theorem sh15_ok (l_p1 : Option Addr) (l_n2 : Nat) (l_c3 : Nat) {R : Ending → World → Prop} {w : World} : sh15 l_p1 l_n2 l_c3 R w → Calls Tryz.prog 15 #[.slice l_p1 l_n2 l_c3] w R :=
  calls_of_eq (ann := fun _ => []) (fn := Tryz.f15) (c := bodyOf Tryz.f15) (args := #[.slice l_p1 l_n2 l_c3]) 400 follows_mixed Tryz.func15 (by kernel_rfl) (by kernel_rfl)
set_option maxRecDepth 100000 in
/-- joinery/joineryref22.Items -/
def sh16 (code_1 : Int) (l_p2 : Option Addr) (l_n3 : Nat) (l_c4 : Nat) (R : Ending → World → Prop) (w : World) : Prop :=
 doCall Tryz.prog (.func (.func 40) #[] #[]) #[.slice l_p2 l_n3 l_c4] w (retS (fun v8 w9 => ∃ (xp5 : Option Addr), ∃ (xn6 : Nat), ∃ (xc7 : Nat), v8 = (.slice xp5 xn6 xc7 : Value) ∧ (
 let K11 : World → Prop := fun (w10 : World) => 
 R (.returned (.slice xp5 xn6 xc7)) w10
 ifB ((code_1 : Int) != 4) (
 ∃ (I12 : List Value → World → Prop) (μ13 : List Value → World → Nat), I12 [.int .i64 0] w9 ∧ (∀ (i_16 : Int), ∀ (_j14 : Nat → Value) (w15 : World), I12 [.int .i64 i_16] w15 → (
 ifB (decide ((i_16 : Int) < ((xn6 : Nat) : Int))) (
 doIx xp5 xn6 3 (i_16) (fun a17 =>
 doSt ((a17.add 2).add 0) (.int .u64 0) w15 (fun w18 =>
 I12 [.int .i64 (IntKind.wrap .i64 (i_16 + 1))] w18 ∧ μ13 [.int .i64 (IntKind.wrap .i64 (i_16 + 1))] w18 < μ13 [.int .i64 i_16] w15))) (
 K11 w15)))) (
 K11 w9))) (fun ch w => Kfn R ch [] w))
set_option maxRecDepth 100000 in
theorem sh16_ok (code_1 : Int) (l_p2 : Option Addr) (l_n3 : Nat) (l_c4 : Nat) {R : Ending → World → Prop} {w : World} : sh16 code_1 l_p2 l_n3 l_c4 R w → Calls Tryz.prog 16 #[.int .u8 code_1, .slice l_p2 l_n3 l_c4] w R :=
  calls_of_eq (ann := fun i => if i = 0 then [(6, .int .i64 0)] else []) (fn := Tryz.f16) (c := bodyOf Tryz.f16) (args := #[.int .u8 code_1, .slice l_p2 l_n3 l_c4]) 400 follows_mixed Tryz.func16 (by kernel_rfl) (by kernel_rfl)
set_option maxRecDepth 100000 in
/-- joinery/meet.Meet -/
def sh17 (s_1 : Option Addr) (o_2 : Int) (p_3 : Int) (a_4 : Option Addr) (b_5 : Option Addr) (R : Ending → World → Prop) (w : World) : Prop :=
 doAl (.cells #[.int .u8 p_3] 5) w (fun b6 w7 =>
 ∃ (x8 : Int), World.cell? w7 (blk b6) = some (.int .u8 x8) ∧ (
 doCall Tryz.prog (.func (.func 65) #[] #[]) #[.int .u8 x8] w7 (retS (fun v10 w11 => ∃ (x9 : Bool), v10 = (.bool x9 : Value) ∧ (
 ifB (!x9) (
 R (.returned (.tuple #[.pointer none, .int .i64 2])) w11) (
 doCall Tryz.prog (.func (.func 69) #[] #[]) #[.agg #[.func (.func 66) #[] #[], .func (.func 66) #[] #[], .func (.func 67) #[] #[.pointer (some (blk b6))]], .pointer s_1, .int .u8 o_2, .pointer a_4, .pointer b_5] w11 (retS (fun v14 w15 => ∃ (x12 : Option Addr), ∃ (x13 : Int), v14 = (.tuple #[.pointer x12, .int .i64 x13] : Value) ∧ (
 R (.returned (.tuple #[.pointer x12, .int .i64 x13])) w15)) (fun ch w => Kfn R ch [] w))))) (fun ch w => Kfn R ch [] w))))
set_option maxRecDepth 100000 in
theorem sh17_ok (s_1 : Option Addr) (o_2 : Int) (p_3 : Int) (a_4 : Option Addr) (b_5 : Option Addr) {R : Ending → World → Prop} {w : World} : sh17 s_1 o_2 p_3 a_4 b_5 R w → Calls Tryz.prog 17 #[.pointer s_1, .int .u8 o_2, .int .u8 p_3, .pointer a_4, .pointer b_5] w R :=
  calls_of_eq (ann := fun _ => []) (fn := Tryz.f17) (c := bodyOf Tryz.f17) (args := #[.pointer s_1, .int .u8 o_2, .int .u8 p_3, .pointer a_4, .pointer b_5]) 400 follows_mixed Tryz.func17 (by kernel_rfl) (by kernel_rfl)
set_option maxRecDepth 100000 in
/-- joinery/meet.Less -/
def sh18 (s_1 : Option Addr) (o_2 : Int) (a_3 : Option Addr) (b_4 : Option Addr) (R : Ending → World → Prop) (w : World) : Prop :=
 doCall Tryz.prog (.func (.func 69) #[] #[]) #[.agg #[.func (.func 70) #[.pointer s_1] #[], .func (.func 66) #[] #[], .func (.func 71) #[] #[]], .pointer s_1, .int .u8 o_2, .pointer a_3, .pointer b_4] w (retS (fun v7 w8 => ∃ (x5 : Option Addr), ∃ (x6 : Int), v7 = (.tuple #[.pointer x5, .int .i64 x6] : Value) ∧ (
 R (.returned (.tuple #[.pointer x5, .int .i64 x6])) w8)) (fun ch w => Kfn R ch [] w))
set_option maxRecDepth 100000 in
theorem sh18_ok (s_1 : Option Addr) (o_2 : Int) (a_3 : Option Addr) (b_4 : Option Addr) {R : Ending → World → Prop} {w : World} : sh18 s_1 o_2 a_3 b_4 R w → Calls Tryz.prog 18 #[.pointer s_1, .int .u8 o_2, .pointer a_3, .pointer b_4] w R :=
  calls_of_eq (ann := fun _ => []) (fn := Tryz.f18) (c := bodyOf Tryz.f18) (args := #[.pointer s_1, .int .u8 o_2, .pointer a_3, .pointer b_4]) 400 follows_mixed Tryz.func18 (by kernel_rfl) (by kernel_rfl)
set_option maxRecDepth 100000 in
/-- joinery/meet.Apart -/
def sh19 (s_1 : Option Addr) (o_2 : Int) (a_3 : Option Addr) (b_4 : Option Addr) (R : Ending → World → Prop) (w : World) : Prop :=
 doCall Tryz.prog (.func (.func 69) #[] #[]) #[.agg #[.func (.func 70) #[.pointer s_1] #[], .func (.func 70) #[.pointer s_1] #[], .func (.func 71) #[] #[]], .pointer s_1, .int .u8 o_2, .pointer a_3, .pointer b_4] w (retS (fun v7 w8 => ∃ (x5 : Option Addr), ∃ (x6 : Int), v7 = (.tuple #[.pointer x5, .int .i64 x6] : Value) ∧ (
 R (.returned (.tuple #[.pointer x5, .int .i64 x6])) w8)) (fun ch w => Kfn R ch [] w))
set_option maxRecDepth 100000 in
theorem sh19_ok (s_1 : Option Addr) (o_2 : Int) (a_3 : Option Addr) (b_4 : Option Addr) {R : Ending → World → Prop} {w : World} : sh19 s_1 o_2 a_3 b_4 R w → Calls Tryz.prog 19 #[.pointer s_1, .int .u8 o_2, .pointer a_3, .pointer b_4] w R :=
  calls_of_eq (ann := fun _ => []) (fn := Tryz.f19) (c := bodyOf Tryz.f19) (args := #[.pointer s_1, .int .u8 o_2, .pointer a_3, .pointer b_4]) 400 follows_mixed Tryz.func19 (by kernel_rfl) (by kernel_rfl)
set_option maxRecDepth 100000 in
/-- joinery/meet.Within -/
def sh20 (s_1 : Option Addr) (o_2 : Int) (a_3 : Option Addr) (b_4 : Option Addr) (R : Ending → World → Prop) (w : World) : Prop :=
 doCall Tryz.prog (.func (.func 18) #[] #[]) #[.pointer s_1, .int .u8 o_2, .pointer a_3, .pointer b_4] w (retS (fun v7 w8 => ∃ (x5 : Option Addr), ∃ (x6 : Int), v7 = (.tuple #[.pointer x5, .int .i64 x6] : Value) ∧ (
 let K11 : Bool → World → Prop := fun (x9 : Bool) (w10 : World) => 
 R (.returned (.tuple #[.bool x9, .int .i64 x6])) w10
 ifB ((x6 : Int) == 0) (
 K11 ((x5).isNone) w8) (
 R (.returned (.tuple #[.bool false, .int .i64 x6])) w8))) (fun ch w => Kfn R ch [] w))
set_option maxRecDepth 100000 in
theorem sh20_ok (s_1 : Option Addr) (o_2 : Int) (a_3 : Option Addr) (b_4 : Option Addr) {R : Ending → World → Prop} {w : World} : sh20 s_1 o_2 a_3 b_4 R w → Calls Tryz.prog 20 #[.pointer s_1, .int .u8 o_2, .pointer a_3, .pointer b_4] w R :=
  calls_of_eq (ann := fun _ => []) (fn := Tryz.f20) (c := bodyOf Tryz.f20) (args := #[.pointer s_1, .int .u8 o_2, .pointer a_3, .pointer b_4]) 400 follows_mixed Tryz.func20 (by kernel_rfl) (by kernel_rfl)
set_option maxRecDepth 100000 in
/-- joinery/joineryref29.Within -/
def sh21 (a_p1 : Option Addr) (a_n2 : Nat) (a_c3 : Nat) (b_p4 : Option Addr) (b_n5 : Nat) (b_c6 : Nat) (R : Ending → World → Prop) (w : World) : Prop :=
 doCall Tryz.prog (.func (.func 24) #[] #[]) #[.slice a_p1 a_n2 a_c3, .slice b_p4 b_n5 b_c6] w (retS (fun v10 w11 => ∃ (xp7 : Option Addr), ∃ (xn8 : Nat), ∃ (xc9 : Nat), v10 = (.slice xp7 xn8 xc9 : Value) ∧ (
 R (.returned (.bool ((((xn8 : Nat) : Int) : Int) == 0))) w11)) (fun ch w => Kfn R ch [] w))
set_option maxRecDepth 100000 in
theorem sh21_ok (a_p1 : Option Addr) (a_n2 : Nat) (a_c3 : Nat) (b_p4 : Option Addr) (b_n5 : Nat) (b_c6 : Nat) {R : Ending → World → Prop} {w : World} : sh21 a_p1 a_n2 a_c3 b_p4 b_n5 b_c6 R w → Calls Tryz.prog 21 #[.slice a_p1 a_n2 a_c3, .slice b_p4 b_n5 b_c6] w R :=
  calls_of_eq (ann := fun _ => []) (fn := Tryz.f21) (c := bodyOf Tryz.f21) (args := #[.slice a_p1 a_n2 a_c3, .slice b_p4 b_n5 b_c6]) 400 follows_mixed Tryz.func21 (by kernel_rfl) (by kernel_rfl)
set_option maxRecDepth 100000 in
/-- joinery/joinerylaw23.Has -/
def sh22 (code_1 : Int) (t_2 : Option Addr) (l_p3 : Option Addr) (l_n4 : Nat) (l_c5 : Nat) (R : Ending → World → Prop) (w : World) : Prop :=
 doCall Tryz.prog (.func (.func 72) #[] #[]) #[.pointer t_2] w (retS (fun v10 w11 => ∃ (xp6 : Option Addr), ∃ (xn7 : Nat), ∃ (xc8 : Nat), ∃ (x9 : Bool), v10 = (.tuple #[.slice xp6 xn7 xc8, .bool x9] : Value) ∧ (
 let K14 : Bool → World → Prop := fun (x12 : Bool) (w13 : World) => 
 R (.returned (.bool x12)) w13
 ifB x9 (
 doCall Tryz.prog (.func (.func 73) #[] #[]) #[.int .u8 code_1, .slice xp6 xn7 xc8, .slice l_p3 l_n4 l_c5] w11 (retS (fun v16 w17 => ∃ (x15 : Bool), v16 = (.bool x15 : Value) ∧ (
 K14 x15 w17)) (fun ch w => Kfn R ch [] w))) (
 R (.returned (.bool false)) w11))) (fun ch w => Kfn R ch [] w))
set_option maxRecDepth 100000 in
theorem sh22_ok (code_1 : Int) (t_2 : Option Addr) (l_p3 : Option Addr) (l_n4 : Nat) (l_c5 : Nat) {R : Ending → World → Prop} {w : World} : sh22 code_1 t_2 l_p3 l_n4 l_c5 R w → Calls Tryz.prog 22 #[.int .u8 code_1, .pointer t_2, .slice l_p3 l_n4 l_c5] w R :=
  calls_of_eq (ann := fun _ => []) (fn := Tryz.f22) (c := bodyOf Tryz.f22) (args := #[.int .u8 code_1, .pointer t_2, .slice l_p3 l_n4 l_c5]) 400 follows_mixed Tryz.func22 (by kernel_rfl) (by kernel_rfl)
set_option maxRecDepth 100000 in
/-- joinery/joineryref29.Meet -/
def sh23 (p_1 : Int) (a_p2 : Option Addr) (a_n3 : Nat) (_a_c4 : Nat) (b_p5 : Option Addr) (b_n6 : Nat) (b_c7 : Nat) (R : Ending → World → Prop) (w : World) : Prop :=
 ∃ (I8 : List Value → World → Prop) (μ9 : List Value → World → Nat), I8 [.slice none 0 0, .int .i64 0] w ∧ (∀ (out_p12 : Option Addr), ∀ (out_n13 : Nat), ∀ (out_c14 : Nat), ∀ (i_15 : Int), ∀ (_j10 : Nat → Value) (w11 : World), I8 [.slice out_p12 out_n13 out_c14, .int .i64 i_15] w11 → (
 ifB (decide ((i_15 : Int) < ((a_n3 : Nat) : Int))) (
 let K20 : (Option Addr) → Nat → Nat → World → Prop := fun (out_p16 : Option Addr) (out_n17 : Nat) (out_c18 : Nat) (w19 : World) => 
 I8 [.slice out_p16 out_n17 out_c18, .int .i64 (IntKind.wrap .i64 (i_15 + 1))] w19 ∧ μ9 [.slice out_p16 out_n17 out_c18, .int .i64 (IntKind.wrap .i64 (i_15 + 1))] w19 < μ9 [.slice out_p12 out_n13 out_c14, .int .i64 i_15] w11
 doIx a_p2 a_n3 3 (i_15) (fun a21 =>
 ∃ (x22 : Int), World.cell? w11 (a21.add 0) = some (.int .i64 x22) ∧ (
 doCall Tryz.prog (.func (.func 74) #[] #[]) #[.slice b_p5 b_n6 b_c7, .int .i64 x22] w11 (retS (fun v27 w28 => ∃ (x23 : Int), ∃ (x24 : Int), ∃ (x25 : Int), ∃ (x26 : Bool), v27 = (.tuple #[.agg #[.int .i64 x23, .int .i64 x24, .int .u64 x25], .bool x26] : Value) ∧ (
 doAl (.cells #[.int .i64 0, .int .i64 0, .int .u64 0] 93) w28 (fun b29 w30 =>
 doSt ((blk b29).add 0) (.int .i64 x23) w30 (fun w31 =>
 doSt ((blk b29).add 1) (.int .i64 x24) w31 (fun w32 =>
 doSt ((blk b29).add 2) (.int .u64 x25) w32 (fun w33 =>
 ifB x26 (
 doDr w33 (fun w35 =>
 ∃ (C34 : World → Prop), C34 w35 ∧ (
 doIx a_p2 a_n3 3 (i_15) (fun a36 =>
 ∃ (x37 : Int), (∀ w, C34 w → World.cell? w (a36.add 0) = some (.int .i64 x37)) ∧ (
 doIx a_p2 a_n3 3 (i_15) (fun a38 =>
 ∃ (x39 : Int), (∀ w, C34 w → World.cell? w (a38.add 1) = some (.int .i64 x39)) ∧ (
 ∃ (x40 : Int), (∀ w, C34 w → World.cell? w ((blk b29).add 1) = some (.int .i64 x40)) ∧ (
 doIx a_p2 a_n3 3 (i_15) (fun a41 =>
 ∃ (x42 : Int), (∀ w, C34 w → World.cell? w (a41.add 2) = some (.int .u64 x42)) ∧ (
 doCall Tryz.prog (.func (.func 75) #[] #[]) #[.int .u8 p_1, .int .i64 x39, .int .i64 x40] w35 (retS (fun v44 w45 => ∃ (x43 : Int), v44 = (.int .i64 x43 : Value) ∧ (
 C34 w45 ∧ (
 doAl (.cells #[.int .i64 x37, .int .i64 x43, .int .u64 x42] 93) w45 (fun b46 w47 =>
 C34 w47 ∧ (
 doGo Tryz.prog (.builtin .append #[32, 32] 32 #[false, false]) #[.slice out_p12 out_n13 out_c14, .slice (some (blk b46)) 1 1] w47 (retS (fun v51 w52 => ∃ (xp48 : Option Addr), ∃ (xn49 : Nat), ∃ (xc50 : Nat), v51 = (.slice xp48 xn49 xc50 : Value) ∧ (
 C34 w52 ∧ (
 K20 xp48 xn49 xc50 w52))) (fun ch w => Kfn R ch [] w))))))) (fun ch w => Kfn R ch [] w)))))))))))) (
 K20 out_p12 out_n13 out_c14 w33))))))) (fun ch w => Kfn R ch [] w))))) (
 R (.returned (.slice out_p12 out_n13 out_c14)) w11)))
set_option maxRecDepth 100000 in
theorem sh23_ok (p_1 : Int) (a_p2 : Option Addr) (a_n3 : Nat) (a_c4 : Nat) (b_p5 : Option Addr) (b_n6 : Nat) (b_c7 : Nat) {R : Ending → World → Prop} {w : World} : sh23 p_1 a_p2 a_n3 a_c4 b_p5 b_n6 b_c7 R w → Calls Tryz.prog 23 #[.int .u8 p_1, .slice a_p2 a_n3 a_c4, .slice b_p5 b_n6 b_c7] w R :=
  calls_of_eq (ann := fun i => if i = 0 then [(7, .slice none 0 0), (8, .int .i64 0)] else []) (fn := Tryz.f23) (c := bodyOf Tryz.f23) (args := #[.int .u8 p_1, .slice a_p2 a_n3 a_c4, .slice b_p5 b_n6 b_c7]) 400 follows_mixed Tryz.func23 (by kernel_rfl) (by kernel_rfl)
set_option maxRecDepth 100000 in
/-- joinery/joineryref29.Less -/
def sh24 (a_p1 : Option Addr) (a_n2 : Nat) (_a_c3 : Nat) (b_p4 : Option Addr) (b_n5 : Nat) (b_c6 : Nat) (R : Ending → World → Prop) (w : World) : Prop :=
 ∃ (I7 : List Value → World → Prop) (μ8 : List Value → World → Nat), I7 [.slice none 0 0, .int .i64 0] w ∧ (∀ (out_p11 : Option Addr), ∀ (out_n12 : Nat), ∀ (out_c13 : Nat), ∀ (i_14 : Int), ∀ (_j9 : Nat → Value) (w10 : World), I7 [.slice out_p11 out_n12 out_c13, .int .i64 i_14] w10 → (
 ifB (decide ((i_14 : Int) < ((a_n2 : Nat) : Int))) (
 let K19 : (Option Addr) → Nat → Nat → World → Prop := fun (out_p15 : Option Addr) (out_n16 : Nat) (out_c17 : Nat) (w18 : World) => 
 I7 [.slice out_p15 out_n16 out_c17, .int .i64 (IntKind.wrap .i64 (i_14 + 1))] w18 ∧ μ8 [.slice out_p15 out_n16 out_c17, .int .i64 (IntKind.wrap .i64 (i_14 + 1))] w18 < μ8 [.slice out_p11 out_n12 out_c13, .int .i64 i_14] w10
 doIx a_p1 a_n2 3 (i_14) (fun a20 =>
 ∃ (x21 : Int), World.cell? w10 (a20.add 0) = some (.int .i64 x21) ∧ (
 doCall Tryz.prog (.func (.func 74) #[] #[]) #[.slice b_p4 b_n5 b_c6, .int .i64 x21] w10 (retS (fun v26 w27 => ∃ (x22 : Int), ∃ (x23 : Int), ∃ (x24 : Int), ∃ (x25 : Bool), v26 = (.tuple #[.agg #[.int .i64 x22, .int .i64 x23, .int .u64 x24], .bool x25] : Value) ∧ (
 doAl (.cells #[.int .i64 0, .int .i64 0, .int .u64 0] 93) w27 (fun b28 w29 =>
 doSt ((blk b28).add 0) (.int .i64 x22) w29 (fun w30 =>
 doSt ((blk b28).add 1) (.int .i64 x23) w30 (fun w31 =>
 doSt ((blk b28).add 2) (.int .u64 x24) w31 (fun w32 =>
 ifB (!x25) (
 doIx a_p1 a_n2 3 (i_14) (fun a33 =>
 ∃ (x34 : Int), World.cell? w32 (a33.add 0) = some (.int .i64 x34) ∧ (
 ∃ (x35 : Int), World.cell? w32 (a33.add 1) = some (.int .i64 x35) ∧ (
 ∃ (x36 : Int), World.cell? w32 (a33.add 2) = some (.int .u64 x36) ∧ (
 doAl (.cells #[.int .i64 x34, .int .i64 x35, .int .u64 x36] 93) w32 (fun b37 w38 =>
 doGo Tryz.prog (.builtin .append #[32, 32] 32 #[false, false]) #[.slice out_p11 out_n12 out_c13, .slice (some (blk b37)) 1 1] w38 (retS (fun v42 w43 => ∃ (xp39 : Option Addr), ∃ (xn40 : Nat), ∃ (xc41 : Nat), v42 = (.slice xp39 xn40 xc41 : Value) ∧ (
 K19 xp39 xn40 xc41 w43)) (fun ch w => Kfn R ch [] w)))))))) (
 K19 out_p11 out_n12 out_c13 w32))))))) (fun ch w => Kfn R ch [] w))))) (
 R (.returned (.slice out_p11 out_n12 out_c13)) w10)))
set_option maxRecDepth 100000 in
theorem sh24_ok (a_p1 : Option Addr) (a_n2 : Nat) (a_c3 : Nat) (b_p4 : Option Addr) (b_n5 : Nat) (b_c6 : Nat) {R : Ending → World → Prop} {w : World} : sh24 a_p1 a_n2 a_c3 b_p4 b_n5 b_c6 R w → Calls Tryz.prog 24 #[.slice a_p1 a_n2 a_c3, .slice b_p4 b_n5 b_c6] w R :=
  calls_of_eq (ann := fun i => if i = 0 then [(5, .slice none 0 0), (6, .int .i64 0)] else []) (fn := Tryz.f24) (c := bodyOf Tryz.f24) (args := #[.slice a_p1 a_n2 a_c3, .slice b_p4 b_n5 b_c6]) 400 follows_mixed Tryz.func24 (by kernel_rfl) (by kernel_rfl)
set_option maxRecDepth 100000 in
/-- joinery/joineryref29.Apart -/
def sh25 (o_1 : Int) (a_p2 : Option Addr) (a_n3 : Nat) (a_c4 : Nat) (b_p5 : Option Addr) (b_n6 : Nat) (b_c7 : Nat) (R : Ending → World → Prop) (w : World) : Prop :=
 doCall Tryz.prog (.func (.func 24) #[] #[]) #[.slice a_p2 a_n3 a_c4, .slice b_p5 b_n6 b_c7] w (retS (fun v11 w12 => ∃ (xp8 : Option Addr), ∃ (xn9 : Nat), ∃ (xc10 : Nat), v11 = (.slice xp8 xn9 xc10 : Value) ∧ (
 doCall Tryz.prog (.func (.func 24) #[] #[]) #[.slice b_p5 b_n6 b_c7, .slice a_p2 a_n3 a_c4] w12 (retS (fun v16 w17 => ∃ (xp13 : Option Addr), ∃ (xn14 : Nat), ∃ (xc15 : Nat), v16 = (.slice xp13 xn14 xc15 : Value) ∧ (
 ∃ (I18 : List Value → World → Prop) (μ19 : List Value → World → Nat), I18 [.slice xp8 xn9 xc10, .int .i64 0] w17 ∧ (∀ (out_p22 : Option Addr), ∀ (out_n23 : Nat), ∀ (out_c24 : Nat), ∀ (i_25 : Int), ∀ (_j20 : Nat → Value) (w21 : World), I18 [.slice out_p22 out_n23 out_c24, .int .i64 i_25] w21 → (
 ifB (decide ((i_25 : Int) < ((xn14 : Nat) : Int))) (
 doIx xp13 xn14 3 (i_25) (fun a26 =>
 ∃ (x27 : Int), World.cell? w21 (a26.add 0) = some (.int .i64 x27) ∧ (
 ∃ (x28 : Int), World.cell? w21 (a26.add 1) = some (.int .i64 x28) ∧ (
 ∃ (x29 : Int), World.cell? w21 (a26.add 2) = some (.int .u64 x29) ∧ (
 doCall Tryz.prog (.func (.func 76) #[] #[]) #[.int .u8 o_1, .int .u8 1, .slice out_p22 out_n23 out_c24, .agg #[.int .i64 x27, .int .i64 x28, .int .u64 x29]] w21 (retS (fun v35 w36 => ∃ (xp30 : Option Addr), ∃ (xn31 : Nat), ∃ (xc32 : Nat), ∃ (x33 : Int), ∃ (x34 : Bool), v35 = (.tuple #[.slice xp30 xn31 xc32, .int .i64 x33, .bool x34] : Value) ∧ (
 I18 [.slice xp30 xn31 xc32, .int .i64 (IntKind.wrap .i64 (i_25 + 1))] w36 ∧ μ19 [.slice xp30 xn31 xc32, .int .i64 (IntKind.wrap .i64 (i_25 + 1))] w36 < μ19 [.slice out_p22 out_n23 out_c24, .int .i64 i_25] w21)) (fun ch w => Kfn R ch [] w))))))) (
 R (.returned (.slice out_p22 out_n23 out_c24)) w21))))) (fun ch w => Kfn R ch [] w)))) (fun ch w => Kfn R ch [] w))
set_option maxRecDepth 100000 in
theorem sh25_ok (o_1 : Int) (a_p2 : Option Addr) (a_n3 : Nat) (a_c4 : Nat) (b_p5 : Option Addr) (b_n6 : Nat) (b_c7 : Nat) {R : Ending → World → Prop} {w : World} : sh25 o_1 a_p2 a_n3 a_c4 b_p5 b_n6 b_c7 R w → Calls Tryz.prog 25 #[.int .u8 o_1, .slice a_p2 a_n3 a_c4, .slice b_p5 b_n6 b_c7] w R :=
  calls_of_eq (ann := fun i => if i = 0 then [(7, .slice none 0 0), (9, .int .i64 0)] else []) (fn := Tryz.f25) (c := bodyOf Tryz.f25) (args := #[.int .u8 o_1, .slice a_p2 a_n3 a_c4, .slice b_p5 b_n6 b_c7]) 400 follows_mixed Tryz.func25 (by kernel_rfl) (by kernel_rfl)
set_option maxRecDepth 100000 in
/-- joinery/joinerylaw09.Is -/
def sh26 (t_1 : Option Addr) (l_p2 : Option Addr) (l_n3 : Nat) (l_c4 : Nat) (R : Ending → World → Prop) (w : World) : Prop :=
 doCall Tryz.prog (.func (.func 72) #[] #[]) #[.pointer t_1] w (retS (fun v9 w10 => ∃ (xp5 : Option Addr), ∃ (xn6 : Nat), ∃ (xc7 : Nat), ∃ (x8 : Bool), v9 = (.tuple #[.slice xp5 xn6 xc7, .bool x8] : Value) ∧ (
 let K13 : Bool → World → Prop := fun (x11 : Bool) (w12 : World) => 
 R (.returned (.bool x11)) w12
 ifB x8 (
 doCall Tryz.prog (.func (.func 77) #[] #[]) #[.slice xp5 xn6 xc7, .slice l_p2 l_n3 l_c4] w10 (retS (fun v15 w16 => ∃ (x14 : Bool), v15 = (.bool x14 : Value) ∧ (
 K13 x14 w16)) (fun ch w => Kfn R ch [] w))) (
 R (.returned (.bool false)) w10))) (fun ch w => Kfn R ch [] w))
set_option maxRecDepth 100000 in
theorem sh26_ok (t_1 : Option Addr) (l_p2 : Option Addr) (l_n3 : Nat) (l_c4 : Nat) {R : Ending → World → Prop} {w : World} : sh26 t_1 l_p2 l_n3 l_c4 R w → Calls Tryz.prog 26 #[.pointer t_1, .slice l_p2 l_n3 l_c4] w R :=
  calls_of_eq (ann := fun _ => []) (fn := Tryz.f26) (c := bodyOf Tryz.f26) (args := #[.pointer t_1, .slice l_p2 l_n3 l_c4]) 400 follows_mixed Tryz.func26 (by kernel_rfl) (by kernel_rfl)
set_option maxRecDepth 100000 in
/-- joinery/joineryref09.Of -/
def sh27 (l_p1 : Option Addr) (l_n2 : Nat) (l_c3 : Nat) (R : Ending → World → Prop) (w : World) : Prop :=
 ifB ((((l_n2 : Nat) : Int) : Int) == 0) (
 R (.returned (.slice none 0 0)) w) (
 doCall Tryz.prog (.func (.func 64) #[] #[]) #[.slice l_p1 l_n2 l_c3] w (retS (fun v17 w18 => ∃ (x4 : Int), ∃ (x5 : Int), ∃ (x6 : Int), ∃ (x7 : Int), ∃ (x8 : Int), ∃ (x9 : Bool), ∃ (x10 : Bool), ∃ (xp11 : Option Addr), ∃ (xn12 : Nat), ∃ (xc13 : Nat), ∃ (xp14 : Option Addr), ∃ (xn15 : Nat), ∃ (xc16 : Nat), v17 = (.tuple #[.agg #[.int .i64 x4, .int .i64 x5, .int .i64 x6, .int .i64 x7, .int .u64 x8, .bool x9, .bool x10], .slice xp11 xn12 xc13, .slice xp14 xn15 xc16] : Value) ∧ (
 doAl (.cells #[.int .i64 0, .int .i64 0, .int .i64 0, .int .i64 0, .int .u64 0, .bool false, .bool false] 97) w18 (fun b19 w20 =>
 doSt ((blk b19).add 0) (.int .i64 x4) w20 (fun w21 =>
 doSt ((blk b19).add 1) (.int .i64 x5) w21 (fun w22 =>
 doSt ((blk b19).add 2) (.int .i64 x6) w22 (fun w23 =>
 doSt ((blk b19).add 3) (.int .i64 x7) w23 (fun w24 =>
 doSt ((blk b19).add 4) (.int .u64 x8) w24 (fun w25 =>
 doSt ((blk b19).add 5) (.bool x9) w25 (fun w26 =>
 doSt ((blk b19).add 6) (.bool x10) w26 (fun w27 =>
 doSt (((blk b19).add 3).add 0) (.int .i64 ((l_n2 : Nat) : Int)) w27 (fun w28 =>
 doCall Tryz.prog (.func (.func 78) #[] #[]) #[.slice l_p1 l_n2 l_c3] w28 (retS (fun v30 w31 => ∃ (x29 : Int), v30 = (.int .i64 x29 : Value) ∧ (
 doSt (((blk b19).add 2).add 0) (.int .i64 x29) w31 (fun w32 =>
 let K37 : (Option Addr) → Nat → Nat → World → Prop := fun (out_p33 : Option Addr) (out_n34 : Nat) (out_c35 : Nat) (w36 : World) => 
 doCall Tryz.prog (.func (.func 27) #[] #[]) #[.slice xp14 xn15 xc16] w36 (retS (fun v41 w42 => ∃ (xp38 : Option Addr), ∃ (xn39 : Nat), ∃ (xc40 : Nat), v41 = (.slice xp38 xn39 xc40 : Value) ∧ (
 doGo Tryz.prog (.builtin .append #[22, 22] 22 #[false, false]) #[.slice out_p33 out_n34 out_c35, .slice xp38 xn39 xc40] w42 (retS (fun v46 w47 => ∃ (xp43 : Option Addr), ∃ (xn44 : Nat), ∃ (xc45 : Nat), v46 = (.slice xp43 xn44 xc45 : Value) ∧ (
 R (.returned (.slice xp43 xn44 xc45)) w47)) (fun ch w => Kfn R ch [] w)))) (fun ch w => Kfn R ch [] w))
 doDr w32 (fun w49 =>
 ∃ (C48 : World → Prop), C48 w49 ∧ (
 ∃ (x50 : Int), (∀ w, C48 w → World.cell? w ((blk b19).add 0) = some (.int .i64 x50)) ∧ (
 ∃ (x51 : Int), (∀ w, C48 w → World.cell? w ((blk b19).add 1) = some (.int .i64 x51)) ∧ (
 ∃ (x52 : Int), (∀ w, C48 w → World.cell? w ((blk b19).add 2) = some (.int .i64 x52)) ∧ (
 ∃ (x53 : Int), (∀ w, C48 w → World.cell? w ((blk b19).add 3) = some (.int .i64 x53)) ∧ (
 ∃ (x54 : Int), (∀ w, C48 w → World.cell? w ((blk b19).add 4) = some (.int .u64 x54)) ∧ (
 ∃ (x55 : Bool), (∀ w, C48 w → World.cell? w ((blk b19).add 5) = some (.bool x55)) ∧ (
 ∃ (x56 : Bool), (∀ w, C48 w → World.cell? w ((blk b19).add 6) = some (.bool x56)) ∧ (
 (doAl (.cells #[.int .i64 x50, .int .i64 x51, .int .i64 x52, .int .i64 x53, .int .u64 x54, .bool x55, .bool x56] 97) w49 (fun b57 w58 =>
 doCall Tryz.prog (.func (.func 27) #[] #[]) #[.slice xp11 xn12 xc13] w58 (retS (fun v62 w63 => ∃ (xp59 : Option Addr), ∃ (xn60 : Nat), ∃ (xc61 : Nat), v62 = (.slice xp59 xn60 xc61 : Value) ∧ (
 C48 w63 ∧ (
 doGo Tryz.prog (.builtin .append #[22, 22] 22 #[false, false]) #[.slice (some (blk b57)) 1 1, .slice xp59 xn60 xc61] w63 (retS (fun v67 w68 => ∃ (xp64 : Option Addr), ∃ (xn65 : Nat), ∃ (xc66 : Nat), v67 = (.slice xp64 xn65 xc66 : Value) ∧ (
 C48 w68 ∧ (
 K37 xp64 xn65 xc66 w68))) (fun ch w => Kfn R ch [] w))))) (fun ch w => Kfn R ch [] w)))) ∧ (doCall Tryz.prog (.func (.func 27) #[] #[]) #[.slice xp11 xn12 xc13] w49 (retS (fun v72 w73 => ∃ (xp69 : Option Addr), ∃ (xn70 : Nat), ∃ (xc71 : Nat), v72 = (.slice xp69 xn70 xc71 : Value) ∧ (
 C48 w73 ∧ (
 doAl (.cells #[.int .i64 x50, .int .i64 x51, .int .i64 x52, .int .i64 x53, .int .u64 x54, .bool x55, .bool x56] 97) w73 (fun b74 w75 =>
 doGo Tryz.prog (.builtin .append #[22, 22] 22 #[false, false]) #[.slice (some (blk b74)) 1 1, .slice xp69 xn70 xc71] w75 (retS (fun v79 w80 => ∃ (xp76 : Option Addr), ∃ (xn77 : Nat), ∃ (xc78 : Nat), v79 = (.slice xp76 xn77 xc78 : Value) ∧ (
 C48 w80 ∧ (
 K37 xp76 xn77 xc78 w80))) (fun ch w => Kfn R ch [] w)))))) (fun ch w => Kfn R ch [] w))))))))))))))) (fun ch w => Kfn R ch [] w))))))))))))) (fun ch w => Kfn R ch [] w)))
set_option maxRecDepth 100000 in
theorem sh27_ok (l_p1 : Option Addr) (l_n2 : Nat) (l_c3 : Nat) {R : Ending → World → Prop} {w : World} : sh27 l_p1 l_n2 l_c3 R w → Calls Tryz.prog 27 #[.slice l_p1 l_n2 l_c3] w R :=
  calls_of_eq (ann := fun _ => []) (fn := Tryz.f27) (c := bodyOf Tryz.f27) (args := #[.slice l_p1 l_n2 l_c3]) 400 follows_mixed Tryz.func27 (by kernel_rfl) (by kernel_rfl)
set_option maxRecDepth 100000 in
/-- joinery/joinerylaw24.Long -/
def sh28 (code_1 : Int) (o_2 : Int) (l_p3 : Option Addr) (l_n4 : Nat) (l_c5 : Nat) (R : Ending → World → Prop) (w : World) : Prop :=
 let K8 : Bool → World → Prop := fun (x6 : Bool) (w7 : World) => 
 R (.returned (.bool x6)) w7
 doCall Tryz.prog (.func (.func 35) #[] #[]) #[.slice l_p3 l_n4 l_c5] w (retS (fun v10 w11 => ∃ (x9 : Bool), v10 = (.bool x9 : Value) ∧ (
 ifB x9 (
 R (.returned (.bool true)) w11) (
 doCall Tryz.prog (.func (.func 79) #[] #[]) #[.int .u8 code_1, .int .u8 o_2, .slice l_p3 l_n4 l_c5] w11 (retS (fun v13 w14 => ∃ (x12 : Bool), v13 = (.bool x12 : Value) ∧ (
 K8 (!x12) w14)) (fun ch w => Kfn R ch [] w))))) (fun ch w => Kfn R ch [] w))
set_option maxRecDepth 100000 in
theorem sh28_ok (code_1 : Int) (o_2 : Int) (l_p3 : Option Addr) (l_n4 : Nat) (l_c5 : Nat) {R : Ending → World → Prop} {w : World} : sh28 code_1 o_2 l_p3 l_n4 l_c5 R w → Calls Tryz.prog 28 #[.int .u8 code_1, .int .u8 o_2, .slice l_p3 l_n4 l_c5] w R :=
  calls_of_eq (ann := fun _ => []) (fn := Tryz.f28) (c := bodyOf Tryz.f28) (args := #[.int .u8 code_1, .int .u8 o_2, .slice l_p3 l_n4 l_c5]) 400 follows_mixed Tryz.func28 (by kernel_rfl) (by kernel_rfl)
end Go.Proofs.YtbaoihmffobneaaGreat

namespace Go.Proofs.YtbaoihmffobneaaGreat
open Go Go.Sh
set_option maxRecDepth 100000 in
/-- joinery/span.Range -/
def sh31 (s_1 : Option Addr) (o_2 : Int) (t_3 : Option Addr) (lo_4 : Int) (hi_5 : Int) (R : Ending → World → Prop) (w : World) : Prop :=
 doCall Tryz.prog (.func (.func 81) #[] #[]) #[.pointer s_1, .int .u8 o_2, .pointer t_3, .int .i64 lo_4, .int .i64 hi_5] w (retS (fun v10 w11 => ∃ (x6 : Option Addr), ∃ (x7 : Option Addr), ∃ (x8 : Option Addr), ∃ (x9 : Int), v10 = (.tuple #[.pointer x6, .pointer x7, .pointer x8, .int .i64 x9] : Value) ∧ (
 R (.returned (.tuple #[.pointer x7, .int .i64 x9])) w11)) (fun ch w => Kfn R ch [] w))
set_option maxRecDepth 100000 in
theorem sh31_ok (s_1 : Option Addr) (o_2 : Int) (t_3 : Option Addr) (lo_4 : Int) (hi_5 : Int) {R : Ending → World → Prop} {w : World} : sh31 s_1 o_2 t_3 lo_4 hi_5 R w → Calls Tryz.prog 31 #[.pointer s_1, .int .u8 o_2, .pointer t_3, .int .i64 lo_4, .int .i64 hi_5] w R :=
  calls_of_eq (ann := fun _ => []) (fn := Tryz.f31) (c := bodyOf Tryz.f31) (args := #[.pointer s_1, .int .u8 o_2, .pointer t_3, .int .i64 lo_4, .int .i64 hi_5]) 400 follows_mixed Tryz.func31 (by kernel_rfl) (by kernel_rfl)
set_option maxRecDepth 100000 in
/-- joinery/span.Without -/
def sh32 (s_1 : Option Addr) (o_2 : Int) (t_3 : Option Addr) (lo_4 : Int) (hi_5 : Int) (R : Ending → World → Prop) (w : World) : Prop :=
 doCall Tryz.prog (.func (.func 81) #[] #[]) #[.pointer s_1, .int .u8 o_2, .pointer t_3, .int .i64 lo_4, .int .i64 hi_5] w (retS (fun v10 w11 => ∃ (x6 : Option Addr), ∃ (x7 : Option Addr), ∃ (x8 : Option Addr), ∃ (x9 : Int), v10 = (.tuple #[.pointer x6, .pointer x7, .pointer x8, .int .i64 x9] : Value) ∧ (
 ifB ((x9 : Int) != 0) (
 R (.returned (.tuple #[.pointer none, .int .i64 x9])) w11) (
 doCall Tryz.prog (.func (.func 63) #[] #[]) #[.pointer s_1, .pointer x6, .pointer x8] w11 (retS (fun v13 w14 => ∃ (x12 : Option Addr), v13 = (.pointer x12 : Value) ∧ (
 R (.returned (.tuple #[.pointer x12, .int .i64 x9])) w14)) (fun ch w => Kfn R ch [] w))))) (fun ch w => Kfn R ch [] w))
set_option maxRecDepth 100000 in
theorem sh32_ok (s_1 : Option Addr) (o_2 : Int) (t_3 : Option Addr) (lo_4 : Int) (hi_5 : Int) {R : Ending → World → Prop} {w : World} : sh32 s_1 o_2 t_3 lo_4 hi_5 R w → Calls Tryz.prog 32 #[.pointer s_1, .int .u8 o_2, .pointer t_3, .int .i64 lo_4, .int .i64 hi_5] w R :=
  calls_of_eq (ann := fun _ => []) (fn := Tryz.f32) (c := bodyOf Tryz.f32) (args := #[.pointer s_1, .int .u8 o_2, .pointer t_3, .int .i64 lo_4, .int .i64 hi_5]) 400 follows_mixed Tryz.func32 (by kernel_rfl) (by kernel_rfl)
set_option maxRecDepth 100000 in
/-- joinery/joineryref33.Wrong -/
def sh33 (o_1 : Int) (lo_2 : Int) (hi_3 : Int) (R : Ending → World → Prop) (w : World) : Prop :=
 doCall Tryz.prog (.func (.func 36) #[] #[]) #[.int .u8 o_1] w (retS (fun v5 w6 => ∃ (x4 : Bool), v5 = (.bool x4 : Value) ∧ (
 ifB (!x4) (
 R (.returned (.int .i64 2)) w6) (
 doCall Tryz.prog (.func (.func 82) #[] #[]) #[.int .u8 o_1, .int .i64 hi_3, .int .i64 lo_2] w6 (retS (fun v8 w9 => ∃ (x7 : Int), v8 = (.int .i64 x7 : Value) ∧ (
 ifB (decide ((x7 : Int) < 0)) (
 R (.returned (.int .i64 330)) w9) (
 R (.returned (.int .i64 0)) w9))) (fun ch w => Kfn R ch [] w))))) (fun ch w => Kfn R ch [] w))
set_option maxRecDepth 100000 in
theorem sh33_ok (o_1 : Int) (lo_2 : Int) (hi_3 : Int) {R : Ending → World → Prop} {w : World} : sh33 o_1 lo_2 hi_3 R w → Calls Tryz.prog 33 #[.int .u8 o_1, .int .i64 lo_2, .int .i64 hi_3] w R :=
  calls_of_eq (ann := fun _ => []) (fn := Tryz.f33) (c := bodyOf Tryz.f33) (args := #[.int .u8 o_1, .int .i64 lo_2, .int .i64 hi_3]) 400 follows_mixed Tryz.func33 (by kernel_rfl) (by kernel_rfl)
set_option maxRecDepth 100000 in
/-- joinery/joineryref33.Parts -/
def sh34 (o_1 : Int) (l_p2 : Option Addr) (l_n3 : Nat) (_l_c4 : Nat) (lo_5 : Int) (hi_6 : Int) (R : Ending → World → Prop) (w : World) : Prop :=
 ∃ (I7 : List Value → World → Prop) (μ8 : List Value → World → Nat), I7 [.slice none 0 0, .slice none 0 0, .int .i64 0] w ∧ (∀ (in_p11 : Option Addr), ∀ (in_n12 : Nat), ∀ (in_c13 : Nat), ∀ (out_p14 : Option Addr), ∀ (out_n15 : Nat), ∀ (out_c16 : Nat), ∀ (i_17 : Int), ∀ (_j9 : Nat → Value) (w10 : World), I7 [.slice in_p11 in_n12 in_c13, .slice out_p14 out_n15 out_c16, .int .i64 i_17] w10 → (
 ifB (decide ((i_17 : Int) < ((l_n3 : Nat) : Int))) (
 let K25 : (Option Addr) → Nat → Nat → (Option Addr) → Nat → Nat → World → Prop := fun (in_p18 : Option Addr) (in_n19 : Nat) (in_c20 : Nat) (out_p21 : Option Addr) (out_n22 : Nat) (out_c23 : Nat) (w24 : World) => 
 I7 [.slice in_p18 in_n19 in_c20, .slice out_p21 out_n22 out_c23, .int .i64 (IntKind.wrap .i64 (i_17 + 1))] w24 ∧ μ8 [.slice in_p18 in_n19 in_c20, .slice out_p21 out_n22 out_c23, .int .i64 (IntKind.wrap .i64 (i_17 + 1))] w24 < μ8 [.slice in_p11 in_n12 in_c13, .slice out_p14 out_n15 out_c16, .int .i64 i_17] w10
 let K28 : Bool → World → Prop := fun (x26 : Bool) (w27 : World) => 
 ifB x26 (
 doIx l_p2 l_n3 3 (i_17) (fun a29 =>
 ∃ (x30 : Int), World.cell? w27 (a29.add 0) = some (.int .i64 x30) ∧ (
 ∃ (x31 : Int), World.cell? w27 (a29.add 1) = some (.int .i64 x31) ∧ (
 ∃ (x32 : Int), World.cell? w27 (a29.add 2) = some (.int .u64 x32) ∧ (
 doAl (.cells #[.int .i64 x30, .int .i64 x31, .int .u64 x32] 93) w27 (fun b33 w34 =>
 doGo Tryz.prog (.builtin .append #[32, 32] 32 #[false, false]) #[.slice in_p11 in_n12 in_c13, .slice (some (blk b33)) 1 1] w34 (retS (fun v38 w39 => ∃ (xp35 : Option Addr), ∃ (xn36 : Nat), ∃ (xc37 : Nat), v38 = (.slice xp35 xn36 xc37 : Value) ∧ (
 K25 xp35 xn36 xc37 out_p14 out_n15 out_c16 w39)) (fun ch w => Kfn R ch [] w)))))))) (
 doIx l_p2 l_n3 3 (i_17) (fun a40 =>
 ∃ (x41 : Int), World.cell? w27 (a40.add 0) = some (.int .i64 x41) ∧ (
 ∃ (x42 : Int), World.cell? w27 (a40.add 1) = some (.int .i64 x42) ∧ (
 ∃ (x43 : Int), World.cell? w27 (a40.add 2) = some (.int .u64 x43) ∧ (
 doAl (.cells #[.int .i64 x41, .int .i64 x42, .int .u64 x43] 93) w27 (fun b44 w45 =>
 doGo Tryz.prog (.builtin .append #[32, 32] 32 #[false, false]) #[.slice out_p14 out_n15 out_c16, .slice (some (blk b44)) 1 1] w45 (retS (fun v49 w50 => ∃ (xp46 : Option Addr), ∃ (xn47 : Nat), ∃ (xc48 : Nat), v49 = (.slice xp46 xn47 xc48 : Value) ∧ (
 K25 in_p11 in_n12 in_c13 xp46 xn47 xc48 w50)) (fun ch w => Kfn R ch [] w))))))))
 doIx l_p2 l_n3 3 (i_17) (fun a51 =>
 ∃ (x52 : Int), World.cell? w10 (a51.add 0) = some (.int .i64 x52) ∧ (
 doCall Tryz.prog (.func (.func 82) #[] #[]) #[.int .u8 o_1, .int .i64 x52, .int .i64 lo_5] w10 (retS (fun v54 w55 => ∃ (x53 : Int), v54 = (.int .i64 x53 : Value) ∧ (
 ifB (decide ((x53 : Int) ≥ 0)) (
 doIx l_p2 l_n3 3 (i_17) (fun a56 =>
 ∃ (x57 : Int), World.cell? w55 (a56.add 0) = some (.int .i64 x57) ∧ (
 doCall Tryz.prog (.func (.func 82) #[] #[]) #[.int .u8 o_1, .int .i64 x57, .int .i64 hi_6] w55 (retS (fun v59 w60 => ∃ (x58 : Int), v59 = (.int .i64 x58 : Value) ∧ (
 K28 (decide ((x58 : Int) ≤ 0)) w60)) (fun ch w => Kfn R ch [] w))))) (
 K28 false w55))) (fun ch w => Kfn R ch [] w))))) (
 R (.returned (.tuple #[.slice in_p11 in_n12 in_c13, .slice out_p14 out_n15 out_c16])) w10)))
set_option maxRecDepth 100000 in
theorem sh34_ok (o_1 : Int) (l_p2 : Option Addr) (l_n3 : Nat) (l_c4 : Nat) (lo_5 : Int) (hi_6 : Int) {R : Ending → World → Prop} {w : World} : sh34 o_1 l_p2 l_n3 l_c4 lo_5 hi_6 R w → Calls Tryz.prog 34 #[.int .u8 o_1, .slice l_p2 l_n3 l_c4, .int .i64 lo_5, .int .i64 hi_6] w R :=
  calls_of_eq (ann := fun i => if i = 0 then [(10, .slice none 0 0), (11, .slice none 0 0), (12, .int .i64 0)] else []) (fn := Tryz.f34) (c := bodyOf Tryz.f34) (args := #[.int .u8 o_1, .slice l_p2 l_n3 l_c4, .int .i64 lo_5, .int .i64 hi_6]) 400 follows_mixed Tryz.func34 (by kernel_rfl) (by kernel_rfl)
set_option maxRecDepth 100000 in
/-- joinery/joinerylaw09.Long -/
def sh35 (l_p1 : Option Addr) (l_n2 : Nat) (l_c3 : Nat) (R : Ending → World → Prop) (w : World) : Prop :=
 let K6 : Bool → World → Prop := fun (x4 : Bool) (w5 : World) => 
 R (.returned (.bool x4)) w5
 ifB (decide ((((l_n2 : Nat) : Int) : Int) > 400)) (
 R (.returned (.bool true)) w) (
 doCall Tryz.prog (.func (.func 83) #[] #[]) #[.slice l_p1 l_n2 l_c3] w (retS (fun v8 w9 => ∃ (x7 : Bool), v8 = (.bool x7 : Value) ∧ (
 K6 (!x7) w9)) (fun ch w => Kfn R ch [] w)))
set_option maxRecDepth 100000 in
theorem sh35_ok (l_p1 : Option Addr) (l_n2 : Nat) (l_c3 : Nat) {R : Ending → World → Prop} {w : World} : sh35 l_p1 l_n2 l_c3 R w → Calls Tryz.prog 35 #[.slice l_p1 l_n2 l_c3] w R :=
  calls_of_eq (ann := fun _ => []) (fn := Tryz.f35) (c := bodyOf Tryz.f35) (args := #[.slice l_p1 l_n2 l_c3]) 400 follows_mixed Tryz.func35 (by kernel_rfl) (by kernel_rfl)
set_option maxRecDepth 100000 in
/-- joinery/joineryref02.May -/
def sh36 (o_1 : Int) (R : Ending → World → Prop) (w : World) : Prop :=
 doCall Tryz.prog (.func (.func 42) #[] #[]) #[.int .u8 o_1] w (retS (fun v3 w4 => ∃ (x2 : Bool), v3 = (.bool x2 : Value) ∧ (
 R (.returned (.bool x2)) w4)) (fun ch w => Kfn R ch [] w))
set_option maxRecDepth 100000 in
theorem sh36_ok (o_1 : Int) {R : Ending → World → Prop} {w : World} : sh36 o_1 R w → Calls Tryz.prog 36 #[.int .u8 o_1] w R :=
  calls_of_eq (ann := fun _ => []) (fn := Tryz.f36) (c := bodyOf Tryz.f36) (args := #[.int .u8 o_1]) 400 follows_mixed Tryz.func36 (by kernel_rfl) (by kernel_rfl)
set_option maxRecDepth 100000 in
/-- joinery/joineryref12.Sound -/
def sh37 (o_1 : Int) (l_p2 : Option Addr) (l_n3 : Nat) (l_c4 : Nat) (R : Ending → World → Prop) (w : World) : Prop :=
 doCall Tryz.prog (.func (.func 85) #[] #[]) #[.slice l_p2 l_n3 l_c4] w (retS (fun v8 w9 => ∃ (xp5 : Option Addr), ∃ (xn6 : Nat), ∃ (xc7 : Nat), v8 = (.slice xp5 xn6 xc7 : Value) ∧ (
 doCall Tryz.prog (.func (.func 84) #[] #[]) #[.int .u8 o_1, .slice xp5 xn6 xc7] w9 (retS (fun v11 w12 => ∃ (x10 : Bool), v11 = (.bool x10 : Value) ∧ (
 R (.returned (.bool x10)) w12)) (fun ch w => Kfn R ch [] w)))) (fun ch w => Kfn R ch [] w))
set_option maxRecDepth 100000 in
theorem sh37_ok (o_1 : Int) (l_p2 : Option Addr) (l_n3 : Nat) (l_c4 : Nat) {R : Ending → World → Prop} {w : World} : sh37 o_1 l_p2 l_n3 l_c4 R w → Calls Tryz.prog 37 #[.int .u8 o_1, .slice l_p2 l_n3 l_c4] w R :=
  calls_of_eq (ann := fun _ => []) (fn := Tryz.f37) (c := bodyOf Tryz.f37) (args := #[.int .u8 o_1, .slice l_p2 l_n3 l_c4]) 400 follows_mixed Tryz.func37 (by kernel_rfl) (by kernel_rfl)
set_option maxRecDepth 100000 in
/-- joinery/span.Count -/
def sh38 (o_1 : Int) (t_2 : Option Addr) (lo_3 : Int) (hi_4 : Int) (R : Ending → World → Prop) (w : World) : Prop :=
 doCall Tryz.prog (.func (.func 86) #[] #[]) #[.int .u8 o_1, .pointer t_2, .int .i64 lo_3, .int .i64 hi_4, .func (.func 80) #[] #[]] w (retS (fun v7 w8 => ∃ (x5 : Int), ∃ (x6 : Int), v7 = (.tuple #[.int .i64 x5, .int .i64 x6] : Value) ∧ (
 R (.returned (.tuple #[.int .i64 x5, .int .i64 x6])) w8)) (fun ch w => Kfn R ch [] w))
set_option maxRecDepth 100000 in
theorem sh38_ok (o_1 : Int) (t_2 : Option Addr) (lo_3 : Int) (hi_4 : Int) {R : Ending → World → Prop} {w : World} : sh38 o_1 t_2 lo_3 hi_4 R w → Calls Tryz.prog 38 #[.int .u8 o_1, .pointer t_2, .int .i64 lo_3, .int .i64 hi_4] w R :=
  calls_of_eq (ann := fun _ => []) (fn := Tryz.f38) (c := bodyOf Tryz.f38) (args := #[.int .u8 o_1, .pointer t_2, .int .i64 lo_3, .int .i64 hi_4]) 400 follows_mixed Tryz.func38 (by kernel_rfl) (by kernel_rfl)
set_option maxRecDepth 100000 in
/-- joinery/span.Sum -/
def sh39 (o_1 : Int) (t_2 : Option Addr) (lo_3 : Int) (hi_4 : Int) (R : Ending → World → Prop) (w : World) : Prop :=
 doCall Tryz.prog (.func (.func 87) #[] #[]) #[.int .u8 o_1, .pointer t_2, .int .i64 lo_3, .int .i64 hi_4, .func (.func 88) #[] #[]] w (retS (fun v7 w8 => ∃ (x5 : Int), ∃ (x6 : Int), v7 = (.tuple #[.int .i64 x5, .int .i64 x6] : Value) ∧ (
 R (.returned (.tuple #[.int .i64 x5, .int .i64 x6])) w8)) (fun ch w => Kfn R ch [] w))
set_option maxRecDepth 100000 in
theorem sh39_ok (o_1 : Int) (t_2 : Option Addr) (lo_3 : Int) (hi_4 : Int) {R : Ending → World → Prop} {w : World} : sh39 o_1 t_2 lo_3 hi_4 R w → Calls Tryz.prog 39 #[.int .u8 o_1, .pointer t_2, .int .i64 lo_3, .int .i64 hi_4] w R :=
  calls_of_eq (ann := fun _ => []) (fn := Tryz.f39) (c := bodyOf Tryz.f39) (args := #[.int .u8 o_1, .pointer t_2, .int .i64 lo_3, .int .i64 hi_4]) 400 follows_mixed Tryz.func39 (by kernel_rfl) (by kernel_rfl)
set_option maxRecDepth 100000 in
/-- joinery/joineryref20.Items -/
def sh40 (l_p1 : Option Addr) (l_n2 : Nat) (l_c3 : Nat) (R : Ending → World → Prop) (w : World) : Prop :=
 ifB ((((l_n2 : Nat) : Int) : Int) == 0) (
 R (.returned (.slice none 0 0)) w) (
 doCall Tryz.prog (.func (.func 64) #[] #[]) #[.slice l_p1 l_n2 l_c3] w (retS (fun v17 w18 => ∃ (x4 : Int), ∃ (x5 : Int), ∃ (x6 : Int), ∃ (x7 : Int), ∃ (x8 : Int), ∃ (x9 : Bool), ∃ (x10 : Bool), ∃ (xp11 : Option Addr), ∃ (xn12 : Nat), ∃ (xc13 : Nat), ∃ (xp14 : Option Addr), ∃ (xn15 : Nat), ∃ (xc16 : Nat), v17 = (.tuple #[.agg #[.int .i64 x4, .int .i64 x5, .int .i64 x6, .int .i64 x7, .int .u64 x8, .bool x9, .bool x10], .slice xp11 xn12 xc13, .slice xp14 xn15 xc16] : Value) ∧ (
 doAl (.cells #[.int .i64 0, .int .i64 0, .int .i64 0, .int .i64 0, .int .u64 0, .bool false, .bool false] 97) w18 (fun b19 w20 =>
 doSt ((blk b19).add 0) (.int .i64 x4) w20 (fun w21 =>
 doSt ((blk b19).add 1) (.int .i64 x5) w21 (fun w22 =>
 doSt ((blk b19).add 2) (.int .i64 x6) w22 (fun w23 =>
 doSt ((blk b19).add 3) (.int .i64 x7) w23 (fun w24 =>
 doSt ((blk b19).add 4) (.int .u64 x8) w24 (fun w25 =>
 doSt ((blk b19).add 5) (.bool x9) w25 (fun w26 =>
 doSt ((blk b19).add 6) (.bool x10) w26 (fun w27 =>
 doDr w27 (fun w29 =>
 ∃ (C28 : World → Prop), C28 w29 ∧ (
 ∃ (x30 : Int), (∀ w, C28 w → World.cell? w ((blk b19).add 0) = some (.int .i64 x30)) ∧ (
 ∃ (x31 : Int), (∀ w, C28 w → World.cell? w ((blk b19).add 1) = some (.int .i64 x31)) ∧ (
 ∃ (x32 : Int), (∀ w, C28 w → World.cell? w ((blk b19).add 2) = some (.int .i64 x32)) ∧ (
 ∃ (x33 : Int), (∀ w, C28 w → World.cell? w ((blk b19).add 3) = some (.int .i64 x33)) ∧ (
 ∃ (x34 : Int), (∀ w, C28 w → World.cell? w ((blk b19).add 4) = some (.int .u64 x34)) ∧ (
 ∃ (x35 : Bool), (∀ w, C28 w → World.cell? w ((blk b19).add 5) = some (.bool x35)) ∧ (
 ∃ (x36 : Bool), (∀ w, C28 w → World.cell? w ((blk b19).add 6) = some (.bool x36)) ∧ (
 doCall Tryz.prog (.func (.func 40) #[] #[]) #[.slice xp11 xn12 xc13] w29 (retS (fun v40 w41 => ∃ (xp37 : Option Addr), ∃ (xn38 : Nat), ∃ (xc39 : Nat), v40 = (.slice xp37 xn38 xc39 : Value) ∧ (
 C28 w41 ∧ (
 doCall Tryz.prog (.func (.func 89) #[] #[]) #[.agg #[.int .i64 x30, .int .i64 x31, .int .i64 x32, .int .i64 x33, .int .u64 x34, .bool x35, .bool x36]] w41 (retS (fun v45 w46 => ∃ (x42 : Int), ∃ (x43 : Int), ∃ (x44 : Int), v45 = (.agg #[.int .i64 x42, .int .i64 x43, .int .u64 x44] : Value) ∧ (
 doAl (.cells #[.int .i64 x42, .int .i64 x43, .int .u64 x44] 93) w46 (fun b47 w48 =>
 C28 w48 ∧ (
 doGo Tryz.prog (.builtin .append #[32, 32] 32 #[false, false]) #[.slice xp37 xn38 xc39, .slice (some (blk b47)) 1 1] w48 (retS (fun v52 w53 => ∃ (xp49 : Option Addr), ∃ (xn50 : Nat), ∃ (xc51 : Nat), v52 = (.slice xp49 xn50 xc51 : Value) ∧ (
 C28 w53 ∧ (
 doCall Tryz.prog (.func (.func 40) #[] #[]) #[.slice xp14 xn15 xc16] w53 (retS (fun v57 w58 => ∃ (xp54 : Option Addr), ∃ (xn55 : Nat), ∃ (xc56 : Nat), v57 = (.slice xp54 xn55 xc56 : Value) ∧ (
 doGo Tryz.prog (.builtin .append #[32, 32] 32 #[false, false]) #[.slice xp49 xn50 xc51, .slice xp54 xn55 xc56] w58 (retS (fun v62 w63 => ∃ (xp59 : Option Addr), ∃ (xn60 : Nat), ∃ (xc61 : Nat), v62 = (.slice xp59 xn60 xc61 : Value) ∧ (
 R (.returned (.slice xp59 xn60 xc61)) w63)) (fun ch w => Kfn R ch [] w)))) (fun ch w => Kfn R ch [] w))))) (fun ch w => Kfn R ch [] w)))))) (fun ch w => Kfn R ch [] w))))) (fun ch w => Kfn R ch [] w))))))))))))))))))))) (fun ch w => Kfn R ch [] w)))
set_option maxRecDepth 100000 in
theorem sh40_ok (l_p1 : Option Addr) (l_n2 : Nat) (l_c3 : Nat) {R : Ending → World → Prop} {w : World} : sh40 l_p1 l_n2 l_c3 R w → Calls Tryz.prog 40 #[.slice l_p1 l_n2 l_c3] w R :=
  calls_of_eq (ann := fun _ => []) (fn := Tryz.f40) (c := bodyOf Tryz.f40) (args := #[.slice l_p1 l_n2 l_c3]) 400 follows_mixed Tryz.func40 (by kernel_rfl) (by kernel_rfl)
set_option maxRecDepth 100000 in
/-- joinery/joineryref33.Sum -/
def sh41 (l_p1 : Option Addr) (l_n2 : Nat) (_l_c3 : Nat) (R : Ending → World → Prop) (w : World) : Prop :=
 ∃ (I4 : List Value → World → Prop) (μ5 : List Value → World → Nat), I4 [.int .i64 0, .int .i64 0] w ∧ (∀ (n_8 : Int), ∀ (i_9 : Int), ∀ (_j6 : Nat → Value) (w7 : World), I4 [.int .i64 n_8, .int .i64 i_9] w7 → (
 ifB (decide ((i_9 : Int) < ((l_n2 : Nat) : Int))) (
 doIx l_p1 l_n2 3 (i_9) (fun a10 =>
 ∃ (x11 : Int), World.cell? w7 (a10.add 1) = some (.int .i64 x11) ∧ (
 I4 [.int .i64 (IntKind.wrap .i64 (n_8 + x11)), .int .i64 (IntKind.wrap .i64 (i_9 + 1))] w7 ∧ μ5 [.int .i64 (IntKind.wrap .i64 (n_8 + x11)), .int .i64 (IntKind.wrap .i64 (i_9 + 1))] w7 < μ5 [.int .i64 n_8, .int .i64 i_9] w7))) (
 R (.returned (.int .i64 n_8)) w7)))
set_option maxRecDepth 100000 in
theorem sh41_ok (l_p1 : Option Addr) (l_n2 : Nat) (l_c3 : Nat) {R : Ending → World → Prop} {w : World} : sh41 l_p1 l_n2 l_c3 R w → Calls Tryz.prog 41 #[.slice l_p1 l_n2 l_c3] w R :=
  calls_of_eq (ann := fun i => if i = 0 then [(3, .int .i64 0), (4, .int .i64 0)] else []) (fn := Tryz.f41) (c := bodyOf Tryz.f41) (args := #[.slice l_p1 l_n2 l_c3]) 400 follows_mixed Tryz.func41 (by kernel_rfl) (by kernel_rfl)
set_option maxRecDepth 100000 in
/-- joinery/joineryref02.Is -/
def sh42 (o_1 : Int) (R : Ending → World → Prop) (w : World) : Prop :=
 let K4 : Bool → World → Prop := fun (x2 : Bool) (w3 : World) => 
 R (.returned (.bool x2)) w3
 ifB (decide ((o_1 : Int) ≥ 1)) (
 K4 (decide ((o_1 : Int) ≤ 7)) w) (
 R (.returned (.bool false)) w)
set_option maxRecDepth 100000 in
theorem sh42_ok (o_1 : Int) {R : Ending → World → Prop} {w : World} : sh42 o_1 R w → Calls Tryz.prog 42 #[.int .u8 o_1] w R :=
  calls_of_eq (ann := fun _ => []) (fn := Tryz.f42) (c := bodyOf Tryz.f42) (args := #[.int .u8 o_1]) 400 follows_mixed Tryz.func42 (by kernel_rfl) (by kernel_rfl)
set_option maxRecDepth 100000 in
/-- joinery/scheme.Of -/
def sh59 (code_1 : Int) (R : Ending → World → Prop) (w : World) : Prop :=
 doCall Tryz.prog (.func (.func 99) #[] #[]) #[.int .u8 code_1] w (retS (fun v3 w4 => ∃ (x2 : Value), v3 = (x2 : Value) ∧ (
 doEqN Tryz.prog .eql 144 (.tmp 5) (.const (.nilIface)) (x2) (fun b5 =>
 ifB b5 (
 R (.returned (.tuple #[.pointer none, .int .i64 2])) w4) (
 doAl (.cells #[.int .u8 code_1, .int .u32 0, .int .i32 0, .int .u32 0, .string (⟨#[]⟩ : ByteArray), .nilFunc, .nilFunc, .nilFunc, .nilFunc, .nilFunc, .nilFunc, .bool false, .int .u64 0] 167) w4 (fun b6 w7 =>
 R (.returned (.tuple #[.pointer (some (blk b6)), .int .i64 0])) w7))))) (fun ch w => Kfn R ch [] w))
set_option maxRecDepth 100000 in
theorem sh59_ok (code_1 : Int) {R : Ending → World → Prop} {w : World} : sh59 code_1 R w → Calls Tryz.prog 59 #[.int .u8 code_1] w R :=
  calls_of_eq (ann := fun _ => []) (fn := Tryz.f59) (c := bodyOf Tryz.f59) (args := #[.int .u8 code_1]) 400 follows_mixed Tryz.func59 (by kernel_rfl) (by kernel_rfl)
set_option maxRecDepth 100000 in
/-- joinery/node.New -/
def sh60 (l_1 : Option Addr) (key_2 : Int) (val_3 : Int) (tag_4 : Int) (r_5 : Option Addr) (R : Ending → World → Prop) (w : World) : Prop :=
 doCall Tryz.prog (.func (.func 80) #[] #[]) #[.pointer l_1] w (retS (fun v7 w8 => ∃ (x6 : Int), v7 = (.int .i64 x6 : Value) ∧ (
 doCall Tryz.prog (.func (.func 80) #[] #[]) #[.pointer r_5] w8 (retS (fun v10 w11 => ∃ (x9 : Int), v10 = (.int .i64 x9 : Value) ∧ (
 doCall Tryz.prog (.func (.func 88) #[] #[]) #[.pointer l_1] w11 (retS (fun v13 w14 => ∃ (x12 : Int), v13 = (.int .i64 x12 : Value) ∧ (
 doCall Tryz.prog (.func (.func 88) #[] #[]) #[.pointer r_5] w14 (retS (fun v16 w17 => ∃ (x15 : Int), v16 = (.int .i64 x15 : Value) ∧ (
 doAl (.cells #[.int .i64 key_2, .int .i64 val_3, .int .i64 (IntKind.wrap .i64 ((IntKind.wrap .i64 (x12 + val_3)) + x15)), .int .u64 tag_4, .int .i64 (IntKind.wrap .i64 ((IntKind.wrap .i64 (x6 + 1)) + x9)), .pointer l_1, .pointer r_5] 171) w17 (fun b18 w19 =>
 R (.returned (.pointer (some (blk b18)))) w19))) (fun ch w => Kfn R ch [] w)))) (fun ch w => Kfn R ch [] w)))) (fun ch w => Kfn R ch [] w)))) (fun ch w => Kfn R ch [] w))
set_option maxRecDepth 100000 in
theorem sh60_ok (l_1 : Option Addr) (key_2 : Int) (val_3 : Int) (tag_4 : Int) (r_5 : Option Addr) {R : Ending → World → Prop} {w : World} : sh60 l_1 key_2 val_3 tag_4 r_5 R w → Calls Tryz.prog 60 #[.pointer l_1, .int .i64 key_2, .int .i64 val_3, .int .u64 tag_4, .pointer r_5] w R :=
  calls_of_eq (ann := fun _ => []) (fn := Tryz.f60) (c := bodyOf Tryz.f60) (args := #[.pointer l_1, .int .i64 key_2, .int .i64 val_3, .int .u64 tag_4, .pointer r_5]) 400 follows_mixed Tryz.func60 (by kernel_rfl) (by kernel_rfl)
set_option maxRecDepth 100000 in
/-- joinery/joinerylaw29.alive$1 -/
def sh61 (k_1 : Int) (v_2 : Int) (x3 : Addr) (R : Ending → World → Prop) (w : World) : Prop :=
 ∃ (x4 : Option Addr), World.cell? w x3 = some (.pointer x4) ∧ (
 doCall Tryz.prog (.func (.func 62) #[] #[]) #[.pointer x4, .pointer none, .agg #[.int .i64 k_1, .int .i64 v_2, .int .u64 0], .pointer none] w (retS (fun v6 w7 => ∃ (x5 : Option Addr), v6 = (.pointer x5 : Value) ∧ (
 R (.returned (.pointer x5)) w7)) (fun ch w => Kfn R ch [] w)))
set_option maxRecDepth 100000 in
theorem sh61_ok (k_1 : Int) (v_2 : Int) (x3 : Addr) {R : Ending → World → Prop} {w : World} : sh61 k_1 v_2 x3 R w → Calls Tryz.prog 61 #[.int .i64 k_1, .int .i64 v_2, .pointer (some x3)] w R :=
  calls_of_eq (ann := fun _ => []) (fn := Tryz.f61) (c := bodyOf Tryz.f61) (args := #[.int .i64 k_1, .int .i64 v_2, .pointer (some x3)]) 400 follows_mixed Tryz.func61 (by kernel_rfl) (by kernel_rfl)
set_option maxRecDepth 100000 in
/-- (*joinery/scheme.Scheme).Join -/
def sh62 (s_1 : Option Addr) (l_2 : Option Addr) (x_3 : Int) (x_4 : Int) (x_5 : Int) (r_6 : Option Addr) (R : Ending → World → Prop) (w : World) : Prop :=
 doAl (.cells #[.int .i64 x_3, .int .i64 x_4, .int .u64 x_5] 93) w (fun b7 w8 =>
 ifB ((s_1).isNone) (
 R (.returned (.pointer none)) w8) (
 ∃ (q9 : Addr), s_1 = some q9 ∧ (
 doCall Tryz.prog (.func (.func 100) #[] #[]) #[.pointer (some (q9.add 12)), .int .u64 1] w8 (retS (fun v11 w12 => ∃ (x10 : Int), v11 = (.int .u64 x10 : Value) ∧ (
 doDr w12 (fun w14 =>
 ∃ (C13 : World → Prop), C13 w14 ∧ (
 ∃ (x15 : Int), (∀ w, C13 w → World.cell? w ((blk b7).add 0) = some (.int .i64 x15)) ∧ (
 ∃ (x16 : Int), (∀ w, C13 w → World.cell? w ((blk b7).add 1) = some (.int .i64 x16)) ∧ (
 ∃ (x17 : Int), (∀ w, C13 w → World.cell? w ((blk b7).add 2) = some (.int .u64 x17)) ∧ (
 doCall Tryz.prog (.func (.func 101) #[] #[]) #[.pointer s_1] w14 (retS (fun v38 w39 => ∃ (x18 : ByteArray), ∃ (xf19 : Fn), ∃ (xx20 : Array Value), ∃ (xc21 : Array Value), ∃ (xf22 : Fn), ∃ (xx23 : Array Value), ∃ (xc24 : Array Value), ∃ (xf25 : Fn), ∃ (xx26 : Array Value), ∃ (xc27 : Array Value), ∃ (xf28 : Fn), ∃ (xx29 : Array Value), ∃ (xc30 : Array Value), ∃ (xf31 : Fn), ∃ (xx32 : Array Value), ∃ (xc33 : Array Value), ∃ (xf34 : Fn), ∃ (xx35 : Array Value), ∃ (xc36 : Array Value), ∃ (x37 : Bool), v38 = (.agg #[.string x18, .func xf19 xx20 xc21, .func xf22 xx23 xc24, .func xf25 xx26 xc27, .func xf28 xx29 xc30, .func xf31 xx32 xc33, .func xf34 xx35 xc36, .bool x37] : Value) ∧ (
 C13 w39 ∧ (
 doCall Tryz.prog (.func xf19 xx20 xc21) #[.pointer l_2, .agg #[.int .i64 x15, .int .i64 x16, .int .u64 x17], .pointer r_6] w39 (retS (fun v41 w42 => ∃ (x40 : Option Addr), v41 = (.pointer x40 : Value) ∧ (
 R (.returned (.pointer x40)) w42)) (fun ch w => Kfn R ch [] w))))) (fun ch w => Kfn R ch [] w))))))))) (fun ch w => Kfn R ch [] w)))))
set_option maxRecDepth 100000 in
theorem sh62_ok (s_1 : Option Addr) (l_2 : Option Addr) (x_3 : Int) (x_4 : Int) (x_5 : Int) (r_6 : Option Addr) {R : Ending → World → Prop} {w : World} : sh62 s_1 l_2 x_3 x_4 x_5 r_6 R w → Calls Tryz.prog 62 #[.pointer s_1, .pointer l_2, .agg #[.int .i64 x_3, .int .i64 x_4, .int .u64 x_5], .pointer r_6] w R :=
  calls_of_eq (ann := fun _ => []) (fn := Tryz.f62) (c := bodyOf Tryz.f62) (args := #[.pointer s_1, .pointer l_2, .agg #[.int .i64 x_3, .int .i64 x_4, .int .u64 x_5], .pointer r_6]) 400 follows_mixed Tryz.func62 (by kernel_rfl) (by kernel_rfl)
set_option maxRecDepth 100000 in
/-- joinery/cut.Join2 -/
def sh63 (s_1 : Option Addr) (l_2 : Option Addr) (r_3 : Option Addr) (R : Ending → World → Prop) (w : World) : Prop :=
 doCall Tryz.prog (.func (.func 102) #[] #[]) #[.pointer s_1, .pointer l_2] w (retS (fun v9 w10 => ∃ (x4 : Option Addr), ∃ (x5 : Int), ∃ (x6 : Int), ∃ (x7 : Int), ∃ (x8 : Bool), v9 = (.tuple #[.pointer x4, .agg #[.int .i64 x5, .int .i64 x6, .int .u64 x7], .bool x8] : Value) ∧ (
 doAl (.cells #[.int .i64 0, .int .i64 0, .int .u64 0] 93) w10 (fun b11 w12 =>
 doSt ((blk b11).add 0) (.int .i64 x5) w12 (fun w13 =>
 doSt ((blk b11).add 1) (.int .i64 x6) w13 (fun w14 =>
 doSt ((blk b11).add 2) (.int .u64 x7) w14 (fun w15 =>
 ifB (!x8) (
 doCall Tryz.prog (.func (.func 70) #[] #[]) #[.pointer s_1, .pointer r_3] w15 (retS (fun v17 w18 => ∃ (x16 : Option Addr), v17 = (.pointer x16 : Value) ∧ (
 R (.returned (.pointer x16)) w18)) (fun ch w => Kfn R ch [] w))) (
 ∃ (x19 : Int), World.cell? w15 ((blk b11).add 0) = some (.int .i64 x19) ∧ (
 ∃ (x20 : Int), World.cell? w15 ((blk b11).add 1) = some (.int .i64 x20) ∧ (
 ∃ (x21 : Int), World.cell? w15 ((blk b11).add 2) = some (.int .u64 x21) ∧ (
 doCall Tryz.prog (.func (.func 62) #[] #[]) #[.pointer s_1, .pointer x4, .agg #[.int .i64 x19, .int .i64 x20, .int .u64 x21], .pointer r_3] w15 (retS (fun v23 w24 => ∃ (x22 : Option Addr), v23 = (.pointer x22 : Value) ∧ (
 R (.returned (.pointer x22)) w24)) (fun ch w => Kfn R ch [] w)))))))))))) (fun ch w => Kfn R ch [] w))
set_option maxRecDepth 100000 in
theorem sh63_ok (s_1 : Option Addr) (l_2 : Option Addr) (r_3 : Option Addr) {R : Ending → World → Prop} {w : World} : sh63 s_1 l_2 r_3 R w → Calls Tryz.prog 63 #[.pointer s_1, .pointer l_2, .pointer r_3] w R :=
  calls_of_eq (ann := fun _ => []) (fn := Tryz.f63) (c := bodyOf Tryz.f63) (args := #[.pointer s_1, .pointer l_2, .pointer r_3]) 400 follows_mixed Tryz.func63 (by kernel_rfl) (by kernel_rfl)
set_option maxRecDepth 100000 in
/-- joinery/joineryref09.Parts -/
def sh64 (l_p1 : Option Addr) (l_n2 : Nat) (l_c3 : Nat) (R : Ending → World → Prop) (w : World) : Prop :=
 doAl (.cells #[.int .i64 0, .int .i64 0, .int .i64 0, .int .i64 0, .int .u64 0, .bool false, .bool false] 97) w (fun b4 w5 =>
 let K8 : Int → World → Prop := fun (n_6 : Int) (w7 : World) => 
 doDr w7 (fun w10 =>
 ∃ (C9 : World → Prop), C9 w10 ∧ (
 doIx l_p1 l_n2 7 (0) (fun a11 =>
 ∃ (x12 : Int), (∀ w, C9 w → World.cell? w (a11.add 0) = some (.int .i64 x12)) ∧ (
 ∃ (x13 : Int), (∀ w, C9 w → World.cell? w (a11.add 1) = some (.int .i64 x13)) ∧ (
 ∃ (x14 : Int), (∀ w, C9 w → World.cell? w (a11.add 2) = some (.int .i64 x14)) ∧ (
 ∃ (x15 : Int), (∀ w, C9 w → World.cell? w (a11.add 3) = some (.int .i64 x15)) ∧ (
 ∃ (x16 : Int), (∀ w, C9 w → World.cell? w (a11.add 4) = some (.int .u64 x16)) ∧ (
 ∃ (x17 : Bool), (∀ w, C9 w → World.cell? w (a11.add 5) = some (.bool x17)) ∧ (
 ∃ (x18 : Bool), (∀ w, C9 w → World.cell? w (a11.add 6) = some (.bool x18)) ∧ (
 doSl l_p1 l_c3 7 (1) (IntKind.wrap .i64 (1 + n_6)) (fun p19 n20 c21 =>
 doSl l_p1 l_c3 7 (IntKind.wrap .i64 (1 + n_6)) (((l_n2 : Nat) : Int)) (fun p22 n23 c24 =>
 doSt ((blk b4).add 0) (.int .i64 x12) w10 (fun w25 =>
 doSt ((blk b4).add 1) (.int .i64 x13) w25 (fun w26 =>
 doSt ((blk b4).add 2) (.int .i64 x14) w26 (fun w27 =>
 doSt ((blk b4).add 3) (.int .i64 x15) w27 (fun w28 =>
 doSt ((blk b4).add 4) (.int .u64 x16) w28 (fun w29 =>
 doSt ((blk b4).add 5) (.bool x17) w29 (fun w30 =>
 doSt ((blk b4).add 6) (.bool x18) w30 (fun w31 =>
 ∃ (x32 : Int), World.cell? w31 ((blk b4).add 0) = some (.int .i64 x32) ∧ (
 ∃ (x33 : Int), World.cell? w31 ((blk b4).add 1) = some (.int .i64 x33) ∧ (
 ∃ (x34 : Int), World.cell? w31 ((blk b4).add 2) = some (.int .i64 x34) ∧ (
 ∃ (x35 : Int), World.cell? w31 ((blk b4).add 3) = some (.int .i64 x35) ∧ (
 ∃ (x36 : Int), World.cell? w31 ((blk b4).add 4) = some (.int .u64 x36) ∧ (
 ∃ (x37 : Bool), World.cell? w31 ((blk b4).add 5) = some (.bool x37) ∧ (
 ∃ (x38 : Bool), World.cell? w31 ((blk b4).add 6) = some (.bool x38) ∧ (
 R (.returned (.tuple #[.agg #[.int .i64 x32, .int .i64 x33, .int .i64 x34, .int .i64 x35, .int .u64 x36, .bool x37, .bool x38], .slice p19 n20 c21, .slice p22 n23 c24])) w31))))))))))))))))))))))))))
 doIx l_p1 l_n2 7 (0) (fun a39 =>
 ∃ (x40 : Bool), World.cell? w5 (a39.add 5) = some (.bool x40) ∧ (
 ifB x40 (
 doCall Tryz.prog (.func (.func 103) #[] #[]) #[.slice l_p1 l_n2 l_c3, .int .i64 1, .int .i64 0] w5 (retS (fun v42 w43 => ∃ (x41 : Int), v42 = (.int .i64 x41 : Value) ∧ (
 K8 x41 w43)) (fun ch w => Kfn R ch [] w))) (
 K8 0 w5))))
set_option maxRecDepth 100000 in
theorem sh64_ok (l_p1 : Option Addr) (l_n2 : Nat) (l_c3 : Nat) {R : Ending → World → Prop} {w : World} : sh64 l_p1 l_n2 l_c3 R w → Calls Tryz.prog 64 #[.slice l_p1 l_n2 l_c3] w R :=
  calls_of_eq (ann := fun _ => []) (fn := Tryz.f64) (c := bodyOf Tryz.f64) (args := #[.slice l_p1 l_n2 l_c3]) 400 follows_mixed Tryz.func64 (by kernel_rfl) (by kernel_rfl)
end Go.Proofs.YtbaoihmffobneaaGreat

namespace Go.Proofs.YtbaoihmffobneaaGreat
open Go Go.Sh
set_option maxRecDepth 100000 in
/-- joinery/fold.May -/
def sh65 (p_1 : Int) (R : Ending → World → Prop) (w : World) : Prop :=
 let K4 : Bool → World → Prop := fun (is_2 : Bool) (w3 : World) => 
 R (.returned (.bool is_2)) w3
 doCall Tryz.prog (.func (.func 104) #[] #[]) #[] w (retS (fun v6 w7 => ∃ (x5 : Option Nat), v6 = (.map x5 : Value) ∧ (
 doLk Tryz.prog 181 (.map x5) (.int .u8 p_1) true w7 (fun v12 => (∃ (xf8 : Fn), ∃ (xx9 : Array Value), ∃ (xc10 : Array Value), ∃ (x11 : Bool), v12 = (.tuple #[.agg #[.func xf8 xx9 xc10], .bool x11] : Value) ∧ (
 doAl (.cells #[.nilFunc] 179) w7 (fun b13 w14 =>
 doSt ((blk b13).add 0) (.func xf8 xx9 xc10) w14 (fun w15 =>
 K4 x11 w15)))) ∨ (v12 = (.tuple #[.agg #[.nilFunc], .bool false] : Value) ∧ (
 doAl (.cells #[.nilFunc] 179) w7 (fun b16 w17 =>
 doSt ((blk b16).add 0) (.nilFunc) w17 (fun w18 =>
 R (.returned (.bool false)) w18))))))) (fun ch w => Kfn R ch [] w))
set_option maxRecDepth 100000 in
theorem sh65_ok (p_1 : Int) {R : Ending → World → Prop} {w : World} : sh65 p_1 R w → Calls Tryz.prog 65 #[.int .u8 p_1] w R :=
  calls_of_eq (ann := fun _ => []) (fn := Tryz.f65) (c := bodyOf Tryz.f65) (args := #[.int .u8 p_1]) 400 follows_mixed Tryz.func65 (by kernel_rfl) (by kernel_rfl)
set_option maxRecDepth 100000 in
/-- joinery/meet.none -/
def sh66 (_x1 : Option Addr) (R : Ending → World → Prop) (w : World) : Prop :=
 R (.returned (.pointer none)) w
set_option maxRecDepth 100000 in
theorem sh66_ok (x1 : Option Addr) {R : Ending → World → Prop} {w : World} : sh66 x1 R w → Calls Tryz.prog 66 #[.pointer x1] w R :=
  calls_of_eq (ann := fun _ => []) (fn := Tryz.f66) (c := bodyOf Tryz.f66) (args := #[.pointer x1]) 400 follows_mixed Tryz.func66 (by kernel_rfl) (by kernel_rfl)
set_option maxRecDepth 100000 in
/-- joinery/meet.Meet$1 -/
def sh67 (x_1 : Int) (x_2 : Int) (x_3 : Int) (y_4 : Int) (y_5 : Int) (y_6 : Int) (is_7 : Bool) (x8 : Addr) (R : Ending → World → Prop) (w : World) : Prop :=
 doAl (.cells #[.int .i64 x_1, .int .i64 x_2, .int .u64 x_3] 93) w (fun b9 w10 =>
 doAl (.cells #[.int .i64 y_4, .int .i64 y_5, .int .u64 y_6] 93) w10 (fun b11 w12 =>
 doAl (.cells #[.int .i64 0, .int .i64 0, .int .u64 0] 93) w12 (fun b13 w14 =>
 ∃ (x15 : Int), World.cell? w14 x8 = some (.int .u8 x15) ∧ (
 ∃ (x16 : Int), World.cell? w14 ((blk b9).add 1) = some (.int .i64 x16) ∧ (
 ∃ (x17 : Int), World.cell? w14 ((blk b11).add 1) = some (.int .i64 x17) ∧ (
 doCall Tryz.prog (.func (.func 68) #[] #[]) #[.int .u8 x15, .int .i64 x16, .int .i64 x17] w14 (retS (fun v20 w21 => ∃ (x18 : Int), ∃ (x19 : Int), v20 = (.tuple #[.int .i64 x18, .int .i64 x19] : Value) ∧ (
 doSt (((blk b9).add 1).add 0) (.int .i64 x18) w21 (fun w22 =>
 ∃ (x23 : Int), World.cell? w22 ((blk b9).add 0) = some (.int .i64 x23) ∧ (
 ∃ (x24 : Int), World.cell? w22 ((blk b9).add 1) = some (.int .i64 x24) ∧ (
 ∃ (x25 : Int), World.cell? w22 ((blk b9).add 2) = some (.int .u64 x25) ∧ (
 doSt ((blk b13).add 0) (.int .i64 x23) w22 (fun w26 =>
 doSt ((blk b13).add 1) (.int .i64 x24) w26 (fun w27 =>
 doSt ((blk b13).add 2) (.int .u64 x25) w27 (fun w28 =>
 ∃ (x29 : Int), World.cell? w28 ((blk b13).add 0) = some (.int .i64 x29) ∧ (
 ∃ (x30 : Int), World.cell? w28 ((blk b13).add 1) = some (.int .i64 x30) ∧ (
 ∃ (x31 : Int), World.cell? w28 ((blk b13).add 2) = some (.int .u64 x31) ∧ (
 R (.returned (.tuple #[.agg #[.int .i64 x29, .int .i64 x30, .int .u64 x31], .bool is_7])) w28)))))))))))) (fun ch w => Kfn R ch [] w))))))))
set_option maxRecDepth 100000 in
theorem sh67_ok (x_1 : Int) (x_2 : Int) (x_3 : Int) (y_4 : Int) (y_5 : Int) (y_6 : Int) (is_7 : Bool) (x8 : Addr) {R : Ending → World → Prop} {w : World} : sh67 x_1 x_2 x_3 y_4 y_5 y_6 is_7 x8 R w → Calls Tryz.prog 67 #[.agg #[.int .i64 x_1, .int .i64 x_2, .int .u64 x_3], .agg #[.int .i64 y_4, .int .i64 y_5, .int .u64 y_6], .bool is_7, .pointer (some x8)] w R :=
  calls_of_eq (ann := fun _ => []) (fn := Tryz.f67) (c := bodyOf Tryz.f67) (args := #[.agg #[.int .i64 x_1, .int .i64 x_2, .int .u64 x_3], .agg #[.int .i64 y_4, .int .i64 y_5, .int .u64 y_6], .bool is_7, .pointer (some x8)]) 400 follows_mixed Tryz.func67 (by kernel_rfl) (by kernel_rfl)
set_option maxRecDepth 100000 in
/-- joinery/fold.Combine -/
def sh68 (p_1 : Int) (a_2 : Int) (b_3 : Int) (R : Ending → World → Prop) (w : World) : Prop :=
 let K7 : Addr → Bool → World → Prop := fun (k_4 : Addr) (is_5 : Bool) (w6 : World) => 
 ifB (!is_5) (
 R (.returned (.tuple #[.int .i64 0, .int .i64 2])) w6) (
 ∃ (xf8 : Fn), ∃ (xx9 : Array Value), ∃ (xc10 : Array Value), World.cell? w6 (k_4.add 0) = some (.func xf8 xx9 xc10) ∧ (
 doCall Tryz.prog (.func xf8 xx9 xc10) #[.int .i64 a_2, .int .i64 b_3] w6 (retS (fun v12 w13 => ∃ (x11 : Int), v12 = (.int .i64 x11 : Value) ∧ (
 R (.returned (.tuple #[.int .i64 x11, .int .i64 0])) w13)) (fun ch w => Kfn R ch [] w))))
 doCall Tryz.prog (.func (.func 104) #[] #[]) #[] w (retS (fun v15 w16 => ∃ (x14 : Option Nat), v15 = (.map x14 : Value) ∧ (
 doLk Tryz.prog 181 (.map x14) (.int .u8 p_1) true w16 (fun v21 => (∃ (xf17 : Fn), ∃ (xx18 : Array Value), ∃ (xc19 : Array Value), ∃ (x20 : Bool), v21 = (.tuple #[.agg #[.func xf17 xx18 xc19], .bool x20] : Value) ∧ (
 doAl (.cells #[.nilFunc] 179) w16 (fun b22 w23 =>
 doSt ((blk b22).add 0) (.func xf17 xx18 xc19) w23 (fun w24 =>
 K7 (blk b22) x20 w24)))) ∨ (v21 = (.tuple #[.agg #[.nilFunc], .bool false] : Value) ∧ (
 doAl (.cells #[.nilFunc] 179) w16 (fun b25 w26 =>
 doSt ((blk b25).add 0) (.nilFunc) w26 (fun w27 =>
 K7 (blk b25) false w27))))))) (fun ch w => Kfn R ch [] w))
set_option maxRecDepth 100000 in
theorem sh68_ok (p_1 : Int) (a_2 : Int) (b_3 : Int) {R : Ending → World → Prop} {w : World} : sh68 p_1 a_2 b_3 R w → Calls Tryz.prog 68 #[.int .u8 p_1, .int .i64 a_2, .int .i64 b_3] w R :=
  calls_of_eq (ann := fun _ => []) (fn := Tryz.f68) (c := bodyOf Tryz.f68) (args := #[.int .u8 p_1, .int .i64 a_2, .int .i64 b_3]) 400 follows_mixed Tryz.func68 (by kernel_rfl) (by kernel_rfl)
set_option maxRecDepth 100000 in
/-- (joinery/meet.way).goes -/
def sh69 (w_f1 : Fn) (w_x2 : Array Value) (w_c3 : Array Value) (w_f4 : Fn) (w_x5 : Array Value) (w_c6 : Array Value) (w_f7 : Fn) (w_x8 : Array Value) (w_c9 : Array Value) (s_10 : Option Addr) (o_11 : Int) (a_12 : Option Addr) (b_13 : Option Addr) (R : Ending → World → Prop) (w : World) : Prop :=
 doAl (.cells #[.func w_f1 w_x2 w_c3, .func w_f4 w_x5 w_c6, .func w_f7 w_x8 w_c9] 104) w (fun b14 w15 =>
 doAl (.cells #[.pointer s_10] 23) w15 (fun b16 w17 =>
 doAl (.cells #[.int .u8 o_11] 5) w17 (fun b18 w19 =>
 ∃ (x20 : Option Addr), World.cell? w19 (blk b16) = some (.pointer x20) ∧ (
 ∃ (x21 : Int), World.cell? w19 (blk b18) = some (.int .u8 x21) ∧ (
 doCall Tryz.prog (.func (.func 105) #[] #[]) #[.pointer x20, .int .u8 x21, .pointer none, .int .i64 0] w19 (retS (fun v29 w30 => ∃ (x22 : Option Addr), ∃ (x23 : Int), ∃ (x24 : Int), ∃ (x25 : Int), ∃ (x26 : Bool), ∃ (x27 : Option Addr), ∃ (x28 : Int), v29 = (.tuple #[.pointer x22, .agg #[.int .i64 x23, .int .i64 x24, .int .u64 x25], .bool x26, .pointer x27, .int .i64 x28] : Value) ∧ (
 doAl (.cells #[.int .i64 0, .int .i64 0, .int .u64 0] 93) w30 (fun b31 w32 =>
 doSt ((blk b31).add 0) (.int .i64 x23) w32 (fun w33 =>
 doSt ((blk b31).add 1) (.int .i64 x24) w33 (fun w34 =>
 doSt ((blk b31).add 2) (.int .u64 x25) w34 (fun w35 =>
 ifB ((x28 : Int) != 0) (
 R (.returned (.tuple #[.pointer none, .int .i64 2])) w35) (
 doAl (.cells #[.nilFunc] 185) w35 (fun b36 w37 =>
 doSt ((blk b36).add 0) (.func (.func 106) #[] #[.pointer (some (blk b14)), .pointer (some (blk b16)), .pointer (some (blk b18)), .pointer (some (blk b36))]) w37 (fun w38 =>
 ∃ (xf39 : Fn), ∃ (xx40 : Array Value), ∃ (xc41 : Array Value), World.cell? w38 (blk b36) = some (.func xf39 xx40 xc41) ∧ (
 doCall Tryz.prog (.func xf39 xx40 xc41) #[.pointer a_12, .pointer b_13] w38 (retS (fun v43 w44 => ∃ (x42 : Option Addr), v43 = (.pointer x42 : Value) ∧ (
 R (.returned (.tuple #[.pointer x42, .int .i64 0])) w44)) (fun ch w => Kfn R ch [] w)))))))))))) (fun ch w => Kfn R ch [] w)))))))
set_option maxRecDepth 100000 in
theorem sh69_ok (w_f1 : Fn) (w_x2 : Array Value) (w_c3 : Array Value) (w_f4 : Fn) (w_x5 : Array Value) (w_c6 : Array Value) (w_f7 : Fn) (w_x8 : Array Value) (w_c9 : Array Value) (s_10 : Option Addr) (o_11 : Int) (a_12 : Option Addr) (b_13 : Option Addr) {R : Ending → World → Prop} {w : World} : sh69 w_f1 w_x2 w_c3 w_f4 w_x5 w_c6 w_f7 w_x8 w_c9 s_10 o_11 a_12 b_13 R w → Calls Tryz.prog 69 #[.agg #[.func w_f1 w_x2 w_c3, .func w_f4 w_x5 w_c6, .func w_f7 w_x8 w_c9], .pointer s_10, .int .u8 o_11, .pointer a_12, .pointer b_13] w R :=
  calls_of_eq (ann := fun _ => []) (fn := Tryz.f69) (c := bodyOf Tryz.f69) (args := #[.agg #[.func w_f1 w_x2 w_c3, .func w_f4 w_x5 w_c6, .func w_f7 w_x8 w_c9], .pointer s_10, .int .u8 o_11, .pointer a_12, .pointer b_13]) 400 follows_mixed Tryz.func69 (by kernel_rfl) (by kernel_rfl)
set_option maxRecDepth 100000 in
/-- (*joinery/scheme.Scheme).Whole -/
def sh70 (s_1 : Option Addr) (t_2 : Option Addr) (R : Ending → World → Prop) (w : World) : Prop :=
 ifB ((s_1).isNone) (
 R (.returned (.pointer none)) w) (
 doCall Tryz.prog (.func (.func 101) #[] #[]) #[.pointer s_1] w (retS (fun v23 w24 => ∃ (x3 : ByteArray), ∃ (xf4 : Fn), ∃ (xx5 : Array Value), ∃ (xc6 : Array Value), ∃ (xf7 : Fn), ∃ (xx8 : Array Value), ∃ (xc9 : Array Value), ∃ (xf10 : Fn), ∃ (xx11 : Array Value), ∃ (xc12 : Array Value), ∃ (xf13 : Fn), ∃ (xx14 : Array Value), ∃ (xc15 : Array Value), ∃ (xf16 : Fn), ∃ (xx17 : Array Value), ∃ (xc18 : Array Value), ∃ (xf19 : Fn), ∃ (xx20 : Array Value), ∃ (xc21 : Array Value), ∃ (x22 : Bool), v23 = (.agg #[.string x3, .func xf4 xx5 xc6, .func xf7 xx8 xc9, .func xf10 xx11 xc12, .func xf13 xx14 xc15, .func xf16 xx17 xc18, .func xf19 xx20 xc21, .bool x22] : Value) ∧ (
 doCall Tryz.prog (.func xf7 xx8 xc9) #[.pointer t_2] w24 (retS (fun v26 w27 => ∃ (x25 : Option Addr), v26 = (.pointer x25 : Value) ∧ (
 R (.returned (.pointer x25)) w27)) (fun ch w => Kfn R ch [] w)))) (fun ch w => Kfn R ch [] w)))
set_option maxRecDepth 100000 in
theorem sh70_ok (s_1 : Option Addr) (t_2 : Option Addr) {R : Ending → World → Prop} {w : World} : sh70 s_1 t_2 R w → Calls Tryz.prog 70 #[.pointer s_1, .pointer t_2] w R :=
  calls_of_eq (ann := fun _ => []) (fn := Tryz.f70) (c := bodyOf Tryz.f70) (args := #[.pointer s_1, .pointer t_2]) 400 follows_mixed Tryz.func70 (by kernel_rfl) (by kernel_rfl)
set_option maxRecDepth 100000 in
/-- joinery/meet.alone -/
def sh71 (x_1 : Int) (x_2 : Int) (x_3 : Int) (x4 : Int) (x5 : Int) (x6 : Int) (is_7 : Bool) (R : Ending → World → Prop) (w : World) : Prop :=
 doAl (.cells #[.int .i64 x_1, .int .i64 x_2, .int .u64 x_3] 93) w (fun b8 w9 =>
 doAl (.cells #[.int .i64 x4, .int .i64 x5, .int .u64 x6] 93) w9 (fun _b10 w11 =>
 doAl (.cells #[.int .i64 0, .int .i64 0, .int .u64 0] 93) w11 (fun b12 w13 =>
 ∃ (x14 : Int), World.cell? w13 ((blk b8).add 0) = some (.int .i64 x14) ∧ (
 ∃ (x15 : Int), World.cell? w13 ((blk b8).add 1) = some (.int .i64 x15) ∧ (
 ∃ (x16 : Int), World.cell? w13 ((blk b8).add 2) = some (.int .u64 x16) ∧ (
 doSt ((blk b12).add 0) (.int .i64 x14) w13 (fun w17 =>
 doSt ((blk b12).add 1) (.int .i64 x15) w17 (fun w18 =>
 doSt ((blk b12).add 2) (.int .u64 x16) w18 (fun w19 =>
 ∃ (x20 : Int), World.cell? w19 ((blk b12).add 0) = some (.int .i64 x20) ∧ (
 ∃ (x21 : Int), World.cell? w19 ((blk b12).add 1) = some (.int .i64 x21) ∧ (
 ∃ (x22 : Int), World.cell? w19 ((blk b12).add 2) = some (.int .u64 x22) ∧ (
 R (.returned (.tuple #[.agg #[.int .i64 x20, .int .i64 x21, .int .u64 x22], .bool (!is_7)])) w19))))))))))))
set_option maxRecDepth 100000 in
theorem sh71_ok (x_1 : Int) (x_2 : Int) (x_3 : Int) (x4 : Int) (x5 : Int) (x6 : Int) (is_7 : Bool) {R : Ending → World → Prop} {w : World} : sh71 x_1 x_2 x_3 x4 x5 x6 is_7 R w → Calls Tryz.prog 71 #[.agg #[.int .i64 x_1, .int .i64 x_2, .int .u64 x_3], .agg #[.int .i64 x4, .int .i64 x5, .int .u64 x6], .bool is_7] w R :=
  calls_of_eq (ann := fun _ => []) (fn := Tryz.f71) (c := bodyOf Tryz.f71) (args := #[.agg #[.int .i64 x_1, .int .i64 x_2, .int .u64 x_3], .agg #[.int .i64 x4, .int .i64 x5, .int .u64 x6], .bool is_7]) 400 follows_mixed Tryz.func71 (by kernel_rfl) (by kernel_rfl)
set_option maxRecDepth 100000 in
/-- joinery/joinerylaw09.See -/
def sh72 (t_1 : Option Addr) (R : Ending → World → Prop) (w : World) : Prop :=
 doCall Tryz.prog (.func (.func 111) #[] #[]) #[.pointer t_1, .slice none 0 0, .int .i64 0] w (retS (fun v6 w7 => ∃ (xp2 : Option Addr), ∃ (xn3 : Nat), ∃ (xc4 : Nat), ∃ (x5 : Bool), v6 = (.tuple #[.slice xp2 xn3 xc4, .bool x5] : Value) ∧ (
 R (.returned (.tuple #[.slice xp2 xn3 xc4, .bool x5])) w7)) (fun ch w => Kfn R ch [] w))
set_option maxRecDepth 100000 in
theorem sh72_ok (t_1 : Option Addr) {R : Ending → World → Prop} {w : World} : sh72 t_1 R w → Calls Tryz.prog 72 #[.pointer t_1] w R :=
  calls_of_eq (ann := fun _ => []) (fn := Tryz.f72) (c := bodyOf Tryz.f72) (args := #[.pointer t_1]) 400 follows_mixed Tryz.func72 (by kernel_rfl) (by kernel_rfl)
set_option maxRecDepth 100000 in
/-- joinery/joineryref22.Has -/
def sh73 (code_1 : Int) (t_p2 : Option Addr) (t_n3 : Nat) (t_c4 : Nat) (l_p5 : Option Addr) (l_n6 : Nat) (_l_c7 : Nat) (R : Ending → World → Prop) (w : World) : Prop :=
 let K10 : Bool → World → Prop := fun (x8 : Bool) (w9 : World) => 
 ifB x8 (
 R (.returned (.bool false)) w9) (
 doCall Tryz.prog (.func (.func 16) #[] #[]) #[.int .u8 code_1, .slice t_p2 t_n3 t_c4] w9 (retS (fun v14 w15 => ∃ (xp11 : Option Addr), ∃ (xn12 : Nat), ∃ (xc13 : Nat), v14 = (.slice xp11 xn12 xc13 : Value) ∧ (
 ifB ((((xn12 : Nat) : Int) : Int) != ((l_n6 : Nat) : Int)) (
 R (.returned (.bool false)) w15) (
 ∃ (I16 : List Value → World → Prop) (μ17 : List Value → World → Nat), I16 [.int .i64 0] w15 ∧ (∀ (i_20 : Int), ∀ (_j18 : Nat → Value) (w19 : World), I16 [.int .i64 i_20] w19 → (
 ifB (decide ((i_20 : Int) < ((l_n6 : Nat) : Int))) (
 let K22 : World → Prop := fun (w21 : World) => 
 I16 [.int .i64 (IntKind.wrap .i64 (i_20 + 1))] w21 ∧ μ17 [.int .i64 (IntKind.wrap .i64 (i_20 + 1))] w21 < μ17 [.int .i64 i_20] w19
 let K25 : Bool → World → Prop := fun (x23 : Bool) (w24 : World) => 
 ifB x23 (
 R (.returned (.bool false)) w24) (
 K22 w24)
 doDr w19 (fun w27 =>
 ∃ (C26 : World → Prop), C26 w27 ∧ (
 doIx xp11 xn12 3 (i_20) (fun a28 =>
 ∃ (x29 : Int), (∀ w, C26 w → World.cell? w (a28.add 0) = some (.int .i64 x29)) ∧ (
 doIx l_p5 l_n6 3 (i_20) (fun a30 =>
 ∃ (x31 : Int), (∀ w, C26 w → World.cell? w (a30.add 0) = some (.int .i64 x31)) ∧ (
 ifB ((x29 : Int) != x31) (
 R (.returned (.bool false)) w27) (
 doIx xp11 xn12 3 (i_20) (fun a32 =>
 ∃ (x33 : Int), (∀ w, C26 w → World.cell? w (a32.add 1) = some (.int .i64 x33)) ∧ (
 doIx l_p5 l_n6 3 (i_20) (fun a34 =>
 ∃ (x35 : Int), (∀ w, C26 w → World.cell? w (a34.add 1) = some (.int .i64 x35)) ∧ (
 ifB ((x33 : Int) != x35) (
 R (.returned (.bool false)) w27) (
 ifB ((code_1 : Int) == 4) (
 doIx xp11 xn12 3 (i_20) (fun a36 =>
 ∃ (x37 : Int), (∀ w, C26 w → World.cell? w (a36.add 2) = some (.int .u64 x37)) ∧ (
 doIx l_p5 l_n6 3 (i_20) (fun a38 =>
 ∃ (x39 : Int), (∀ w, C26 w → World.cell? w (a38.add 2) = some (.int .u64 x39)) ∧ (
 K25 ((x37 : Int) != x39) w27))))) (
 K22 w27)))))))))))))) (
 R (.returned (.bool true)) w19)))))) (fun ch w => Kfn R ch [] w)))
 doCall Tryz.prog (.func (.func 112) #[] #[]) #[.int .u8 code_1, .slice t_p2 t_n3 t_c4] w (retS (fun v41 w42 => ∃ (x40 : Bool), v41 = (.bool x40 : Value) ∧ (
 ifB (!x40) (
 R (.returned (.bool false)) w42) (
 doCall Tryz.prog (.func (.func 27) #[] #[]) #[.slice t_p2 t_n3 t_c4] w42 (retS (fun v46 w47 => ∃ (xp43 : Option Addr), ∃ (xn44 : Nat), ∃ (xc45 : Nat), v46 = (.slice xp43 xn44 xc45 : Value) ∧ (
 doCall Tryz.prog (.func (.func 77) #[] #[]) #[.slice t_p2 t_n3 t_c4, .slice xp43 xn44 xc45] w47 (retS (fun v49 w50 => ∃ (x48 : Bool), v49 = (.bool x48 : Value) ∧ (
 K10 (!x48) w50)) (fun ch w => Kfn R ch [] w)))) (fun ch w => Kfn R ch [] w))))) (fun ch w => Kfn R ch [] w))
set_option maxRecDepth 100000 in
theorem sh73_ok (code_1 : Int) (t_p2 : Option Addr) (t_n3 : Nat) (t_c4 : Nat) (l_p5 : Option Addr) (l_n6 : Nat) (l_c7 : Nat) {R : Ending → World → Prop} {w : World} : sh73 code_1 t_p2 t_n3 t_c4 l_p5 l_n6 l_c7 R w → Calls Tryz.prog 73 #[.int .u8 code_1, .slice t_p2 t_n3 t_c4, .slice l_p5 l_n6 l_c7] w R :=
  calls_of_eq (ann := fun i => if i = 0 then [(8, .int .i64 0)] else []) (fn := Tryz.f73) (c := bodyOf Tryz.f73) (args := #[.int .u8 code_1, .slice t_p2 t_n3 t_c4, .slice l_p5 l_n6 l_c7]) 400 follows_mixed Tryz.func73 (by kernel_rfl) (by kernel_rfl)
set_option maxRecDepth 100000 in
/-- joinery/joineryref29.find -/
def sh74 (l_p1 : Option Addr) (l_n2 : Nat) (_l_c3 : Nat) (key_4 : Int) (R : Ending → World → Prop) (w : World) : Prop :=
 doAl (.cells #[.int .i64 0, .int .i64 0, .int .u64 0] 93) w (fun b5 w6 =>
 ∃ (I7 : List Value → World → Prop) (μ8 : List Value → World → Nat), I7 [.int .i64 0] w6 ∧ (∀ (i_11 : Int), ∀ (_j9 : Nat → Value) (w10 : World), I7 [.int .i64 i_11] w10 → (
 ifB (decide ((i_11 : Int) < ((l_n2 : Nat) : Int))) (
 doIx l_p1 l_n2 3 (i_11) (fun a12 =>
 ∃ (x13 : Int), World.cell? w10 (a12.add 0) = some (.int .i64 x13) ∧ (
 ifB ((x13 : Int) == key_4) (
 doIx l_p1 l_n2 3 (i_11) (fun a14 =>
 ∃ (x15 : Int), World.cell? w10 (a14.add 0) = some (.int .i64 x15) ∧ (
 ∃ (x16 : Int), World.cell? w10 (a14.add 1) = some (.int .i64 x16) ∧ (
 ∃ (x17 : Int), World.cell? w10 (a14.add 2) = some (.int .u64 x17) ∧ (
 doSt ((blk b5).add 0) (.int .i64 x15) w10 (fun w18 =>
 doSt ((blk b5).add 1) (.int .i64 x16) w18 (fun w19 =>
 doSt ((blk b5).add 2) (.int .u64 x17) w19 (fun w20 =>
 ∃ (x21 : Int), World.cell? w20 ((blk b5).add 0) = some (.int .i64 x21) ∧ (
 ∃ (x22 : Int), World.cell? w20 ((blk b5).add 1) = some (.int .i64 x22) ∧ (
 ∃ (x23 : Int), World.cell? w20 ((blk b5).add 2) = some (.int .u64 x23) ∧ (
 R (.returned (.tuple #[.agg #[.int .i64 x21, .int .i64 x22, .int .u64 x23], .bool true])) w20))))))))))) (
 I7 [.int .i64 (IntKind.wrap .i64 (i_11 + 1))] w10 ∧ μ8 [.int .i64 (IntKind.wrap .i64 (i_11 + 1))] w10 < μ8 [.int .i64 i_11] w10)))) (
 doSt ((blk b5).add 0) (.int .i64 0) w10 (fun w24 =>
 doSt ((blk b5).add 1) (.int .i64 0) w24 (fun w25 =>
 doSt ((blk b5).add 2) (.int .u64 0) w25 (fun w26 =>
 ∃ (x27 : Int), World.cell? w26 ((blk b5).add 0) = some (.int .i64 x27) ∧ (
 ∃ (x28 : Int), World.cell? w26 ((blk b5).add 1) = some (.int .i64 x28) ∧ (
 ∃ (x29 : Int), World.cell? w26 ((blk b5).add 2) = some (.int .u64 x29) ∧ (
 R (.returned (.tuple #[.agg #[.int .i64 x27, .int .i64 x28, .int .u64 x29], .bool false])) w26))))))))))
set_option maxRecDepth 100000 in
theorem sh74_ok (l_p1 : Option Addr) (l_n2 : Nat) (l_c3 : Nat) (key_4 : Int) {R : Ending → World → Prop} {w : World} : sh74 l_p1 l_n2 l_c3 key_4 R w → Calls Tryz.prog 74 #[.slice l_p1 l_n2 l_c3, .int .i64 key_4] w R :=
  calls_of_eq (ann := fun i => if i = 0 then [(6, .int .i64 0)] else []) (fn := Tryz.f74) (c := bodyOf Tryz.f74) (args := #[.slice l_p1 l_n2 l_c3, .int .i64 key_4]) 400 follows_mixed Tryz.func74 (by kernel_rfl) (by kernel_rfl)
set_option maxRecDepth 100000 in
/-- joinery/joineryref03.Combine -/
def sh75 (p_1 : Int) (a_2 : Int) (b_3 : Int) (R : Ending → World → Prop) (w : World) : Prop :=
 ifB ((p_1 : Int) == 1) (
 R (.returned (.int .i64 a_2)) w) (
 ifB ((p_1 : Int) == 2) (
 R (.returned (.int .i64 b_3)) w) (
 R (.returned (.int .i64 (IntKind.wrap .i64 (a_2 + b_3)))) w))
set_option maxRecDepth 100000 in
theorem sh75_ok (p_1 : Int) (a_2 : Int) (b_3 : Int) {R : Ending → World → Prop} {w : World} : sh75 p_1 a_2 b_3 R w → Calls Tryz.prog 75 #[.int .u8 p_1, .int .i64 a_2, .int .i64 b_3] w R :=
  calls_of_eq (ann := fun _ => []) (fn := Tryz.f75) (c := bodyOf Tryz.f75) (args := #[.int .u8 p_1, .int .i64 a_2, .int .i64 b_3]) 400 follows_mixed Tryz.func75 (by kernel_rfl) (by kernel_rfl)
set_option maxRecDepth 100000 in
/-- joinery/joineryref26.Insert -/
def sh76 (o_1 : Int) (p_2 : Int) (l_p3 : Option Addr) (l_n4 : Nat) (l_c5 : Nat) (x_6 : Int) (x_7 : Int) (x_8 : Int) (R : Ending → World → Prop) (w : World) : Prop :=
 doAl (.cells #[.int .i64 x_6, .int .i64 x_7, .int .u64 x_8] 93) w (fun b9 w10 =>
 ∃ (x11 : Int), World.cell? w10 ((blk b9).add 0) = some (.int .i64 x11) ∧ (
 doCall Tryz.prog (.func (.func 113) #[] #[]) #[.int .u8 o_1, .slice l_p3 l_n4 l_c5, .int .i64 x11] w10 (retS (fun v22 w23 => ∃ (xp12 : Option Addr), ∃ (xn13 : Nat), ∃ (xc14 : Nat), ∃ (x15 : Int), ∃ (x16 : Int), ∃ (x17 : Int), ∃ (x18 : Bool), ∃ (xp19 : Option Addr), ∃ (xn20 : Nat), ∃ (xc21 : Nat), v22 = (.tuple #[.slice xp12 xn13 xc14, .agg #[.int .i64 x15, .int .i64 x16, .int .u64 x17], .bool x18, .slice xp19 xn20 xc21] : Value) ∧ (
 doAl (.cells #[.int .i64 0, .int .i64 0, .int .u64 0] 93) w23 (fun b24 w25 =>
 doSt ((blk b24).add 0) (.int .i64 x15) w25 (fun w26 =>
 doSt ((blk b24).add 1) (.int .i64 x16) w26 (fun w27 =>
 doSt ((blk b24).add 2) (.int .u64 x17) w27 (fun w28 =>
 let K30 : World → Prop := fun (w29 : World) => 
 doGo Tryz.prog (.builtin .append #[32, 32] 32 #[true, false]) #[.slice none 0 0, .slice xp12 xn13 xc14] w29 (retS (fun v34 w35 => ∃ (xp31 : Option Addr), ∃ (xn32 : Nat), ∃ (xc33 : Nat), v34 = (.slice xp31 xn32 xc33 : Value) ∧ (
 ∃ (x36 : Int), World.cell? w35 ((blk b9).add 0) = some (.int .i64 x36) ∧ (
 ∃ (x37 : Int), World.cell? w35 ((blk b9).add 1) = some (.int .i64 x37) ∧ (
 ∃ (x38 : Int), World.cell? w35 ((blk b9).add 2) = some (.int .u64 x38) ∧ (
 doAl (.cells #[.int .i64 x36, .int .i64 x37, .int .u64 x38] 93) w35 (fun b39 w40 =>
 doGo Tryz.prog (.builtin .append #[32, 32] 32 #[false, false]) #[.slice xp31 xn32 xc33, .slice (some (blk b39)) 1 1] w40 (retS (fun v44 w45 => ∃ (xp41 : Option Addr), ∃ (xn42 : Nat), ∃ (xc43 : Nat), v44 = (.slice xp41 xn42 xc43 : Value) ∧ (
 doDr w45 (fun w47 =>
 ∃ (C46 : World → Prop), C46 w47 ∧ (
 ∃ (x48 : Int), (∀ w, C46 w → World.cell? w ((blk b24).add 1) = some (.int .i64 x48)) ∧ (
 doGo Tryz.prog (.builtin .append #[32, 32] 32 #[false, false]) #[.slice xp41 xn42 xc43, .slice xp19 xn20 xc21] w47 (retS (fun v52 w53 => ∃ (xp49 : Option Addr), ∃ (xn50 : Nat), ∃ (xc51 : Nat), v52 = (.slice xp49 xn50 xc51 : Value) ∧ (
 C46 w53 ∧ (
 R (.returned (.tuple #[.slice xp49 xn50 xc51, .int .i64 x48, .bool x18])) w53))) (fun ch w => Kfn R ch [] w))))))) (fun ch w => Kfn R ch [] w)))))))) (fun ch w => Kfn R ch [] w))
 ifB x18 (
 doDr w28 (fun w55 =>
 ∃ (C54 : World → Prop), C54 w55 ∧ (
 ∃ (x56 : Int), (∀ w, C54 w → World.cell? w ((blk b24).add 0) = some (.int .i64 x56)) ∧ (
 ∃ (x57 : Int), (∀ w, C54 w → World.cell? w ((blk b24).add 1) = some (.int .i64 x57)) ∧ (
 ∃ (x58 : Int), (∀ w, C54 w → World.cell? w ((blk b9).add 1) = some (.int .i64 x58)) ∧ (
 ∃ (x59 : Int), (∀ w, C54 w → World.cell? w ((blk b24).add 2) = some (.int .u64 x59)) ∧ (
 doCall Tryz.prog (.func (.func 75) #[] #[]) #[.int .u8 p_2, .int .i64 x57, .int .i64 x58] w55 (retS (fun v61 w62 => ∃ (x60 : Int), v61 = (.int .i64 x60 : Value) ∧ (
 C54 w62 ∧ (
 doSt ((blk b9).add 0) (.int .i64 x56) w62 (fun w63 =>
 doSt ((blk b9).add 1) (.int .i64 x60) w63 (fun w64 =>
 doSt ((blk b9).add 2) (.int .u64 x59) w64 (fun w65 =>
 K30 w65)))))) (fun ch w => Kfn R ch [] w))))))))) (
 K30 w28))))))) (fun ch w => Kfn R ch [] w))))
set_option maxRecDepth 100000 in
theorem sh76_ok (o_1 : Int) (p_2 : Int) (l_p3 : Option Addr) (l_n4 : Nat) (l_c5 : Nat) (x_6 : Int) (x_7 : Int) (x_8 : Int) {R : Ending → World → Prop} {w : World} : sh76 o_1 p_2 l_p3 l_n4 l_c5 x_6 x_7 x_8 R w → Calls Tryz.prog 76 #[.int .u8 o_1, .int .u8 p_2, .slice l_p3 l_n4 l_c5, .agg #[.int .i64 x_6, .int .i64 x_7, .int .u64 x_8]] w R :=
  calls_of_eq (ann := fun _ => []) (fn := Tryz.f76) (c := bodyOf Tryz.f76) (args := #[.int .u8 o_1, .int .u8 p_2, .slice l_p3 l_n4 l_c5, .agg #[.int .i64 x_6, .int .i64 x_7, .int .u64 x_8]]) 400 follows_mixed Tryz.func76 (by kernel_rfl) (by kernel_rfl)
set_option maxRecDepth 100000 in
/-- joinery/joineryref09.Same -/
def sh77 (a_p1 : Option Addr) (a_n2 : Nat) (_a_c3 : Nat) (b_p4 : Option Addr) (b_n5 : Nat) (_b_c6 : Nat) (R : Ending → World → Prop) (w : World) : Prop :=
 ifB ((((a_n2 : Nat) : Int) : Int) != ((b_n5 : Nat) : Int)) (
 R (.returned (.bool false)) w) (
 ∃ (I7 : List Value → World → Prop) (μ8 : List Value → World → Nat), I7 [.int .i64 0] w ∧ (∀ (i_11 : Int), ∀ (_j9 : Nat → Value) (w10 : World), I7 [.int .i64 i_11] w10 → (
 ifB (decide ((i_11 : Int) < ((a_n2 : Nat) : Int))) (
 doDr w10 (fun w13 =>
 ∃ (C12 : World → Prop), C12 w13 ∧ (
 doIx a_p1 a_n2 7 (i_11) (fun a14 =>
 ∃ (x15 : Int), (∀ w, C12 w → World.cell? w (a14.add 0) = some (.int .i64 x15)) ∧ (
 ∃ (x16 : Int), (∀ w, C12 w → World.cell? w (a14.add 1) = some (.int .i64 x16)) ∧ (
 ∃ (x17 : Int), (∀ w, C12 w → World.cell? w (a14.add 2) = some (.int .i64 x17)) ∧ (
 ∃ (x18 : Int), (∀ w, C12 w → World.cell? w (a14.add 3) = some (.int .i64 x18)) ∧ (
 ∃ (x19 : Int), (∀ w, C12 w → World.cell? w (a14.add 4) = some (.int .u64 x19)) ∧ (
 ∃ (x20 : Bool), (∀ w, C12 w → World.cell? w (a14.add 5) = some (.bool x20)) ∧ (
 ∃ (x21 : Bool), (∀ w, C12 w → World.cell? w (a14.add 6) = some (.bool x21)) ∧ (
 doIx b_p4 b_n5 7 (i_11) (fun a22 =>
 ∃ (x23 : Int), (∀ w, C12 w → World.cell? w (a22.add 0) = some (.int .i64 x23)) ∧ (
 ∃ (x24 : Int), (∀ w, C12 w → World.cell? w (a22.add 1) = some (.int .i64 x24)) ∧ (
 ∃ (x25 : Int), (∀ w, C12 w → World.cell? w (a22.add 2) = some (.int .i64 x25)) ∧ (
 ∃ (x26 : Int), (∀ w, C12 w → World.cell? w (a22.add 3) = some (.int .i64 x26)) ∧ (
 ∃ (x27 : Int), (∀ w, C12 w → World.cell? w (a22.add 4) = some (.int .u64 x27)) ∧ (
 ∃ (x28 : Bool), (∀ w, C12 w → World.cell? w (a22.add 5) = some (.bool x28)) ∧ (
 ∃ (x29 : Bool), (∀ w, C12 w → World.cell? w (a22.add 6) = some (.bool x29)) ∧ (
 ifB (!(((x15 : Int) == x23) && (((x16 : Int) == x24) && (((x17 : Int) == x25) && (((x18 : Int) == x26) && (((x19 : Int) == x27) && ((x20 == x28) && ((x21 == x29) && true)))))))) (
 R (.returned (.bool false)) w13) (
 I7 [.int .i64 (IntKind.wrap .i64 (i_11 + 1))] w13 ∧ μ8 [.int .i64 (IntKind.wrap .i64 (i_11 + 1))] w13 < μ8 [.int .i64 i_11] w10)))))))))))))))))))) (
 R (.returned (.bool true)) w10))))
set_option maxRecDepth 100000 in
theorem sh77_ok (a_p1 : Option Addr) (a_n2 : Nat) (a_c3 : Nat) (b_p4 : Option Addr) (b_n5 : Nat) (b_c6 : Nat) {R : Ending → World → Prop} {w : World} : sh77 a_p1 a_n2 a_c3 b_p4 b_n5 b_c6 R w → Calls Tryz.prog 77 #[.slice a_p1 a_n2 a_c3, .slice b_p4 b_n5 b_c6] w R :=
  calls_of_eq (ann := fun i => if i = 0 then [(5, .int .i64 0)] else []) (fn := Tryz.f77) (c := bodyOf Tryz.f77) (args := #[.slice a_p1 a_n2 a_c3, .slice b_p4 b_n5 b_c6]) 400 follows_mixed Tryz.func77 (by kernel_rfl) (by kernel_rfl)
set_option maxRecDepth 100000 in
/-- joinery/joineryref09.Sum -/
def sh78 (l_p1 : Option Addr) (l_n2 : Nat) (_l_c3 : Nat) (R : Ending → World → Prop) (w : World) : Prop :=
 ∃ (I4 : List Value → World → Prop) (μ5 : List Value → World → Nat), I4 [.int .i64 0, .int .i64 0] w ∧ (∀ (n_8 : Int), ∀ (i_9 : Int), ∀ (_j6 : Nat → Value) (w7 : World), I4 [.int .i64 n_8, .int .i64 i_9] w7 → (
 ifB (decide ((i_9 : Int) < ((l_n2 : Nat) : Int))) (
 doIx l_p1 l_n2 7 (i_9) (fun a10 =>
 ∃ (x11 : Int), World.cell? w7 (a10.add 1) = some (.int .i64 x11) ∧ (
 I4 [.int .i64 (IntKind.wrap .i64 (n_8 + x11)), .int .i64 (IntKind.wrap .i64 (i_9 + 1))] w7 ∧ μ5 [.int .i64 (IntKind.wrap .i64 (n_8 + x11)), .int .i64 (IntKind.wrap .i64 (i_9 + 1))] w7 < μ5 [.int .i64 n_8, .int .i64 i_9] w7))) (
 R (.returned (.int .i64 n_8)) w7)))
set_option maxRecDepth 100000 in
theorem sh78_ok (l_p1 : Option Addr) (l_n2 : Nat) (l_c3 : Nat) {R : Ending → World → Prop} {w : World} : sh78 l_p1 l_n2 l_c3 R w → Calls Tryz.prog 78 #[.slice l_p1 l_n2 l_c3] w R :=
  calls_of_eq (ann := fun i => if i = 0 then [(3, .int .i64 0), (4, .int .i64 0)] else []) (fn := Tryz.f78) (c := bodyOf Tryz.f78) (args := #[.slice l_p1 l_n2 l_c3]) 400 follows_mixed Tryz.func78 (by kernel_rfl) (by kernel_rfl)
set_option maxRecDepth 100000 in
/-- joinery/joineryref24.Stands -/
def sh79 (code_1 : Int) (o_2 : Int) (l_p3 : Option Addr) (l_n4 : Nat) (l_c5 : Nat) (R : Ending → World → Prop) (w : World) : Prop :=
 let K8 : Bool → World → Prop := fun (x6 : Bool) (w7 : World) => 
 R (.returned (.bool x6)) w7
 doCall Tryz.prog (.func (.func 12) #[] #[]) #[.int .u8 code_1] w (retS (fun v10 w11 => ∃ (x9 : Bool), v10 = (.bool x9 : Value) ∧ (
 ifB x9 (
 doCall Tryz.prog (.func (.func 36) #[] #[]) #[.int .u8 o_2] w11 (retS (fun v13 w14 => ∃ (x12 : Bool), v13 = (.bool x12 : Value) ∧ (
 ifB x12 (
 doCall Tryz.prog (.func (.func 112) #[] #[]) #[.int .u8 code_1, .slice l_p3 l_n4 l_c5] w14 (retS (fun v16 w17 => ∃ (x15 : Bool), v16 = (.bool x15 : Value) ∧ (
 ifB x15 (
 doCall Tryz.prog (.func (.func 37) #[] #[]) #[.int .u8 o_2, .slice l_p3 l_n4 l_c5] w17 (retS (fun v19 w20 => ∃ (x18 : Bool), v19 = (.bool x18 : Value) ∧ (
 K8 x18 w20)) (fun ch w => Kfn R ch [] w))) (
 R (.returned (.bool false)) w17))) (fun ch w => Kfn R ch [] w))) (
 R (.returned (.bool false)) w14))) (fun ch w => Kfn R ch [] w))) (
 R (.returned (.bool false)) w11))) (fun ch w => Kfn R ch [] w))
set_option maxRecDepth 100000 in
theorem sh79_ok (code_1 : Int) (o_2 : Int) (l_p3 : Option Addr) (l_n4 : Nat) (l_c5 : Nat) {R : Ending → World → Prop} {w : World} : sh79 code_1 o_2 l_p3 l_n4 l_c5 R w → Calls Tryz.prog 79 #[.int .u8 code_1, .int .u8 o_2, .slice l_p3 l_n4 l_c5] w R :=
  calls_of_eq (ann := fun _ => []) (fn := Tryz.f79) (c := bodyOf Tryz.f79) (args := #[.int .u8 code_1, .int .u8 o_2, .slice l_p3 l_n4 l_c5]) 400 follows_mixed Tryz.func79 (by kernel_rfl) (by kernel_rfl)
set_option maxRecDepth 100000 in
/-- (*joinery/node.Node).Size -/
def sh80 (n_1 : Option Addr) (R : Ending → World → Prop) (w : World) : Prop :=
 doCall Tryz.prog (.func (.func 114) #[] #[]) #[.pointer n_1] w (retS (fun v7 w8 => ∃ (x2 : Int), ∃ (x3 : Int), ∃ (x4 : Int), ∃ (x5 : Int), ∃ (x6 : Int), v7 = (.agg #[.int .i64 x2, .int .i64 x3, .int .i64 x4, .int .u64 x5, .int .i64 x6] : Value) ∧ (
 R (.returned (.int .i64 x6)) w8)) (fun ch w => Kfn R ch [] w))
set_option maxRecDepth 100000 in
theorem sh80_ok (n_1 : Option Addr) {R : Ending → World → Prop} {w : World} : sh80 n_1 R w → Calls Tryz.prog 80 #[.pointer n_1] w R :=
  calls_of_eq (ann := fun _ => []) (fn := Tryz.f80) (c := bodyOf Tryz.f80) (args := #[.pointer n_1]) 400 follows_mixed Tryz.func80 (by kernel_rfl) (by kernel_rfl)
set_option maxRecDepth 100000 in
/-- joinery/span.parts -/
def sh81 (s_1 : Option Addr) (o_2 : Int) (t_3 : Option Addr) (lo_4 : Int) (hi_5 : Int) (R : Ending → World → Prop) (w : World) : Prop :=
 ifB ((s_1).isNone) (
 R (.returned (.tuple #[.pointer none, .pointer none, .pointer none, .int .i64 2])) w) (
 doCall Tryz.prog (.func (.func 115) #[] #[]) #[.int .u8 o_2, .int .i64 lo_4, .int .i64 hi_5] w (retS (fun v7 w8 => ∃ (x6 : Int), v7 = (.int .i64 x6 : Value) ∧ (
 ifB ((x6 : Int) != 0) (
 R (.returned (.tuple #[.pointer none, .pointer none, .pointer none, .int .i64 x6])) w8) (
 doCall Tryz.prog (.func (.func 116) #[] #[]) #[.pointer s_1, .int .u8 o_2, .pointer t_3, .int .i64 lo_4, .bool false] w8 (retS (fun v11 w12 => ∃ (x9 : Option Addr), ∃ (x10 : Int), v11 = (.tuple #[.pointer x9, .int .i64 x10] : Value) ∧ (
 doCall Tryz.prog (.func (.func 117) #[] #[]) #[.pointer s_1, .int .u8 o_2, .pointer t_3, .int .i64 lo_4, .bool true] w12 (retS (fun v15 w16 => ∃ (x13 : Option Addr), ∃ (x14 : Int), v15 = (.tuple #[.pointer x13, .int .i64 x14] : Value) ∧ (
 doCall Tryz.prog (.func (.func 117) #[] #[]) #[.pointer s_1, .int .u8 o_2, .pointer x13, .int .i64 hi_5, .bool false] w16 (retS (fun v19 w20 => ∃ (x17 : Option Addr), ∃ (x18 : Int), v19 = (.tuple #[.pointer x17, .int .i64 x18] : Value) ∧ (
 doCall Tryz.prog (.func (.func 116) #[] #[]) #[.pointer s_1, .int .u8 o_2, .pointer x13, .int .i64 hi_5, .bool true] w20 (retS (fun v23 w24 => ∃ (x21 : Option Addr), ∃ (x22 : Int), v23 = (.tuple #[.pointer x21, .int .i64 x22] : Value) ∧ (
 R (.returned (.tuple #[.pointer x9, .pointer x21, .pointer x17, .int .i64 0])) w24)) (fun ch w => Kfn R ch [] w)))) (fun ch w => Kfn R ch [] w)))) (fun ch w => Kfn R ch [] w)))) (fun ch w => Kfn R ch [] w))))) (fun ch w => Kfn R ch [] w)))
set_option maxRecDepth 100000 in
theorem sh81_ok (s_1 : Option Addr) (o_2 : Int) (t_3 : Option Addr) (lo_4 : Int) (hi_5 : Int) {R : Ending → World → Prop} {w : World} : sh81 s_1 o_2 t_3 lo_4 hi_5 R w → Calls Tryz.prog 81 #[.pointer s_1, .int .u8 o_2, .pointer t_3, .int .i64 lo_4, .int .i64 hi_5] w R :=
  calls_of_eq (ann := fun _ => []) (fn := Tryz.f81) (c := bodyOf Tryz.f81) (args := #[.pointer s_1, .int .u8 o_2, .pointer t_3, .int .i64 lo_4, .int .i64 hi_5]) 400 follows_mixed Tryz.func81 (by kernel_rfl) (by kernel_rfl)
set_option maxRecDepth 100000 in
/-- joinery/joineryref02.Compare -/
def sh82 (o_1 : Int) (a_2 : Int) (b_3 : Int) (R : Ending → World → Prop) (w : World) : Prop :=
 let K6 : Bool → World → Prop := fun (x4 : Bool) (w5 : World) => 
 ifB x4 (
 R (.returned (.int .i64 0)) w5) (
 doCall Tryz.prog (.func (.func 118) #[] #[]) #[.int .u8 o_1, .int .i64 a_2] w5 (retS (fun v8 w9 => ∃ (x7 : Int), v8 = (.int .u64 x7 : Value) ∧ (
 doCall Tryz.prog (.func (.func 118) #[] #[]) #[.int .u8 o_1, .int .i64 b_3] w9 (retS (fun v11 w12 => ∃ (x10 : Int), v11 = (.int .u64 x10 : Value) ∧ (
 ifB (decide ((x7 : Int) < x10)) (
 R (.returned (.int .i64 (-1))) w12) (
 R (.returned (.int .i64 1)) w12))) (fun ch w => Kfn R ch [] w)))) (fun ch w => Kfn R ch [] w)))
 doCall Tryz.prog (.func (.func 42) #[] #[]) #[.int .u8 o_1] w (retS (fun v14 w15 => ∃ (x13 : Bool), v14 = (.bool x13 : Value) ∧ (
 ifB (!x13) (
 R (.returned (.int .i64 0)) w15) (
 doCall Tryz.prog (.func (.func 118) #[] #[]) #[.int .u8 o_1, .int .i64 a_2] w15 (retS (fun v17 w18 => ∃ (x16 : Int), v17 = (.int .u64 x16 : Value) ∧ (
 doCall Tryz.prog (.func (.func 118) #[] #[]) #[.int .u8 o_1, .int .i64 b_3] w18 (retS (fun v20 w21 => ∃ (x19 : Int), v20 = (.int .u64 x19 : Value) ∧ (
 K6 ((x16 : Int) == x19) w21)) (fun ch w => Kfn R ch [] w)))) (fun ch w => Kfn R ch [] w))))) (fun ch w => Kfn R ch [] w))
set_option maxRecDepth 100000 in
theorem sh82_ok (o_1 : Int) (a_2 : Int) (b_3 : Int) {R : Ending → World → Prop} {w : World} : sh82 o_1 a_2 b_3 R w → Calls Tryz.prog 82 #[.int .u8 o_1, .int .i64 a_2, .int .i64 b_3] w R :=
  calls_of_eq (ann := fun _ => []) (fn := Tryz.f82) (c := bodyOf Tryz.f82) (args := #[.int .u8 o_1, .int .i64 a_2, .int .i64 b_3]) 400 follows_mixed Tryz.func82 (by kernel_rfl) (by kernel_rfl)
end Go.Proofs.YtbaoihmffobneaaGreat
