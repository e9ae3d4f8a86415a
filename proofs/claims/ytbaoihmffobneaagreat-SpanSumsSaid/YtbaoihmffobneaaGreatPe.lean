/-
  Printed by a program (gen.py): what the functions of the program do, as formulas; each with the proof that its call is what the formula says.
-/
/-
  Printed by a program (gen.py): what the functions of the program do, as formulas; each with the proof that its call is what the formula says.
-/
/-
  Printed by a program (gen.py): what the functions of the program do, as formulas; each with the proof that its call is what the formula says.
-/
import Derived.Test.YtbaoihmffobneaaGreatPb
import Derived.Test.YtbaoihmffobneaaGreatProg
import Derived.Test.YtbaoihmffobneaaGreatPd

namespace Go.Proofs.YtbaoihmffobneaaGreat
open Go Go.Sh
set_option maxRecDepth 100000 in
/-- joinery/joineryref09.May -/
def sh83 (l_p1 : Option Addr) (l_n2 : Nat) (l_c3 : Nat) (R : Ending → World → Prop) (w : World) : Prop :=
 let K6 : Bool → World → Prop := fun (x4 : Bool) (w5 : World) => 
 R (.returned (.bool x4)) w5
 ifB ((((l_n2 : Nat) : Int) : Int) == 0) (
 R (.returned (.bool true)) w) (
 doCall Tryz.prog (.func (.func 103) #[] #[]) #[.slice l_p1 l_n2 l_c3, .int .i64 0, .int .i64 0] w (retS (fun v8 w9 => ∃ (x7 : Int), v8 = (.int .i64 x7 : Value) ∧ (
 K6 ((x7 : Int) == ((l_n2 : Nat) : Int)) w9)) (fun ch w => Kfn R ch [] w)))
set_option maxRecDepth 100000 in
theorem sh83_ok (l_p1 : Option Addr) (l_n2 : Nat) (l_c3 : Nat) {R : Ending → World → Prop} {w : World} : sh83 l_p1 l_n2 l_c3 R w → Calls Tryz.prog 83 #[.slice l_p1 l_n2 l_c3] w R :=
  calls_of_eq (ann := fun _ => []) (fn := Tryz.f83) (c := bodyOf Tryz.f83) (args := #[.slice l_p1 l_n2 l_c3]) 400 follows_mixed Tryz.func83 (by kernel_rfl) (by kernel_rfl)
set_option maxRecDepth 100000 in
/-- joinery/joineryref12.Rises -/
def sh84 (o_1 : Int) (l_p2 : Option Addr) (l_n3 : Nat) (_l_c4 : Nat) (R : Ending → World → Prop) (w : World) : Prop :=
 ∃ (I5 : List Value → World → Prop) (μ6 : List Value → World → Nat), I5 [.int .i64 1] w ∧ (∀ (i_9 : Int), ∀ (_j7 : Nat → Value) (w8 : World), I5 [.int .i64 i_9] w8 → (
 ifB (decide ((i_9 : Int) < ((l_n3 : Nat) : Int))) (
 doDr w8 (fun w11 =>
 ∃ (C10 : World → Prop), C10 w11 ∧ (
 doIx l_p2 l_n3 2 (IntKind.wrap .i64 (i_9 - 1)) (fun a12 =>
 ∃ (x13 : Int), (∀ w, C10 w → World.cell? w (a12.add 0) = some (.int .i64 x13)) ∧ (
 doIx l_p2 l_n3 2 (i_9) (fun a14 =>
 ∃ (x15 : Int), (∀ w, C10 w → World.cell? w (a14.add 0) = some (.int .i64 x15)) ∧ (
 doCall Tryz.prog (.func (.func 82) #[] #[]) #[.int .u8 o_1, .int .i64 x13, .int .i64 x15] w11 (retS (fun v17 w18 => ∃ (x16 : Int), v17 = (.int .i64 x16 : Value) ∧ (
 ifB (decide ((x16 : Int) ≥ 0)) (
 R (.returned (.bool false)) w18) (
 I5 [.int .i64 (IntKind.wrap .i64 (i_9 + 1))] w18 ∧ μ6 [.int .i64 (IntKind.wrap .i64 (i_9 + 1))] w18 < μ6 [.int .i64 i_9] w8))) (fun ch w => Kfn R ch [] w))))))))) (
 R (.returned (.bool true)) w8)))
set_option maxRecDepth 100000 in
theorem sh84_ok (o_1 : Int) (l_p2 : Option Addr) (l_n3 : Nat) (l_c4 : Nat) {R : Ending → World → Prop} {w : World} : sh84 o_1 l_p2 l_n3 l_c4 R w → Calls Tryz.prog 84 #[.int .u8 o_1, .slice l_p2 l_n3 l_c4] w R :=
  calls_of_eq (ann := fun i => if i = 0 then [(5, .int .i64 0)] else []) (fn := Tryz.f84) (c := bodyOf Tryz.f84) (args := #[.int .u8 o_1, .slice l_p2 l_n3 l_c4]) 400 follows_mixed Tryz.func84 (by kernel_rfl) (by kernel_rfl)
set_option maxRecDepth 100000 in
/-- joinery/joineryref09.Pairs -/
def sh85 (l_p1 : Option Addr) (l_n2 : Nat) (l_c3 : Nat) (R : Ending → World → Prop) (w : World) : Prop :=
 ifB ((((l_n2 : Nat) : Int) : Int) == 0) (
 R (.returned (.slice none 0 0)) w) (
 doCall Tryz.prog (.func (.func 64) #[] #[]) #[.slice l_p1 l_n2 l_c3] w (retS (fun v17 w18 => ∃ (x4 : Int), ∃ (x5 : Int), ∃ (x6 : Int), ∃ (x7 : Int), ∃ (x8 : Int), ∃ (x9 : Bool), ∃ (x10 : Bool), ∃ (xp11 : Option Addr), ∃ (xn12 : Nat), ∃ (xc13 : Nat), ∃ (xp14 : Option Addr), ∃ (xn15 : Nat), ∃ (xc16 : Nat), v17 = (.tuple #[.agg #[.int .i64 x4, .int .i64 x5, .int .i64 x6, .int .i64 x7, .int .u64 x8, .bool x9, .bool x10], .slice xp11 xn12 xc13, .slice xp14 xn15 xc16] : Value) ∧ (
 doAl (.cells #[.int .i64 0, .int .i64 0, .int .i64 0, .int .i64 0, .int .u64 0, .bool false, .bool false] 97) w18 (fun b19 w20 =>
 doSt ((blk b19).add 0) (.int .i64 x4) w20 (fun w21 =>
 doSt ((blk b19).add 1) (.int .i64 x5) w21 (fun w22 =>
 doSt ((blk b19).add 2) (.int .i64 x6) w22 (fun w23 =>
 doSt ((blk b19).add 3) (.int .i64 x7) w23 (fun w24 =>
 doSt ((blk b19).add 4) (.int .u64 x8) w24 (fun w25 =>
 doSt ((blk b19).add 5) (.bool x9) w25 (fun w26 =>
 doSt ((blk b19).add 6) (.bool x10) w26 (fun w27 =>
 let K32 : (Option Addr) → Nat → Nat → World → Prop := fun (out_p28 : Option Addr) (out_n29 : Nat) (out_c30 : Nat) (w31 : World) => 
 doCall Tryz.prog (.func (.func 85) #[] #[]) #[.slice xp14 xn15 xc16] w31 (retS (fun v36 w37 => ∃ (xp33 : Option Addr), ∃ (xn34 : Nat), ∃ (xc35 : Nat), v36 = (.slice xp33 xn34 xc35 : Value) ∧ (
 doGo Tryz.prog (.builtin .append #[63, 63] 63 #[false, false]) #[.slice out_p28 out_n29 out_c30, .slice xp33 xn34 xc35] w37 (retS (fun v41 w42 => ∃ (xp38 : Option Addr), ∃ (xn39 : Nat), ∃ (xc40 : Nat), v41 = (.slice xp38 xn39 xc40 : Value) ∧ (
 R (.returned (.slice xp38 xn39 xc40)) w42)) (fun ch w => Kfn R ch [] w)))) (fun ch w => Kfn R ch [] w))
 doDr w27 (fun w44 =>
 ∃ (C43 : World → Prop), C43 w44 ∧ (
 ∃ (x45 : Int), (∀ w, C43 w → World.cell? w ((blk b19).add 0) = some (.int .i64 x45)) ∧ (
 ∃ (x46 : Int), (∀ w, C43 w → World.cell? w ((blk b19).add 1) = some (.int .i64 x46)) ∧ (
 (doCall Tryz.prog (.func (.func 85) #[] #[]) #[.slice xp11 xn12 xc13] w44 (retS (fun v50 w51 => ∃ (xp47 : Option Addr), ∃ (xn48 : Nat), ∃ (xc49 : Nat), v50 = (.slice xp47 xn48 xc49 : Value) ∧ (
 C43 w51 ∧ (
 doAl (.cells #[.int .i64 x45, .int .i64 x46] 76) w51 (fun b52 w53 =>
 C43 w53 ∧ (
 doGo Tryz.prog (.builtin .append #[63, 63] 63 #[false, false]) #[.slice xp47 xn48 xc49, .slice (some (blk b52)) 1 1] w53 (retS (fun v57 w58 => ∃ (xp54 : Option Addr), ∃ (xn55 : Nat), ∃ (xc56 : Nat), v57 = (.slice xp54 xn55 xc56 : Value) ∧ (
 C43 w58 ∧ (
 K32 xp54 xn55 xc56 w58))) (fun ch w => Kfn R ch [] w))))))) (fun ch w => Kfn R ch [] w))) ∧ (doAl (.cells #[.int .i64 x45, .int .i64 x46] 76) w44 (fun b59 w60 =>
 C43 w60 ∧ (
 doCall Tryz.prog (.func (.func 85) #[] #[]) #[.slice xp11 xn12 xc13] w60 (retS (fun v64 w65 => ∃ (xp61 : Option Addr), ∃ (xn62 : Nat), ∃ (xc63 : Nat), v64 = (.slice xp61 xn62 xc63 : Value) ∧ (
 C43 w65 ∧ (
 doGo Tryz.prog (.builtin .append #[63, 63] 63 #[false, false]) #[.slice xp61 xn62 xc63, .slice (some (blk b59)) 1 1] w65 (retS (fun v69 w70 => ∃ (xp66 : Option Addr), ∃ (xn67 : Nat), ∃ (xc68 : Nat), v69 = (.slice xp66 xn67 xc68 : Value) ∧ (
 C43 w70 ∧ (
 K32 xp66 xn67 xc68 w70))) (fun ch w => Kfn R ch [] w))))) (fun ch w => Kfn R ch [] w))))))))))))))))))) (fun ch w => Kfn R ch [] w)))
set_option maxRecDepth 100000 in
theorem sh85_ok (l_p1 : Option Addr) (l_n2 : Nat) (l_c3 : Nat) {R : Ending → World → Prop} {w : World} : sh85 l_p1 l_n2 l_c3 R w → Calls Tryz.prog 85 #[.slice l_p1 l_n2 l_c3] w R :=
  calls_of_eq (ann := fun _ => []) (fn := Tryz.f85) (c := bodyOf Tryz.f85) (args := #[.slice l_p1 l_n2 l_c3]) 400 follows_mixed Tryz.func85 (by kernel_rfl) (by kernel_rfl)
set_option maxRecDepth 100000 in
/-- joinery/span.between[int] -/
def sh86 (o_1 : Int) (t_2 : Option Addr) (lo_3 : Int) (hi_4 : Int) (all_f5 : Fn) (all_x6 : Array Value) (all_c7 : Array Value) (R : Ending → World → Prop) (w : World) : Prop :=
 doCall Tryz.prog (.func (.func 115) #[] #[]) #[.int .u8 o_1, .int .i64 lo_3, .int .i64 hi_4] w (retS (fun v9 w10 => ∃ (x8 : Int), v9 = (.int .i64 x8 : Value) ∧ (
 ifB ((x8 : Int) != 0) (
 R (.returned (.tuple #[.int .i64 0, .int .i64 x8])) w10) (
 doCall Tryz.prog (.func (.func 119) #[] #[]) #[.int .u8 o_1, .pointer t_2, .int .i64 hi_4, .bool true, .func all_f5 all_x6 all_c7] w10 (retS (fun v12 w13 => ∃ (x11 : Int), v12 = (.int .i64 x11 : Value) ∧ (
 doCall Tryz.prog (.func (.func 119) #[] #[]) #[.int .u8 o_1, .pointer t_2, .int .i64 lo_3, .bool false, .func all_f5 all_x6 all_c7] w13 (retS (fun v15 w16 => ∃ (x14 : Int), v15 = (.int .i64 x14 : Value) ∧ (
 R (.returned (.tuple #[.int .i64 (IntKind.wrap .i64 (x11 - x14)), .int .i64 0])) w16)) (fun ch w => Kfn R ch [] w)))) (fun ch w => Kfn R ch [] w))))) (fun ch w => Kfn R ch [] w))
set_option maxRecDepth 100000 in
theorem sh86_ok (o_1 : Int) (t_2 : Option Addr) (lo_3 : Int) (hi_4 : Int) (all_f5 : Fn) (all_x6 : Array Value) (all_c7 : Array Value) {R : Ending → World → Prop} {w : World} : sh86 o_1 t_2 lo_3 hi_4 all_f5 all_x6 all_c7 R w → Calls Tryz.prog 86 #[.int .u8 o_1, .pointer t_2, .int .i64 lo_3, .int .i64 hi_4, .func all_f5 all_x6 all_c7] w R :=
  calls_of_eq (ann := fun _ => []) (fn := Tryz.f86) (c := bodyOf Tryz.f86) (args := #[.int .u8 o_1, .pointer t_2, .int .i64 lo_3, .int .i64 hi_4, .func all_f5 all_x6 all_c7]) 400 follows_mixed Tryz.func86 (by kernel_rfl) (by kernel_rfl)
set_option maxRecDepth 100000 in
/-- joinery/span.between[int64] -/
def sh87 (o_1 : Int) (t_2 : Option Addr) (lo_3 : Int) (hi_4 : Int) (all_f5 : Fn) (all_x6 : Array Value) (all_c7 : Array Value) (R : Ending → World → Prop) (w : World) : Prop :=
 doCall Tryz.prog (.func (.func 115) #[] #[]) #[.int .u8 o_1, .int .i64 lo_3, .int .i64 hi_4] w (retS (fun v9 w10 => ∃ (x8 : Int), v9 = (.int .i64 x8 : Value) ∧ (
 ifB ((x8 : Int) != 0) (
 R (.returned (.tuple #[.int .i64 0, .int .i64 x8])) w10) (
 doCall Tryz.prog (.func (.func 120) #[] #[]) #[.int .u8 o_1, .pointer t_2, .int .i64 hi_4, .bool true, .func all_f5 all_x6 all_c7] w10 (retS (fun v12 w13 => ∃ (x11 : Int), v12 = (.int .i64 x11 : Value) ∧ (
 doCall Tryz.prog (.func (.func 120) #[] #[]) #[.int .u8 o_1, .pointer t_2, .int .i64 lo_3, .bool false, .func all_f5 all_x6 all_c7] w13 (retS (fun v15 w16 => ∃ (x14 : Int), v15 = (.int .i64 x14 : Value) ∧ (
 R (.returned (.tuple #[.int .i64 (IntKind.wrap .i64 (x11 - x14)), .int .i64 0])) w16)) (fun ch w => Kfn R ch [] w)))) (fun ch w => Kfn R ch [] w))))) (fun ch w => Kfn R ch [] w))
set_option maxRecDepth 100000 in
theorem sh87_ok (o_1 : Int) (t_2 : Option Addr) (lo_3 : Int) (hi_4 : Int) (all_f5 : Fn) (all_x6 : Array Value) (all_c7 : Array Value) {R : Ending → World → Prop} {w : World} : sh87 o_1 t_2 lo_3 hi_4 all_f5 all_x6 all_c7 R w → Calls Tryz.prog 87 #[.int .u8 o_1, .pointer t_2, .int .i64 lo_3, .int .i64 hi_4, .func all_f5 all_x6 all_c7] w R :=
  calls_of_eq (ann := fun _ => []) (fn := Tryz.f87) (c := bodyOf Tryz.f87) (args := #[.int .u8 o_1, .pointer t_2, .int .i64 lo_3, .int .i64 hi_4, .func all_f5 all_x6 all_c7]) 400 follows_mixed Tryz.func87 (by kernel_rfl) (by kernel_rfl)
set_option maxRecDepth 100000 in
/-- (*joinery/node.Node).Sum -/
def sh88 (n_1 : Option Addr) (R : Ending → World → Prop) (w : World) : Prop :=
 doCall Tryz.prog (.func (.func 114) #[] #[]) #[.pointer n_1] w (retS (fun v7 w8 => ∃ (x2 : Int), ∃ (x3 : Int), ∃ (x4 : Int), ∃ (x5 : Int), ∃ (x6 : Int), v7 = (.agg #[.int .i64 x2, .int .i64 x3, .int .i64 x4, .int .u64 x5, .int .i64 x6] : Value) ∧ (
 R (.returned (.int .i64 x4)) w8)) (fun ch w => Kfn R ch [] w))
set_option maxRecDepth 100000 in
theorem sh88_ok (n_1 : Option Addr) {R : Ending → World → Prop} {w : World} : sh88 n_1 R w → Calls Tryz.prog 88 #[.pointer n_1] w R :=
  calls_of_eq (ann := fun _ => []) (fn := Tryz.f88) (c := bodyOf Tryz.f88) (args := #[.pointer n_1]) 400 follows_mixed Tryz.func88 (by kernel_rfl) (by kernel_rfl)
set_option maxRecDepth 100000 in
/-- joinery/joineryref20.item -/
def sh89 (x_1 : Int) (x_2 : Int) (x_3 : Int) (x_4 : Int) (x_5 : Int) (x_6 : Bool) (x_7 : Bool) (R : Ending → World → Prop) (w : World) : Prop :=
 doAl (.cells #[.int .i64 x_1, .int .i64 x_2, .int .i64 x_3, .int .i64 x_4, .int .u64 x_5, .bool x_6, .bool x_7] 97) w (fun b8 w9 =>
 doAl (.cells #[.int .i64 0, .int .i64 0, .int .u64 0] 93) w9 (fun b10 w11 =>
 ∃ (x12 : Int), World.cell? w11 ((blk b8).add 0) = some (.int .i64 x12) ∧ (
 ∃ (x13 : Int), World.cell? w11 ((blk b8).add 1) = some (.int .i64 x13) ∧ (
 ∃ (x14 : Int), World.cell? w11 ((blk b8).add 4) = some (.int .u64 x14) ∧ (
 doSt ((blk b10).add 0) (.int .i64 x12) w11 (fun w15 =>
 doSt ((blk b10).add 1) (.int .i64 x13) w15 (fun w16 =>
 doSt ((blk b10).add 2) (.int .u64 x14) w16 (fun w17 =>
 ∃ (x18 : Int), World.cell? w17 ((blk b10).add 0) = some (.int .i64 x18) ∧ (
 ∃ (x19 : Int), World.cell? w17 ((blk b10).add 1) = some (.int .i64 x19) ∧ (
 ∃ (x20 : Int), World.cell? w17 ((blk b10).add 2) = some (.int .u64 x20) ∧ (
 R (.returned (.agg #[.int .i64 x18, .int .i64 x19, .int .u64 x20])) w17)))))))))))
set_option maxRecDepth 100000 in
theorem sh89_ok (x_1 : Int) (x_2 : Int) (x_3 : Int) (x_4 : Int) (x_5 : Int) (x_6 : Bool) (x_7 : Bool) {R : Ending → World → Prop} {w : World} : sh89 x_1 x_2 x_3 x_4 x_5 x_6 x_7 R w → Calls Tryz.prog 89 #[.agg #[.int .i64 x_1, .int .i64 x_2, .int .i64 x_3, .int .i64 x_4, .int .u64 x_5, .bool x_6, .bool x_7]] w R :=
  calls_of_eq (ann := fun _ => []) (fn := Tryz.f89) (c := bodyOf Tryz.f89) (args := #[.agg #[.int .i64 x_1, .int .i64 x_2, .int .i64 x_3, .int .i64 x_4, .int .u64 x_5, .bool x_6, .bool x_7]]) 400 follows_mixed Tryz.func89 (by kernel_rfl) (by kernel_rfl)
set_option maxRecDepth 100000 in
/-- joinery/scheme.of -/
def sh99 (code_1 : Int) (R : Ending → World → Prop) (w : World) : Prop :=
 ifB ((code_1 : Int) == 1) (
 R (.returned (.iface 215 (.agg #[.string (⟨#[97, 118, 108]⟩ : ByteArray), .func (.func 138) #[] #[], .func (.func 139) #[] #[], .func (.func 140) #[] #[], .func (.func 141) #[] #[], .func (.func 142) #[] #[], .func (.func 143) #[] #[]]))) w) (
 ifB ((code_1 : Int) == 2) (
 R (.returned (.iface 215 (.agg #[.string (⟨#[114, 101, 100, 98, 108, 97, 99, 107]⟩ : ByteArray), .func (.func 144) #[] #[], .func (.func 145) #[] #[], .func (.func 146) #[] #[], .func (.func 147) #[] #[], .func (.func 148) #[] #[], .func (.func 149) #[] #[]]))) w) (
 ifB ((code_1 : Int) == 3) (
 R (.returned (.iface 215 (.agg #[.string (⟨#[119, 101, 105, 103, 104, 116]⟩ : ByteArray), .func (.func 150) #[] #[], .func (.func 151) #[] #[], .func (.func 152) #[] #[], .func (.func 153) #[] #[], .func (.func 154) #[] #[], .func (.func 143) #[] #[]]))) w) (
 ifB ((code_1 : Int) == 4) (
 R (.returned (.iface 216 (.agg #[]))) w) (
 R (.returned (.nilIface)) w))))
set_option maxRecDepth 100000 in
theorem sh99_ok (code_1 : Int) {R : Ending → World → Prop} {w : World} : sh99 code_1 R w → Calls Tryz.prog 99 #[.int .u8 code_1] w R :=
  calls_of_eq (ann := fun _ => []) (fn := Tryz.f99) (c := bodyOf Tryz.f99) (args := #[.int .u8 code_1]) 400 follows_mixed Tryz.func99 (by kernel_rfl) (by kernel_rfl)
set_option maxRecDepth 100000 in
/-- (*sync/atomic.Uint64).Add -/
def sh100 (x_1 : Option Addr) (delta_2 : Int) (R : Ending → World → Prop) (w : World) : Prop :=
 ∃ (q3 : Addr), x_1 = some q3 ∧ (
 doCall Tryz.prog (.func (.func 155) #[] #[]) #[.pointer (some (q3.add 0)), .int .u64 delta_2] w (retS (fun v5 w6 => ∃ (x4 : Int), v5 = (.int .u64 x4 : Value) ∧ (
 R (.returned (.int .u64 x4)) w6)) (fun ch w => Kfn R ch [] w)))
set_option maxRecDepth 100000 in
theorem sh100_ok (x_1 : Option Addr) (delta_2 : Int) {R : Ending → World → Prop} {w : World} : sh100 x_1 delta_2 R w → Calls Tryz.prog 100 #[.pointer x_1, .int .u64 delta_2] w R :=
  calls_of_eq (ann := fun _ => []) (fn := Tryz.f100) (c := bodyOf Tryz.f100) (args := #[.pointer x_1, .int .u64 delta_2]) 400 follows_mixed Tryz.func100 (by kernel_rfl) (by kernel_rfl)
set_option maxRecDepth 100000 in
/-- (*joinery/scheme.Scheme).face -/
def sh101 (s_1 : Option Addr) (R : Ending → World → Prop) (w : World) : Prop :=
 doAl (.cells #[.pointer s_1] 23) w (fun b2 w3 =>
 doAl (.cells #[.string (⟨#[]⟩ : ByteArray), .nilFunc, .nilFunc, .nilFunc, .nilFunc, .nilFunc, .nilFunc, .bool false] 162) w3 (fun b4 w5 =>
 ∃ (x6 : Option Addr), World.cell? w5 (blk b2) = some (.pointer x6) ∧ (
 ∃ (q7 : Addr), x6 = some q7 ∧ (
 doCall Tryz.prog (.func (.func 156) #[] #[]) #[.pointer (some (q7.add 1)), .func (.func 157) #[] #[.pointer (some (blk b2))]] w5 (retS (fun v8 w9 => v8 = (.tuple #[] : Value) ∧ (
 ∃ (x10 : Option Addr), World.cell? w9 (blk b2) = some (.pointer x10) ∧ (
 ∃ (q11 : Addr), x10 = some q11 ∧ (
 ∃ (x12 : ByteArray), World.cell? w9 ((q11.add 4).add 0) = some (.string x12) ∧ (
 ∃ (xf13 : Fn), ∃ (xx14 : Array Value), ∃ (xc15 : Array Value), World.cell? w9 ((q11.add 4).add 1) = some (.func xf13 xx14 xc15) ∧ (
 ∃ (xf16 : Fn), ∃ (xx17 : Array Value), ∃ (xc18 : Array Value), World.cell? w9 ((q11.add 4).add 2) = some (.func xf16 xx17 xc18) ∧ (
 ∃ (xf19 : Fn), ∃ (xx20 : Array Value), ∃ (xc21 : Array Value), World.cell? w9 ((q11.add 4).add 3) = some (.func xf19 xx20 xc21) ∧ (
 ∃ (xf22 : Fn), ∃ (xx23 : Array Value), ∃ (xc24 : Array Value), World.cell? w9 ((q11.add 4).add 4) = some (.func xf22 xx23 xc24) ∧ (
 ∃ (xf25 : Fn), ∃ (xx26 : Array Value), ∃ (xc27 : Array Value), World.cell? w9 ((q11.add 4).add 5) = some (.func xf25 xx26 xc27) ∧ (
 ∃ (xf28 : Fn), ∃ (xx29 : Array Value), ∃ (xc30 : Array Value), World.cell? w9 ((q11.add 4).add 6) = some (.func xf28 xx29 xc30) ∧ (
 ∃ (x31 : Bool), World.cell? w9 ((q11.add 4).add 7) = some (.bool x31) ∧ (
 doSt ((blk b4).add 0) (.string x12) w9 (fun w32 =>
 doSt ((blk b4).add 1) (.func xf13 xx14 xc15) w32 (fun w33 =>
 doSt ((blk b4).add 2) (.func xf16 xx17 xc18) w33 (fun w34 =>
 doSt ((blk b4).add 3) (.func xf19 xx20 xc21) w34 (fun w35 =>
 doSt ((blk b4).add 4) (.func xf22 xx23 xc24) w35 (fun w36 =>
 doSt ((blk b4).add 5) (.func xf25 xx26 xc27) w36 (fun w37 =>
 doSt ((blk b4).add 6) (.func xf28 xx29 xc30) w37 (fun w38 =>
 doSt ((blk b4).add 7) (.bool x31) w38 (fun w39 =>
 ∃ (x40 : ByteArray), World.cell? w39 ((blk b4).add 0) = some (.string x40) ∧ (
 ∃ (xf41 : Fn), ∃ (xx42 : Array Value), ∃ (xc43 : Array Value), World.cell? w39 ((blk b4).add 1) = some (.func xf41 xx42 xc43) ∧ (
 ∃ (xf44 : Fn), ∃ (xx45 : Array Value), ∃ (xc46 : Array Value), World.cell? w39 ((blk b4).add 2) = some (.func xf44 xx45 xc46) ∧ (
 ∃ (xf47 : Fn), ∃ (xx48 : Array Value), ∃ (xc49 : Array Value), World.cell? w39 ((blk b4).add 3) = some (.func xf47 xx48 xc49) ∧ (
 ∃ (xf50 : Fn), ∃ (xx51 : Array Value), ∃ (xc52 : Array Value), World.cell? w39 ((blk b4).add 4) = some (.func xf50 xx51 xc52) ∧ (
 ∃ (xf53 : Fn), ∃ (xx54 : Array Value), ∃ (xc55 : Array Value), World.cell? w39 ((blk b4).add 5) = some (.func xf53 xx54 xc55) ∧ (
 ∃ (xf56 : Fn), ∃ (xx57 : Array Value), ∃ (xc58 : Array Value), World.cell? w39 ((blk b4).add 6) = some (.func xf56 xx57 xc58) ∧ (
 ∃ (x59 : Bool), World.cell? w39 ((blk b4).add 7) = some (.bool x59) ∧ (
 R (.returned (.agg #[.string x40, .func xf41 xx42 xc43, .func xf44 xx45 xc46, .func xf47 xx48 xc49, .func xf50 xx51 xc52, .func xf53 xx54 xc55, .func xf56 xx57 xc58, .bool x59])) w39)))))))))))))))))))))))))))) (fun ch w => Kfn R ch [] w))))))
set_option maxRecDepth 100000 in
theorem sh101_ok (s_1 : Option Addr) {R : Ending → World → Prop} {w : World} : sh101 s_1 R w → Calls Tryz.prog 101 #[.pointer s_1] w R :=
  calls_of_eq (ann := fun _ => []) (fn := Tryz.f101) (c := bodyOf Tryz.f101) (args := #[.pointer s_1]) 400 follows_mixed Tryz.func101 (by kernel_rfl) (by kernel_rfl)
set_option maxRecDepth 100000 in
/-- joinery/cut.Last -/
def sh102 (s_1 : Option Addr) (t_2 : Option Addr) (R : Ending → World → Prop) (w : World) : Prop :=
 doAl (.cells #[.int .i64 0, .int .i64 0, .int .u64 0] 93) w (fun b3 w4 =>
 let K7 : Bool → World → Prop := fun (x5 : Bool) (w6 : World) => 
 ifB x5 (
 doSt ((blk b3).add 0) (.int .i64 0) w6 (fun w8 =>
 doSt ((blk b3).add 1) (.int .i64 0) w8 (fun w9 =>
 doSt ((blk b3).add 2) (.int .u64 0) w9 (fun w10 =>
 ∃ (x11 : Int), World.cell? w10 ((blk b3).add 0) = some (.int .i64 x11) ∧ (
 ∃ (x12 : Int), World.cell? w10 ((blk b3).add 1) = some (.int .i64 x12) ∧ (
 ∃ (x13 : Int), World.cell? w10 ((blk b3).add 2) = some (.int .u64 x13) ∧ (
 R (.returned (.tuple #[.pointer none, .agg #[.int .i64 x11, .int .i64 x12, .int .u64 x13], .bool false])) w10))))))) (
 doCall Tryz.prog (.func (.func 159) #[] #[]) #[.pointer s_1, .bool true] w6 (retS (fun v23 w24 => ∃ (xf14 : Fn), ∃ (xx15 : Array Value), ∃ (xc16 : Array Value), ∃ (xf17 : Fn), ∃ (xx18 : Array Value), ∃ (xc19 : Array Value), ∃ (xf20 : Fn), ∃ (xx21 : Array Value), ∃ (xc22 : Array Value), v23 = (.agg #[.func xf14 xx15 xc16, .func xf17 xx18 xc19, .func xf20 xx21 xc22] : Value) ∧ (
 doCall Tryz.prog (.func (.func 158) #[] #[]) #[.pointer s_1, .agg #[.func xf14 xx15 xc16, .func xf17 xx18 xc19, .func xf20 xx21 xc22], .pointer t_2] w24 (retS (fun v29 w30 => ∃ (x25 : Option Addr), ∃ (x26 : Int), ∃ (x27 : Int), ∃ (x28 : Int), v29 = (.tuple #[.pointer x25, .agg #[.int .i64 x26, .int .i64 x27, .int .u64 x28]] : Value) ∧ (
 doSt ((blk b3).add 0) (.int .i64 x26) w30 (fun w31 =>
 doSt ((blk b3).add 1) (.int .i64 x27) w31 (fun w32 =>
 doSt ((blk b3).add 2) (.int .u64 x28) w32 (fun w33 =>
 doDr w33 (fun w35 =>
 ∃ (C34 : World → Prop), C34 w35 ∧ (
 ∃ (x36 : Int), (∀ w, C34 w → World.cell? w ((blk b3).add 0) = some (.int .i64 x36)) ∧ (
 ∃ (x37 : Int), (∀ w, C34 w → World.cell? w ((blk b3).add 1) = some (.int .i64 x37)) ∧ (
 ∃ (x38 : Int), (∀ w, C34 w → World.cell? w ((blk b3).add 2) = some (.int .u64 x38)) ∧ (
 doSt ((blk b3).add 0) (.int .i64 x36) w35 (fun w39 =>
 doSt ((blk b3).add 1) (.int .i64 x37) w39 (fun w40 =>
 doSt ((blk b3).add 2) (.int .u64 x38) w40 (fun w41 =>
 ∃ (x42 : Int), World.cell? w41 ((blk b3).add 0) = some (.int .i64 x42) ∧ (
 ∃ (x43 : Int), World.cell? w41 ((blk b3).add 1) = some (.int .i64 x43) ∧ (
 ∃ (x44 : Int), World.cell? w41 ((blk b3).add 2) = some (.int .u64 x44) ∧ (
 R (.returned (.tuple #[.pointer x25, .agg #[.int .i64 x42, .int .i64 x43, .int .u64 x44], .bool true])) w41)))))))))))))))) (fun ch w => Kfn R ch [] w)))) (fun ch w => Kfn R ch [] w)))
 ifB ((s_1).isNone) (
 K7 true w4) (
 K7 ((t_2).isNone) w4))
set_option maxRecDepth 100000 in
theorem sh102_ok (s_1 : Option Addr) (t_2 : Option Addr) {R : Ending → World → Prop} {w : World} : sh102 s_1 t_2 R w → Calls Tryz.prog 102 #[.pointer s_1, .pointer t_2] w R :=
  calls_of_eq (ann := fun _ => []) (fn := Tryz.f102) (c := bodyOf Tryz.f102) (args := #[.pointer s_1, .pointer t_2]) 400 follows_mixed Tryz.func102 (by kernel_rfl) (by kernel_rfl)
set_option maxRecDepth 100000 in
/-- joinery/joineryref09.ends -/
def sh103 (l_p1 : Option Addr) (l_n2 : Nat) (l_c3 : Nat) (at_4 : Int) (deep_5 : Int) (R : Ending → World → Prop) (w : World) : Prop :=
 let K8 : Bool → World → Prop := fun (x6 : Bool) (w7 : World) => 
 ifB x6 (
 R (.returned (.int .i64 (-1))) w7) (
 let K11 : Int → World → Prop := fun (n_9 : Int) (w10 : World) => 
 let K14 : Int → World → Prop := fun (n_12 : Int) (w13 : World) => 
 R (.returned (.int .i64 n_12)) w13
 doIx l_p1 l_n2 7 (at_4) (fun a15 =>
 ∃ (x16 : Bool), World.cell? w10 (a15.add 6) = some (.bool x16) ∧ (
 ifB x16 (
 doCall Tryz.prog (.func (.func 103) #[] #[]) #[.slice l_p1 l_n2 l_c3, .int .i64 (IntKind.wrap .i64 (at_4 + n_9)), .int .i64 (IntKind.wrap .i64 (deep_5 + 1))] w10 (retS (fun v18 w19 => ∃ (x17 : Int), v18 = (.int .i64 x17 : Value) ∧ (
 ifB (decide ((x17 : Int) < 0)) (
 R (.returned (.int .i64 (-1))) w19) (
 K14 (IntKind.wrap .i64 (n_9 + x17)) w19))) (fun ch w => Kfn R ch [] w))) (
 K14 n_9 w10)))
 doIx l_p1 l_n2 7 (at_4) (fun a20 =>
 ∃ (x21 : Bool), World.cell? w7 (a20.add 5) = some (.bool x21) ∧ (
 ifB x21 (
 doCall Tryz.prog (.func (.func 103) #[] #[]) #[.slice l_p1 l_n2 l_c3, .int .i64 (IntKind.wrap .i64 (at_4 + 1)), .int .i64 (IntKind.wrap .i64 (deep_5 + 1))] w7 (retS (fun v23 w24 => ∃ (x22 : Int), v23 = (.int .i64 x22 : Value) ∧ (
 ifB (decide ((x22 : Int) < 0)) (
 R (.returned (.int .i64 (-1))) w24) (
 K11 (IntKind.wrap .i64 (1 + x22)) w24))) (fun ch w => Kfn R ch [] w))) (
 K11 1 w7))))
 ifB (decide ((at_4 : Int) ≥ ((l_n2 : Nat) : Int))) (
 R (.returned (.int .i64 (-1))) w) (
 K8 (decide ((deep_5 : Int) > 5000)) w)
set_option maxRecDepth 100000 in
theorem sh103_ok (l_p1 : Option Addr) (l_n2 : Nat) (l_c3 : Nat) (at_4 : Int) (deep_5 : Int) {R : Ending → World → Prop} {w : World} : sh103 l_p1 l_n2 l_c3 at_4 deep_5 R w → Calls Tryz.prog 103 #[.slice l_p1 l_n2 l_c3, .int .i64 at_4, .int .i64 deep_5] w R :=
  calls_of_eq (ann := fun _ => []) (fn := Tryz.f103) (c := bodyOf Tryz.f103) (args := #[.slice l_p1 l_n2 l_c3, .int .i64 at_4, .int .i64 deep_5]) 400 follows_mixed Tryz.func103 (by kernel_rfl) (by kernel_rfl)
set_option maxRecDepth 100000 in
/-- joinery/fold.kinds -/
def sh104  (R : Ending → World → Prop) (w : World) : Prop :=
 doAl (.map #[] 0) w (fun b1 w2 =>
 doMu Tryz.prog 181 (.map (some b1)) (.int .u8 1) (.agg #[.func (.func 160) #[] #[]]) w2 (fun w3 =>
 doMu Tryz.prog 181 (.map (some b1)) (.int .u8 2) (.agg #[.func (.func 161) #[] #[]]) w3 (fun w4 =>
 doMu Tryz.prog 181 (.map (some b1)) (.int .u8 3) (.agg #[.func (.func 162) #[] #[]]) w4 (fun w5 =>
 R (.returned (.map (some b1))) w5))))
set_option maxRecDepth 100000 in
theorem sh104_ok  {R : Ending → World → Prop} {w : World} : sh104  R w → Calls Tryz.prog 104 #[] w R :=
  calls_of_eq (ann := fun _ => []) (fn := Tryz.f104) (c := bodyOf Tryz.f104) (args := #[]) 400 follows_mixed Tryz.func104 (by kernel_rfl) (by kernel_rfl)
set_option maxRecDepth 100000 in
/-- joinery/split.Split -/
def sh105 (s_1 : Option Addr) (o_2 : Int) (t_3 : Option Addr) (key_4 : Int) (R : Ending → World → Prop) (w : World) : Prop :=
 doAl (.cells #[.int .i64 0, .int .i64 0, .int .u64 0] 93) w (fun b5 w6 =>
 let K10 : Int → Value → World → Prop := fun (e_7 : Int) (d8 : Value) (w9 : World) => 
 let K13 : Bool → World → Prop := fun (x11 : Bool) (w12 : World) => 
 ifB x11 (
 doDr w12 (fun w15 =>
 ∃ (C14 : World → Prop), C14 w15 ∧ (
 ∃ (x16 : Int), (∀ w, C14 w → World.cell? w ((blk b5).add 0) = some (.int .i64 x16)) ∧ (
 ∃ (x17 : Int), (∀ w, C14 w → World.cell? w ((blk b5).add 1) = some (.int .i64 x17)) ∧ (
 ∃ (x18 : Int), (∀ w, C14 w → World.cell? w ((blk b5).add 2) = some (.int .u64 x18)) ∧ (
 doSt ((blk b5).add 0) (.int .i64 x16) w15 (fun w19 =>
 doSt ((blk b5).add 1) (.int .i64 x17) w19 (fun w20 =>
 doSt ((blk b5).add 2) (.int .u64 x18) w20 (fun w21 =>
 ∃ (x22 : Int), World.cell? w21 ((blk b5).add 0) = some (.int .i64 x22) ∧ (
 ∃ (x23 : Int), World.cell? w21 ((blk b5).add 1) = some (.int .i64 x23) ∧ (
 ∃ (x24 : Int), World.cell? w21 ((blk b5).add 2) = some (.int .u64 x24) ∧ (
 R (.returned (.tuple #[.pointer none, .agg #[.int .i64 x22, .int .i64 x23, .int .u64 x24], .bool false, .pointer none, .int .i64 2])) w21)))))))))))) (
 doCall Tryz.prog (.func (.func 164) #[] #[]) #[.pointer s_1, d8, .pointer t_3] w12 (retS (fun v31 w32 => ∃ (x25 : Option Addr), ∃ (x26 : Int), ∃ (x27 : Int), ∃ (x28 : Int), ∃ (x29 : Bool), ∃ (x30 : Option Addr), v31 = (.tuple #[.pointer x25, .agg #[.int .i64 x26, .int .i64 x27, .int .u64 x28], .bool x29, .pointer x30] : Value) ∧ (
 doSt ((blk b5).add 0) (.int .i64 x26) w32 (fun w33 =>
 doSt ((blk b5).add 1) (.int .i64 x27) w33 (fun w34 =>
 doSt ((blk b5).add 2) (.int .u64 x28) w34 (fun w35 =>
 doDr w35 (fun w37 =>
 ∃ (C36 : World → Prop), C36 w37 ∧ (
 ∃ (x38 : Int), (∀ w, C36 w → World.cell? w ((blk b5).add 0) = some (.int .i64 x38)) ∧ (
 ∃ (x39 : Int), (∀ w, C36 w → World.cell? w ((blk b5).add 1) = some (.int .i64 x39)) ∧ (
 ∃ (x40 : Int), (∀ w, C36 w → World.cell? w ((blk b5).add 2) = some (.int .u64 x40)) ∧ (
 doSt ((blk b5).add 0) (.int .i64 x38) w37 (fun w41 =>
 doSt ((blk b5).add 1) (.int .i64 x39) w41 (fun w42 =>
 doSt ((blk b5).add 2) (.int .u64 x40) w42 (fun w43 =>
 ∃ (x44 : Int), World.cell? w43 ((blk b5).add 0) = some (.int .i64 x44) ∧ (
 ∃ (x45 : Int), World.cell? w43 ((blk b5).add 1) = some (.int .i64 x45) ∧ (
 ∃ (x46 : Int), World.cell? w43 ((blk b5).add 2) = some (.int .u64 x46) ∧ (
 R (.returned (.tuple #[.pointer x25, .agg #[.int .i64 x44, .int .i64 x45, .int .u64 x46], .bool x29, .pointer x30, .int .i64 0])) w43)))))))))))))))) (fun ch w => Kfn R ch [] w)))
 ifB ((s_1).isNone) (
 K13 true w9) (
 K13 ((e_7 : Int) != 0) w9)
 doCall Tryz.prog (.func (.func 163) #[] #[]) #[.int .u8 o_2, .int .i64 key_4] w6 (retS (fun v51 w52 => (∃ (xf47 : Fn), ∃ (xx48 : Array Value), ∃ (xc49 : Array Value), ∃ (x50 : Int), v51 = (.tuple #[.func xf47 xx48 xc49, .int .i64 x50] : Value) ∧ (
 K10 x50 (.func xf47 xx48 xc49 : Value) w52)) ∨ (∃ (x53 : Int), v51 = (.tuple #[.nilFunc, .int .i64 x53] : Value) ∧ (
 K10 x53 (.nilFunc : Value) w52))) (fun ch w => Kfn R ch [] w)))
set_option maxRecDepth 100000 in
theorem sh105_ok (s_1 : Option Addr) (o_2 : Int) (t_3 : Option Addr) (key_4 : Int) {R : Ending → World → Prop} {w : World} : sh105 s_1 o_2 t_3 key_4 R w → Calls Tryz.prog 105 #[.pointer s_1, .int .u8 o_2, .pointer t_3, .int .i64 key_4] w R :=
  calls_of_eq (ann := fun _ => []) (fn := Tryz.f105) (c := bodyOf Tryz.f105) (args := #[.pointer s_1, .int .u8 o_2, .pointer t_3, .int .i64 key_4]) 400 follows_mixed Tryz.func105 (by kernel_rfl) (by kernel_rfl)
set_option maxRecDepth 100000 in
/-- (joinery/meet.way).goes$1 -/
def sh106 (a_1 : Option Addr) (b_2 : Option Addr) (x3 : Addr) (x4 : Addr) (x5 : Addr) (x6 : Addr) (R : Ending → World → Prop) (w : World) : Prop :=
 ifB ((a_1).isNone) (
 ∃ (xf7 : Fn), ∃ (xx8 : Array Value), ∃ (xc9 : Array Value), World.cell? w (x3.add 1) = some (.func xf7 xx8 xc9) ∧ (
 doCall Tryz.prog (.func xf7 xx8 xc9) #[.pointer b_2] w (retS (fun v11 w12 => ∃ (x10 : Option Addr), v11 = (.pointer x10 : Value) ∧ (
 R (.returned (.pointer x10)) w12)) (fun ch w => Kfn R ch [] w)))) (
 ifB ((b_2).isNone) (
 ∃ (xf13 : Fn), ∃ (xx14 : Array Value), ∃ (xc15 : Array Value), World.cell? w (x3.add 0) = some (.func xf13 xx14 xc15) ∧ (
 doCall Tryz.prog (.func xf13 xx14 xc15) #[.pointer a_1] w (retS (fun v17 w18 => ∃ (x16 : Option Addr), v17 = (.pointer x16 : Value) ∧ (
 R (.returned (.pointer x16)) w18)) (fun ch w => Kfn R ch [] w)))) (
 let K24 : (Option Addr) → Addr → Bool → (Option Addr) → World → Prop := fun (l_19 : Option Addr) (y_20 : Addr) (is_21 : Bool) (r_22 : Option Addr) (w23 : World) => 
 doDr w23 (fun w26 =>
 ∃ (C25 : World → Prop), C25 w26 ∧ (
 ∃ (xf27 : Fn), ∃ (xx28 : Array Value), ∃ (xc29 : Array Value), (∀ w, C25 w → World.cell? w x6 = some (.func xf27 xx28 xc29)) ∧ (
 ∃ (xf30 : Fn), ∃ (xx31 : Array Value), ∃ (xc32 : Array Value), (∀ w, C25 w → World.cell? w x6 = some (.func xf30 xx31 xc32)) ∧ (
 doCall Tryz.prog (.func (.func 108) #[] #[]) #[.pointer a_1] w26 (retS (fun v34 w35 => ∃ (x33 : Option Addr), v34 = (.pointer x33 : Value) ∧ (
 C25 w35 ∧ (
 doCall Tryz.prog (.func xf27 xx28 xc29) #[.pointer x33, .pointer l_19] w35 (retS (fun v37 w38 => ∃ (x36 : Option Addr), v37 = (.pointer x36 : Value) ∧ (
 C25 w38 ∧ (
 doCall Tryz.prog (.func (.func 109) #[] #[]) #[.pointer a_1] w38 (retS (fun v40 w41 => ∃ (x39 : Option Addr), v40 = (.pointer x39 : Value) ∧ (
 C25 w41 ∧ (
 doCall Tryz.prog (.func xf30 xx31 xc32) #[.pointer x39, .pointer r_22] w41 (retS (fun v43 w44 => ∃ (x42 : Option Addr), v43 = (.pointer x42 : Value) ∧ (
 C25 w44 ∧ (
 let K48 : Addr → Bool → World → Prop := fun (x_45 : Addr) (stays_46 : Bool) (w47 : World) => 
 ifB stays_46 (
 ∃ (x49 : Option Addr), World.cell? w47 x4 = some (.pointer x49) ∧ (
 ∃ (x50 : Int), World.cell? w47 (x_45.add 0) = some (.int .i64 x50) ∧ (
 ∃ (x51 : Int), World.cell? w47 (x_45.add 1) = some (.int .i64 x51) ∧ (
 ∃ (x52 : Int), World.cell? w47 (x_45.add 2) = some (.int .u64 x52) ∧ (
 doCall Tryz.prog (.func (.func 62) #[] #[]) #[.pointer x49, .pointer x36, .agg #[.int .i64 x50, .int .i64 x51, .int .u64 x52], .pointer x42] w47 (retS (fun v54 w55 => ∃ (x53 : Option Addr), v54 = (.pointer x53 : Value) ∧ (
 R (.returned (.pointer x53)) w55)) (fun ch w => Kfn R ch [] w))))))) (
 ∃ (x56 : Option Addr), World.cell? w47 x4 = some (.pointer x56) ∧ (
 doCall Tryz.prog (.func (.func 63) #[] #[]) #[.pointer x56, .pointer x36, .pointer x42] w47 (retS (fun v58 w59 => ∃ (x57 : Option Addr), v58 = (.pointer x57 : Value) ∧ (
 R (.returned (.pointer x57)) w59)) (fun ch w => Kfn R ch [] w))))
 doDr w44 (fun w61 =>
 ∃ (C60 : World → Prop), C60 w61 ∧ (
 ∃ (xf62 : Fn), ∃ (xx63 : Array Value), ∃ (xc64 : Array Value), (∀ w, C60 w → World.cell? w (x3.add 2) = some (.func xf62 xx63 xc64)) ∧ (
 ∃ (x65 : Option Addr), (∀ w, C60 w → World.cell? w x4 = some (.pointer x65)) ∧ (
 ∃ (x66 : Int), (∀ w, C60 w → World.cell? w (y_20.add 0) = some (.int .i64 x66)) ∧ (
 ∃ (x67 : Int), (∀ w, C60 w → World.cell? w (y_20.add 1) = some (.int .i64 x67)) ∧ (
 ∃ (x68 : Int), (∀ w, C60 w → World.cell? w (y_20.add 2) = some (.int .u64 x68)) ∧ (
 (doCall Tryz.prog (.func (.func 110) #[] #[]) #[.pointer x65, .pointer a_1] w61 (retS (fun v72 w73 => ∃ (x69 : Int), ∃ (x70 : Int), ∃ (x71 : Int), v72 = (.agg #[.int .i64 x69, .int .i64 x70, .int .u64 x71] : Value) ∧ (
 C60 w73 ∧ (
 (doCall Tryz.prog (.func xf62 xx63 xc64) #[.agg #[.int .i64 x69, .int .i64 x70, .int .u64 x71], .agg #[.int .i64 x66, .int .i64 x67, .int .u64 x68], .bool is_21] w73 (retS (fun v78 w79 => ∃ (x74 : Int), ∃ (x75 : Int), ∃ (x76 : Int), ∃ (x77 : Bool), v78 = (.tuple #[.agg #[.int .i64 x74, .int .i64 x75, .int .u64 x76], .bool x77] : Value) ∧ (
 C60 w79 ∧ (
 doAl (.cells #[.int .i64 0, .int .i64 0, .int .u64 0] 93) w79 (fun b80 w81 =>
 C60 w81 ∧ (
 doSt ((blk b80).add 0) (.int .i64 x74) w81 (fun w82 =>
 doSt ((blk b80).add 1) (.int .i64 x75) w82 (fun w83 =>
 doSt ((blk b80).add 2) (.int .u64 x76) w83 (fun w84 =>
 K48 (blk b80) x77 w84)))))))) (fun ch w => Kfn R ch [] w))) ∧ (doAl (.cells #[.int .i64 0, .int .i64 0, .int .u64 0] 93) w73 (fun b85 w86 =>
 C60 w86 ∧ (
 doCall Tryz.prog (.func xf62 xx63 xc64) #[.agg #[.int .i64 x69, .int .i64 x70, .int .u64 x71], .agg #[.int .i64 x66, .int .i64 x67, .int .u64 x68], .bool is_21] w86 (retS (fun v91 w92 => ∃ (x87 : Int), ∃ (x88 : Int), ∃ (x89 : Int), ∃ (x90 : Bool), v91 = (.tuple #[.agg #[.int .i64 x87, .int .i64 x88, .int .u64 x89], .bool x90] : Value) ∧ (
 C60 w92 ∧ (
 doSt ((blk b85).add 0) (.int .i64 x87) w92 (fun w93 =>
 doSt ((blk b85).add 1) (.int .i64 x88) w93 (fun w94 =>
 doSt ((blk b85).add 2) (.int .u64 x89) w94 (fun w95 =>
 K48 (blk b85) x90 w95)))))) (fun ch w => Kfn R ch [] w)))))))) (fun ch w => Kfn R ch [] w))) ∧ (doAl (.cells #[.int .i64 0, .int .i64 0, .int .u64 0] 93) w61 (fun b96 w97 =>
 C60 w97 ∧ (
 doCall Tryz.prog (.func (.func 110) #[] #[]) #[.pointer x65, .pointer a_1] w97 (retS (fun v101 w102 => ∃ (x98 : Int), ∃ (x99 : Int), ∃ (x100 : Int), v101 = (.agg #[.int .i64 x98, .int .i64 x99, .int .u64 x100] : Value) ∧ (
 C60 w102 ∧ (
 doCall Tryz.prog (.func xf62 xx63 xc64) #[.agg #[.int .i64 x98, .int .i64 x99, .int .u64 x100], .agg #[.int .i64 x66, .int .i64 x67, .int .u64 x68], .bool is_21] w102 (retS (fun v107 w108 => ∃ (x103 : Int), ∃ (x104 : Int), ∃ (x105 : Int), ∃ (x106 : Bool), v107 = (.tuple #[.agg #[.int .i64 x103, .int .i64 x104, .int .u64 x105], .bool x106] : Value) ∧ (
 C60 w108 ∧ (
 doSt ((blk b96).add 0) (.int .i64 x103) w108 (fun w109 =>
 doSt ((blk b96).add 1) (.int .i64 x104) w109 (fun w110 =>
 doSt ((blk b96).add 2) (.int .u64 x105) w110 (fun w111 =>
 K48 (blk b96) x106 w111)))))) (fun ch w => Kfn R ch [] w))))) (fun ch w => Kfn R ch [] w))))))))))))))) (fun ch w => Kfn R ch [] w))))) (fun ch w => Kfn R ch [] w))))) (fun ch w => Kfn R ch [] w))))) (fun ch w => Kfn R ch [] w))))))
 doDr w (fun w113 =>
 ∃ (C112 : World → Prop), C112 w113 ∧ (
 ∃ (x114 : Option Addr), (∀ w, C112 w → World.cell? w x4 = some (.pointer x114)) ∧ (
 ∃ (x115 : Int), (∀ w, C112 w → World.cell? w x5 = some (.int .u8 x115)) ∧ (
 (doCall Tryz.prog (.func (.func 107) #[] #[]) #[.pointer a_1] w113 (retS (fun v117 w118 => ∃ (x116 : Int), v117 = (.int .i64 x116 : Value) ∧ (
 C112 w118 ∧ (
 (doCall Tryz.prog (.func (.func 105) #[] #[]) #[.pointer x114, .int .u8 x115, .pointer b_2, .int .i64 x116] w118 (retS (fun v126 w127 => ∃ (x119 : Option Addr), ∃ (x120 : Int), ∃ (x121 : Int), ∃ (x122 : Int), ∃ (x123 : Bool), ∃ (x124 : Option Addr), ∃ (x125 : Int), v126 = (.tuple #[.pointer x119, .agg #[.int .i64 x120, .int .i64 x121, .int .u64 x122], .bool x123, .pointer x124, .int .i64 x125] : Value) ∧ (
 doAl (.cells #[.int .i64 0, .int .i64 0, .int .u64 0] 93) w127 (fun b128 w129 =>
 C112 w129 ∧ (
 doSt ((blk b128).add 0) (.int .i64 x120) w129 (fun w130 =>
 doSt ((blk b128).add 1) (.int .i64 x121) w130 (fun w131 =>
 doSt ((blk b128).add 2) (.int .u64 x122) w131 (fun w132 =>
 K24 x119 (blk b128) x123 x124 w132))))))) (fun ch w => Kfn R ch [] w))) ∧ (doAl (.cells #[.int .i64 0, .int .i64 0, .int .u64 0] 93) w118 (fun b133 w134 =>
 C112 w134 ∧ (
 doCall Tryz.prog (.func (.func 105) #[] #[]) #[.pointer x114, .int .u8 x115, .pointer b_2, .int .i64 x116] w134 (retS (fun v142 w143 => ∃ (x135 : Option Addr), ∃ (x136 : Int), ∃ (x137 : Int), ∃ (x138 : Int), ∃ (x139 : Bool), ∃ (x140 : Option Addr), ∃ (x141 : Int), v142 = (.tuple #[.pointer x135, .agg #[.int .i64 x136, .int .i64 x137, .int .u64 x138], .bool x139, .pointer x140, .int .i64 x141] : Value) ∧ (
 doSt ((blk b133).add 0) (.int .i64 x136) w143 (fun w144 =>
 doSt ((blk b133).add 1) (.int .i64 x137) w144 (fun w145 =>
 doSt ((blk b133).add 2) (.int .u64 x138) w145 (fun w146 =>
 K24 x135 (blk b133) x139 x140 w146))))) (fun ch w => Kfn R ch [] w)))))))) (fun ch w => Kfn R ch [] w))) ∧ (doAl (.cells #[.int .i64 0, .int .i64 0, .int .u64 0] 93) w113 (fun b147 w148 =>
 C112 w148 ∧ (
 doCall Tryz.prog (.func (.func 107) #[] #[]) #[.pointer a_1] w148 (retS (fun v150 w151 => ∃ (x149 : Int), v150 = (.int .i64 x149 : Value) ∧ (
 C112 w151 ∧ (
 doCall Tryz.prog (.func (.func 105) #[] #[]) #[.pointer x114, .int .u8 x115, .pointer b_2, .int .i64 x149] w151 (retS (fun v159 w160 => ∃ (x152 : Option Addr), ∃ (x153 : Int), ∃ (x154 : Int), ∃ (x155 : Int), ∃ (x156 : Bool), ∃ (x157 : Option Addr), ∃ (x158 : Int), v159 = (.tuple #[.pointer x152, .agg #[.int .i64 x153, .int .i64 x154, .int .u64 x155], .bool x156, .pointer x157, .int .i64 x158] : Value) ∧ (
 doSt ((blk b147).add 0) (.int .i64 x153) w160 (fun w161 =>
 doSt ((blk b147).add 1) (.int .i64 x154) w161 (fun w162 =>
 doSt ((blk b147).add 2) (.int .u64 x155) w162 (fun w163 =>
 K24 x152 (blk b147) x156 x157 w163))))) (fun ch w => Kfn R ch [] w))))) (fun ch w => Kfn R ch [] w)))))))))))
set_option maxRecDepth 100000 in
theorem sh106_ok (a_1 : Option Addr) (b_2 : Option Addr) (x3 : Addr) (x4 : Addr) (x5 : Addr) (x6 : Addr) {R : Ending → World → Prop} {w : World} : sh106 a_1 b_2 x3 x4 x5 x6 R w → Calls Tryz.prog 106 #[.pointer a_1, .pointer b_2, .pointer (some x3), .pointer (some x4), .pointer (some x5), .pointer (some x6)] w R :=
  calls_of_eq (ann := fun _ => []) (fn := Tryz.f106) (c := bodyOf Tryz.f106) (args := #[.pointer a_1, .pointer b_2, .pointer (some x3), .pointer (some x4), .pointer (some x5), .pointer (some x6)]) 400 follows_mixed Tryz.func106 (by kernel_rfl) (by kernel_rfl)
set_option maxRecDepth 100000 in
/-- (*joinery/node.Node).Key -/
def sh107 (n_1 : Option Addr) (R : Ending → World → Prop) (w : World) : Prop :=
 doCall Tryz.prog (.func (.func 114) #[] #[]) #[.pointer n_1] w (retS (fun v7 w8 => ∃ (x2 : Int), ∃ (x3 : Int), ∃ (x4 : Int), ∃ (x5 : Int), ∃ (x6 : Int), v7 = (.agg #[.int .i64 x2, .int .i64 x3, .int .i64 x4, .int .u64 x5, .int .i64 x6] : Value) ∧ (
 R (.returned (.int .i64 x2)) w8)) (fun ch w => Kfn R ch [] w))
set_option maxRecDepth 100000 in
theorem sh107_ok (n_1 : Option Addr) {R : Ending → World → Prop} {w : World} : sh107 n_1 R w → Calls Tryz.prog 107 #[.pointer n_1] w R :=
  calls_of_eq (ann := fun _ => []) (fn := Tryz.f107) (c := bodyOf Tryz.f107) (args := #[.pointer n_1]) 400 follows_mixed Tryz.func107 (by kernel_rfl) (by kernel_rfl)
set_option maxRecDepth 100000 in
/-- (*joinery/node.Node).Left -/
def sh108 (n_1 : Option Addr) (R : Ending → World → Prop) (w : World) : Prop :=
 ifB ((n_1).isNone) (
 R (.returned (.pointer none)) w) (
 ∃ (q2 : Addr), n_1 = some q2 ∧ (
 ∃ (x3 : Option Addr), World.cell? w (q2.add 5) = some (.pointer x3) ∧ (
 R (.returned (.pointer x3)) w)))
set_option maxRecDepth 100000 in
theorem sh108_ok (n_1 : Option Addr) {R : Ending → World → Prop} {w : World} : sh108 n_1 R w → Calls Tryz.prog 108 #[.pointer n_1] w R :=
  calls_of_eq (ann := fun _ => []) (fn := Tryz.f108) (c := bodyOf Tryz.f108) (args := #[.pointer n_1]) 400 follows_mixed Tryz.func108 (by kernel_rfl) (by kernel_rfl)
set_option maxRecDepth 100000 in
/-- (*joinery/node.Node).Right -/
def sh109 (n_1 : Option Addr) (R : Ending → World → Prop) (w : World) : Prop :=
 ifB ((n_1).isNone) (
 R (.returned (.pointer none)) w) (
 ∃ (q2 : Addr), n_1 = some q2 ∧ (
 ∃ (x3 : Option Addr), World.cell? w (q2.add 6) = some (.pointer x3) ∧ (
 R (.returned (.pointer x3)) w)))
set_option maxRecDepth 100000 in
theorem sh109_ok (n_1 : Option Addr) {R : Ending → World → Prop} {w : World} : sh109 n_1 R w → Calls Tryz.prog 109 #[.pointer n_1] w R :=
  calls_of_eq (ann := fun _ => []) (fn := Tryz.f109) (c := bodyOf Tryz.f109) (args := #[.pointer n_1]) 400 follows_mixed Tryz.func109 (by kernel_rfl) (by kernel_rfl)
end Go.Proofs.YtbaoihmffobneaaGreat

namespace Go.Proofs.YtbaoihmffobneaaGreat
open Go Go.Sh
set_option maxRecDepth 100000 in
/-- (*joinery/scheme.Scheme).Item -/
def sh110 (s_1 : Option Addr) (t_2 : Option Addr) (R : Ending → World → Prop) (w : World) : Prop :=
 doAl (.cells #[.int .i64 0, .int .i64 0, .int .u64 0] 93) w (fun b3 w4 =>
 let K7 : Bool → World → Prop := fun (x5 : Bool) (w6 : World) => 
 ifB x5 (
 doSt ((blk b3).add 0) (.int .i64 0) w6 (fun w8 =>
 doSt ((blk b3).add 1) (.int .i64 0) w8 (fun w9 =>
 doSt ((blk b3).add 2) (.int .u64 0) w9 (fun w10 =>
 ∃ (x11 : Int), World.cell? w10 ((blk b3).add 0) = some (.int .i64 x11) ∧ (
 ∃ (x12 : Int), World.cell? w10 ((blk b3).add 1) = some (.int .i64 x12) ∧ (
 ∃ (x13 : Int), World.cell? w10 ((blk b3).add 2) = some (.int .u64 x13) ∧ (
 R (.returned (.agg #[.int .i64 x11, .int .i64 x12, .int .u64 x13])) w10))))))) (
 doCall Tryz.prog (.func (.func 107) #[] #[]) #[.pointer t_2] w6 (retS (fun v15 w16 => ∃ (x14 : Int), v15 = (.int .i64 x14 : Value) ∧ (
 doCall Tryz.prog (.func (.func 165) #[] #[]) #[.pointer t_2] w16 (retS (fun v18 w19 => ∃ (x17 : Int), v18 = (.int .i64 x17 : Value) ∧ (
 doAl (.cells #[.int .i64 0, .int .i64 0, .int .u64 0] 93) w19 (fun b20 w21 =>
 doSt ((blk b20).add 0) (.int .i64 x14) w21 (fun w22 =>
 doSt ((blk b20).add 1) (.int .i64 x17) w22 (fun w23 =>
 doSt ((blk b20).add 2) (.int .u64 0) w23 (fun w24 =>
 let K26 : World → Prop := fun (w25 : World) => 
 ∃ (x27 : Int), World.cell? w25 ((blk b20).add 0) = some (.int .i64 x27) ∧ (
 ∃ (x28 : Int), World.cell? w25 ((blk b20).add 1) = some (.int .i64 x28) ∧ (
 ∃ (x29 : Int), World.cell? w25 ((blk b20).add 2) = some (.int .u64 x29) ∧ (
 doSt ((blk b3).add 0) (.int .i64 x27) w25 (fun w30 =>
 doSt ((blk b3).add 1) (.int .i64 x28) w30 (fun w31 =>
 doSt ((blk b3).add 2) (.int .u64 x29) w31 (fun w32 =>
 ∃ (x33 : Int), World.cell? w32 ((blk b3).add 0) = some (.int .i64 x33) ∧ (
 ∃ (x34 : Int), World.cell? w32 ((blk b3).add 1) = some (.int .i64 x34) ∧ (
 ∃ (x35 : Int), World.cell? w32 ((blk b3).add 2) = some (.int .u64 x35) ∧ (
 R (.returned (.agg #[.int .i64 x33, .int .i64 x34, .int .u64 x35])) w32)))))))))
 doCall Tryz.prog (.func (.func 101) #[] #[]) #[.pointer s_1] w24 (retS (fun v56 w57 => ∃ (x36 : ByteArray), ∃ (xf37 : Fn), ∃ (xx38 : Array Value), ∃ (xc39 : Array Value), ∃ (xf40 : Fn), ∃ (xx41 : Array Value), ∃ (xc42 : Array Value), ∃ (xf43 : Fn), ∃ (xx44 : Array Value), ∃ (xc45 : Array Value), ∃ (xf46 : Fn), ∃ (xx47 : Array Value), ∃ (xc48 : Array Value), ∃ (xf49 : Fn), ∃ (xx50 : Array Value), ∃ (xc51 : Array Value), ∃ (xf52 : Fn), ∃ (xx53 : Array Value), ∃ (xc54 : Array Value), ∃ (x55 : Bool), v56 = (.agg #[.string x36, .func xf37 xx38 xc39, .func xf40 xx41 xc42, .func xf43 xx44 xc45, .func xf46 xx47 xc48, .func xf49 xx50 xc51, .func xf52 xx53 xc54, .bool x55] : Value) ∧ (
 ifB x55 (
 doCall Tryz.prog (.func (.func 166) #[] #[]) #[.pointer t_2] w57 (retS (fun v59 w60 => ∃ (x58 : Int), v59 = (.int .u64 x58 : Value) ∧ (
 doSt (((blk b20).add 2).add 0) (.int .u64 x58) w60 (fun w61 =>
 K26 w61))) (fun ch w => Kfn R ch [] w))) (
 K26 w57))) (fun ch w => Kfn R ch [] w)))))))) (fun ch w => Kfn R ch [] w)))) (fun ch w => Kfn R ch [] w)))
 ifB ((s_1).isNone) (
 K7 true w4) (
 K7 ((t_2).isNone) w4))
set_option maxRecDepth 100000 in
theorem sh110_ok (s_1 : Option Addr) (t_2 : Option Addr) {R : Ending → World → Prop} {w : World} : sh110 s_1 t_2 R w → Calls Tryz.prog 110 #[.pointer s_1, .pointer t_2] w R :=
  calls_of_eq (ann := fun _ => []) (fn := Tryz.f110) (c := bodyOf Tryz.f110) (args := #[.pointer s_1, .pointer t_2]) 400 follows_mixed Tryz.func110 (by kernel_rfl) (by kernel_rfl)
set_option maxRecDepth 100000 in
/-- joinery/joinerylaw09.see -/
def sh111 (t_1 : Option Addr) (l_p2 : Option Addr) (l_n3 : Nat) (l_c4 : Nat) (deep_5 : Int) (R : Ending → World → Prop) (w : World) : Prop :=
 ifB ((t_1).isNone) (
 R (.returned (.tuple #[.slice l_p2 l_n3 l_c4, .bool true])) w) (
 let K8 : Bool → World → Prop := fun (x6 : Bool) (w7 : World) => 
 ifB x6 (
 R (.returned (.tuple #[.slice l_p2 l_n3 l_c4, .bool false])) w7) (
 doCall Tryz.prog (.func (.func 107) #[] #[]) #[.pointer t_1] w7 (retS (fun v10 w11 => ∃ (x9 : Int), v10 = (.int .i64 x9 : Value) ∧ (
 doCall Tryz.prog (.func (.func 165) #[] #[]) #[.pointer t_1] w11 (retS (fun v13 w14 => ∃ (x12 : Int), v13 = (.int .i64 x12 : Value) ∧ (
 doCall Tryz.prog (.func (.func 166) #[] #[]) #[.pointer t_1] w14 (retS (fun v16 w17 => ∃ (x15 : Int), v16 = (.int .u64 x15 : Value) ∧ (
 doCall Tryz.prog (.func (.func 80) #[] #[]) #[.pointer t_1] w17 (retS (fun v19 w20 => ∃ (x18 : Int), v19 = (.int .i64 x18 : Value) ∧ (
 doCall Tryz.prog (.func (.func 88) #[] #[]) #[.pointer t_1] w20 (retS (fun v22 w23 => ∃ (x21 : Int), v22 = (.int .i64 x21 : Value) ∧ (
 doCall Tryz.prog (.func (.func 108) #[] #[]) #[.pointer t_1] w23 (retS (fun v25 w26 => ∃ (x24 : Option Addr), v25 = (.pointer x24 : Value) ∧ (
 doCall Tryz.prog (.func (.func 109) #[] #[]) #[.pointer t_1] w26 (retS (fun v28 w29 => ∃ (x27 : Option Addr), v28 = (.pointer x27 : Value) ∧ (
 doAl (.cells #[.int .i64 x9, .int .i64 x12, .int .i64 x21, .int .i64 x18, .int .u64 x15, .bool (!(x24).isNone), .bool (!(x27).isNone)] 97) w29 (fun b30 w31 =>
 doGo Tryz.prog (.builtin .append #[22, 22] 22 #[false, false]) #[.slice l_p2 l_n3 l_c4, .slice (some (blk b30)) 1 1] w31 (retS (fun v35 w36 => ∃ (xp32 : Option Addr), ∃ (xn33 : Nat), ∃ (xc34 : Nat), v35 = (.slice xp32 xn33 xc34 : Value) ∧ (
 doCall Tryz.prog (.func (.func 108) #[] #[]) #[.pointer t_1] w36 (retS (fun v38 w39 => ∃ (x37 : Option Addr), v38 = (.pointer x37 : Value) ∧ (
 doCall Tryz.prog (.func (.func 111) #[] #[]) #[.pointer x37, .slice xp32 xn33 xc34, .int .i64 (IntKind.wrap .i64 (deep_5 + 1))] w39 (retS (fun v44 w45 => ∃ (xp40 : Option Addr), ∃ (xn41 : Nat), ∃ (xc42 : Nat), ∃ (x43 : Bool), v44 = (.tuple #[.slice xp40 xn41 xc42, .bool x43] : Value) ∧ (
 ifB (!x43) (
 R (.returned (.tuple #[.slice xp40 xn41 xc42, .bool false])) w45) (
 doCall Tryz.prog (.func (.func 109) #[] #[]) #[.pointer t_1] w45 (retS (fun v47 w48 => ∃ (x46 : Option Addr), v47 = (.pointer x46 : Value) ∧ (
 doCall Tryz.prog (.func (.func 111) #[] #[]) #[.pointer x46, .slice xp40 xn41 xc42, .int .i64 (IntKind.wrap .i64 (deep_5 + 1))] w48 (retS (fun v53 w54 => ∃ (xp49 : Option Addr), ∃ (xn50 : Nat), ∃ (xc51 : Nat), ∃ (x52 : Bool), v53 = (.tuple #[.slice xp49 xn50 xc51, .bool x52] : Value) ∧ (
 R (.returned (.tuple #[.slice xp49 xn50 xc51, .bool x52])) w54)) (fun ch w => Kfn R ch [] w)))) (fun ch w => Kfn R ch [] w))))) (fun ch w => Kfn R ch [] w)))) (fun ch w => Kfn R ch [] w)))) (fun ch w => Kfn R ch [] w))))) (fun ch w => Kfn R ch [] w)))) (fun ch w => Kfn R ch [] w)))) (fun ch w => Kfn R ch [] w)))) (fun ch w => Kfn R ch [] w)))) (fun ch w => Kfn R ch [] w)))) (fun ch w => Kfn R ch [] w)))) (fun ch w => Kfn R ch [] w)))
 ifB (decide ((((l_n3 : Nat) : Int) : Int) > 5000)) (
 R (.returned (.tuple #[.slice l_p2 l_n3 l_c4, .bool false])) w) (
 K8 (decide ((deep_5 : Int) > 2000)) w))
set_option maxRecDepth 100000 in
theorem sh111_ok (t_1 : Option Addr) (l_p2 : Option Addr) (l_n3 : Nat) (l_c4 : Nat) (deep_5 : Int) {R : Ending → World → Prop} {w : World} : sh111 t_1 l_p2 l_n3 l_c4 deep_5 R w → Calls Tryz.prog 111 #[.pointer t_1, .slice l_p2 l_n3 l_c4, .int .i64 deep_5] w R :=
  calls_of_eq (ann := fun _ => []) (fn := Tryz.f111) (c := bodyOf Tryz.f111) (args := #[.pointer t_1, .slice l_p2 l_n3 l_c4, .int .i64 deep_5]) 400 follows_mixed Tryz.func111 (by kernel_rfl) (by kernel_rfl)
set_option maxRecDepth 100000 in
/-- joinery/joineryref22.May -/
def sh112 (code_1 : Int) (l_p2 : Option Addr) (l_n3 : Nat) (l_c4 : Nat) (R : Ending → World → Prop) (w : World) : Prop :=
 doCall Tryz.prog (.func (.func 167) #[] #[]) #[.int .u8 code_1, .slice l_p2 l_n3 l_c4] w (retS (fun v7 w8 => ∃ (x5 : Int), ∃ (x6 : Int), v7 = (.tuple #[.int .i64 x5, .int .i64 x6] : Value) ∧ (
 R (.returned (.bool ((x6 : Int) == 0))) w8)) (fun ch w => Kfn R ch [] w))
set_option maxRecDepth 100000 in
theorem sh112_ok (code_1 : Int) (l_p2 : Option Addr) (l_n3 : Nat) (l_c4 : Nat) {R : Ending → World → Prop} {w : World} : sh112 code_1 l_p2 l_n3 l_c4 R w → Calls Tryz.prog 112 #[.int .u8 code_1, .slice l_p2 l_n3 l_c4] w R :=
  calls_of_eq (ann := fun _ => []) (fn := Tryz.f112) (c := bodyOf Tryz.f112) (args := #[.int .u8 code_1, .slice l_p2 l_n3 l_c4]) 400 follows_mixed Tryz.func112 (by kernel_rfl) (by kernel_rfl)
set_option maxRecDepth 100000 in
/-- joinery/joineryref24.Split -/
def sh113 (o_1 : Int) (l_p2 : Option Addr) (l_n3 : Nat) (_l_c4 : Nat) (key_5 : Int) (R : Ending → World → Prop) (w : World) : Prop :=
 doAl (.cells #[.int .i64 0, .int .i64 0, .int .u64 0] 93) w (fun b6 w7 =>
 doAl (.cells #[.int .i64 0, .int .i64 0, .int .u64 0] 93) w7 (fun b8 w9 =>
 doSt ((blk b8).add 0) (.int .i64 0) w9 (fun w10 =>
 doSt ((blk b8).add 1) (.int .i64 0) w10 (fun w11 =>
 doSt ((blk b8).add 2) (.int .u64 0) w11 (fun w12 =>
 ∃ (I13 : List Value → World → Prop) (μ14 : List Value → World → Nat), I13 [.slice none 0 0, .slice none 0 0, .bool false, .int .i64 0] w12 ∧ (∀ (a_p17 : Option Addr), ∀ (a_n18 : Nat), ∀ (a_c19 : Nat), ∀ (b_p20 : Option Addr), ∀ (b_n21 : Nat), ∀ (b_c22 : Nat), ∀ (is_23 : Bool), ∀ (i_24 : Int), ∀ (_j15 : Nat → Value) (w16 : World), I13 [.slice a_p17 a_n18 a_c19, .slice b_p20 b_n21 b_c22, .bool is_23, .int .i64 i_24] w16 → (
 ifB (decide ((i_24 : Int) < ((l_n3 : Nat) : Int))) (
 let K33 : (Option Addr) → Nat → Nat → (Option Addr) → Nat → Nat → Bool → World → Prop := fun (a_p25 : Option Addr) (a_n26 : Nat) (a_c27 : Nat) (b_p28 : Option Addr) (b_n29 : Nat) (b_c30 : Nat) (is_31 : Bool) (w32 : World) => 
 I13 [.slice a_p25 a_n26 a_c27, .slice b_p28 b_n29 b_c30, .bool is_31, .int .i64 (IntKind.wrap .i64 (i_24 + 1))] w32 ∧ μ14 [.slice a_p25 a_n26 a_c27, .slice b_p28 b_n29 b_c30, .bool is_31, .int .i64 (IntKind.wrap .i64 (i_24 + 1))] w32 < μ14 [.slice a_p17 a_n18 a_c19, .slice b_p20 b_n21 b_c22, .bool is_23, .int .i64 i_24] w16
 doIx l_p2 l_n3 3 (i_24) (fun a34 =>
 ∃ (x35 : Int), World.cell? w16 (a34.add 0) = some (.int .i64 x35) ∧ (
 doCall Tryz.prog (.func (.func 82) #[] #[]) #[.int .u8 o_1, .int .i64 x35, .int .i64 key_5] w16 (retS (fun v37 w38 => ∃ (x36 : Int), v37 = (.int .i64 x36 : Value) ∧ (
 let K43 : (Option Addr) → Nat → Nat → World → Prop := fun (a_p39 : Option Addr) (a_n40 : Nat) (a_c41 : Nat) (w42 : World) => 
 let K46 : Bool → World → Prop := fun (is_44 : Bool) (w45 : World) => 
 ifB (decide ((x36 : Int) > 0)) (
 doIx l_p2 l_n3 3 (i_24) (fun a47 =>
 ∃ (x48 : Int), World.cell? w45 (a47.add 0) = some (.int .i64 x48) ∧ (
 ∃ (x49 : Int), World.cell? w45 (a47.add 1) = some (.int .i64 x49) ∧ (
 ∃ (x50 : Int), World.cell? w45 (a47.add 2) = some (.int .u64 x50) ∧ (
 doAl (.cells #[.int .i64 x48, .int .i64 x49, .int .u64 x50] 93) w45 (fun b51 w52 =>
 doGo Tryz.prog (.builtin .append #[32, 32] 32 #[false, false]) #[.slice b_p20 b_n21 b_c22, .slice (some (blk b51)) 1 1] w52 (retS (fun v56 w57 => ∃ (xp53 : Option Addr), ∃ (xn54 : Nat), ∃ (xc55 : Nat), v56 = (.slice xp53 xn54 xc55 : Value) ∧ (
 K33 a_p39 a_n40 a_c41 xp53 xn54 xc55 is_44 w57)) (fun ch w => Kfn R ch [] w)))))))) (
 K33 a_p39 a_n40 a_c41 b_p20 b_n21 b_c22 is_44 w45)
 ifB ((x36 : Int) == 0) (
 doIx l_p2 l_n3 3 (i_24) (fun a58 =>
 ∃ (x59 : Int), World.cell? w42 (a58.add 0) = some (.int .i64 x59) ∧ (
 ∃ (x60 : Int), World.cell? w42 (a58.add 1) = some (.int .i64 x60) ∧ (
 ∃ (x61 : Int), World.cell? w42 (a58.add 2) = some (.int .u64 x61) ∧ (
 doSt ((blk b8).add 0) (.int .i64 x59) w42 (fun w62 =>
 doSt ((blk b8).add 1) (.int .i64 x60) w62 (fun w63 =>
 doSt ((blk b8).add 2) (.int .u64 x61) w63 (fun w64 =>
 K46 true w64)))))))) (
 K46 is_23 w42)
 ifB (decide ((x36 : Int) < 0)) (
 doIx l_p2 l_n3 3 (i_24) (fun a65 =>
 ∃ (x66 : Int), World.cell? w38 (a65.add 0) = some (.int .i64 x66) ∧ (
 ∃ (x67 : Int), World.cell? w38 (a65.add 1) = some (.int .i64 x67) ∧ (
 ∃ (x68 : Int), World.cell? w38 (a65.add 2) = some (.int .u64 x68) ∧ (
 doAl (.cells #[.int .i64 x66, .int .i64 x67, .int .u64 x68] 93) w38 (fun b69 w70 =>
 doGo Tryz.prog (.builtin .append #[32, 32] 32 #[false, false]) #[.slice a_p17 a_n18 a_c19, .slice (some (blk b69)) 1 1] w70 (retS (fun v74 w75 => ∃ (xp71 : Option Addr), ∃ (xn72 : Nat), ∃ (xc73 : Nat), v74 = (.slice xp71 xn72 xc73 : Value) ∧ (
 K43 xp71 xn72 xc73 w75)) (fun ch w => Kfn R ch [] w)))))))) (
 K43 a_p17 a_n18 a_c19 w38))) (fun ch w => Kfn R ch [] w))))) (
 doDr w16 (fun w77 =>
 ∃ (C76 : World → Prop), C76 w77 ∧ (
 ∃ (x78 : Int), (∀ w, C76 w → World.cell? w ((blk b8).add 0) = some (.int .i64 x78)) ∧ (
 ∃ (x79 : Int), (∀ w, C76 w → World.cell? w ((blk b8).add 1) = some (.int .i64 x79)) ∧ (
 ∃ (x80 : Int), (∀ w, C76 w → World.cell? w ((blk b8).add 2) = some (.int .u64 x80)) ∧ (
 doSt ((blk b6).add 0) (.int .i64 x78) w77 (fun w81 =>
 doSt ((blk b6).add 1) (.int .i64 x79) w81 (fun w82 =>
 doSt ((blk b6).add 2) (.int .u64 x80) w82 (fun w83 =>
 ∃ (x84 : Int), World.cell? w83 ((blk b6).add 0) = some (.int .i64 x84) ∧ (
 ∃ (x85 : Int), World.cell? w83 ((blk b6).add 1) = some (.int .i64 x85) ∧ (
 ∃ (x86 : Int), World.cell? w83 ((blk b6).add 2) = some (.int .u64 x86) ∧ (
 R (.returned (.tuple #[.slice a_p17 a_n18 a_c19, .agg #[.int .i64 x84, .int .i64 x85, .int .u64 x86], .bool is_23, .slice b_p20 b_n21 b_c22])) w83)))))))))))))))))))
set_option maxRecDepth 100000 in
theorem sh113_ok (o_1 : Int) (l_p2 : Option Addr) (l_n3 : Nat) (l_c4 : Nat) (key_5 : Int) {R : Ending → World → Prop} {w : World} : sh113 o_1 l_p2 l_n3 l_c4 key_5 R w → Calls Tryz.prog 113 #[.int .u8 o_1, .slice l_p2 l_n3 l_c4, .int .i64 key_5] w R :=
  calls_of_eq (ann := fun i => if i = 0 then [(10, .slice none 0 0), (11, .slice none 0 0), (13, .bool false), (14, .int .i64 0)] else []) (fn := Tryz.f113) (c := bodyOf Tryz.f113) (args := #[.int .u8 o_1, .slice l_p2 l_n3 l_c4, .int .i64 key_5]) 400 follows_mixed Tryz.func113 (by kernel_rfl) (by kernel_rfl)
set_option maxRecDepth 100000 in
/-- (*joinery/node.Node).of -/
def sh114 (n_1 : Option Addr) (R : Ending → World → Prop) (w : World) : Prop :=
 doAl (.cells #[.int .i64 0, .int .i64 0, .int .i64 0, .int .u64 0, .int .i64 0] 169) w (fun b2 w3 =>
 ifB ((n_1).isNone) (
 doSt ((blk b2).add 0) (.int .i64 0) w3 (fun w4 =>
 doSt ((blk b2).add 1) (.int .i64 0) w4 (fun w5 =>
 doSt ((blk b2).add 2) (.int .i64 0) w5 (fun w6 =>
 doSt ((blk b2).add 3) (.int .u64 0) w6 (fun w7 =>
 doSt ((blk b2).add 4) (.int .i64 0) w7 (fun w8 =>
 ∃ (x9 : Int), World.cell? w8 ((blk b2).add 0) = some (.int .i64 x9) ∧ (
 ∃ (x10 : Int), World.cell? w8 ((blk b2).add 1) = some (.int .i64 x10) ∧ (
 ∃ (x11 : Int), World.cell? w8 ((blk b2).add 2) = some (.int .i64 x11) ∧ (
 ∃ (x12 : Int), World.cell? w8 ((blk b2).add 3) = some (.int .u64 x12) ∧ (
 ∃ (x13 : Int), World.cell? w8 ((blk b2).add 4) = some (.int .i64 x13) ∧ (
 R (.returned (.agg #[.int .i64 x9, .int .i64 x10, .int .i64 x11, .int .u64 x12, .int .i64 x13])) w8))))))))))) (
 ∃ (q14 : Addr), n_1 = some q14 ∧ (
 ∃ (x15 : Int), World.cell? w3 ((q14.add 0).add 0) = some (.int .i64 x15) ∧ (
 ∃ (x16 : Int), World.cell? w3 ((q14.add 0).add 1) = some (.int .i64 x16) ∧ (
 ∃ (x17 : Int), World.cell? w3 ((q14.add 0).add 2) = some (.int .i64 x17) ∧ (
 ∃ (x18 : Int), World.cell? w3 ((q14.add 0).add 3) = some (.int .u64 x18) ∧ (
 ∃ (x19 : Int), World.cell? w3 ((q14.add 0).add 4) = some (.int .i64 x19) ∧ (
 doSt ((blk b2).add 0) (.int .i64 x15) w3 (fun w20 =>
 doSt ((blk b2).add 1) (.int .i64 x16) w20 (fun w21 =>
 doSt ((blk b2).add 2) (.int .i64 x17) w21 (fun w22 =>
 doSt ((blk b2).add 3) (.int .u64 x18) w22 (fun w23 =>
 doSt ((blk b2).add 4) (.int .i64 x19) w23 (fun w24 =>
 ∃ (x25 : Int), World.cell? w24 ((blk b2).add 0) = some (.int .i64 x25) ∧ (
 ∃ (x26 : Int), World.cell? w24 ((blk b2).add 1) = some (.int .i64 x26) ∧ (
 ∃ (x27 : Int), World.cell? w24 ((blk b2).add 2) = some (.int .i64 x27) ∧ (
 ∃ (x28 : Int), World.cell? w24 ((blk b2).add 3) = some (.int .u64 x28) ∧ (
 ∃ (x29 : Int), World.cell? w24 ((blk b2).add 4) = some (.int .i64 x29) ∧ (
 R (.returned (.agg #[.int .i64 x25, .int .i64 x26, .int .i64 x27, .int .u64 x28, .int .i64 x29])) w24))))))))))))))))))
set_option maxRecDepth 100000 in
theorem sh114_ok (n_1 : Option Addr) {R : Ending → World → Prop} {w : World} : sh114 n_1 R w → Calls Tryz.prog 114 #[.pointer n_1] w R :=
  calls_of_eq (ann := fun _ => []) (fn := Tryz.f114) (c := bodyOf Tryz.f114) (args := #[.pointer n_1]) 400 follows_mixed Tryz.func114 (by kernel_rfl) (by kernel_rfl)
set_option maxRecDepth 100000 in
/-- joinery/span.wrong -/
def sh115 (o_1 : Int) (lo_2 : Int) (hi_3 : Int) (R : Ending → World → Prop) (w : World) : Prop :=
 doCall Tryz.prog (.func (.func 168) #[] #[]) #[.int .u8 o_1, .int .i64 lo_2] w (retS (fun v6 w7 => ∃ (x4 : Int), ∃ (x5 : Int), v6 = (.tuple #[.int .u64 x4, .int .i64 x5] : Value) ∧ (
 doCall Tryz.prog (.func (.func 168) #[] #[]) #[.int .u8 o_1, .int .i64 hi_3] w7 (retS (fun v10 w11 => ∃ (x8 : Int), ∃ (x9 : Int), v10 = (.tuple #[.int .u64 x8, .int .i64 x9] : Value) ∧ (
 let K14 : Bool → World → Prop := fun (x12 : Bool) (w13 : World) => 
 ifB x12 (
 R (.returned (.int .i64 2)) w13) (
 ifB (decide ((x8 : Int) < x4)) (
 R (.returned (.int .i64 330)) w13) (
 R (.returned (.int .i64 0)) w13))
 ifB ((x5 : Int) != 0) (
 R (.returned (.int .i64 2)) w11) (
 K14 ((x9 : Int) != 0) w11))) (fun ch w => Kfn R ch [] w)))) (fun ch w => Kfn R ch [] w))
set_option maxRecDepth 100000 in
theorem sh115_ok (o_1 : Int) (lo_2 : Int) (hi_3 : Int) {R : Ending → World → Prop} {w : World} : sh115 o_1 lo_2 hi_3 R w → Calls Tryz.prog 115 #[.int .u8 o_1, .int .i64 lo_2, .int .i64 hi_3] w R :=
  calls_of_eq (ann := fun _ => []) (fn := Tryz.f115) (c := bodyOf Tryz.f115) (args := #[.int .u8 o_1, .int .i64 lo_2, .int .i64 hi_3]) 400 follows_mixed Tryz.func115 (by kernel_rfl) (by kernel_rfl)
set_option maxRecDepth 100000 in
/-- joinery/split.Ahead -/
def sh116 (s_1 : Option Addr) (o_2 : Int) (t_3 : Option Addr) (key_4 : Int) (with_5 : Bool) (R : Ending → World → Prop) (w : World) : Prop :=
 doCall Tryz.prog (.func (.func 105) #[] #[]) #[.pointer s_1, .int .u8 o_2, .pointer t_3, .int .i64 key_4] w (retS (fun v13 w14 => ∃ (x6 : Option Addr), ∃ (x7 : Int), ∃ (x8 : Int), ∃ (x9 : Int), ∃ (x10 : Bool), ∃ (x11 : Option Addr), ∃ (x12 : Int), v13 = (.tuple #[.pointer x6, .agg #[.int .i64 x7, .int .i64 x8, .int .u64 x9], .bool x10, .pointer x11, .int .i64 x12] : Value) ∧ (
 doAl (.cells #[.int .i64 0, .int .i64 0, .int .u64 0] 93) w14 (fun b15 w16 =>
 doSt ((blk b15).add 0) (.int .i64 x7) w16 (fun w17 =>
 doSt ((blk b15).add 1) (.int .i64 x8) w17 (fun w18 =>
 doSt ((blk b15).add 2) (.int .u64 x9) w18 (fun w19 =>
 let K21 : World → Prop := fun (w20 : World) => 
 R (.returned (.tuple #[.pointer x6, .int .i64 x12])) w20
 let K24 : Bool → World → Prop := fun (x22 : Bool) (w23 : World) => 
 ifB x22 (
 ∃ (x25 : Int), World.cell? w23 ((blk b15).add 0) = some (.int .i64 x25) ∧ (
 ∃ (x26 : Int), World.cell? w23 ((blk b15).add 1) = some (.int .i64 x26) ∧ (
 ∃ (x27 : Int), World.cell? w23 ((blk b15).add 2) = some (.int .u64 x27) ∧ (
 doCall Tryz.prog (.func (.func 62) #[] #[]) #[.pointer s_1, .pointer x6, .agg #[.int .i64 x25, .int .i64 x26, .int .u64 x27], .pointer none] w23 (retS (fun v29 w30 => ∃ (x28 : Option Addr), v29 = (.pointer x28 : Value) ∧ (
 R (.returned (.tuple #[.pointer x28, .int .i64 x12])) w30)) (fun ch w => Kfn R ch [] w)))))) (
 K21 w23)
 ifB x10 (
 K24 with_5 w19) (
 K21 w19))))))) (fun ch w => Kfn R ch [] w))
set_option maxRecDepth 100000 in
theorem sh116_ok (s_1 : Option Addr) (o_2 : Int) (t_3 : Option Addr) (key_4 : Int) (with_5 : Bool) {R : Ending → World → Prop} {w : World} : sh116 s_1 o_2 t_3 key_4 with_5 R w → Calls Tryz.prog 116 #[.pointer s_1, .int .u8 o_2, .pointer t_3, .int .i64 key_4, .bool with_5] w R :=
  calls_of_eq (ann := fun _ => []) (fn := Tryz.f116) (c := bodyOf Tryz.f116) (args := #[.pointer s_1, .int .u8 o_2, .pointer t_3, .int .i64 key_4, .bool with_5]) 400 follows_mixed Tryz.func116 (by kernel_rfl) (by kernel_rfl)
set_option maxRecDepth 100000 in
/-- joinery/split.Behind -/
def sh117 (s_1 : Option Addr) (o_2 : Int) (t_3 : Option Addr) (key_4 : Int) (with_5 : Bool) (R : Ending → World → Prop) (w : World) : Prop :=
 doCall Tryz.prog (.func (.func 105) #[] #[]) #[.pointer s_1, .int .u8 o_2, .pointer t_3, .int .i64 key_4] w (retS (fun v13 w14 => ∃ (x6 : Option Addr), ∃ (x7 : Int), ∃ (x8 : Int), ∃ (x9 : Int), ∃ (x10 : Bool), ∃ (x11 : Option Addr), ∃ (x12 : Int), v13 = (.tuple #[.pointer x6, .agg #[.int .i64 x7, .int .i64 x8, .int .u64 x9], .bool x10, .pointer x11, .int .i64 x12] : Value) ∧ (
 doAl (.cells #[.int .i64 0, .int .i64 0, .int .u64 0] 93) w14 (fun b15 w16 =>
 doSt ((blk b15).add 0) (.int .i64 x7) w16 (fun w17 =>
 doSt ((blk b15).add 1) (.int .i64 x8) w17 (fun w18 =>
 doSt ((blk b15).add 2) (.int .u64 x9) w18 (fun w19 =>
 let K21 : World → Prop := fun (w20 : World) => 
 R (.returned (.tuple #[.pointer x11, .int .i64 x12])) w20
 let K24 : Bool → World → Prop := fun (x22 : Bool) (w23 : World) => 
 ifB x22 (
 ∃ (x25 : Int), World.cell? w23 ((blk b15).add 0) = some (.int .i64 x25) ∧ (
 ∃ (x26 : Int), World.cell? w23 ((blk b15).add 1) = some (.int .i64 x26) ∧ (
 ∃ (x27 : Int), World.cell? w23 ((blk b15).add 2) = some (.int .u64 x27) ∧ (
 doCall Tryz.prog (.func (.func 62) #[] #[]) #[.pointer s_1, .pointer none, .agg #[.int .i64 x25, .int .i64 x26, .int .u64 x27], .pointer none] w23 (retS (fun v29 w30 => ∃ (x28 : Option Addr), v29 = (.pointer x28 : Value) ∧ (
 doCall Tryz.prog (.func (.func 63) #[] #[]) #[.pointer s_1, .pointer x28, .pointer x11] w30 (retS (fun v32 w33 => ∃ (x31 : Option Addr), v32 = (.pointer x31 : Value) ∧ (
 R (.returned (.tuple #[.pointer x31, .int .i64 x12])) w33)) (fun ch w => Kfn R ch [] w)))) (fun ch w => Kfn R ch [] w)))))) (
 K21 w23)
 ifB x10 (
 K24 with_5 w19) (
 K21 w19))))))) (fun ch w => Kfn R ch [] w))
set_option maxRecDepth 100000 in
theorem sh117_ok (s_1 : Option Addr) (o_2 : Int) (t_3 : Option Addr) (key_4 : Int) (with_5 : Bool) {R : Ending → World → Prop} {w : World} : sh117 s_1 o_2 t_3 key_4 with_5 R w → Calls Tryz.prog 117 #[.pointer s_1, .int .u8 o_2, .pointer t_3, .int .i64 key_4, .bool with_5] w R :=
  calls_of_eq (ann := fun _ => []) (fn := Tryz.f117) (c := bodyOf Tryz.f117) (args := #[.pointer s_1, .int .u8 o_2, .pointer t_3, .int .i64 key_4, .bool with_5]) 400 follows_mixed Tryz.func117 (by kernel_rfl) (by kernel_rfl)
set_option maxRecDepth 100000 in
/-- joinery/joineryref02.Code -/
def sh118 (o_1 : Int) (k_2 : Int) (R : Ending → World → Prop) (w : World) : Prop :=
 ifB ((o_1 : Int) == 1) (
 doCall Tryz.prog (.func (.func 169) #[] #[]) #[.int .i64 k_2] w (retS (fun v4 w5 => ∃ (x3 : Int), v4 = (.int .u64 x3 : Value) ∧ (
 R (.returned (.int .u64 x3)) w5)) (fun ch w => Kfn R ch [] w))) (
 ifB ((o_1 : Int) == 2) (
 doCall Tryz.prog (.func (.func 169) #[] #[]) #[.int .i64 k_2] w (retS (fun v7 w8 => ∃ (x6 : Int), v7 = (.int .u64 x6 : Value) ∧ (
 R (.returned (.int .u64 (IntKind.wrap .u64 (18446744073709551615 - x6)))) w8)) (fun ch w => Kfn R ch [] w))) (
 ifB ((o_1 : Int) == 3) (
 ifB (decide ((k_2 : Int) < 0)) (
 R (.returned (.int .u64 (IntKind.wrap .u64 ((IntKind.wrap .u64 ((IntKind.wrap .u64 (IntKind.wrap .i64 (0 - (IntKind.wrap .i64 (k_2 + 1))))) * 2)) + 1)))) w) (
 R (.returned (.int .u64 (IntKind.wrap .u64 ((IntKind.wrap .u64 k_2) * 2)))) w)) (
 ifB ((o_1 : Int) == 4) (
 doCall Tryz.prog (.func (.func 170) #[] #[]) #[.int .u64 (IntKind.wrap .u64 k_2)] w (retS (fun v10 w11 => ∃ (x9 : Int), v10 = (.int .u64 x9 : Value) ∧ (
 R (.returned (.int .u64 x9)) w11)) (fun ch w => Kfn R ch [] w))) (
 ifB ((o_1 : Int) == 5) (
 doCall Tryz.prog (.func (.func 169) #[] #[]) #[.int .i64 k_2] w (retS (fun v13 w14 => ∃ (x12 : Int), v13 = (.int .u64 x12 : Value) ∧ (
 2 ≠ (0 : Int) ∧ (
 let K17 : Int → World → Prop := fun (half_15 : Int) (w16 : World) => 
 R (.returned (.int .u64 half_15)) w16
 2 ≠ (0 : Int) ∧ (
 ifB (((Int.tmod (IntKind.wrap .u64 k_2) 2) : Int) == 1) (
 K17 (IntKind.wrap .u64 ((IntKind.wrap .u64 (Int.tdiv x12 2)) + 9223372036854775808)) w14) (
 K17 (IntKind.wrap .u64 (Int.tdiv x12 2)) w14))))) (fun ch w => Kfn R ch [] w))) (
 ifB ((o_1 : Int) == 6) (
 doCall Tryz.prog (.func (.func 169) #[] #[]) #[.int .i64 k_2] w (retS (fun v19 w20 => ∃ (x18 : Int), v19 = (.int .u64 x18 : Value) ∧ (
 doCall Tryz.prog (.func (.func 171) #[] #[]) #[.int .u64 x18, .int .i64 32] w20 (retS (fun v22 w23 => ∃ (x21 : Int), v22 = (.int .u64 x21 : Value) ∧ (
 R (.returned (.int .u64 x21)) w23)) (fun ch w => Kfn R ch [] w)))) (fun ch w => Kfn R ch [] w))) (
 doCall Tryz.prog (.func (.func 172) #[] #[]) #[.int .u64 (IntKind.wrap .u64 k_2)] w (retS (fun v25 w26 => ∃ (x24 : Int), v25 = (.int .u64 x24 : Value) ∧ (
 R (.returned (.int .u64 x24)) w26)) (fun ch w => Kfn R ch [] w))))))))
set_option maxRecDepth 100000 in
theorem sh118_ok (o_1 : Int) (k_2 : Int) {R : Ending → World → Prop} {w : World} : sh118 o_1 k_2 R w → Calls Tryz.prog 118 #[.int .u8 o_1, .int .i64 k_2] w R :=
  calls_of_eq (ann := fun _ => []) (fn := Tryz.f118) (c := bodyOf Tryz.f118) (args := #[.int .u8 o_1, .int .i64 k_2]) 400 follows_mixed Tryz.func118 (by kernel_rfl) (by kernel_rfl)
set_option maxRecDepth 100000 in
/-- joinery/span.ahead[int] -/
def sh119 (o_1 : Int) (t_2 : Option Addr) (key_3 : Int) (with_4 : Bool) (all_f5 : Fn) (all_x6 : Array Value) (all_c7 : Array Value) (R : Ending → World → Prop) (w : World) : Prop :=
 ∃ (I8 : List Value → World → Prop) (μ9 : List Value → World → Nat), I8 [.pointer t_2, .int .i64 0] w ∧ (∀ (t_12 : Option Addr), ∀ (sum_13 : Int), ∀ (_j10 : Nat → Value) (w11 : World), I8 [.pointer t_12, .int .i64 sum_13] w11 → (
 ifB (!(t_12).isNone) (
 doCall Tryz.prog (.func (.func 107) #[] #[]) #[.pointer t_12] w11 (retS (fun v15 w16 => ∃ (x14 : Int), v15 = (.int .i64 x14 : Value) ∧ (
 doCall Tryz.prog (.func (.func 129) #[] #[]) #[.int .u8 o_1, .int .i64 x14, .int .i64 key_3] w16 (retS (fun v18 w19 => ∃ (x17 : Int), v18 = (.int .i64 x17 : Value) ∧ (
 let K21 : World → Prop := fun (w20 : World) => 
 doCall Tryz.prog (.func all_f5 all_x6 all_c7) #[.pointer t_12] w20 (retS (fun v23 w24 => ∃ (x22 : Int), v23 = (.int .i64 x22 : Value) ∧ (
 doCall Tryz.prog (.func (.func 109) #[] #[]) #[.pointer t_12] w24 (retS (fun v26 w27 => ∃ (x25 : Option Addr), v26 = (.pointer x25 : Value) ∧ (
 doCall Tryz.prog (.func all_f5 all_x6 all_c7) #[.pointer x25] w27 (retS (fun v29 w30 => ∃ (x28 : Int), v29 = (.int .i64 x28 : Value) ∧ (
 doCall Tryz.prog (.func (.func 109) #[] #[]) #[.pointer t_12] w30 (retS (fun v32 w33 => ∃ (x31 : Option Addr), v32 = (.pointer x31 : Value) ∧ (
 I8 [.pointer x31, .int .i64 (IntKind.wrap .i64 (sum_13 + (IntKind.wrap .i64 (x22 - x28))))] w33 ∧ μ9 [.pointer x31, .int .i64 (IntKind.wrap .i64 (sum_13 + (IntKind.wrap .i64 (x22 - x28))))] w33 < μ9 [.pointer t_12, .int .i64 sum_13] w11)) (fun ch w => Kfn R ch [] w)))) (fun ch w => Kfn R ch [] w)))) (fun ch w => Kfn R ch [] w)))) (fun ch w => Kfn R ch [] w))
 let K36 : Bool → World → Prop := fun (x34 : Bool) (w35 : World) => 
 ifB x34 (
 doCall Tryz.prog (.func (.func 108) #[] #[]) #[.pointer t_12] w35 (retS (fun v38 w39 => ∃ (x37 : Option Addr), v38 = (.pointer x37 : Value) ∧ (
 I8 [.pointer x37, .int .i64 sum_13] w39 ∧ μ9 [.pointer x37, .int .i64 sum_13] w39 < μ9 [.pointer t_12, .int .i64 sum_13] w11)) (fun ch w => Kfn R ch [] w))) (
 K21 w35)
 ifB (decide ((x17 : Int) > 0)) (
 doCall Tryz.prog (.func (.func 108) #[] #[]) #[.pointer t_12] w19 (retS (fun v41 w42 => ∃ (x40 : Option Addr), v41 = (.pointer x40 : Value) ∧ (
 I8 [.pointer x40, .int .i64 sum_13] w42 ∧ μ9 [.pointer x40, .int .i64 sum_13] w42 < μ9 [.pointer t_12, .int .i64 sum_13] w11)) (fun ch w => Kfn R ch [] w))) (
 ifB ((x17 : Int) == 0) (
 K36 (!with_4) w19) (
 K21 w19)))) (fun ch w => Kfn R ch [] w)))) (fun ch w => Kfn R ch [] w))) (
 R (.returned (.int .i64 sum_13)) w11)))
set_option maxRecDepth 100000 in
theorem sh119_ok (o_1 : Int) (t_2 : Option Addr) (key_3 : Int) (with_4 : Bool) (all_f5 : Fn) (all_x6 : Array Value) (all_c7 : Array Value) {R : Ending → World → Prop} {w : World} : sh119 o_1 t_2 key_3 with_4 all_f5 all_x6 all_c7 R w → Calls Tryz.prog 119 #[.int .u8 o_1, .pointer t_2, .int .i64 key_3, .bool with_4, .func all_f5 all_x6 all_c7] w R :=
  calls_of_eq (ann := fun i => if i = 0 then [(1, .pointer none), (10, .int .i64 0)] else []) (fn := Tryz.f119) (c := bodyOf Tryz.f119) (args := #[.int .u8 o_1, .pointer t_2, .int .i64 key_3, .bool with_4, .func all_f5 all_x6 all_c7]) 400 follows_mixed Tryz.func119 (by kernel_rfl) (by kernel_rfl)
set_option maxRecDepth 100000 in
/-- joinery/span.ahead[int64] -/
def sh120 (o_1 : Int) (t_2 : Option Addr) (key_3 : Int) (with_4 : Bool) (all_f5 : Fn) (all_x6 : Array Value) (all_c7 : Array Value) (R : Ending → World → Prop) (w : World) : Prop :=
 ∃ (I8 : List Value → World → Prop) (μ9 : List Value → World → Nat), I8 [.pointer t_2, .int .i64 0] w ∧ (∀ (t_12 : Option Addr), ∀ (sum_13 : Int), ∀ (_j10 : Nat → Value) (w11 : World), I8 [.pointer t_12, .int .i64 sum_13] w11 → (
 ifB (!(t_12).isNone) (
 doCall Tryz.prog (.func (.func 107) #[] #[]) #[.pointer t_12] w11 (retS (fun v15 w16 => ∃ (x14 : Int), v15 = (.int .i64 x14 : Value) ∧ (
 doCall Tryz.prog (.func (.func 129) #[] #[]) #[.int .u8 o_1, .int .i64 x14, .int .i64 key_3] w16 (retS (fun v18 w19 => ∃ (x17 : Int), v18 = (.int .i64 x17 : Value) ∧ (
 let K21 : World → Prop := fun (w20 : World) => 
 doCall Tryz.prog (.func all_f5 all_x6 all_c7) #[.pointer t_12] w20 (retS (fun v23 w24 => ∃ (x22 : Int), v23 = (.int .i64 x22 : Value) ∧ (
 doCall Tryz.prog (.func (.func 109) #[] #[]) #[.pointer t_12] w24 (retS (fun v26 w27 => ∃ (x25 : Option Addr), v26 = (.pointer x25 : Value) ∧ (
 doCall Tryz.prog (.func all_f5 all_x6 all_c7) #[.pointer x25] w27 (retS (fun v29 w30 => ∃ (x28 : Int), v29 = (.int .i64 x28 : Value) ∧ (
 doCall Tryz.prog (.func (.func 109) #[] #[]) #[.pointer t_12] w30 (retS (fun v32 w33 => ∃ (x31 : Option Addr), v32 = (.pointer x31 : Value) ∧ (
 I8 [.pointer x31, .int .i64 (IntKind.wrap .i64 (sum_13 + (IntKind.wrap .i64 (x22 - x28))))] w33 ∧ μ9 [.pointer x31, .int .i64 (IntKind.wrap .i64 (sum_13 + (IntKind.wrap .i64 (x22 - x28))))] w33 < μ9 [.pointer t_12, .int .i64 sum_13] w11)) (fun ch w => Kfn R ch [] w)))) (fun ch w => Kfn R ch [] w)))) (fun ch w => Kfn R ch [] w)))) (fun ch w => Kfn R ch [] w))
 let K36 : Bool → World → Prop := fun (x34 : Bool) (w35 : World) => 
 ifB x34 (
 doCall Tryz.prog (.func (.func 108) #[] #[]) #[.pointer t_12] w35 (retS (fun v38 w39 => ∃ (x37 : Option Addr), v38 = (.pointer x37 : Value) ∧ (
 I8 [.pointer x37, .int .i64 sum_13] w39 ∧ μ9 [.pointer x37, .int .i64 sum_13] w39 < μ9 [.pointer t_12, .int .i64 sum_13] w11)) (fun ch w => Kfn R ch [] w))) (
 K21 w35)
 ifB (decide ((x17 : Int) > 0)) (
 doCall Tryz.prog (.func (.func 108) #[] #[]) #[.pointer t_12] w19 (retS (fun v41 w42 => ∃ (x40 : Option Addr), v41 = (.pointer x40 : Value) ∧ (
 I8 [.pointer x40, .int .i64 sum_13] w42 ∧ μ9 [.pointer x40, .int .i64 sum_13] w42 < μ9 [.pointer t_12, .int .i64 sum_13] w11)) (fun ch w => Kfn R ch [] w))) (
 ifB ((x17 : Int) == 0) (
 K36 (!with_4) w19) (
 K21 w19)))) (fun ch w => Kfn R ch [] w)))) (fun ch w => Kfn R ch [] w))) (
 R (.returned (.int .i64 sum_13)) w11)))
set_option maxRecDepth 100000 in
theorem sh120_ok (o_1 : Int) (t_2 : Option Addr) (key_3 : Int) (with_4 : Bool) (all_f5 : Fn) (all_x6 : Array Value) (all_c7 : Array Value) {R : Ending → World → Prop} {w : World} : sh120 o_1 t_2 key_3 with_4 all_f5 all_x6 all_c7 R w → Calls Tryz.prog 120 #[.int .u8 o_1, .pointer t_2, .int .i64 key_3, .bool with_4, .func all_f5 all_x6 all_c7] w R :=
  calls_of_eq (ann := fun i => if i = 0 then [(1, .pointer none), (10, .int .i64 0)] else []) (fn := Tryz.f120) (c := bodyOf Tryz.f120) (args := #[.int .u8 o_1, .pointer t_2, .int .i64 key_3, .bool with_4, .func all_f5 all_x6 all_c7]) 400 follows_mixed Tryz.func120 (by kernel_rfl) (by kernel_rfl)
set_option maxRecDepth 100000 in
/-- joinery/order.Compare -/
def sh129 (o_1 : Int) (a_2 : Int) (b_3 : Int) (R : Ending → World → Prop) (w : World) : Prop :=
 doCall Tryz.prog (.func (.func 168) #[] #[]) #[.int .u8 o_1, .int .i64 a_2] w (retS (fun v6 w7 => ∃ (x4 : Int), ∃ (x5 : Int), v6 = (.tuple #[.int .u64 x4, .int .i64 x5] : Value) ∧ (
 doCall Tryz.prog (.func (.func 168) #[] #[]) #[.int .u8 o_1, .int .i64 b_3] w7 (retS (fun v10 w11 => ∃ (x8 : Int), ∃ (x9 : Int), v10 = (.tuple #[.int .u64 x8, .int .i64 x9] : Value) ∧ (
 ifB ((x5 : Int) != 0) (
 R (.returned (.int .i64 0)) w11) (
 doCall Tryz.prog (.func (.func 175) #[] #[]) #[.int .u64 x4, .int .u64 x8] w11 (retS (fun v13 w14 => ∃ (x12 : Int), v13 = (.int .i64 x12 : Value) ∧ (
 R (.returned (.int .i64 x12)) w14)) (fun ch w => Kfn R ch [] w))))) (fun ch w => Kfn R ch [] w)))) (fun ch w => Kfn R ch [] w))
set_option maxRecDepth 100000 in
theorem sh129_ok (o_1 : Int) (a_2 : Int) (b_3 : Int) {R : Ending → World → Prop} {w : World} : sh129 o_1 a_2 b_3 R w → Calls Tryz.prog 129 #[.int .u8 o_1, .int .i64 a_2, .int .i64 b_3] w R :=
  calls_of_eq (ann := fun _ => []) (fn := Tryz.f129) (c := bodyOf Tryz.f129) (args := #[.int .u8 o_1, .int .i64 a_2, .int .i64 b_3]) 400 follows_mixed Tryz.func129 (by kernel_rfl) (by kernel_rfl)
set_option maxRecDepth 100000 in
/-- joinery/avljoin.Join -/
def sh138 (l_1 : Option Addr) (key_2 : Int) (val_3 : Int) (r_4 : Option Addr) (R : Ending → World → Prop) (w : World) : Prop :=
 doCall Tryz.prog (.func (.func 181) #[] #[]) #[.pointer none, .int .i64 key_2, .int .i64 val_3, .pointer none] w (retS (fun v6 w7 => ∃ (x5 : Option Addr), v6 = (.pointer x5 : Value) ∧ (
 doCall Tryz.prog (.func (.func 141) #[] #[]) #[.pointer l_1] w7 (retS (fun v9 w10 => ∃ (x8 : Int), v9 = (.int .i64 x8 : Value) ∧ (
 doCall Tryz.prog (.func (.func 141) #[] #[]) #[.pointer r_4] w10 (retS (fun v12 w13 => ∃ (x11 : Int), v12 = (.int .i64 x11 : Value) ∧ (
 ifB (decide ((x8 : Int) > (IntKind.wrap .i64 (x11 + 1)))) (
 doCall Tryz.prog (.func (.func 182) #[] #[]) #[] w13 (retS (fun v23 w24 => ∃ (xf14 : Fn), ∃ (xx15 : Array Value), ∃ (xc16 : Array Value), ∃ (xf17 : Fn), ∃ (xx18 : Array Value), ∃ (xc19 : Array Value), ∃ (xf20 : Fn), ∃ (xx21 : Array Value), ∃ (xc22 : Array Value), v23 = (.agg #[.func xf14 xx15 xc16, .func xf17 xx18 xc19, .func xf20 xx21 xc22] : Value) ∧ (
 doCall Tryz.prog (.func (.func 183) #[] #[]) #[.agg #[.func xf14 xx15 xc16, .func xf17 xx18 xc19, .func xf20 xx21 xc22], .pointer l_1, .pointer x5, .pointer r_4] w24 (retS (fun v26 w27 => ∃ (x25 : Option Addr), v26 = (.pointer x25 : Value) ∧ (
 R (.returned (.pointer x25)) w27)) (fun ch w => Kfn R ch [] w)))) (fun ch w => Kfn R ch [] w))) (
 ifB (decide ((x11 : Int) > (IntKind.wrap .i64 (x8 + 1)))) (
 doCall Tryz.prog (.func (.func 184) #[] #[]) #[] w13 (retS (fun v37 w38 => ∃ (xf28 : Fn), ∃ (xx29 : Array Value), ∃ (xc30 : Array Value), ∃ (xf31 : Fn), ∃ (xx32 : Array Value), ∃ (xc33 : Array Value), ∃ (xf34 : Fn), ∃ (xx35 : Array Value), ∃ (xc36 : Array Value), v37 = (.agg #[.func xf28 xx29 xc30, .func xf31 xx32 xc33, .func xf34 xx35 xc36] : Value) ∧ (
 doCall Tryz.prog (.func (.func 183) #[] #[]) #[.agg #[.func xf28 xx29 xc30, .func xf31 xx32 xc33, .func xf34 xx35 xc36], .pointer r_4, .pointer x5, .pointer l_1] w38 (retS (fun v40 w41 => ∃ (x39 : Option Addr), v40 = (.pointer x39 : Value) ∧ (
 R (.returned (.pointer x39)) w41)) (fun ch w => Kfn R ch [] w)))) (fun ch w => Kfn R ch [] w))) (
 doCall Tryz.prog (.func (.func 181) #[] #[]) #[.pointer l_1, .int .i64 key_2, .int .i64 val_3, .pointer r_4] w13 (retS (fun v43 w44 => ∃ (x42 : Option Addr), v43 = (.pointer x42 : Value) ∧ (
 R (.returned (.pointer x42)) w44)) (fun ch w => Kfn R ch [] w)))))) (fun ch w => Kfn R ch [] w)))) (fun ch w => Kfn R ch [] w)))) (fun ch w => Kfn R ch [] w))
set_option maxRecDepth 100000 in
theorem sh138_ok (l_1 : Option Addr) (key_2 : Int) (val_3 : Int) (r_4 : Option Addr) {R : Ending → World → Prop} {w : World} : sh138 l_1 key_2 val_3 r_4 R w → Calls Tryz.prog 138 #[.pointer l_1, .int .i64 key_2, .int .i64 val_3, .pointer r_4] w R :=
  calls_of_eq (ann := fun _ => []) (fn := Tryz.f138) (c := bodyOf Tryz.f138) (args := #[.pointer l_1, .int .i64 key_2, .int .i64 val_3, .pointer r_4]) 400 follows_mixed Tryz.func138 (by kernel_rfl) (by kernel_rfl)
set_option maxRecDepth 100000 in
/-- joinery/avl.Check -/
def sh139 (t_1 : Option Addr) (R : Ending → World → Prop) (w : World) : Prop :=
 doAl (.cells #[.int .i64 0] 3) w (fun b2 w3 =>
 doAl (.cells #[.int .i64 0] 34) w3 (fun b4 w5 =>
 doCall Tryz.prog (.func (.func 185) #[] #[]) #[] w5 (retS (fun v9 w10 => ∃ (xp6 : Option Addr), ∃ (xn7 : Nat), ∃ (xc8 : Nat), v9 = (.slice xp6 xn7 xc8 : Value) ∧ (
 doAl (.cells #[.slice none 0 0] 253) w10 (fun b11 w12 =>
 doSt ((blk b11).add 0) (.slice xp6 xn7 xc8) w12 (fun w13 =>
 let K15 : Nat → World → Prop := fun (dl16 : Nat) (w14 : World) => 
 doDr w14 (fun w18 =>
 ∃ (C17 : World → Prop), C17 w18 ∧ (
 ∃ (x19 : Int), (∀ w, C17 w → World.cell? w (blk b2) = some (.int .i64 x19)) ∧ (
 ∃ (x20 : Int), (∀ w, C17 w → World.cell? w (blk b4) = some (.int .i64 x20)) ∧ (
 doSt ((blk b2).add 0) (.int .i64 x19) w18 (fun w21 =>
 C17 w21 ∧ (
 doSt ((blk b4).add 0) (.int .i64 x20) w21 (fun w22 =>
 w22.heap[dl16]? = some (.deferred (some [])) ∧ (
 let w23 : World := w22.putObj dl16 (.deferred none)
 ∃ (x24 : Int), World.cell? w23 (blk b2) = some (.int .i64 x24) ∧ (
 ∃ (x25 : Int), World.cell? w23 (blk b4) = some (.int .i64 x25) ∧ (
 R (.returned (.tuple #[.int .i64 x24, .int .i64 x25])) w23))))))))))
 doCall Tryz.prog (.func (.func 186) #[] #[]) #[.pointer t_1] w13 (retS (fun v29 w30 => ∃ (xf26 : Fn), ∃ (xx27 : Array Value), ∃ (xc28 : Array Value), v29 = (.func xf26 xx27 xc28 : Value) ∧ (
 rfW Tryz.prog (.func xf26 xx27 xc28) (mkLoop #[.pointer t_1, undef, .pointer (some (blk b2)), .pointer (some (blk b4)), .pointer (some (blk b11)), undef, undef, undef, .slice xp6 xn7 xc8, .pointer t_1, .func xf26 xx27 xc28, undef, undef, undef, undef, undef, undef, undef, undef, undef, undef, undef, undef, undef, undef, undef, undef, undef, undef] (rfOf Tryz.f139 0).1 (rfOf Tryz.f139 0).2.1 (rfOf Tryz.f139 0).2.2)
 (fun w33 =>
 K15 w30.heap.size w33)
 (fun w34 =>
 w34.heap[w30.heap.size]? = some (.deferred (some [])) ∧ (
 let w35 : World := w34.putObj w30.heap.size (.deferred none)
 ∃ (x36 : Int), World.cell? w35 (blk b2) = some (.int .i64 x36) ∧ (
 ∃ (x37 : Int), World.cell? w35 (blk b4) = some (.int .i64 x37) ∧ (
 R (.returned (.tuple #[.int .i64 x36, .int .i64 x37])) w35))))
 [(2, (fun _ => False)), (0, (fun w32 =>
 K15 w30.heap.size w32))] w30)) (fun ch w => Kfn R ch [] w)))))) (fun ch w => Kfn R ch [] w))))
set_option maxRecDepth 100000 in
theorem sh139_ok (t_1 : Option Addr) {R : Ending → World → Prop} {w : World} : sh139 t_1 R w → Calls Tryz.prog 139 #[.pointer t_1] w R :=
  calls_of_eq (ann := fun _ => []) (fn := Tryz.f139) (c := bodyOf Tryz.f139) (args := #[.pointer t_1]) 400 follows_mixed Tryz.func139 (by kernel_rfl) (by kernel_rfl)
set_option maxRecDepth 100000 in
/-- joinery/avl.Check, a round of loop 0 -/
def sh139_0 (at_1 : Addr) (e_2 : Addr) (all_3 : Addr) (y30 : Option Addr) (l : Nat) (R : Ending → World → Prop) (w : World) : Prop :=
 ∃ (r31 : Loop), w.heap[l]? = some (.loop r31) ∧ r31.state = .ready ∧ (
 let w32 : World := w.putObj l (.loop { r31 with state := .busy })
 ∃ (xp33 : Option Addr), ∃ (xn34 : Nat), ∃ (xc35 : Nat), World.cell? w32 all_3 = some (.slice xp33 xn34 xc35) ∧ (
 ∃ (I36 : List Value → World → Prop) (μ37 : List Value → World → Nat), I36 [.int .i64 0] w32 ∧ (∀ (x40 : Int), ∀ (_j38 : Nat → Value) (w39 : World), I36 [.int .i64 x40] w39 → (
 ifB (decide ((x40 : Int) < ((xn34 : Nat) : Int))) (
 doIx xp33 xn34 2 (x40) (fun a41 =>
 ∃ (xf42 : Fn), ∃ (xx43 : Array Value), ∃ (xc44 : Array Value), World.cell? w39 (a41.add 0) = some (.func xf42 xx43 xc44) ∧ (
 ∃ (x45 : Int), World.cell? w39 (a41.add 1) = some (.int .i64 x45) ∧ (
 doAl (.cells #[.nilFunc, .int .i64 0] 256) w39 (fun b46 w47 =>
 doSt ((blk b46).add 0) (.func xf42 xx43 xc44) w47 (fun w48 =>
 doSt ((blk b46).add 1) (.int .i64 x45) w48 (fun w49 =>
 ∃ (xf50 : Fn), ∃ (xx51 : Array Value), ∃ (xc52 : Array Value), World.cell? w49 ((blk b46).add 0) = some (.func xf50 xx51 xc52) ∧ (
 doCall Tryz.prog (.func xf50 xx51 xc52) #[.pointer y30] w49 (retS (fun v54 w55 => ∃ (x53 : Bool), v54 = (.bool x53 : Value) ∧ (
 ifB x53 (
 ∃ (x56 : Int), World.cell? w55 ((blk b46).add 1) = some (.int .i64 x56) ∧ (
 doSt (e_2.add 0) (.int .i64 x56) w55 (fun w57 =>
 ∃ (r58 : Loop), w57.heap[l]? = some (.loop r58) ∧ R (.returned (.bool false)) (w57.putObj l (.loop { r58 with state := .done, pending := some (.exit 0) }))))) (
 I36 [.int .i64 (IntKind.wrap .i64 (x40 + 1))] w55 ∧ μ37 [.int .i64 (IntKind.wrap .i64 (x40 + 1))] w55 < μ37 [.int .i64 x40] w39))) (fun _ _ => False)))))))))) (
 ∃ (x59 : Int), World.cell? w39 at_1 = some (.int .i64 x59) ∧ (
 doSt (at_1.add 0) (.int .i64 (IntKind.wrap .i64 (x59 + 1))) w39 (fun w60 =>
 ∃ (r61 : Loop), w60.heap[l]? = some (.loop r61) ∧ R (.returned (.bool true)) (w60.putObj l (.loop { r61 with state := .ready, pending := none })))))))))
set_option maxRecDepth 100000 in
theorem sh139_0_ok {dd4 : Value} {dd5 : Value} {dd6 : Value} {dd7 : Value} {dd8 : Value} {dd9 : Value} {dd10 : Value} {dd11 : Value} {dd12 : Value} {dd13 : Value} {dd14 : Value} {dd15 : Value} {dd16 : Value} {dd17 : Value} {dd18 : Value} {dd19 : Value} {dd20 : Value} {dd21 : Value} {dd22 : Value} {dd23 : Value} {dd24 : Value} {dd25 : Value} {dd26 : Value} {dd27 : Value} {dd28 : Value} {dd29 : Value} {at_1 : Addr} {e_2 : Addr} {all_3 : Addr} {y30 : Option Addr} {l fn D : Nat} {R : Ending → World → Prop} {w : World} (hl : w.heap[l]? = some (.loop (mkLoop #[dd4, dd5, .pointer (some at_1), .pointer (some e_2), .pointer (some all_3), dd6, dd7, dd8, dd9, dd10, dd11, dd12, dd13, dd14, dd15, dd16, dd17, dd18, dd19, dd20, dd21, dd22, dd23, dd24, dd25, dd26, dd27, dd28, dd29] (rfOf Tryz.f139 0).1 (rfOf Tryz.f139 0).2.1 (rfOf Tryz.f139 0).2.2 fn D))) : sh139_0 at_1 e_2 all_3 y30 l R w → doCall Tryz.prog (.func (.yield l) #[] #[]) #[.pointer y30] w R :=
  fun h => ⟨round_of_eq (ann := fun i => if i = 2 then [(14, .int .i64 0)] else []) 400 follows_mixed hl (by kernel_rfl) (by kernel_rfl) h⟩
set_option maxRecDepth 100000 in
/-- joinery/avl.May -/
def sh140 (t_1 : Option Addr) (R : Ending → World → Prop) (w : World) : Prop :=
 doCall Tryz.prog (.func (.func 139) #[] #[]) #[.pointer t_1] w (retS (fun v4 w5 => ∃ (x2 : Int), ∃ (x3 : Int), v4 = (.tuple #[.int .i64 x2, .int .i64 x3] : Value) ∧ (
 R (.returned (.bool ((x3 : Int) == 0))) w5)) (fun ch w => Kfn R ch [] w))
set_option maxRecDepth 100000 in
theorem sh140_ok (t_1 : Option Addr) {R : Ending → World → Prop} {w : World} : sh140 t_1 R w → Calls Tryz.prog 140 #[.pointer t_1] w R :=
  calls_of_eq (ann := fun _ => []) (fn := Tryz.f140) (c := bodyOf Tryz.f140) (args := #[.pointer t_1]) 400 follows_mixed Tryz.func140 (by kernel_rfl) (by kernel_rfl)
set_option maxRecDepth 100000 in
/-- joinery/avl.Rank -/
def sh141 (t_1 : Option Addr) (R : Ending → World → Prop) (w : World) : Prop :=
 doCall Tryz.prog (.func (.func 166) #[] #[]) #[.pointer t_1] w (retS (fun v3 w4 => ∃ (x2 : Int), v3 = (.int .u64 x2 : Value) ∧ (
 R (.returned (.int .i64 (IntKind.wrap .i64 x2))) w4)) (fun ch w => Kfn R ch [] w))
set_option maxRecDepth 100000 in
theorem sh141_ok (t_1 : Option Addr) {R : Ending → World → Prop} {w : World} : sh141 t_1 R w → Calls Tryz.prog 141 #[.pointer t_1] w R :=
  calls_of_eq (ann := fun _ => []) (fn := Tryz.f141) (c := bodyOf Tryz.f141) (args := #[.pointer t_1]) 400 follows_mixed Tryz.func141 (by kernel_rfl) (by kernel_rfl)
set_option maxRecDepth 100000 in
/-- joinery/scheme.same -/
def sh143 (t_1 : Option Addr) (R : Ending → World → Prop) (w : World) : Prop :=
 R (.returned (.pointer t_1)) w
set_option maxRecDepth 100000 in
theorem sh143_ok (t_1 : Option Addr) {R : Ending → World → Prop} {w : World} : sh143 t_1 R w → Calls Tryz.prog 143 #[.pointer t_1] w R :=
  calls_of_eq (ann := fun _ => []) (fn := Tryz.f143) (c := bodyOf Tryz.f143) (args := #[.pointer t_1]) 400 follows_mixed Tryz.func143 (by kernel_rfl) (by kernel_rfl)
set_option maxRecDepth 100000 in
/-- joinery/rbjoin.Join -/
def sh144 (l_1 : Option Addr) (key_2 : Int) (val_3 : Int) (r_4 : Option Addr) (R : Ending → World → Prop) (w : World) : Prop :=
 doCall Tryz.prog (.func (.func 149) #[] #[]) #[.pointer l_1] w (retS (fun v6 w7 => ∃ (x5 : Option Addr), v6 = (.pointer x5 : Value) ∧ (
 doCall Tryz.prog (.func (.func 149) #[] #[]) #[.pointer r_4] w7 (retS (fun v9 w10 => ∃ (x8 : Option Addr), v9 = (.pointer x8 : Value) ∧ (
 doCall Tryz.prog (.func (.func 187) #[] #[]) #[.pointer none, .int .i64 key_2, .int .i64 val_3, .bool false, .pointer none] w10 (retS (fun v12 w13 => ∃ (x11 : Option Addr), v12 = (.pointer x11 : Value) ∧ (
 doCall Tryz.prog (.func (.func 188) #[] #[]) #[.pointer x5] w13 (retS (fun v15 w16 => ∃ (x14 : Int), v15 = (.int .i64 x14 : Value) ∧ (
 doCall Tryz.prog (.func (.func 188) #[] #[]) #[.pointer x8] w16 (retS (fun v18 w19 => ∃ (x17 : Int), v18 = (.int .i64 x17 : Value) ∧ (
 ifB (decide ((x14 : Int) > x17)) (
 doCall Tryz.prog (.func (.func 189) #[] #[]) #[.iface 261 (.agg #[]), .pointer x5, .pointer x11, .pointer x8] w19 (retS (fun v21 w22 => ∃ (x20 : Option Addr), v21 = (.pointer x20 : Value) ∧ (
 doCall Tryz.prog (.func (.func 149) #[] #[]) #[.pointer x20] w22 (retS (fun v24 w25 => ∃ (x23 : Option Addr), v24 = (.pointer x23 : Value) ∧ (
 R (.returned (.pointer x23)) w25)) (fun ch w => Kfn R ch [] w)))) (fun ch w => Kfn R ch [] w))) (
 ifB (decide ((x17 : Int) > x14)) (
 doCall Tryz.prog (.func (.func 189) #[] #[]) #[.iface 262 (.agg #[]), .pointer x8, .pointer x11, .pointer x5] w19 (retS (fun v27 w28 => ∃ (x26 : Option Addr), v27 = (.pointer x26 : Value) ∧ (
 doCall Tryz.prog (.func (.func 149) #[] #[]) #[.pointer x26] w28 (retS (fun v30 w31 => ∃ (x29 : Option Addr), v30 = (.pointer x29 : Value) ∧ (
 R (.returned (.pointer x29)) w31)) (fun ch w => Kfn R ch [] w)))) (fun ch w => Kfn R ch [] w))) (
 doCall Tryz.prog (.func (.func 187) #[] #[]) #[.pointer x5, .int .i64 key_2, .int .i64 val_3, .bool false, .pointer x8] w19 (retS (fun v33 w34 => ∃ (x32 : Option Addr), v33 = (.pointer x32 : Value) ∧ (
 R (.returned (.pointer x32)) w34)) (fun ch w => Kfn R ch [] w)))))) (fun ch w => Kfn R ch [] w)))) (fun ch w => Kfn R ch [] w)))) (fun ch w => Kfn R ch [] w)))) (fun ch w => Kfn R ch [] w)))) (fun ch w => Kfn R ch [] w))
set_option maxRecDepth 100000 in
theorem sh144_ok (l_1 : Option Addr) (key_2 : Int) (val_3 : Int) (r_4 : Option Addr) {R : Ending → World → Prop} {w : World} : sh144 l_1 key_2 val_3 r_4 R w → Calls Tryz.prog 144 #[.pointer l_1, .int .i64 key_2, .int .i64 val_3, .pointer r_4] w R :=
  calls_of_eq (ann := fun _ => []) (fn := Tryz.f144) (c := bodyOf Tryz.f144) (args := #[.pointer l_1, .int .i64 key_2, .int .i64 val_3, .pointer r_4]) 400 follows_mixed Tryz.func144 (by kernel_rfl) (by kernel_rfl)
end Go.Proofs.YtbaoihmffobneaaGreat

namespace Go.Proofs.YtbaoihmffobneaaGreat
open Go Go.Sh
set_option maxRecDepth 100000 in
/-- joinery/rb.Check -/
def sh145 (t_1 : Option Addr) (R : Ending → World → Prop) (w : World) : Prop :=
 doCall Tryz.prog (.func (.func 190) #[] #[]) #[.pointer t_1] w (retS (fun v4 w5 => ∃ (x2 : Int), ∃ (x3 : Int), v4 = (.tuple #[.int .i64 x2, .int .i64 x3] : Value) ∧ (
 let K7 : World → Prop := fun (w6 : World) => 
 R (.returned (.tuple #[.int .i64 x2, .int .i64 x3])) w6
 let K10 : Bool → World → Prop := fun (x8 : Bool) (w9 : World) => 
 ifB x8 (
 R (.returned (.tuple #[.int .i64 0, .int .i64 8])) w9) (
 K7 w9)
 ifB ((x3 : Int) == 0) (
 doCall Tryz.prog (.func (.func 191) #[] #[]) #[.pointer t_1] w5 (retS (fun v12 w13 => ∃ (x11 : Bool), v12 = (.bool x11 : Value) ∧ (
 K10 x11 w13)) (fun ch w => Kfn R ch [] w))) (
 K7 w5))) (fun ch w => Kfn R ch [] w))
set_option maxRecDepth 100000 in
theorem sh145_ok (t_1 : Option Addr) {R : Ending → World → Prop} {w : World} : sh145 t_1 R w → Calls Tryz.prog 145 #[.pointer t_1] w R :=
  calls_of_eq (ann := fun _ => []) (fn := Tryz.f145) (c := bodyOf Tryz.f145) (args := #[.pointer t_1]) 400 follows_mixed Tryz.func145 (by kernel_rfl) (by kernel_rfl)
set_option maxRecDepth 100000 in
/-- joinery/rb.Part -/
def sh146 (t_1 : Option Addr) (R : Ending → World → Prop) (w : World) : Prop :=
 doCall Tryz.prog (.func (.func 190) #[] #[]) #[.pointer t_1] w (retS (fun v4 w5 => ∃ (x2 : Int), ∃ (x3 : Int), v4 = (.tuple #[.int .i64 x2, .int .i64 x3] : Value) ∧ (
 R (.returned (.bool ((x3 : Int) == 0))) w5)) (fun ch w => Kfn R ch [] w))
set_option maxRecDepth 100000 in
theorem sh146_ok (t_1 : Option Addr) {R : Ending → World → Prop} {w : World} : sh146 t_1 R w → Calls Tryz.prog 146 #[.pointer t_1] w R :=
  calls_of_eq (ann := fun _ => []) (fn := Tryz.f146) (c := bodyOf Tryz.f146) (args := #[.pointer t_1]) 400 follows_mixed Tryz.func146 (by kernel_rfl) (by kernel_rfl)
set_option maxRecDepth 100000 in
/-- joinery/rb.Blacken -/
def sh149 (t_1 : Option Addr) (R : Ending → World → Prop) (w : World) : Prop :=
 doCall Tryz.prog (.func (.func 191) #[] #[]) #[.pointer t_1] w (retS (fun v3 w4 => ∃ (x2 : Bool), v3 = (.bool x2 : Value) ∧ (
 ifB (!x2) (
 R (.returned (.pointer t_1)) w4) (
 doCall Tryz.prog (.func (.func 108) #[] #[]) #[.pointer t_1] w4 (retS (fun v6 w7 => ∃ (x5 : Option Addr), v6 = (.pointer x5 : Value) ∧ (
 doCall Tryz.prog (.func (.func 107) #[] #[]) #[.pointer t_1] w7 (retS (fun v9 w10 => ∃ (x8 : Int), v9 = (.int .i64 x8 : Value) ∧ (
 doCall Tryz.prog (.func (.func 165) #[] #[]) #[.pointer t_1] w10 (retS (fun v12 w13 => ∃ (x11 : Int), v12 = (.int .i64 x11 : Value) ∧ (
 doCall Tryz.prog (.func (.func 166) #[] #[]) #[.pointer t_1] w13 (retS (fun v15 w16 => ∃ (x14 : Int), v15 = (.int .u64 x14 : Value) ∧ (
 doCall Tryz.prog (.func (.func 109) #[] #[]) #[.pointer t_1] w16 (retS (fun v18 w19 => ∃ (x17 : Option Addr), v18 = (.pointer x17 : Value) ∧ (
 doCall Tryz.prog (.func (.func 60) #[] #[]) #[.pointer x5, .int .i64 x8, .int .i64 x11, .int .u64 (IntKind.wrap .u64 (x14 + 1)), .pointer x17] w19 (retS (fun v21 w22 => ∃ (x20 : Option Addr), v21 = (.pointer x20 : Value) ∧ (
 R (.returned (.pointer x20)) w22)) (fun ch w => Kfn R ch [] w)))) (fun ch w => Kfn R ch [] w)))) (fun ch w => Kfn R ch [] w)))) (fun ch w => Kfn R ch [] w)))) (fun ch w => Kfn R ch [] w)))) (fun ch w => Kfn R ch [] w))))) (fun ch w => Kfn R ch [] w))
set_option maxRecDepth 100000 in
theorem sh149_ok (t_1 : Option Addr) {R : Ending → World → Prop} {w : World} : sh149 t_1 R w → Calls Tryz.prog 149 #[.pointer t_1] w R :=
  calls_of_eq (ann := fun _ => []) (fn := Tryz.f149) (c := bodyOf Tryz.f149) (args := #[.pointer t_1]) 400 follows_mixed Tryz.func149 (by kernel_rfl) (by kernel_rfl)
set_option maxRecDepth 100000 in
/-- joinery/wbjoin.Join -/
def sh150 (l_1 : Option Addr) (key_2 : Int) (val_3 : Int) (r_4 : Option Addr) (R : Ending → World → Prop) (w : World) : Prop :=
 doCall Tryz.prog (.func (.func 192) #[] #[]) #[.pointer none, .int .i64 key_2, .int .i64 val_3, .pointer none] w (retS (fun v6 w7 => ∃ (x5 : Option Addr), v6 = (.pointer x5 : Value) ∧ (
 doCall Tryz.prog (.func (.func 193) #[] #[]) #[.pointer l_1] w7 (retS (fun v9 w10 => ∃ (x8 : Int), v9 = (.int .i64 x8 : Value) ∧ (
 doCall Tryz.prog (.func (.func 193) #[] #[]) #[.pointer r_4] w10 (retS (fun v12 w13 => ∃ (x11 : Int), v12 = (.int .i64 x11 : Value) ∧ (
 ifB (decide ((x8 : Int) < x11)) (
 doCall Tryz.prog (.func (.func 194) #[] #[]) #[.int .i64 0, .pointer r_4, .pointer x5, .pointer l_1] w13 (retS (fun v15 w16 => ∃ (x14 : Option Addr), v15 = (.pointer x14 : Value) ∧ (
 R (.returned (.pointer x14)) w16)) (fun ch w => Kfn R ch [] w))) (
 doCall Tryz.prog (.func (.func 194) #[] #[]) #[.int .i64 1, .pointer l_1, .pointer x5, .pointer r_4] w13 (retS (fun v18 w19 => ∃ (x17 : Option Addr), v18 = (.pointer x17 : Value) ∧ (
 R (.returned (.pointer x17)) w19)) (fun ch w => Kfn R ch [] w))))) (fun ch w => Kfn R ch [] w)))) (fun ch w => Kfn R ch [] w)))) (fun ch w => Kfn R ch [] w))
set_option maxRecDepth 100000 in
theorem sh150_ok (l_1 : Option Addr) (key_2 : Int) (val_3 : Int) (r_4 : Option Addr) {R : Ending → World → Prop} {w : World} : sh150 l_1 key_2 val_3 r_4 R w → Calls Tryz.prog 150 #[.pointer l_1, .int .i64 key_2, .int .i64 val_3, .pointer r_4] w R :=
  calls_of_eq (ann := fun _ => []) (fn := Tryz.f150) (c := bodyOf Tryz.f150) (args := #[.pointer l_1, .int .i64 key_2, .int .i64 val_3, .pointer r_4]) 400 follows_mixed Tryz.func150 (by kernel_rfl) (by kernel_rfl)
set_option maxRecDepth 100000 in
/-- joinery/wb.Check -/
def sh151 (t_1 : Option Addr) (R : Ending → World → Prop) (w : World) : Prop :=
 doAl (.cells #[.pointer t_1] 30) w (fun b2 w3 =>
 let K7 : Int → Int → World → Prop := fun (at_4 : Int) (e_5 : Int) (w6 : World) => 
 R (.returned (.tuple #[.int .i64 at_4, .int .i64 e_5])) w6
 ∃ (I8 : List Value → World → Prop) (μ9 : List Value → World → Nat), I8 [.int .i64 0, .int .i64 0, .slice (some (blk b2)) 1 1] w3 ∧ (∀ (at_12 : Int), ∀ (e_13 : Int), ∀ (rest_p14 : Option Addr), ∀ (rest_n15 : Nat), ∀ (rest_c16 : Nat), ∀ (_j10 : Nat → Value) (w11 : World), I8 [.int .i64 at_12, .int .i64 e_13, .slice rest_p14 rest_n15 rest_c16] w11 → (
 ifB (decide ((((rest_n15 : Nat) : Int) : Int) > 0)) (
 doIx rest_p14 rest_n15 1 (IntKind.wrap .i64 (((rest_n15 : Nat) : Int) - 1)) (fun a17 =>
 ∃ (x18 : Option Addr), World.cell? w11 a17 = some (.pointer x18) ∧ (
 doSl rest_p14 rest_c16 1 (0) (IntKind.wrap .i64 (((rest_n15 : Nat) : Int) - 1)) (fun p19 n20 c21 =>
 ifB ((x18).isNone) (
 I8 [.int .i64 at_12, .int .i64 e_13, .slice p19 n20 c21] w11 ∧ μ9 [.int .i64 at_12, .int .i64 e_13, .slice p19 n20 c21] w11 < μ9 [.int .i64 at_12, .int .i64 e_13, .slice rest_p14 rest_n15 rest_c16] w11) (
 doCall Tryz.prog (.func (.func 166) #[] #[]) #[.pointer x18] w11 (retS (fun v23 w24 => ∃ (x22 : Int), v23 = (.int .u64 x22 : Value) ∧ (
 ifB ((x22 : Int) != 0) (
 K7 at_12 140 w24) (
 doCall Tryz.prog (.func (.func 108) #[] #[]) #[.pointer x18] w24 (retS (fun v26 w27 => ∃ (x25 : Option Addr), v26 = (.pointer x25 : Value) ∧ (
 doCall Tryz.prog (.func (.func 193) #[] #[]) #[.pointer x25] w27 (retS (fun v29 w30 => ∃ (x28 : Int), v29 = (.int .i64 x28 : Value) ∧ (
 doCall Tryz.prog (.func (.func 109) #[] #[]) #[.pointer x18] w30 (retS (fun v32 w33 => ∃ (x31 : Option Addr), v32 = (.pointer x31 : Value) ∧ (
 doCall Tryz.prog (.func (.func 193) #[] #[]) #[.pointer x31] w33 (retS (fun v35 w36 => ∃ (x34 : Int), v35 = (.int .i64 x34 : Value) ∧ (
 doCall Tryz.prog (.func (.func 195) #[] #[]) #[.int .i64 x28, .int .i64 x34] w36 (retS (fun v38 w39 => ∃ (x37 : Bool), v38 = (.bool x37 : Value) ∧ (
 ifB (!x37) (
 K7 at_12 8 w39) (
 doCall Tryz.prog (.func (.func 109) #[] #[]) #[.pointer x18] w39 (retS (fun v41 w42 => ∃ (x40 : Option Addr), v41 = (.pointer x40 : Value) ∧ (
 doCall Tryz.prog (.func (.func 108) #[] #[]) #[.pointer x18] w42 (retS (fun v44 w45 => ∃ (x43 : Option Addr), v44 = (.pointer x43 : Value) ∧ (
 doAl (.cells #[.pointer x40, .pointer x43] 30) w45 (fun b46 w47 =>
 doGo Tryz.prog (.builtin .append #[264, 264] 264 #[false, false]) #[.slice p19 n20 c21, .slice (some (blk b46)) 2 2] w47 (retS (fun v51 w52 => ∃ (xp48 : Option Addr), ∃ (xn49 : Nat), ∃ (xc50 : Nat), v51 = (.slice xp48 xn49 xc50 : Value) ∧ (
 I8 [.int .i64 (IntKind.wrap .i64 (at_12 + 1)), .int .i64 e_13, .slice xp48 xn49 xc50] w52 ∧ μ9 [.int .i64 (IntKind.wrap .i64 (at_12 + 1)), .int .i64 e_13, .slice xp48 xn49 xc50] w52 < μ9 [.int .i64 at_12, .int .i64 e_13, .slice rest_p14 rest_n15 rest_c16] w11)) (fun ch w => Kfn R ch [] w))))) (fun ch w => Kfn R ch [] w)))) (fun ch w => Kfn R ch [] w))))) (fun ch w => Kfn R ch [] w)))) (fun ch w => Kfn R ch [] w)))) (fun ch w => Kfn R ch [] w)))) (fun ch w => Kfn R ch [] w)))) (fun ch w => Kfn R ch [] w))))) (fun ch w => Kfn R ch [] w))))))) (
 K7 at_12 e_13 w11))))
set_option maxRecDepth 100000 in
theorem sh151_ok (t_1 : Option Addr) {R : Ending → World → Prop} {w : World} : sh151 t_1 R w → Calls Tryz.prog 151 #[.pointer t_1] w R :=
  calls_of_eq (ann := fun i => if i = 0 then [(2, .int .i64 0), (3, .int .i64 0), (4, .slice none 0 0)] else []) (fn := Tryz.f151) (c := bodyOf Tryz.f151) (args := #[.pointer t_1]) 400 follows_mixed Tryz.func151 (by kernel_rfl) (by kernel_rfl)
set_option maxRecDepth 100000 in
/-- joinery/wb.May -/
def sh152 (t_1 : Option Addr) (R : Ending → World → Prop) (w : World) : Prop :=
 doCall Tryz.prog (.func (.func 151) #[] #[]) #[.pointer t_1] w (retS (fun v4 w5 => ∃ (x2 : Int), ∃ (x3 : Int), v4 = (.tuple #[.int .i64 x2, .int .i64 x3] : Value) ∧ (
 R (.returned (.bool ((x3 : Int) == 0))) w5)) (fun ch w => Kfn R ch [] w))
set_option maxRecDepth 100000 in
theorem sh152_ok (t_1 : Option Addr) {R : Ending → World → Prop} {w : World} : sh152 t_1 R w → Calls Tryz.prog 152 #[.pointer t_1] w R :=
  calls_of_eq (ann := fun _ => []) (fn := Tryz.f152) (c := bodyOf Tryz.f152) (args := #[.pointer t_1]) 400 follows_mixed Tryz.func152 (by kernel_rfl) (by kernel_rfl)
set_option maxRecDepth 100000 in
/-- (*joinery/scheme.Scheme).face$1 -/
def sh157 (x1 : Addr) (R : Ending → World → Prop) (w : World) : Prop :=
 doDr w (fun w3 =>
 ∃ (C2 : World → Prop), C2 w3 ∧ (
 ∃ (x4 : Option Addr), (∀ w, C2 w → World.cell? w x1 = some (.pointer x4)) ∧ (
 ∃ (x5 : Option Addr), (∀ w, C2 w → World.cell? w x1 = some (.pointer x5)) ∧ (
 ∃ (q6 : Addr), x5 = some q6 ∧ (
 ∃ (x7 : Int), (∀ w, C2 w → World.cell? w (q6.add 0) = some (.int .u8 x7)) ∧ (
 doCall Tryz.prog (.func (.func 99) #[] #[]) #[.int .u8 x7] w3 (retS (fun v9 w10 => ∃ (x8 : Value), v9 = (x8 : Value) ∧ (
 C2 w10 ∧ (
 doGo Tryz.prog (.fn (.method "joinery/scheme.faces") #[]) #[x8] w10 (retS (fun v31 w32 => ∃ (x11 : ByteArray), ∃ (xf12 : Fn), ∃ (xx13 : Array Value), ∃ (xc14 : Array Value), ∃ (xf15 : Fn), ∃ (xx16 : Array Value), ∃ (xc17 : Array Value), ∃ (xf18 : Fn), ∃ (xx19 : Array Value), ∃ (xc20 : Array Value), ∃ (xf21 : Fn), ∃ (xx22 : Array Value), ∃ (xc23 : Array Value), ∃ (xf24 : Fn), ∃ (xx25 : Array Value), ∃ (xc26 : Array Value), ∃ (xf27 : Fn), ∃ (xx28 : Array Value), ∃ (xc29 : Array Value), ∃ (x30 : Bool), v31 = (.agg #[.string x11, .func xf12 xx13 xc14, .func xf15 xx16 xc17, .func xf18 xx19 xc20, .func xf21 xx22 xc23, .func xf24 xx25 xc26, .func xf27 xx28 xc29, .bool x30] : Value) ∧ (
 C2 w32 ∧ (
 ∃ (q33 : Addr), x4 = some q33 ∧ (
 doSt ((q33.add 4).add 0) (.string x11) w32 (fun w34 =>
 doSt ((q33.add 4).add 1) (.func xf12 xx13 xc14) w34 (fun w35 =>
 doSt ((q33.add 4).add 2) (.func xf15 xx16 xc17) w35 (fun w36 =>
 doSt ((q33.add 4).add 3) (.func xf18 xx19 xc20) w36 (fun w37 =>
 doSt ((q33.add 4).add 4) (.func xf21 xx22 xc23) w37 (fun w38 =>
 doSt ((q33.add 4).add 5) (.func xf24 xx25 xc26) w38 (fun w39 =>
 doSt ((q33.add 4).add 6) (.func xf27 xx28 xc29) w39 (fun w40 =>
 doSt ((q33.add 4).add 7) (.bool x30) w40 (fun w41 =>
 R (.returned (.tuple #[])) w41)))))))))))) (fun ch w => Kfn R ch [] w))))) (fun ch w => Kfn R ch [] w))))))))
set_option maxRecDepth 100000 in
theorem sh157_ok (x1 : Addr) {R : Ending → World → Prop} {w : World} : sh157 x1 R w → Calls Tryz.prog 157 #[.pointer (some x1)] w R :=
  calls_of_eq (ann := fun _ => []) (fn := Tryz.f157) (c := bodyOf Tryz.f157) (args := #[.pointer (some x1)]) 400 follows_mixed Tryz.func157 (by kernel_rfl) (by kernel_rfl)
set_option maxRecDepth 100000 in
/-- joinery/cut.end -/
def sh158 (s_1 : Option Addr) (w_f2 : Fn) (w_x3 : Array Value) (w_c4 : Array Value) (w_f5 : Fn) (w_x6 : Array Value) (w_c7 : Array Value) (w_f8 : Fn) (w_x9 : Array Value) (w_c10 : Array Value) (t_11 : Option Addr) (R : Ending → World → Prop) (w : World) : Prop :=
 doAl (.cells #[.func w_f2 w_x3 w_c4, .func w_f5 w_x6 w_c7, .func w_f8 w_x9 w_c10] 224) w (fun b12 w13 =>
 doAl (.cells #[.int .i64 0, .int .i64 0, .int .u64 0] 93) w13 (fun b14 w15 =>
 ∃ (xf16 : Fn), ∃ (xx17 : Array Value), ∃ (xc18 : Array Value), World.cell? w15 ((blk b12).add 0) = some (.func xf16 xx17 xc18) ∧ (
 doCall Tryz.prog (.func xf16 xx17 xc18) #[.pointer t_11] w15 (retS (fun v20 w21 => ∃ (x19 : Option Addr), v20 = (.pointer x19 : Value) ∧ (
 ifB ((x19).isNone) (
 ∃ (xf22 : Fn), ∃ (xx23 : Array Value), ∃ (xc24 : Array Value), World.cell? w21 ((blk b12).add 1) = some (.func xf22 xx23 xc24) ∧ (
 doCall Tryz.prog (.func xf22 xx23 xc24) #[.pointer t_11] w21 (retS (fun v26 w27 => ∃ (x25 : Option Addr), v26 = (.pointer x25 : Value) ∧ (
 doCall Tryz.prog (.func (.func 70) #[] #[]) #[.pointer s_1, .pointer x25] w27 (retS (fun v29 w30 => ∃ (x28 : Option Addr), v29 = (.pointer x28 : Value) ∧ (
 doCall Tryz.prog (.func (.func 110) #[] #[]) #[.pointer s_1, .pointer t_11] w30 (retS (fun v34 w35 => ∃ (x31 : Int), ∃ (x32 : Int), ∃ (x33 : Int), v34 = (.agg #[.int .i64 x31, .int .i64 x32, .int .u64 x33] : Value) ∧ (
 doSt ((blk b14).add 0) (.int .i64 x31) w35 (fun w36 =>
 doSt ((blk b14).add 1) (.int .i64 x32) w36 (fun w37 =>
 doSt ((blk b14).add 2) (.int .u64 x33) w37 (fun w38 =>
 ∃ (x39 : Int), World.cell? w38 ((blk b14).add 0) = some (.int .i64 x39) ∧ (
 ∃ (x40 : Int), World.cell? w38 ((blk b14).add 1) = some (.int .i64 x40) ∧ (
 ∃ (x41 : Int), World.cell? w38 ((blk b14).add 2) = some (.int .u64 x41) ∧ (
 R (.returned (.tuple #[.pointer x28, .agg #[.int .i64 x39, .int .i64 x40, .int .u64 x41]])) w38)))))))) (fun ch w => Kfn R ch [] w)))) (fun ch w => Kfn R ch [] w)))) (fun ch w => Kfn R ch [] w)))) (
 let K45 : (Option Addr) → Addr → World → Prop := fun (rest_42 : Option Addr) (x_43 : Addr) (w44 : World) => 
 doDr w44 (fun w47 =>
 ∃ (C46 : World → Prop), C46 w47 ∧ (
 ∃ (xf48 : Fn), ∃ (xx49 : Array Value), ∃ (xc50 : Array Value), (∀ w, C46 w → World.cell? w ((blk b12).add 2) = some (.func xf48 xx49 xc50)) ∧ (
 ∃ (xf51 : Fn), ∃ (xx52 : Array Value), ∃ (xc53 : Array Value), (∀ w, C46 w → World.cell? w ((blk b12).add 1) = some (.func xf51 xx52 xc53)) ∧ (
 ∃ (x54 : Int), (∀ w, C46 w → World.cell? w (x_43.add 0) = some (.int .i64 x54)) ∧ (
 ∃ (x55 : Int), (∀ w, C46 w → World.cell? w (x_43.add 1) = some (.int .i64 x55)) ∧ (
 ∃ (x56 : Int), (∀ w, C46 w → World.cell? w (x_43.add 2) = some (.int .u64 x56)) ∧ (
 doCall Tryz.prog (.func (.func 110) #[] #[]) #[.pointer s_1, .pointer t_11] w47 (retS (fun v60 w61 => ∃ (x57 : Int), ∃ (x58 : Int), ∃ (x59 : Int), v60 = (.agg #[.int .i64 x57, .int .i64 x58, .int .u64 x59] : Value) ∧ (
 C46 w61 ∧ (
 doCall Tryz.prog (.func xf51 xx52 xc53) #[.pointer t_11] w61 (retS (fun v63 w64 => ∃ (x62 : Option Addr), v63 = (.pointer x62 : Value) ∧ (
 C46 w64 ∧ (
 doCall Tryz.prog (.func xf48 xx49 xc50) #[.pointer rest_42, .agg #[.int .i64 x57, .int .i64 x58, .int .u64 x59], .pointer x62] w64 (retS (fun v66 w67 => ∃ (x65 : Option Addr), v66 = (.pointer x65 : Value) ∧ (
 C46 w67 ∧ (
 doSt ((blk b14).add 0) (.int .i64 x54) w67 (fun w68 =>
 doSt ((blk b14).add 1) (.int .i64 x55) w68 (fun w69 =>
 doSt ((blk b14).add 2) (.int .u64 x56) w69 (fun w70 =>
 ∃ (x71 : Int), World.cell? w70 ((blk b14).add 0) = some (.int .i64 x71) ∧ (
 ∃ (x72 : Int), World.cell? w70 ((blk b14).add 1) = some (.int .i64 x72) ∧ (
 ∃ (x73 : Int), World.cell? w70 ((blk b14).add 2) = some (.int .u64 x73) ∧ (
 R (.returned (.tuple #[.pointer x65, .agg #[.int .i64 x71, .int .i64 x72, .int .u64 x73]])) w70))))))))) (fun ch w => Kfn R ch [] w))))) (fun ch w => Kfn R ch [] w))))) (fun ch w => Kfn R ch [] w)))))))))
 doDr w21 (fun w75 =>
 ∃ (C74 : World → Prop), C74 w75 ∧ (
 ∃ (xf76 : Fn), ∃ (xx77 : Array Value), ∃ (xc78 : Array Value), (∀ w, C74 w → World.cell? w ((blk b12).add 0) = some (.func xf76 xx77 xc78)) ∧ (
 ∃ (xf79 : Fn), ∃ (xx80 : Array Value), ∃ (xc81 : Array Value), (∀ w, C74 w → World.cell? w ((blk b12).add 1) = some (.func xf79 xx80 xc81)) ∧ (
 ∃ (xf82 : Fn), ∃ (xx83 : Array Value), ∃ (xc84 : Array Value), (∀ w, C74 w → World.cell? w ((blk b12).add 2) = some (.func xf82 xx83 xc84)) ∧ (
 ∃ (xf85 : Fn), ∃ (xx86 : Array Value), ∃ (xc87 : Array Value), (∀ w, C74 w → World.cell? w ((blk b12).add 0) = some (.func xf85 xx86 xc87)) ∧ (
 (doCall Tryz.prog (.func xf85 xx86 xc87) #[.pointer t_11] w75 (retS (fun v89 w90 => ∃ (x88 : Option Addr), v89 = (.pointer x88 : Value) ∧ (
 C74 w90 ∧ (
 (doCall Tryz.prog (.func (.func 158) #[] #[]) #[.pointer s_1, .agg #[.func xf76 xx77 xc78, .func xf79 xx80 xc81, .func xf82 xx83 xc84], .pointer x88] w90 (retS (fun v95 w96 => ∃ (x91 : Option Addr), ∃ (x92 : Int), ∃ (x93 : Int), ∃ (x94 : Int), v95 = (.tuple #[.pointer x91, .agg #[.int .i64 x92, .int .i64 x93, .int .u64 x94]] : Value) ∧ (
 C74 w96 ∧ (
 doAl (.cells #[.int .i64 0, .int .i64 0, .int .u64 0] 93) w96 (fun b97 w98 =>
 C74 w98 ∧ (
 doSt ((blk b97).add 0) (.int .i64 x92) w98 (fun w99 =>
 doSt ((blk b97).add 1) (.int .i64 x93) w99 (fun w100 =>
 doSt ((blk b97).add 2) (.int .u64 x94) w100 (fun w101 =>
 K45 x91 (blk b97) w101)))))))) (fun ch w => Kfn R ch [] w))) ∧ (doAl (.cells #[.int .i64 0, .int .i64 0, .int .u64 0] 93) w90 (fun b102 w103 =>
 C74 w103 ∧ (
 doCall Tryz.prog (.func (.func 158) #[] #[]) #[.pointer s_1, .agg #[.func xf76 xx77 xc78, .func xf79 xx80 xc81, .func xf82 xx83 xc84], .pointer x88] w103 (retS (fun v108 w109 => ∃ (x104 : Option Addr), ∃ (x105 : Int), ∃ (x106 : Int), ∃ (x107 : Int), v108 = (.tuple #[.pointer x104, .agg #[.int .i64 x105, .int .i64 x106, .int .u64 x107]] : Value) ∧ (
 C74 w109 ∧ (
 doSt ((blk b102).add 0) (.int .i64 x105) w109 (fun w110 =>
 doSt ((blk b102).add 1) (.int .i64 x106) w110 (fun w111 =>
 doSt ((blk b102).add 2) (.int .u64 x107) w111 (fun w112 =>
 K45 x104 (blk b102) w112)))))) (fun ch w => Kfn R ch [] w)))))))) (fun ch w => Kfn R ch [] w))) ∧ (doAl (.cells #[.int .i64 0, .int .i64 0, .int .u64 0] 93) w75 (fun b113 w114 =>
 C74 w114 ∧ (
 doCall Tryz.prog (.func xf85 xx86 xc87) #[.pointer t_11] w114 (retS (fun v116 w117 => ∃ (x115 : Option Addr), v116 = (.pointer x115 : Value) ∧ (
 C74 w117 ∧ (
 doCall Tryz.prog (.func (.func 158) #[] #[]) #[.pointer s_1, .agg #[.func xf76 xx77 xc78, .func xf79 xx80 xc81, .func xf82 xx83 xc84], .pointer x115] w117 (retS (fun v122 w123 => ∃ (x118 : Option Addr), ∃ (x119 : Int), ∃ (x120 : Int), ∃ (x121 : Int), v122 = (.tuple #[.pointer x118, .agg #[.int .i64 x119, .int .i64 x120, .int .u64 x121]] : Value) ∧ (
 C74 w123 ∧ (
 doSt ((blk b113).add 0) (.int .i64 x119) w123 (fun w124 =>
 doSt ((blk b113).add 1) (.int .i64 x120) w124 (fun w125 =>
 doSt ((blk b113).add 2) (.int .u64 x121) w125 (fun w126 =>
 K45 x118 (blk b113) w126)))))) (fun ch w => Kfn R ch [] w))))) (fun ch w => Kfn R ch [] w)))))))))))))) (fun ch w => Kfn R ch [] w)))))
set_option maxRecDepth 100000 in
theorem sh158_ok (s_1 : Option Addr) (w_f2 : Fn) (w_x3 : Array Value) (w_c4 : Array Value) (w_f5 : Fn) (w_x6 : Array Value) (w_c7 : Array Value) (w_f8 : Fn) (w_x9 : Array Value) (w_c10 : Array Value) (t_11 : Option Addr) {R : Ending → World → Prop} {w : World} : sh158 s_1 w_f2 w_x3 w_c4 w_f5 w_x6 w_c7 w_f8 w_x9 w_c10 t_11 R w → Calls Tryz.prog 158 #[.pointer s_1, .agg #[.func w_f2 w_x3 w_c4, .func w_f5 w_x6 w_c7, .func w_f8 w_x9 w_c10], .pointer t_11] w R :=
  calls_of_eq (ann := fun _ => []) (fn := Tryz.f158) (c := bodyOf Tryz.f158) (args := #[.pointer s_1, .agg #[.func w_f2 w_x3 w_c4, .func w_f5 w_x6 w_c7, .func w_f8 w_x9 w_c10], .pointer t_11]) 400 follows_mixed Tryz.func158 (by kernel_rfl) (by kernel_rfl)
set_option maxRecDepth 100000 in
/-- joinery/cut.to -/
def sh159 (s_1 : Option Addr) (last_2 : Bool) (R : Ending → World → Prop) (w : World) : Prop :=
 doAl (.cells #[.pointer s_1] 23) w (fun b3 w4 =>
 doAl (.cells #[.nilFunc, .nilFunc, .nilFunc] 224) w4 (fun b5 w6 =>
 ifB last_2 (
 doSt ((blk b5).add 0) (.func (.func 109) #[] #[]) w6 (fun w7 =>
 doSt ((blk b5).add 1) (.func (.func 108) #[] #[]) w7 (fun w8 =>
 doSt ((blk b5).add 2) (.func (.func 198) #[] #[.pointer (some (blk b3))]) w8 (fun w9 =>
 ∃ (xf10 : Fn), ∃ (xx11 : Array Value), ∃ (xc12 : Array Value), World.cell? w9 ((blk b5).add 0) = some (.func xf10 xx11 xc12) ∧ (
 ∃ (xf13 : Fn), ∃ (xx14 : Array Value), ∃ (xc15 : Array Value), World.cell? w9 ((blk b5).add 1) = some (.func xf13 xx14 xc15) ∧ (
 ∃ (xf16 : Fn), ∃ (xx17 : Array Value), ∃ (xc18 : Array Value), World.cell? w9 ((blk b5).add 2) = some (.func xf16 xx17 xc18) ∧ (
 R (.returned (.agg #[.func xf10 xx11 xc12, .func xf13 xx14 xc15, .func xf16 xx17 xc18])) w9))))))) (
 ∃ (x19 : Option Addr), World.cell? w6 (blk b3) = some (.pointer x19) ∧ (
 doSt ((blk b5).add 0) (.func (.func 108) #[] #[]) w6 (fun w20 =>
 doSt ((blk b5).add 1) (.func (.func 109) #[] #[]) w20 (fun w21 =>
 doSt ((blk b5).add 2) (.func (.func 62) #[.pointer x19] #[]) w21 (fun w22 =>
 ∃ (xf23 : Fn), ∃ (xx24 : Array Value), ∃ (xc25 : Array Value), World.cell? w22 ((blk b5).add 0) = some (.func xf23 xx24 xc25) ∧ (
 ∃ (xf26 : Fn), ∃ (xx27 : Array Value), ∃ (xc28 : Array Value), World.cell? w22 ((blk b5).add 1) = some (.func xf26 xx27 xc28) ∧ (
 ∃ (xf29 : Fn), ∃ (xx30 : Array Value), ∃ (xc31 : Array Value), World.cell? w22 ((blk b5).add 2) = some (.func xf29 xx30 xc31) ∧ (
 R (.returned (.agg #[.func xf23 xx24 xc25, .func xf26 xx27 xc28, .func xf29 xx30 xc31])) w22))))))))))
set_option maxRecDepth 100000 in
theorem sh159_ok (s_1 : Option Addr) (last_2 : Bool) {R : Ending → World → Prop} {w : World} : sh159 s_1 last_2 R w → Calls Tryz.prog 159 #[.pointer s_1, .bool last_2] w R :=
  calls_of_eq (ann := fun _ => []) (fn := Tryz.f159) (c := bodyOf Tryz.f159) (args := #[.pointer s_1, .bool last_2]) 400 follows_mixed Tryz.func159 (by kernel_rfl) (by kernel_rfl)
set_option maxRecDepth 100000 in
/-- joinery/fold.kinds$1 -/
def sh160 (a_1 : Int) (_x2 : Int) (R : Ending → World → Prop) (w : World) : Prop :=
 R (.returned (.int .i64 a_1)) w
set_option maxRecDepth 100000 in
theorem sh160_ok (a_1 : Int) (x2 : Int) {R : Ending → World → Prop} {w : World} : sh160 a_1 x2 R w → Calls Tryz.prog 160 #[.int .i64 a_1, .int .i64 x2] w R :=
  calls_of_eq (ann := fun _ => []) (fn := Tryz.f160) (c := bodyOf Tryz.f160) (args := #[.int .i64 a_1, .int .i64 x2]) 400 follows_mixed Tryz.func160 (by kernel_rfl) (by kernel_rfl)
set_option maxRecDepth 100000 in
/-- joinery/fold.kinds$2 -/
def sh161 (_x1 : Int) (b_2 : Int) (R : Ending → World → Prop) (w : World) : Prop :=
 R (.returned (.int .i64 b_2)) w
set_option maxRecDepth 100000 in
theorem sh161_ok (x1 : Int) (b_2 : Int) {R : Ending → World → Prop} {w : World} : sh161 x1 b_2 R w → Calls Tryz.prog 161 #[.int .i64 x1, .int .i64 b_2] w R :=
  calls_of_eq (ann := fun _ => []) (fn := Tryz.f161) (c := bodyOf Tryz.f161) (args := #[.int .i64 x1, .int .i64 b_2]) 400 follows_mixed Tryz.func161 (by kernel_rfl) (by kernel_rfl)
set_option maxRecDepth 100000 in
/-- joinery/fold.kinds$3 -/
def sh162 (a_1 : Int) (b_2 : Int) (R : Ending → World → Prop) (w : World) : Prop :=
 R (.returned (.int .i64 (IntKind.wrap .i64 (a_1 + b_2)))) w
set_option maxRecDepth 100000 in
theorem sh162_ok (a_1 : Int) (b_2 : Int) {R : Ending → World → Prop} {w : World} : sh162 a_1 b_2 R w → Calls Tryz.prog 162 #[.int .i64 a_1, .int .i64 b_2] w R :=
  calls_of_eq (ann := fun _ => []) (fn := Tryz.f162) (c := bodyOf Tryz.f162) (args := #[.int .i64 a_1, .int .i64 b_2]) 400 follows_mixed Tryz.func162 (by kernel_rfl) (by kernel_rfl)
set_option maxRecDepth 100000 in
/-- joinery/split.where -/
def sh163 (o_1 : Int) (key_2 : Int) (R : Ending → World → Prop) (w : World) : Prop :=
 doAl (.cells #[.int .u8 o_1] 5) w (fun b3 w4 =>
 ∃ (x5 : Int), World.cell? w4 (blk b3) = some (.int .u8 x5) ∧ (
 doCall Tryz.prog (.func (.func 168) #[] #[]) #[.int .u8 x5, .int .i64 key_2] w4 (retS (fun v8 w9 => ∃ (x6 : Int), ∃ (x7 : Int), v8 = (.tuple #[.int .u64 x6, .int .i64 x7] : Value) ∧ (
 doAl (.cells #[.int .u64 0] 90) w9 (fun b10 w11 =>
 doSt ((blk b10).add 0) (.int .u64 x6) w11 (fun w12 =>
 ifB ((x7 : Int) != 0) (
 R (.returned (.tuple #[.nilFunc, .int .i64 2])) w12) (
 R (.returned (.tuple #[.func (.func 199) #[] #[.pointer (some (blk b3)), .pointer (some (blk b10))], .int .i64 0])) w12))))) (fun ch w => Kfn R ch [] w))))
set_option maxRecDepth 100000 in
theorem sh163_ok (o_1 : Int) (key_2 : Int) {R : Ending → World → Prop} {w : World} : sh163 o_1 key_2 R w → Calls Tryz.prog 163 #[.int .u8 o_1, .int .i64 key_2] w R :=
  calls_of_eq (ann := fun _ => []) (fn := Tryz.f163) (c := bodyOf Tryz.f163) (args := #[.int .u8 o_1, .int .i64 key_2]) 400 follows_mixed Tryz.func163 (by kernel_rfl) (by kernel_rfl)
set_option maxRecDepth 100000 in
/-- (*joinery/node.Node).Val -/
def sh165 (n_1 : Option Addr) (R : Ending → World → Prop) (w : World) : Prop :=
 doCall Tryz.prog (.func (.func 114) #[] #[]) #[.pointer n_1] w (retS (fun v7 w8 => ∃ (x2 : Int), ∃ (x3 : Int), ∃ (x4 : Int), ∃ (x5 : Int), ∃ (x6 : Int), v7 = (.agg #[.int .i64 x2, .int .i64 x3, .int .i64 x4, .int .u64 x5, .int .i64 x6] : Value) ∧ (
 R (.returned (.int .i64 x3)) w8)) (fun ch w => Kfn R ch [] w))
set_option maxRecDepth 100000 in
theorem sh165_ok (n_1 : Option Addr) {R : Ending → World → Prop} {w : World} : sh165 n_1 R w → Calls Tryz.prog 165 #[.pointer n_1] w R :=
  calls_of_eq (ann := fun _ => []) (fn := Tryz.f165) (c := bodyOf Tryz.f165) (args := #[.pointer n_1]) 400 follows_mixed Tryz.func165 (by kernel_rfl) (by kernel_rfl)
set_option maxRecDepth 100000 in
/-- (*joinery/node.Node).Tag -/
def sh166 (n_1 : Option Addr) (R : Ending → World → Prop) (w : World) : Prop :=
 doCall Tryz.prog (.func (.func 114) #[] #[]) #[.pointer n_1] w (retS (fun v7 w8 => ∃ (x2 : Int), ∃ (x3 : Int), ∃ (x4 : Int), ∃ (x5 : Int), ∃ (x6 : Int), v7 = (.agg #[.int .i64 x2, .int .i64 x3, .int .i64 x4, .int .u64 x5, .int .i64 x6] : Value) ∧ (
 R (.returned (.int .u64 x5)) w8)) (fun ch w => Kfn R ch [] w))
set_option maxRecDepth 100000 in
theorem sh166_ok (n_1 : Option Addr) {R : Ending → World → Prop} {w : World} : sh166 n_1 R w → Calls Tryz.prog 166 #[.pointer n_1] w R :=
  calls_of_eq (ann := fun _ => []) (fn := Tryz.f166) (c := bodyOf Tryz.f166) (args := #[.pointer n_1]) 400 follows_mixed Tryz.func166 (by kernel_rfl) (by kernel_rfl)
set_option maxRecDepth 100000 in
/-- joinery/joineryref22.Check -/
def sh167 (code_1 : Int) (l_p2 : Option Addr) (l_n3 : Nat) (l_c4 : Nat) (R : Ending → World → Prop) (w : World) : Prop :=
 ifB ((code_1 : Int) == 1) (
 doCall Tryz.prog (.func (.func 200) #[] #[]) #[.slice l_p2 l_n3 l_c4] w (retS (fun v7 w8 => ∃ (x5 : Int), ∃ (x6 : Int), v7 = (.tuple #[.int .i64 x5, .int .i64 x6] : Value) ∧ (
 R (.returned (.tuple #[.int .i64 x5, .int .i64 x6])) w8)) (fun ch w => Kfn R ch [] w))) (
 ifB ((code_1 : Int) == 2) (
 doCall Tryz.prog (.func (.func 201) #[] #[]) #[.slice l_p2 l_n3 l_c4] w (retS (fun v11 w12 => ∃ (x9 : Int), ∃ (x10 : Int), v11 = (.tuple #[.int .i64 x9, .int .i64 x10] : Value) ∧ (
 R (.returned (.tuple #[.int .i64 x9, .int .i64 x10])) w12)) (fun ch w => Kfn R ch [] w))) (
 ifB ((code_1 : Int) == 3) (
 doCall Tryz.prog (.func (.func 202) #[] #[]) #[.slice l_p2 l_n3 l_c4] w (retS (fun v15 w16 => ∃ (x13 : Int), ∃ (x14 : Int), v15 = (.tuple #[.int .i64 x13, .int .i64 x14] : Value) ∧ (
 R (.returned (.tuple #[.int .i64 x13, .int .i64 x14])) w16)) (fun ch w => Kfn R ch [] w))) (
 doCall Tryz.prog (.func (.func 203) #[] #[]) #[.slice l_p2 l_n3 l_c4] w (retS (fun v19 w20 => ∃ (x17 : Int), ∃ (x18 : Int), v19 = (.tuple #[.int .i64 x17, .int .i64 x18] : Value) ∧ (
 R (.returned (.tuple #[.int .i64 x17, .int .i64 x18])) w20)) (fun ch w => Kfn R ch [] w)))))
set_option maxRecDepth 100000 in
theorem sh167_ok (code_1 : Int) (l_p2 : Option Addr) (l_n3 : Nat) (l_c4 : Nat) {R : Ending → World → Prop} {w : World} : sh167 code_1 l_p2 l_n3 l_c4 R w → Calls Tryz.prog 167 #[.int .u8 code_1, .slice l_p2 l_n3 l_c4] w R :=
  calls_of_eq (ann := fun _ => []) (fn := Tryz.f167) (c := bodyOf Tryz.f167) (args := #[.int .u8 code_1, .slice l_p2 l_n3 l_c4]) 400 follows_mixed Tryz.func167 (by kernel_rfl) (by kernel_rfl)
set_option maxRecDepth 100000 in
/-- joinery/order.Code -/
def sh168 (o_1 : Int) (key_2 : Int) (R : Ending → World → Prop) (w : World) : Prop :=
 let K6 : Addr → Bool → World → Prop := fun (k_3 : Addr) (is_4 : Bool) (w5 : World) => 
 ifB (!is_4) (
 R (.returned (.tuple #[.int .u64 0, .int .i64 2])) w5) (
 ∃ (xf7 : Fn), ∃ (xx8 : Array Value), ∃ (xc9 : Array Value), World.cell? w5 (k_3.add 1) = some (.func xf7 xx8 xc9) ∧ (
 doCall Tryz.prog (.func xf7 xx8 xc9) #[.int .i64 key_2] w5 (retS (fun v11 w12 => ∃ (x10 : Int), v11 = (.int .u64 x10 : Value) ∧ (
 R (.returned (.tuple #[.int .u64 x10, .int .i64 0])) w12)) (fun ch w => Kfn R ch [] w))))
 doCall Tryz.prog (.func (.func 173) #[] #[]) #[] w (retS (fun v14 w15 => ∃ (x13 : Option Nat), v14 = (.map x13 : Value) ∧ (
 doLk Tryz.prog 239 (.map x13) (.int .u8 o_1) true w15 (fun v24 => (∃ (x16 : ByteArray), ∃ (xf17 : Fn), ∃ (xx18 : Array Value), ∃ (xc19 : Array Value), ∃ (xf20 : Fn), ∃ (xx21 : Array Value), ∃ (xc22 : Array Value), ∃ (x23 : Bool), v24 = (.tuple #[.agg #[.string x16, .func xf17 xx18 xc19, .func xf20 xx21 xc22], .bool x23] : Value) ∧ (
 doAl (.cells #[.string (⟨#[]⟩ : ByteArray), .nilFunc, .nilFunc] 238) w15 (fun b25 w26 =>
 doSt ((blk b25).add 0) (.string x16) w26 (fun w27 =>
 doSt ((blk b25).add 1) (.func xf17 xx18 xc19) w27 (fun w28 =>
 doSt ((blk b25).add 2) (.func xf20 xx21 xc22) w28 (fun w29 =>
 K6 (blk b25) x23 w29)))))) ∨ (v24 = (.tuple #[.agg #[.string (⟨#[]⟩ : ByteArray), .nilFunc, .nilFunc], .bool false] : Value) ∧ (
 doAl (.cells #[.string (⟨#[]⟩ : ByteArray), .nilFunc, .nilFunc] 238) w15 (fun b30 w31 =>
 doSt ((blk b30).add 0) (.string (⟨#[]⟩ : ByteArray)) w31 (fun w32 =>
 doSt ((blk b30).add 1) (.nilFunc) w32 (fun w33 =>
 doSt ((blk b30).add 2) (.nilFunc) w33 (fun w34 =>
 K6 (blk b30) false w34))))))))) (fun ch w => Kfn R ch [] w))
set_option maxRecDepth 100000 in
theorem sh168_ok (o_1 : Int) (key_2 : Int) {R : Ending → World → Prop} {w : World} : sh168 o_1 key_2 R w → Calls Tryz.prog 168 #[.int .u8 o_1, .int .i64 key_2] w R :=
  calls_of_eq (ann := fun _ => []) (fn := Tryz.f168) (c := bodyOf Tryz.f168) (args := #[.int .u8 o_1, .int .i64 key_2]) 400 follows_mixed Tryz.func168 (by kernel_rfl) (by kernel_rfl)
set_option maxRecDepth 100000 in
/-- joinery/joineryref02.up -/
def sh169 (k_1 : Int) (R : Ending → World → Prop) (w : World) : Prop :=
 R (.returned (.int .u64 (IntKind.wrap .u64 ((IntKind.wrap .u64 k_1) + 9223372036854775808)))) w
set_option maxRecDepth 100000 in
theorem sh169_ok (k_1 : Int) {R : Ending → World → Prop} {w : World} : sh169 k_1 R w → Calls Tryz.prog 169 #[.int .i64 k_1] w R :=
  calls_of_eq (ann := fun _ => []) (fn := Tryz.f169) (c := bodyOf Tryz.f169) (args := #[.int .i64 k_1]) 400 follows_mixed Tryz.func169 (by kernel_rfl) (by kernel_rfl)
end Go.Proofs.YtbaoihmffobneaaGreat
