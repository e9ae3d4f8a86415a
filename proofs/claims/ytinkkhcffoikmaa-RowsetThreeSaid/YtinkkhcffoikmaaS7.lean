/-
  Printed by a program (gen.py): what the functions of the program do, as formulas; each with the proof that its call is what the formula says.
-/
import Derived.Test.YtinkkhcffoikmaaCd
import Derived.Test.YtinkkhcffoikmaaProg
import Derived.Test.YtinkkhcffoikmaaS1
namespace Go.Proofs.Ytinkkhcffoikmaa
open Go Go.Sh
set_option maxRecDepth 100000 in
/-- (*joinery/node.Node).Sum -/
def sh109 (n_1 : Option Addr) (R : Ending → World → Prop) (w : World) : Prop :=
 doCall Try.prog (.func (.func 113) #[] #[]) #[.pointer n_1] w (retS (fun v7 w8 => ∃ (x2 : Int), ∃ (x3 : Int), ∃ (x4 : Int), ∃ (x5 : Int), ∃ (x6 : Int), v7 = (.agg #[.int .i64 x2, .int .i64 x3, .int .i64 x4, .int .u64 x5, .int .i64 x6] : Value) ∧ (
 R (.returned (.int .i64 x4)) w8)) (fun ch w => Kfn R ch [] w))
set_option maxRecDepth 100000 in
theorem sh109_ok (n_1 : Option Addr) {R : Ending → World → Prop} {w : World} : sh109 n_1 R w → Calls Try.prog 109 #[.pointer n_1] w R :=
  calls_of_eq (ann := fun _ => []) (fn := Try.f109) (c := bodyOf Try.f109) (args := #[.pointer n_1]) 400 follows_mixed Try.func109 (by kernel_rfl) (by kernel_rfl)
set_option maxRecDepth 100000 in
/-- joinery/rank.tally$1 -/
def sh110 (n_1 : Int) (x2 : Addr) (R : Ending → World → Prop) (w : World) : Prop :=
 ∃ (x3 : Int), World.cell? w x2 = some (.int .i64 x3) ∧ (
 doSt (x2.add 0) (.int .i64 (IntKind.wrap .i64 (x3 + n_1))) w (fun w4 =>
 R (.returned (.tuple #[])) w4))
set_option maxRecDepth 100000 in
theorem sh110_ok (n_1 : Int) (x2 : Addr) {R : Ending → World → Prop} {w : World} : sh110 n_1 x2 R w → Calls Try.prog 110 #[.int .i64 n_1, .pointer (some x2)] w R :=
  calls_of_eq (ann := fun _ => []) (fn := Try.f110) (c := bodyOf Try.f110) (args := #[.int .i64 n_1, .pointer (some x2)]) 400 follows_mixed Try.func110 (by kernel_rfl) (by kernel_rfl)
set_option maxRecDepth 100000 in
/-- joinery/rank.tally$2 -/
def sh111 (x1 : Addr) (R : Ending → World → Prop) (w : World) : Prop :=
 ∃ (x2 : Int), World.cell? w x1 = some (.int .i64 x2) ∧ (
 R (.returned (.int .i64 x2)) w)
set_option maxRecDepth 100000 in
theorem sh111_ok (x1 : Addr) {R : Ending → World → Prop} {w : World} : sh111 x1 R w → Calls Try.prog 111 #[.pointer (some x1)] w R :=
  calls_of_eq (ann := fun _ => []) (fn := Try.f111) (c := bodyOf Try.f111) (args := #[.pointer (some x1)]) 400 follows_mixed Try.func111 (by kernel_rfl) (by kernel_rfl)
set_option maxRecDepth 100000 in
/-- joinery/rank.way$1 -/
def sh112 (yield_f1 : Fn) (yield_x2 : Array Value) (yield_c3 : Array Value) (x4 : Addr) (x5 : Addr) (x6 : Addr) (R : Ending → World → Prop) (w : World) : Prop :=
 ∃ (x7 : Option Addr), World.cell? w x4 = some (.pointer x7) ∧ (
 ∃ (I8 : List Value → World → Prop) (μ9 : List Value → World → Nat), I8 [.pointer x7] w ∧ (∀ (n_12 : Option Addr), ∀ (_j10 : Nat → Value) (w11 : World), I8 [.pointer n_12] w11 → (
 let K15 : Bool → World → Prop := fun (x13 : Bool) (w14 : World) => 
 ifB x13 (
 doDr w14 (fun w17 =>
 ∃ (C16 : World → Prop), C16 w17 ∧ (
 ∃ (x18 : Int), (∀ w, C16 w → World.cell? w x5 = some (.int .u8 x18)) ∧ (
 ∃ (x19 : Int), (∀ w, C16 w → World.cell? w x6 = some (.int .i64 x19)) ∧ (
 doCall Try.prog (.func (.func 76) #[] #[]) #[.pointer n_12] w17 (retS (fun v21 w22 => ∃ (x20 : Int), v21 = (.int .i64 x20 : Value) ∧ (
 C16 w22 ∧ (
 doCall Try.prog (.func (.func 93) #[] #[]) #[.int .u8 x18, .int .i64 x19, .int .i64 x20] w22 (retS (fun v24 w25 => ∃ (x23 : Int), v24 = (.int .i64 x23 : Value) ∧ (
 let K28 : Bool → World → Prop := fun (x26 : Bool) (w27 : World) => 
 ifB x26 (
 R (.returned (.tuple #[])) w27) (
 ifB (decide ((x23 : Int) < 0)) (
 doCall Try.prog (.func (.func 73) #[] #[]) #[.pointer n_12] w27 (retS (fun v30 w31 => ∃ (x29 : Option Addr), v30 = (.pointer x29 : Value) ∧ (
 I8 [.pointer x29] w31 ∧ μ9 [.pointer x29] w31 < μ9 [.pointer n_12] w11)) (fun ch w => Kfn R ch [] w))) (
 doCall Try.prog (.func (.func 78) #[] #[]) #[.pointer n_12] w27 (retS (fun v33 w34 => ∃ (x32 : Option Addr), v33 = (.pointer x32 : Value) ∧ (
 I8 [.pointer x32] w34 ∧ μ9 [.pointer x32] w34 < μ9 [.pointer n_12] w11)) (fun ch w => Kfn R ch [] w))))
 doCall Try.prog (.func yield_f1 yield_x2 yield_c3) #[.pointer n_12, .int .i64 x23] w25 (retS (fun v36 w37 => ∃ (x35 : Bool), v36 = (.bool x35 : Value) ∧ (
 ifB (!x35) (
 R (.returned (.tuple #[])) w37) (
 K28 ((x23 : Int) == 0) w37))) (fun ch w => Kfn R ch [] w)))) (fun ch w => Kfn R ch [] w))))) (fun ch w => Kfn R ch [] w))))))) (
 R (.returned (.tuple #[])) w14)
 ifB (!(n_12).isNone) (
 ∃ (x38 : Int), World.cell? w11 x5 = some (.int .u8 x38) ∧ (
 doCall Try.prog (.func (.func 94) #[] #[]) #[.int .u8 x38] w11 (retS (fun v40 w41 => ∃ (x39 : ByteArray), v40 = (.string x39 : Value) ∧ (
 K15 (!(x39.toList == (⟨#[]⟩ : ByteArray).toList)) w41)) (fun ch w => Kfn R ch [] w)))) (
 R (.returned (.tuple #[])) w11))))
set_option maxRecDepth 100000 in
theorem sh112_ok (yield_f1 : Fn) (yield_x2 : Array Value) (yield_c3 : Array Value) (x4 : Addr) (x5 : Addr) (x6 : Addr) {R : Ending → World → Prop} {w : World} : sh112 yield_f1 yield_x2 yield_c3 x4 x5 x6 R w → Calls Try.prog 112 #[.func yield_f1 yield_x2 yield_c3, .pointer (some x4), .pointer (some x5), .pointer (some x6)] w R :=
  calls_of_eq (ann := fun i => if i = 0 then [(5, .pointer none)] else []) (fn := Try.f112) (c := bodyOf Try.f112) (args := #[.func yield_f1 yield_x2 yield_c3, .pointer (some x4), .pointer (some x5), .pointer (some x6)]) 400 follows_mixed Try.func112 (by kernel_rfl) (by kernel_rfl)
set_option maxRecDepth 100000 in
/-- (*joinery/node.Node).of -/
def sh113 (n_1 : Option Addr) (R : Ending → World → Prop) (w : World) : Prop :=
 doAl (.cells #[.int .i64 0, .int .i64 0, .int .i64 0, .int .u64 0, .int .i64 0] 131) w (fun b2 w3 =>
 ifB ((n_1).isNone) (
 doSt ((blk b2).add 0) (.int .i64 0) w3 (fun w4 =>
 doSt ((blk b2).add 1) (.int .i64 0) w4 (fun w5 =>
 doSt ((blk b2).add 2) (.int .i64 0) w5 (fun w6 =>
 doSt ((blk b2).add 3) (.int .u64 0) w6 (fun w7 =>
 doSt ((blk b2).add 4) (.int .i64 0) w7 (fun w8 =>
 ∃ (x9 : Int), World.cell? w8 ((blk b2).add 0) = some (.int .i64 x9) ∧ (
 ∃ (x10 : Int), World.cell? w8 ((blk b2).add 1) = some (.int .i64 x10) ∧ (
 ∃ (x11 : Int), World.cell? w8 ((blk b2).add 2) = some (.int .i64 x11) ∧ (
 ∃ (x12 : Int), World.cell? w8 ((blk b2).add 3) = some (.int .u64 x12) ∧ (
 ∃ (x13 : Int), World.cell? w8 ((blk b2).add 4) = some (.int .i64 x13) ∧ (
 R (.returned (.agg #[.int .i64 x9, .int .i64 x10, .int .i64 x11, .int .u64 x12, .int .i64 x13])) w8))))))))))) (
 ∃ (q14 : Addr), n_1 = some q14 ∧ (
 ∃ (x15 : Int), World.cell? w3 ((q14.add 0).add 0) = some (.int .i64 x15) ∧ (
 ∃ (x16 : Int), World.cell? w3 ((q14.add 0).add 1) = some (.int .i64 x16) ∧ (
 ∃ (x17 : Int), World.cell? w3 ((q14.add 0).add 2) = some (.int .i64 x17) ∧ (
 ∃ (x18 : Int), World.cell? w3 ((q14.add 0).add 3) = some (.int .u64 x18) ∧ (
 ∃ (x19 : Int), World.cell? w3 ((q14.add 0).add 4) = some (.int .i64 x19) ∧ (
 doSt ((blk b2).add 0) (.int .i64 x15) w3 (fun w20 =>
 doSt ((blk b2).add 1) (.int .i64 x16) w20 (fun w21 =>
 doSt ((blk b2).add 2) (.int .i64 x17) w21 (fun w22 =>
 doSt ((blk b2).add 3) (.int .u64 x18) w22 (fun w23 =>
 doSt ((blk b2).add 4) (.int .i64 x19) w23 (fun w24 =>
 ∃ (x25 : Int), World.cell? w24 ((blk b2).add 0) = some (.int .i64 x25) ∧ (
 ∃ (x26 : Int), World.cell? w24 ((blk b2).add 1) = some (.int .i64 x26) ∧ (
 ∃ (x27 : Int), World.cell? w24 ((blk b2).add 2) = some (.int .i64 x27) ∧ (
 ∃ (x28 : Int), World.cell? w24 ((blk b2).add 3) = some (.int .u64 x28) ∧ (
 ∃ (x29 : Int), World.cell? w24 ((blk b2).add 4) = some (.int .i64 x29) ∧ (
 R (.returned (.agg #[.int .i64 x25, .int .i64 x26, .int .i64 x27, .int .u64 x28, .int .i64 x29])) w24))))))))))))))))))
set_option maxRecDepth 100000 in
theorem sh113_ok (n_1 : Option Addr) {R : Ending → World → Prop} {w : World} : sh113 n_1 R w → Calls Try.prog 113 #[.pointer n_1] w R :=
  calls_of_eq (ann := fun _ => []) (fn := Try.f113) (c := bodyOf Try.f113) (args := #[.pointer n_1]) 400 follows_mixed Try.func113 (by kernel_rfl) (by kernel_rfl)
set_option maxRecDepth 100000 in
/-- joinery/joineryref09.Of -/
def sh114 (l_p1 : Option Addr) (l_n2 : Nat) (l_c3 : Nat) (R : Ending → World → Prop) (w : World) : Prop :=
 ifB ((((l_n2 : Nat) : Int) : Int) == 0) (
 R (.returned (.slice none 0 0)) w) (
 doCall Try.prog (.func (.func 70) #[] #[]) #[.slice l_p1 l_n2 l_c3] w (retS (fun v17 w18 => ∃ (x4 : Int), ∃ (x5 : Int), ∃ (x6 : Int), ∃ (x7 : Int), ∃ (x8 : Int), ∃ (x9 : Bool), ∃ (x10 : Bool), ∃ (xp11 : Option Addr), ∃ (xn12 : Nat), ∃ (xc13 : Nat), ∃ (xp14 : Option Addr), ∃ (xn15 : Nat), ∃ (xc16 : Nat), v17 = (.tuple #[.agg #[.int .i64 x4, .int .i64 x5, .int .i64 x6, .int .i64 x7, .int .u64 x8, .bool x9, .bool x10], .slice xp11 xn12 xc13, .slice xp14 xn15 xc16] : Value) ∧ (
 doAl (.cells #[.int .i64 0, .int .i64 0, .int .i64 0, .int .i64 0, .int .u64 0, .bool false, .bool false] 88) w18 (fun b19 w20 =>
 doSt ((blk b19).add 0) (.int .i64 x4) w20 (fun w21 =>
 doSt ((blk b19).add 1) (.int .i64 x5) w21 (fun w22 =>
 doSt ((blk b19).add 2) (.int .i64 x6) w22 (fun w23 =>
 doSt ((blk b19).add 3) (.int .i64 x7) w23 (fun w24 =>
 doSt ((blk b19).add 4) (.int .u64 x8) w24 (fun w25 =>
 doSt ((blk b19).add 5) (.bool x9) w25 (fun w26 =>
 doSt ((blk b19).add 6) (.bool x10) w26 (fun w27 =>
 doSt (((blk b19).add 3).add 0) (.int .i64 ((l_n2 : Nat) : Int)) w27 (fun w28 =>
 doCall Try.prog (.func (.func 134) #[] #[]) #[.slice l_p1 l_n2 l_c3] w28 (retS (fun v30 w31 => ∃ (x29 : Int), v30 = (.int .i64 x29 : Value) ∧ (
 doSt (((blk b19).add 2).add 0) (.int .i64 x29) w31 (fun w32 =>
 let K37 : (Option Addr) → Nat → Nat → World → Prop := fun (out_p33 : Option Addr) (out_n34 : Nat) (out_c35 : Nat) (w36 : World) => 
 doCall Try.prog (.func (.func 114) #[] #[]) #[.slice xp14 xn15 xc16] w36 (retS (fun v41 w42 => ∃ (xp38 : Option Addr), ∃ (xn39 : Nat), ∃ (xc40 : Nat), v41 = (.slice xp38 xn39 xc40 : Value) ∧ (
 doGo Try.prog (.builtin .append #[22, 22] 22 #[false, false]) #[.slice out_p33 out_n34 out_c35, .slice xp38 xn39 xc40] w42 (retS (fun v46 w47 => ∃ (xp43 : Option Addr), ∃ (xn44 : Nat), ∃ (xc45 : Nat), v46 = (.slice xp43 xn44 xc45 : Value) ∧ (
 R (.returned (.slice xp43 xn44 xc45)) w47)) (fun ch w => Kfn R ch [] w)))) (fun ch w => Kfn R ch [] w))
 doDr w32 (fun w49 =>
 ∃ (C48 : World → Prop), C48 w49 ∧ (
 ∃ (x50 : Int), (∀ w, C48 w → World.cell? w ((blk b19).add 0) = some (.int .i64 x50)) ∧ (
 ∃ (x51 : Int), (∀ w, C48 w → World.cell? w ((blk b19).add 1) = some (.int .i64 x51)) ∧ (
 ∃ (x52 : Int), (∀ w, C48 w → World.cell? w ((blk b19).add 2) = some (.int .i64 x52)) ∧ (
 ∃ (x53 : Int), (∀ w, C48 w → World.cell? w ((blk b19).add 3) = some (.int .i64 x53)) ∧ (
 ∃ (x54 : Int), (∀ w, C48 w → World.cell? w ((blk b19).add 4) = some (.int .u64 x54)) ∧ (
 ∃ (x55 : Bool), (∀ w, C48 w → World.cell? w ((blk b19).add 5) = some (.bool x55)) ∧ (
 ∃ (x56 : Bool), (∀ w, C48 w → World.cell? w ((blk b19).add 6) = some (.bool x56)) ∧ (
 (doAl (.cells #[.int .i64 x50, .int .i64 x51, .int .i64 x52, .int .i64 x53, .int .u64 x54, .bool x55, .bool x56] 88) w49 (fun b57 w58 =>
 doCall Try.prog (.func (.func 114) #[] #[]) #[.slice xp11 xn12 xc13] w58 (retS (fun v62 w63 => ∃ (xp59 : Option Addr), ∃ (xn60 : Nat), ∃ (xc61 : Nat), v62 = (.slice xp59 xn60 xc61 : Value) ∧ (
 C48 w63 ∧ (
 doGo Try.prog (.builtin .append #[22, 22] 22 #[false, false]) #[.slice (some (blk b57)) 1 1, .slice xp59 xn60 xc61] w63 (retS (fun v67 w68 => ∃ (xp64 : Option Addr), ∃ (xn65 : Nat), ∃ (xc66 : Nat), v67 = (.slice xp64 xn65 xc66 : Value) ∧ (
 C48 w68 ∧ (
 K37 xp64 xn65 xc66 w68))) (fun ch w => Kfn R ch [] w))))) (fun ch w => Kfn R ch [] w)))) ∧ (doCall Try.prog (.func (.func 114) #[] #[]) #[.slice xp11 xn12 xc13] w49 (retS (fun v72 w73 => ∃ (xp69 : Option Addr), ∃ (xn70 : Nat), ∃ (xc71 : Nat), v72 = (.slice xp69 xn70 xc71 : Value) ∧ (
 C48 w73 ∧ (
 doAl (.cells #[.int .i64 x50, .int .i64 x51, .int .i64 x52, .int .i64 x53, .int .u64 x54, .bool x55, .bool x56] 88) w73 (fun b74 w75 =>
 doGo Try.prog (.builtin .append #[22, 22] 22 #[false, false]) #[.slice (some (blk b74)) 1 1, .slice xp69 xn70 xc71] w75 (retS (fun v79 w80 => ∃ (xp76 : Option Addr), ∃ (xn77 : Nat), ∃ (xc78 : Nat), v79 = (.slice xp76 xn77 xc78 : Value) ∧ (
 C48 w80 ∧ (
 K37 xp76 xn77 xc78 w80))) (fun ch w => Kfn R ch [] w)))))) (fun ch w => Kfn R ch [] w))))))))))))))) (fun ch w => Kfn R ch [] w))))))))))))) (fun ch w => Kfn R ch [] w)))
set_option maxRecDepth 100000 in
theorem sh114_ok (l_p1 : Option Addr) (l_n2 : Nat) (l_c3 : Nat) {R : Ending → World → Prop} {w : World} : sh114 l_p1 l_n2 l_c3 R w → Calls Try.prog 114 #[.slice l_p1 l_n2 l_c3] w R :=
  calls_of_eq (ann := fun _ => []) (fn := Try.f114) (c := bodyOf Try.f114) (args := #[.slice l_p1 l_n2 l_c3]) 400 follows_mixed Try.func114 (by kernel_rfl) (by kernel_rfl)
set_option maxRecDepth 100000 in
/-- sort.Search -/
def sh115 (n_1 : Int) (f_f2 : Fn) (f_x3 : Array Value) (f_c4 : Array Value) (R : Ending → World → Prop) (w : World) : Prop :=
 ∃ (I5 : List Value → World → Prop) (μ6 : List Value → World → Nat), I5 [.int .i64 0, .int .i64 n_1] w ∧ (∀ (i_9 : Int), ∀ (j_10 : Int), ∀ (_j7 : Nat → Value) (w8 : World), I5 [.int .i64 i_9, .int .i64 j_10] w8 → (
 ifB (decide ((i_9 : Int) < j_10)) (
 (0 : Int) ≤ 1 ∧ (
 doCall Try.prog (.func f_f2 f_x3 f_c4) #[.int .i64 (IntKind.wrap .i64 (Int.fdiv (IntKind.wrap .u64 (IntKind.wrap .i64 (i_9 + j_10))) (2 ^ (min (1 : Int).toNat (IntKind.bits .u64)))))] w8 (retS (fun v12 w13 => ∃ (x11 : Bool), v12 = (.bool x11 : Value) ∧ (
 ifB (!x11) (
 I5 [.int .i64 (IntKind.wrap .i64 ((IntKind.wrap .i64 (Int.fdiv (IntKind.wrap .u64 (IntKind.wrap .i64 (i_9 + j_10))) (2 ^ (min (1 : Int).toNat (IntKind.bits .u64))))) + 1)), .int .i64 j_10] w13 ∧ μ6 [.int .i64 (IntKind.wrap .i64 ((IntKind.wrap .i64 (Int.fdiv (IntKind.wrap .u64 (IntKind.wrap .i64 (i_9 + j_10))) (2 ^ (min (1 : Int).toNat (IntKind.bits .u64))))) + 1)), .int .i64 j_10] w13 < μ6 [.int .i64 i_9, .int .i64 j_10] w8) (
 I5 [.int .i64 i_9, .int .i64 (IntKind.wrap .i64 (Int.fdiv (IntKind.wrap .u64 (IntKind.wrap .i64 (i_9 + j_10))) (2 ^ (min (1 : Int).toNat (IntKind.bits .u64)))))] w13 ∧ μ6 [.int .i64 i_9, .int .i64 (IntKind.wrap .i64 (Int.fdiv (IntKind.wrap .u64 (IntKind.wrap .i64 (i_9 + j_10))) (2 ^ (min (1 : Int).toNat (IntKind.bits .u64)))))] w13 < μ6 [.int .i64 i_9, .int .i64 j_10] w8))) (fun ch w => Kfn R ch [] w)))) (
 R (.returned (.int .i64 i_9)) w8)))
set_option maxRecDepth 100000 in
theorem sh115_ok (n_1 : Int) (f_f2 : Fn) (f_x3 : Array Value) (f_c4 : Array Value) {R : Ending → World → Prop} {w : World} : sh115 n_1 f_f2 f_x3 f_c4 R w → Calls Try.prog 115 #[.int .i64 n_1, .func f_f2 f_x3 f_c4] w R :=
  calls_of_eq (ann := fun i => if i = 0 then [(5, .int .i64 0), (6, .int .i64 0)] else []) (fn := Try.f115) (c := bodyOf Try.f115) (args := #[.int .i64 n_1, .func f_f2 f_x3 f_c4]) 400 follows_mixed Try.func115 (by kernel_rfl) (by kernel_rfl)
set_option maxRecDepth 100000 in
/-- joinery/row.at$1 -/
def sh116 (k_1 : Int) (x2 : Addr) (x3 : Addr) (x4 : Addr) (R : Ending → World → Prop) (w : World) : Prop :=
 doDr w (fun w6 =>
 ∃ (C5 : World → Prop), C5 w6 ∧ (
 ∃ (x7 : Int), (∀ w, C5 w → World.cell? w x2 = some (.int .u8 x7)) ∧ (
 ∃ (xp8 : Option Addr), ∃ (xn9 : Nat), ∃ (xc10 : Nat), (∀ w, C5 w → World.cell? w x3 = some (.slice xp8 xn9 xc10)) ∧ (
 doIx xp8 xn9 2 (k_1) (fun a11 =>
 ∃ (x12 : Int), (∀ w, C5 w → World.cell? w (a11.add 0) = some (.int .i64 x12)) ∧ (
 ∃ (x13 : Int), (∀ w, C5 w → World.cell? w x4 = some (.int .i64 x13)) ∧ (
 doCall Try.prog (.func (.func 93) #[] #[]) #[.int .u8 x7, .int .i64 x12, .int .i64 x13] w6 (retS (fun v15 w16 => ∃ (x14 : Int), v15 = (.int .i64 x14 : Value) ∧ (
 C5 w16 ∧ (
 R (.returned (.bool (decide ((x14 : Int) ≥ 0)))) w16))) (fun ch w => Kfn R ch [] w)))))))))
set_option maxRecDepth 100000 in
theorem sh116_ok (k_1 : Int) (x2 : Addr) (x3 : Addr) (x4 : Addr) {R : Ending → World → Prop} {w : World} : sh116 k_1 x2 x3 x4 R w → Calls Try.prog 116 #[.int .i64 k_1, .pointer (some x2), .pointer (some x3), .pointer (some x4)] w R :=
  calls_of_eq (ann := fun _ => []) (fn := Try.f116) (c := bodyOf Try.f116) (args := #[.int .i64 k_1, .pointer (some x2), .pointer (some x3), .pointer (some x4)]) 400 follows_mixed Try.func116 (by kernel_rfl) (by kernel_rfl)
set_option maxRecDepth 100000 in
/-- joinery/find.last$1 -/
def sh117 (n_1 : Option Addr) (is_2 : Bool) (x3 : Addr) (R : Ending → World → Prop) (w : World) : Prop :=
 ifB is_2 (
 doSt (x3.add 0) (.pointer n_1) w (fun w4 =>
 R (.returned (.tuple #[])) w4)) (
 R (.returned (.tuple #[])) w)
set_option maxRecDepth 100000 in
theorem sh117_ok (n_1 : Option Addr) (is_2 : Bool) (x3 : Addr) {R : Ending → World → Prop} {w : World} : sh117 n_1 is_2 x3 R w → Calls Try.prog 117 #[.pointer n_1, .bool is_2, .pointer (some x3)] w R :=
  calls_of_eq (ann := fun _ => []) (fn := Try.f117) (c := bodyOf Try.f117) (args := #[.pointer n_1, .bool is_2, .pointer (some x3)]) 400 follows_mixed Try.func117 (by kernel_rfl) (by kernel_rfl)
set_option maxRecDepth 100000 in
/-- joinery/find.last$2 -/
def sh118 (x1 : Addr) (R : Ending → World → Prop) (w : World) : Prop :=
 ∃ (x2 : Option Addr), World.cell? w x1 = some (.pointer x2) ∧ (
 R (.returned (.pointer x2)) w)
set_option maxRecDepth 100000 in
theorem sh118_ok (x1 : Addr) {R : Ending → World → Prop} {w : World} : sh118 x1 R w → Calls Try.prog 118 #[.pointer (some x1)] w R :=
  calls_of_eq (ann := fun _ => []) (fn := Try.f118) (c := bodyOf Try.f118) (args := #[.pointer (some x1)]) 400 follows_mixed Try.func118 (by kernel_rfl) (by kernel_rfl)
set_option maxRecDepth 100000 in
/-- joinery/find.way$1 -/
def sh119 (yield_f1 : Fn) (yield_x2 : Array Value) (yield_c3 : Array Value) (x4 : Addr) (x5 : Addr) (x6 : Addr) (R : Ending → World → Prop) (w : World) : Prop :=
 ∃ (x7 : Int), World.cell? w x4 = some (.int .u8 x7) ∧ (
 doCall Try.prog (.func (.func 94) #[] #[]) #[.int .u8 x7] w (retS (fun v9 w10 => ∃ (x8 : ByteArray), v9 = (.string x8 : Value) ∧ (
 ifB (x8.toList == (⟨#[]⟩ : ByteArray).toList) (
 R (.returned (.tuple #[])) w10) (
 ∃ (x11 : Option Addr), World.cell? w10 x5 = some (.pointer x11) ∧ (
 ∃ (I12 : List Value → World → Prop) (μ13 : List Value → World → Nat), I12 [.pointer x11] w10 ∧ (∀ (n_16 : Option Addr), ∀ (_j14 : Nat → Value) (w15 : World), I12 [.pointer n_16] w15 → (
 ifB (!(n_16).isNone) (
 doDr w15 (fun w18 =>
 ∃ (C17 : World → Prop), C17 w18 ∧ (
 ∃ (x19 : Int), (∀ w, C17 w → World.cell? w x4 = some (.int .u8 x19)) ∧ (
 ∃ (x20 : Int), (∀ w, C17 w → World.cell? w x6 = some (.int .i64 x20)) ∧ (
 doCall Try.prog (.func (.func 76) #[] #[]) #[.pointer n_16] w18 (retS (fun v22 w23 => ∃ (x21 : Int), v22 = (.int .i64 x21 : Value) ∧ (
 C17 w23 ∧ (
 doCall Try.prog (.func (.func 93) #[] #[]) #[.int .u8 x19, .int .i64 x20, .int .i64 x21] w23 (retS (fun v25 w26 => ∃ (x24 : Int), v25 = (.int .i64 x24 : Value) ∧ (
 let K29 : Bool → World → Prop := fun (x27 : Bool) (w28 : World) => 
 ifB x27 (
 R (.returned (.tuple #[])) w28) (
 ifB (decide ((x24 : Int) < 0)) (
 doCall Try.prog (.func (.func 73) #[] #[]) #[.pointer n_16] w28 (retS (fun v31 w32 => ∃ (x30 : Option Addr), v31 = (.pointer x30 : Value) ∧ (
 I12 [.pointer x30] w32 ∧ μ13 [.pointer x30] w32 < μ13 [.pointer n_16] w15)) (fun ch w => Kfn R ch [] w))) (
 doCall Try.prog (.func (.func 78) #[] #[]) #[.pointer n_16] w28 (retS (fun v34 w35 => ∃ (x33 : Option Addr), v34 = (.pointer x33 : Value) ∧ (
 I12 [.pointer x33] w35 ∧ μ13 [.pointer x33] w35 < μ13 [.pointer n_16] w15)) (fun ch w => Kfn R ch [] w))))
 doCall Try.prog (.func yield_f1 yield_x2 yield_c3) #[.pointer n_16, .int .i64 x24] w26 (retS (fun v37 w38 => ∃ (x36 : Bool), v37 = (.bool x36 : Value) ∧ (
 ifB (!x36) (
 R (.returned (.tuple #[])) w38) (
 K29 ((x24 : Int) == 0) w38))) (fun ch w => Kfn R ch [] w)))) (fun ch w => Kfn R ch [] w))))) (fun ch w => Kfn R ch [] w))))))) (
 R (.returned (.tuple #[])) w15))))))) (fun ch w => Kfn R ch [] w)))
set_option maxRecDepth 100000 in
theorem sh119_ok (yield_f1 : Fn) (yield_x2 : Array Value) (yield_c3 : Array Value) (x4 : Addr) (x5 : Addr) (x6 : Addr) {R : Ending → World → Prop} {w : World} : sh119 yield_f1 yield_x2 yield_c3 x4 x5 x6 R w → Calls Try.prog 119 #[.func yield_f1 yield_x2 yield_c3, .pointer (some x4), .pointer (some x5), .pointer (some x6)] w R :=
  calls_of_eq (ann := fun i => if i = 0 then [(5, .pointer none)] else []) (fn := Try.f119) (c := bodyOf Try.f119) (args := #[.func yield_f1 yield_x2 yield_c3, .pointer (some x4), .pointer (some x5), .pointer (some x6)]) 400 follows_mixed Try.func119 (by kernel_rfl) (by kernel_rfl)
set_option maxRecDepth 100000 in
/-- joinery/fold.kinds -/
def sh120  (R : Ending → World → Prop) (w : World) : Prop :=
 doAl (.map #[] 0) w (fun b1 w2 =>
 doMu Try.prog 143 (.map (some b1)) (.int .u8 1) (.agg #[.func (.func 135) #[] #[]]) w2 (fun w3 =>
 doMu Try.prog 143 (.map (some b1)) (.int .u8 2) (.agg #[.func (.func 136) #[] #[]]) w3 (fun w4 =>
 doMu Try.prog 143 (.map (some b1)) (.int .u8 3) (.agg #[.func (.func 137) #[] #[]]) w4 (fun w5 =>
 R (.returned (.map (some b1))) w5))))
set_option maxRecDepth 100000 in
theorem sh120_ok  {R : Ending → World → Prop} {w : World} : sh120  R w → Calls Try.prog 120 #[] w R :=
  calls_of_eq (ann := fun _ => []) (fn := Try.f120) (c := bodyOf Try.f120) (args := #[]) 400 follows_mixed Try.func120 (by kernel_rfl) (by kernel_rfl)
set_option maxRecDepth 100000 in
/-- slices.rotateRight[joinery/api.Pair] -/
def sh122 (s_p1 : Option Addr) (s_n2 : Nat) (s_c3 : Nat) (r_4 : Int) (R : Ending → World → Prop) (w : World) : Prop :=
 doCall Try.prog (.func (.func 138) #[] #[]) #[.slice s_p1 s_n2 s_c3, .int .i64 (IntKind.wrap .i64 (((s_n2 : Nat) : Int) - r_4))] w (retS (fun v5 w6 => v5 = (.tuple #[] : Value) ∧ (
 R (.returned (.tuple #[])) w6)) (fun ch w => Kfn R ch [] w))
set_option maxRecDepth 100000 in
theorem sh122_ok (s_p1 : Option Addr) (s_n2 : Nat) (s_c3 : Nat) (r_4 : Int) {R : Ending → World → Prop} {w : World} : sh122 s_p1 s_n2 s_c3 r_4 R w → Calls Try.prog 122 #[.slice s_p1 s_n2 s_c3, .int .i64 r_4] w R :=
  calls_of_eq (ann := fun _ => []) (fn := Try.f122) (c := bodyOf Try.f122) (args := #[.slice s_p1 s_n2 s_c3, .int .i64 r_4]) 400 follows_mixed Try.func122 (by kernel_rfl) (by kernel_rfl)
set_option maxRecDepth 100000 in
/-- joinery/row.two$1 -/
def sh123 (yield_f1 : Fn) (yield_x2 : Array Value) (yield_c3 : Array Value) (x4 : Addr) (R : Ending → World → Prop) (w : World) : Prop :=
 ∃ (xp5 : Option Addr), ∃ (xn6 : Nat), ∃ (xc7 : Nat), World.cell? w x4 = some (.slice xp5 xn6 xc7) ∧ (
 ∃ (I8 : List Value → World → Prop) (μ9 : List Value → World → Nat), I8 [.int .i64 0] w ∧ (∀ (x12 : Int), ∀ (_j10 : Nat → Value) (w11 : World), I8 [.int .i64 x12] w11 → (
 ifB (decide ((x12 : Int) < ((xn6 : Nat) : Int))) (
 let K14 : World → Prop := fun (w13 : World) => 
 I8 [.int .i64 (IntKind.wrap .i64 (x12 + 1))] w13 ∧ μ9 [.int .i64 (IntKind.wrap .i64 (x12 + 1))] w13 < μ9 [.int .i64 x12] w11
 let K17 : Bool → World → Prop := fun (x15 : Bool) (w16 : World) => 
 ifB x15 (
 R (.returned (.tuple #[])) w16) (
 K14 w16)
 doDr w11 (fun w19 =>
 ∃ (C18 : World → Prop), C18 w19 ∧ (
 ifB (decide ((x12 : Int) > 0)) (
 ∃ (xp20 : Option Addr), ∃ (xn21 : Nat), ∃ (xc22 : Nat), (∀ w, C18 w → World.cell? w x4 = some (.slice xp20 xn21 xc22)) ∧ (
 doIx xp20 xn21 2 (IntKind.wrap .i64 (x12 - 1)) (fun a23 =>
 ∃ (x24 : Int), (∀ w, C18 w → World.cell? w (a23.add 0) = some (.int .i64 x24)) ∧ (
 ∃ (x25 : Int), (∀ w, C18 w → World.cell? w (a23.add 1) = some (.int .i64 x25)) ∧ (
 ∃ (xp26 : Option Addr), ∃ (xn27 : Nat), ∃ (xc28 : Nat), (∀ w, C18 w → World.cell? w x4 = some (.slice xp26 xn27 xc28)) ∧ (
 doIx xp26 xn27 2 (x12) (fun a29 =>
 ∃ (x30 : Int), (∀ w, C18 w → World.cell? w (a29.add 0) = some (.int .i64 x30)) ∧ (
 ∃ (x31 : Int), (∀ w, C18 w → World.cell? w (a29.add 1) = some (.int .i64 x31)) ∧ (
 doCall Try.prog (.func yield_f1 yield_x2 yield_c3) #[.agg #[.int .i64 x24, .int .i64 x25], .agg #[.int .i64 x30, .int .i64 x31]] w19 (retS (fun v33 w34 => ∃ (x32 : Bool), v33 = (.bool x32 : Value) ∧ (
 C18 w34 ∧ (
 K17 (!x32) w34))) (fun ch w => Kfn R ch [] w))))))))))) (
 K14 w19)))) (
 R (.returned (.tuple #[])) w11))))
set_option maxRecDepth 100000 in
theorem sh123_ok (yield_f1 : Fn) (yield_x2 : Array Value) (yield_c3 : Array Value) (x4 : Addr) {R : Ending → World → Prop} {w : World} : sh123 yield_f1 yield_x2 yield_c3 x4 R w → Calls Try.prog 123 #[.func yield_f1 yield_x2 yield_c3, .pointer (some x4)] w R :=
  calls_of_eq (ann := fun i => if i = 0 then [(6, .int .i64 0)] else []) (fn := Try.f123) (c := bodyOf Try.f123) (args := #[.func yield_f1 yield_x2 yield_c3, .pointer (some x4)]) 400 follows_mixed Try.func123 (by kernel_rfl) (by kernel_rfl)
set_option maxRecDepth 100000 in
/-- joinery/order.Code -/
def sh124 (o_1 : Int) (key_2 : Int) (R : Ending → World → Prop) (w : World) : Prop :=
 let K6 : Addr → Bool → World → Prop := fun (k_3 : Addr) (is_4 : Bool) (w5 : World) => 
 ifB (!is_4) (
 R (.returned (.tuple #[.int .u64 0, .int .i64 2])) w5) (
 ∃ (xf7 : Fn), ∃ (xx8 : Array Value), ∃ (xc9 : Array Value), World.cell? w5 (k_3.add 1) = some (.func xf7 xx8 xc9) ∧ (
 doCall Try.prog (.func xf7 xx8 xc9) #[.int .i64 key_2] w5 (retS (fun v11 w12 => ∃ (x10 : Int), v11 = (.int .u64 x10 : Value) ∧ (
 R (.returned (.tuple #[.int .u64 x10, .int .i64 0])) w12)) (fun ch w => Kfn R ch [] w))))
 doCall Try.prog (.func (.func 126) #[] #[]) #[] w (retS (fun v14 w15 => ∃ (x13 : Option Nat), v14 = (.map x13 : Value) ∧ (
 doLk Try.prog 154 (.map x13) (.int .u8 o_1) true w15 (fun v24 => (∃ (x16 : ByteArray), ∃ (xf17 : Fn), ∃ (xx18 : Array Value), ∃ (xc19 : Array Value), ∃ (xf20 : Fn), ∃ (xx21 : Array Value), ∃ (xc22 : Array Value), ∃ (x23 : Bool), v24 = (.tuple #[.agg #[.string x16, .func xf17 xx18 xc19, .func xf20 xx21 xc22], .bool x23] : Value) ∧ (
 doAl (.cells #[.string (⟨#[]⟩ : ByteArray), .nilFunc, .nilFunc] 153) w15 (fun b25 w26 =>
 doSt ((blk b25).add 0) (.string x16) w26 (fun w27 =>
 doSt ((blk b25).add 1) (.func xf17 xx18 xc19) w27 (fun w28 =>
 doSt ((blk b25).add 2) (.func xf20 xx21 xc22) w28 (fun w29 =>
 K6 (blk b25) x23 w29)))))) ∨ (v24 = (.tuple #[.agg #[.string (⟨#[]⟩ : ByteArray), .nilFunc, .nilFunc], .bool false] : Value) ∧ (
 doAl (.cells #[.string (⟨#[]⟩ : ByteArray), .nilFunc, .nilFunc] 153) w15 (fun b30 w31 =>
 doSt ((blk b30).add 0) (.string (⟨#[]⟩ : ByteArray)) w31 (fun w32 =>
 doSt ((blk b30).add 1) (.nilFunc) w32 (fun w33 =>
 doSt ((blk b30).add 2) (.nilFunc) w33 (fun w34 =>
 K6 (blk b30) false w34))))))))) (fun ch w => Kfn R ch [] w))
set_option maxRecDepth 100000 in
theorem sh124_ok (o_1 : Int) (key_2 : Int) {R : Ending → World → Prop} {w : World} : sh124 o_1 key_2 R w → Calls Try.prog 124 #[.int .u8 o_1, .int .i64 key_2] w R :=
  calls_of_eq (ann := fun _ => []) (fn := Try.f124) (c := bodyOf Try.f124) (args := #[.int .u8 o_1, .int .i64 key_2]) 400 follows_mixed Try.func124 (by kernel_rfl) (by kernel_rfl)
end Go.Proofs.Ytinkkhcffoikmaa
