/-
  Printed by a program (gen.py): what the functions of the program do, as formulas; each with the proof that its call is what the formula says.
-/
/-
  Printed by a program (gen.py): what the functions of the program do, as formulas; each with the proof that its call is what the formula says.
-/
import Derived.Test.YtlddfgfmkapoiaaGreatZ02
import Derived.Test.YtlddfgfmkapoiaaGreatProg
import Derived.Test.YtlddfgfmkapoiaaGreatZ04

namespace Go.Proofs.YtlddfgfmkapoiaaGreat
open Go Go.Sh
set_option maxRecDepth 100000 in
/-- joinery/fold.kinds$1 -/
def sh260 (a_1 : Int) (_x2 : Int) (R : Ending → World → Prop) (w : World) : Prop :=
 R (.returned (.int .i64 a_1)) w
set_option maxRecDepth 100000 in
theorem sh260_ok (a_1 : Int) (x2 : Int) {R : Ending → World → Prop} {w : World} : sh260 a_1 x2 R w → Calls Tryz.prog 260 #[.int .i64 a_1, .int .i64 x2] w R :=
  calls_of_eq (ann := fun _ => []) (fn := Tryz.f260) (c := bodyOf Tryz.f260) (args := #[.int .i64 a_1, .int .i64 x2]) 400 follows_mixed Tryz.func260 (by kernel_rfl) (by kernel_rfl)
set_option maxRecDepth 100000 in
/-- joinery/fold.kinds$2 -/
def sh261 (_x1 : Int) (b_2 : Int) (R : Ending → World → Prop) (w : World) : Prop :=
 R (.returned (.int .i64 b_2)) w
set_option maxRecDepth 100000 in
theorem sh261_ok (x1 : Int) (b_2 : Int) {R : Ending → World → Prop} {w : World} : sh261 x1 b_2 R w → Calls Tryz.prog 261 #[.int .i64 x1, .int .i64 b_2] w R :=
  calls_of_eq (ann := fun _ => []) (fn := Tryz.f261) (c := bodyOf Tryz.f261) (args := #[.int .i64 x1, .int .i64 b_2]) 400 follows_mixed Tryz.func261 (by kernel_rfl) (by kernel_rfl)
set_option maxRecDepth 100000 in
/-- joinery/fold.kinds$3 -/
def sh262 (a_1 : Int) (b_2 : Int) (R : Ending → World → Prop) (w : World) : Prop :=
 R (.returned (.int .i64 (IntKind.wrap .i64 (a_1 + b_2)))) w
set_option maxRecDepth 100000 in
theorem sh262_ok (a_1 : Int) (b_2 : Int) {R : Ending → World → Prop} {w : World} : sh262 a_1 b_2 R w → Calls Tryz.prog 262 #[.int .i64 a_1, .int .i64 b_2] w R :=
  calls_of_eq (ann := fun _ => []) (fn := Tryz.f262) (c := bodyOf Tryz.f262) (args := #[.int .i64 a_1, .int .i64 b_2]) 400 follows_mixed Tryz.func262 (by kernel_rfl) (by kernel_rfl)
set_option maxRecDepth 100000 in
/-- joinery/cut.Last -/
def sh263 (s_1 : Option Addr) (t_2 : Option Addr) (R : Ending → World → Prop) (w : World) : Prop :=
 doAl (.cells #[.int .i64 0, .int .i64 0, .int .u64 0] 114) w (fun b3 w4 =>
 let K7 : Bool → World → Prop := fun (x5 : Bool) (w6 : World) => 
 ifB x5 (
 doSt ((blk b3).add 0) (.int .i64 0) w6 (fun w8 =>
 doSt ((blk b3).add 1) (.int .i64 0) w8 (fun w9 =>
 doSt ((blk b3).add 2) (.int .u64 0) w9 (fun w10 =>
 ∃ (x11 : Int), World.cell? w10 ((blk b3).add 0) = some (.int .i64 x11) ∧ (
 ∃ (x12 : Int), World.cell? w10 ((blk b3).add 1) = some (.int .i64 x12) ∧ (
 ∃ (x13 : Int), World.cell? w10 ((blk b3).add 2) = some (.int .u64 x13) ∧ (
 R (.returned (.tuple #[.pointer none, .agg #[.int .i64 x11, .int .i64 x12, .int .u64 x13], .bool false])) w10))))))) (
 doCall Tryz.prog (.func (.func 308) #[] #[]) #[.pointer s_1, .bool true] w6 (retS (fun v23 w24 => ∃ (xf14 : Fn), ∃ (xx15 : Array Value), ∃ (xc16 : Array Value), ∃ (xf17 : Fn), ∃ (xx18 : Array Value), ∃ (xc19 : Array Value), ∃ (xf20 : Fn), ∃ (xx21 : Array Value), ∃ (xc22 : Array Value), v23 = (.agg #[.func xf14 xx15 xc16, .func xf17 xx18 xc19, .func xf20 xx21 xc22] : Value) ∧ (
 doCall Tryz.prog (.func (.func 307) #[] #[]) #[.pointer s_1, .agg #[.func xf14 xx15 xc16, .func xf17 xx18 xc19, .func xf20 xx21 xc22], .pointer t_2] w24 (retS (fun v29 w30 => ∃ (x25 : Option Addr), ∃ (x26 : Int), ∃ (x27 : Int), ∃ (x28 : Int), v29 = (.tuple #[.pointer x25, .agg #[.int .i64 x26, .int .i64 x27, .int .u64 x28]] : Value) ∧ (
 doSt ((blk b3).add 0) (.int .i64 x26) w30 (fun w31 =>
 doSt ((blk b3).add 1) (.int .i64 x27) w31 (fun w32 =>
 doSt ((blk b3).add 2) (.int .u64 x28) w32 (fun w33 =>
 doDr w33 (fun w35 =>
 ∃ (C34 : World → Prop), C34 w35 ∧ (
 ∃ (x36 : Int), (∀ w, C34 w → World.cell? w ((blk b3).add 0) = some (.int .i64 x36)) ∧ (
 ∃ (x37 : Int), (∀ w, C34 w → World.cell? w ((blk b3).add 1) = some (.int .i64 x37)) ∧ (
 ∃ (x38 : Int), (∀ w, C34 w → World.cell? w ((blk b3).add 2) = some (.int .u64 x38)) ∧ (
 doSt ((blk b3).add 0) (.int .i64 x36) w35 (fun w39 =>
 doSt ((blk b3).add 1) (.int .i64 x37) w39 (fun w40 =>
 doSt ((blk b3).add 2) (.int .u64 x38) w40 (fun w41 =>
 ∃ (x42 : Int), World.cell? w41 ((blk b3).add 0) = some (.int .i64 x42) ∧ (
 ∃ (x43 : Int), World.cell? w41 ((blk b3).add 1) = some (.int .i64 x43) ∧ (
 ∃ (x44 : Int), World.cell? w41 ((blk b3).add 2) = some (.int .u64 x44) ∧ (
 R (.returned (.tuple #[.pointer x25, .agg #[.int .i64 x42, .int .i64 x43, .int .u64 x44], .bool true])) w41)))))))))))))))) (fun ch w => Kfn R ch [] w)))) (fun ch w => Kfn R ch [] w)))
 ifB ((s_1).isNone) (
 K7 true w4) (
 K7 ((t_2).isNone) w4))
set_option maxRecDepth 100000 in
theorem sh263_ok (s_1 : Option Addr) (t_2 : Option Addr) {R : Ending → World → Prop} {w : World} : sh263 s_1 t_2 R w → Calls Tryz.prog 263 #[.pointer s_1, .pointer t_2] w R :=
  calls_of_eq (ann := fun _ => []) (fn := Tryz.f263) (c := bodyOf Tryz.f263) (args := #[.pointer s_1, .pointer t_2]) 400 follows_mixed Tryz.func263 (by kernel_rfl) (by kernel_rfl)
set_option maxRecDepth 100000 in
/-- cmp.isNaN[uint64] -/
def sh264 (x_1 : Int) (R : Ending → World → Prop) (w : World) : Prop :=
 R (.returned (.bool ((x_1 : Int) != x_1))) w
set_option maxRecDepth 100000 in
theorem sh264_ok (x_1 : Int) {R : Ending → World → Prop} {w : World} : sh264 x_1 R w → Calls Tryz.prog 264 #[.int .u64 x_1] w R :=
  calls_of_eq (ann := fun _ => []) (fn := Tryz.f264) (c := bodyOf Tryz.f264) (args := #[.int .u64 x_1]) 400 follows_mixed Tryz.func264 (by kernel_rfl) (by kernel_rfl)
set_option maxRecDepth 100000 in
/-- joinery/avl.Make -/
def sh265 (l_1 : Option Addr) (key_2 : Int) (val_3 : Int) (r_4 : Option Addr) (R : Ending → World → Prop) (w : World) : Prop :=
 doCall Tryz.prog (.func (.func 196) #[] #[]) #[.pointer l_1] w (retS (fun v6 w7 => ∃ (x5 : Int), v6 = (.int .u64 x5 : Value) ∧ (
 doCall Tryz.prog (.func (.func 196) #[] #[]) #[.pointer r_4] w7 (retS (fun v9 w10 => ∃ (x8 : Int), v9 = (.int .u64 x8 : Value) ∧ (
 doGo Tryz.prog (.builtin .max #[75, 75] 75 #[false, false]) #[.int .u64 x5, .int .u64 x8] w10 (retS (fun v12 w13 => ∃ (x11 : Int), v12 = (.int .u64 x11 : Value) ∧ (
 doCall Tryz.prog (.func (.func 105) #[] #[]) #[.pointer l_1, .int .i64 key_2, .int .i64 val_3, .int .u64 (IntKind.wrap .u64 (x11 + 1)), .pointer r_4] w13 (retS (fun v15 w16 => ∃ (x14 : Option Addr), v15 = (.pointer x14 : Value) ∧ (
 R (.returned (.pointer x14)) w16)) (fun ch w => Kfn R ch [] w)))) (fun ch w => Kfn R ch [] w)))) (fun ch w => Kfn R ch [] w)))) (fun ch w => Kfn R ch [] w))
set_option maxRecDepth 100000 in
theorem sh265_ok (l_1 : Option Addr) (key_2 : Int) (val_3 : Int) (r_4 : Option Addr) {R : Ending → World → Prop} {w : World} : sh265 l_1 key_2 val_3 r_4 R w → Calls Tryz.prog 265 #[.pointer l_1, .int .i64 key_2, .int .i64 val_3, .pointer r_4] w R :=
  calls_of_eq (ann := fun _ => []) (fn := Tryz.f265) (c := bodyOf Tryz.f265) (args := #[.pointer l_1, .int .i64 key_2, .int .i64 val_3, .pointer r_4]) 400 follows_mixed Tryz.func265 (by kernel_rfl) (by kernel_rfl)
set_option maxRecDepth 100000 in
/-- joinery/avljoin.right -/
def sh266  (R : Ending → World → Prop) (w : World) : Prop :=
 doAl (.cells #[.nilFunc, .nilFunc, .nilFunc] 331) w (fun b1 w2 =>
 doSt ((blk b1).add 0) (.func (.func 123) #[] #[]) w2 (fun w3 =>
 doSt ((blk b1).add 1) (.func (.func 125) #[] #[]) w3 (fun w4 =>
 doSt ((blk b1).add 2) (.func (.func 309) #[] #[]) w4 (fun w5 =>
 ∃ (xf6 : Fn), ∃ (xx7 : Array Value), ∃ (xc8 : Array Value), World.cell? w5 ((blk b1).add 0) = some (.func xf6 xx7 xc8) ∧ (
 ∃ (xf9 : Fn), ∃ (xx10 : Array Value), ∃ (xc11 : Array Value), World.cell? w5 ((blk b1).add 1) = some (.func xf9 xx10 xc11) ∧ (
 ∃ (xf12 : Fn), ∃ (xx13 : Array Value), ∃ (xc14 : Array Value), World.cell? w5 ((blk b1).add 2) = some (.func xf12 xx13 xc14) ∧ (
 R (.returned (.agg #[.func xf6 xx7 xc8, .func xf9 xx10 xc11, .func xf12 xx13 xc14])) w5)))))))
set_option maxRecDepth 100000 in
theorem sh266_ok  {R : Ending → World → Prop} {w : World} : sh266  R w → Calls Tryz.prog 266 #[] w R :=
  calls_of_eq (ann := fun _ => []) (fn := Tryz.f266) (c := bodyOf Tryz.f266) (args := #[]) 400 follows_mixed Tryz.func266 (by kernel_rfl) (by kernel_rfl)
set_option maxRecDepth 100000 in
/-- (joinery/avljoin.side).hang -/
def sh267 (s_f1 : Fn) (s_x2 : Array Value) (s_c3 : Array Value) (s_f4 : Fn) (s_x5 : Array Value) (s_c6 : Array Value) (s_f7 : Fn) (s_x8 : Array Value) (s_c9 : Array Value) (t_10 : Option Addr) (pair_11 : Option Addr) (low_12 : Option Addr) (R : Ending → World → Prop) (w : World) : Prop :=
 doAl (.cells #[.func s_f1 s_x2 s_c3, .func s_f4 s_x5 s_c6, .func s_f7 s_x8 s_c9] 331) w (fun b13 w14 =>
 doDr w14 (fun w16 =>
 ∃ (C15 : World → Prop), C15 w16 ∧ (
 ∃ (xf17 : Fn), ∃ (xx18 : Array Value), ∃ (xc19 : Array Value), (∀ w, C15 w → World.cell? w ((blk b13).add 0) = some (.func xf17 xx18 xc19)) ∧ (
 ∃ (xf20 : Fn), ∃ (xx21 : Array Value), ∃ (xc22 : Array Value), (∀ w, C15 w → World.cell? w ((blk b13).add 1) = some (.func xf20 xx21 xc22)) ∧ (
 doCall Tryz.prog (.func xf17 xx18 xc19) #[.pointer t_10] w16 (retS (fun v24 w25 => ∃ (x23 : Option Addr), v24 = (.pointer x23 : Value) ∧ (
 C15 w25 ∧ (
 doCall Tryz.prog (.func xf20 xx21 xc22) #[.pointer t_10] w25 (retS (fun v27 w28 => ∃ (x26 : Option Addr), v27 = (.pointer x26 : Value) ∧ (
 C15 w28 ∧ (
 let K31 : Bool → World → Prop := fun (base_29 : Bool) (w30 : World) => 
 let K34 : (Option Addr) → World → Prop := fun (x_32 : Option Addr) (w33 : World) => 
 doCall Tryz.prog (.func (.func 221) #[] #[]) #[.pointer x_32] w33 (retS (fun v36 w37 => ∃ (x35 : Int), v36 = (.int .i64 x35 : Value) ∧ (
 doCall Tryz.prog (.func (.func 221) #[] #[]) #[.pointer x23] w37 (retS (fun v39 w40 => ∃ (x38 : Int), v39 = (.int .i64 x38 : Value) ∧ (
 ifB (decide ((x35 : Int) ≤ (IntKind.wrap .i64 (x38 + 1)))) (
 ∃ (xf41 : Fn), ∃ (xx42 : Array Value), ∃ (xc43 : Array Value), World.cell? w40 ((blk b13).add 2) = some (.func xf41 xx42 xc43) ∧ (
 doCall Tryz.prog (.func xf41 xx42 xc43) #[.pointer x23, .pointer t_10, .pointer x_32] w40 (retS (fun v45 w46 => ∃ (x44 : Option Addr), v45 = (.pointer x44 : Value) ∧ (
 R (.returned (.pointer x44)) w46)) (fun ch w => Kfn R ch [] w)))) (
 ifB base_29 (
 doDr w40 (fun w48 =>
 ∃ (C47 : World → Prop), C47 w48 ∧ (
 ∃ (xf49 : Fn), ∃ (xx50 : Array Value), ∃ (xc51 : Array Value), (∀ w, C47 w → World.cell? w ((blk b13).add 0) = some (.func xf49 xx50 xc51)) ∧ (
 ∃ (xf52 : Fn), ∃ (xx53 : Array Value), ∃ (xc54 : Array Value), (∀ w, C47 w → World.cell? w ((blk b13).add 1) = some (.func xf52 xx53 xc54)) ∧ (
 ∃ (xf55 : Fn), ∃ (xx56 : Array Value), ∃ (xc57 : Array Value), (∀ w, C47 w → World.cell? w ((blk b13).add 2) = some (.func xf55 xx56 xc57)) ∧ (
 ∃ (xf58 : Fn), ∃ (xx59 : Array Value), ∃ (xc60 : Array Value), (∀ w, C47 w → World.cell? w ((blk b13).add 2) = some (.func xf58 xx59 xc60)) ∧ (
 ∃ (xf61 : Fn), ∃ (xx62 : Array Value), ∃ (xc63 : Array Value), (∀ w, C47 w → World.cell? w ((blk b13).add 0) = some (.func xf61 xx62 xc63)) ∧ (
 ∃ (xf64 : Fn), ∃ (xx65 : Array Value), ∃ (xc66 : Array Value), (∀ w, C47 w → World.cell? w ((blk b13).add 1) = some (.func xf64 xx65 xc66)) ∧ (
 ∃ (xf67 : Fn), ∃ (xx68 : Array Value), ∃ (xc69 : Array Value), (∀ w, C47 w → World.cell? w ((blk b13).add 2) = some (.func xf67 xx68 xc69)) ∧ (
 doCall Tryz.prog (.func (.func 311) #[] #[]) #[.agg #[.func xf61 xx62 xc63, .func xf64 xx65 xc66, .func xf67 xx68 xc69], .pointer x_32] w48 (retS (fun v71 w72 => ∃ (x70 : Option Addr), v71 = (.pointer x70 : Value) ∧ (
 C47 w72 ∧ (
 doCall Tryz.prog (.func xf58 xx59 xc60) #[.pointer x23, .pointer t_10, .pointer x70] w72 (retS (fun v74 w75 => ∃ (x73 : Option Addr), v74 = (.pointer x73 : Value) ∧ (
 C47 w75 ∧ (
 doCall Tryz.prog (.func (.func 310) #[] #[]) #[.agg #[.func xf49 xx50 xc51, .func xf52 xx53 xc54, .func xf55 xx56 xc57], .pointer x73] w75 (retS (fun v77 w78 => ∃ (x76 : Option Addr), v77 = (.pointer x76 : Value) ∧ (
 C47 w78 ∧ (
 R (.returned (.pointer x76)) w78))) (fun ch w => Kfn R ch [] w))))) (fun ch w => Kfn R ch [] w))))) (fun ch w => Kfn R ch [] w)))))))))))) (
 doDr w40 (fun w80 =>
 ∃ (C79 : World → Prop), C79 w80 ∧ (
 ∃ (xf81 : Fn), ∃ (xx82 : Array Value), ∃ (xc83 : Array Value), (∀ w, C79 w → World.cell? w ((blk b13).add 0) = some (.func xf81 xx82 xc83)) ∧ (
 ∃ (xf84 : Fn), ∃ (xx85 : Array Value), ∃ (xc86 : Array Value), (∀ w, C79 w → World.cell? w ((blk b13).add 1) = some (.func xf84 xx85 xc86)) ∧ (
 ∃ (xf87 : Fn), ∃ (xx88 : Array Value), ∃ (xc89 : Array Value), (∀ w, C79 w → World.cell? w ((blk b13).add 2) = some (.func xf87 xx88 xc89)) ∧ (
 ∃ (xf90 : Fn), ∃ (xx91 : Array Value), ∃ (xc92 : Array Value), (∀ w, C79 w → World.cell? w ((blk b13).add 2) = some (.func xf90 xx91 xc92)) ∧ (
 doCall Tryz.prog (.func xf90 xx91 xc92) #[.pointer x23, .pointer t_10, .pointer x_32] w80 (retS (fun v94 w95 => ∃ (x93 : Option Addr), v94 = (.pointer x93 : Value) ∧ (
 C79 w95 ∧ (
 doCall Tryz.prog (.func (.func 310) #[] #[]) #[.agg #[.func xf81 xx82 xc83, .func xf84 xx85 xc86, .func xf87 xx88 xc89], .pointer x93] w95 (retS (fun v97 w98 => ∃ (x96 : Option Addr), v97 = (.pointer x96 : Value) ∧ (
 C79 w98 ∧ (
 R (.returned (.pointer x96)) w98))) (fun ch w => Kfn R ch [] w))))) (fun ch w => Kfn R ch [] w)))))))))))) (fun ch w => Kfn R ch [] w)))) (fun ch w => Kfn R ch [] w))
 ifB base_29 (
 ∃ (xf99 : Fn), ∃ (xx100 : Array Value), ∃ (xc101 : Array Value), World.cell? w30 ((blk b13).add 2) = some (.func xf99 xx100 xc101) ∧ (
 doCall Tryz.prog (.func xf99 xx100 xc101) #[.pointer x26, .pointer pair_11, .pointer low_12] w30 (retS (fun v103 w104 => ∃ (x102 : Option Addr), v103 = (.pointer x102 : Value) ∧ (
 K34 x102 w104)) (fun ch w => Kfn R ch [] w)))) (
 ∃ (xf105 : Fn), ∃ (xx106 : Array Value), ∃ (xc107 : Array Value), World.cell? w30 ((blk b13).add 0) = some (.func xf105 xx106 xc107) ∧ (
 ∃ (xf108 : Fn), ∃ (xx109 : Array Value), ∃ (xc110 : Array Value), World.cell? w30 ((blk b13).add 1) = some (.func xf108 xx109 xc110) ∧ (
 ∃ (xf111 : Fn), ∃ (xx112 : Array Value), ∃ (xc113 : Array Value), World.cell? w30 ((blk b13).add 2) = some (.func xf111 xx112 xc113) ∧ (
 doCall Tryz.prog (.func (.func 267) #[] #[]) #[.agg #[.func xf105 xx106 xc107, .func xf108 xx109 xc110, .func xf111 xx112 xc113], .pointer x26, .pointer pair_11, .pointer low_12] w30 (retS (fun v115 w116 => ∃ (x114 : Option Addr), v115 = (.pointer x114 : Value) ∧ (
 K34 x114 w116)) (fun ch w => Kfn R ch [] w))))))
 ifB ((x26).isNone) (
 K31 true w28) (
 doCall Tryz.prog (.func (.func 221) #[] #[]) #[.pointer x26] w28 (retS (fun v118 w119 => ∃ (x117 : Int), v118 = (.int .i64 x117 : Value) ∧ (
 doCall Tryz.prog (.func (.func 221) #[] #[]) #[.pointer low_12] w119 (retS (fun v121 w122 => ∃ (x120 : Int), v121 = (.int .i64 x120 : Value) ∧ (
 K31 (decide ((x117 : Int) ≤ (IntKind.wrap .i64 (x120 + 1)))) w122)) (fun ch w => Kfn R ch [] w)))) (fun ch w => Kfn R ch [] w)))))) (fun ch w => Kfn R ch [] w))))) (fun ch w => Kfn R ch [] w)))))))
set_option maxRecDepth 100000 in
theorem sh267_ok (s_f1 : Fn) (s_x2 : Array Value) (s_c3 : Array Value) (s_f4 : Fn) (s_x5 : Array Value) (s_c6 : Array Value) (s_f7 : Fn) (s_x8 : Array Value) (s_c9 : Array Value) (t_10 : Option Addr) (pair_11 : Option Addr) (low_12 : Option Addr) {R : Ending → World → Prop} {w : World} : sh267 s_f1 s_x2 s_c3 s_f4 s_x5 s_c6 s_f7 s_x8 s_c9 t_10 pair_11 low_12 R w → Calls Tryz.prog 267 #[.agg #[.func s_f1 s_x2 s_c3, .func s_f4 s_x5 s_c6, .func s_f7 s_x8 s_c9], .pointer t_10, .pointer pair_11, .pointer low_12] w R :=
  calls_of_eq (ann := fun _ => []) (fn := Tryz.f267) (c := bodyOf Tryz.f267) (args := #[.agg #[.func s_f1 s_x2 s_c3, .func s_f4 s_x5 s_c6, .func s_f7 s_x8 s_c9], .pointer t_10, .pointer pair_11, .pointer low_12]) 400 follows_mixed Tryz.func267 (by kernel_rfl) (by kernel_rfl)
set_option maxRecDepth 100000 in
/-- joinery/avljoin.left -/
def sh268  (R : Ending → World → Prop) (w : World) : Prop :=
 doAl (.cells #[.nilFunc, .nilFunc, .nilFunc] 331) w (fun b1 w2 =>
 doSt ((blk b1).add 0) (.func (.func 125) #[] #[]) w2 (fun w3 =>
 doSt ((blk b1).add 1) (.func (.func 123) #[] #[]) w3 (fun w4 =>
 doSt ((blk b1).add 2) (.func (.func 312) #[] #[]) w4 (fun w5 =>
 ∃ (xf6 : Fn), ∃ (xx7 : Array Value), ∃ (xc8 : Array Value), World.cell? w5 ((blk b1).add 0) = some (.func xf6 xx7 xc8) ∧ (
 ∃ (xf9 : Fn), ∃ (xx10 : Array Value), ∃ (xc11 : Array Value), World.cell? w5 ((blk b1).add 1) = some (.func xf9 xx10 xc11) ∧ (
 ∃ (xf12 : Fn), ∃ (xx13 : Array Value), ∃ (xc14 : Array Value), World.cell? w5 ((blk b1).add 2) = some (.func xf12 xx13 xc14) ∧ (
 R (.returned (.agg #[.func xf6 xx7 xc8, .func xf9 xx10 xc11, .func xf12 xx13 xc14])) w5)))))))
set_option maxRecDepth 100000 in
theorem sh268_ok  {R : Ending → World → Prop} {w : World} : sh268  R w → Calls Tryz.prog 268 #[] w R :=
  calls_of_eq (ann := fun _ => []) (fn := Tryz.f268) (c := bodyOf Tryz.f268) (args := #[]) 400 follows_mixed Tryz.func268 (by kernel_rfl) (by kernel_rfl)
set_option maxRecDepth 100000 in
/-- joinery/rb.Make -/
def sh271 (l_1 : Option Addr) (key_2 : Int) (val_3 : Int) (is_4 : Bool) (r_5 : Option Addr) (R : Ending → World → Prop) (w : World) : Prop :=
 doCall Tryz.prog (.func (.func 319) #[] #[]) #[.pointer l_1] w (retS (fun v8 w9 => ∃ (x6 : Int), ∃ (x7 : Int), v8 = (.agg #[.int .u64 x6, .int .u64 x7] : Value) ∧ (
 doCall Tryz.prog (.func (.func 318) #[] #[]) #[.int .u64 x7, .bool is_4] w9 (retS (fun v12 w13 => ∃ (x10 : Int), ∃ (x11 : Int), v12 = (.agg #[.int .u64 x10, .int .u64 x11] : Value) ∧ (
 doCall Tryz.prog (.func (.func 320) #[] #[]) #[.agg #[.int .u64 x10, .int .u64 x11]] w13 (retS (fun v15 w16 => ∃ (x14 : Int), v15 = (.int .u64 x14 : Value) ∧ (
 doCall Tryz.prog (.func (.func 105) #[] #[]) #[.pointer l_1, .int .i64 key_2, .int .i64 val_3, .int .u64 x14, .pointer r_5] w16 (retS (fun v18 w19 => ∃ (x17 : Option Addr), v18 = (.pointer x17 : Value) ∧ (
 R (.returned (.pointer x17)) w19)) (fun ch w => Kfn R ch [] w)))) (fun ch w => Kfn R ch [] w)))) (fun ch w => Kfn R ch [] w)))) (fun ch w => Kfn R ch [] w))
set_option maxRecDepth 100000 in
theorem sh271_ok (l_1 : Option Addr) (key_2 : Int) (val_3 : Int) (is_4 : Bool) (r_5 : Option Addr) {R : Ending → World → Prop} {w : World} : sh271 l_1 key_2 val_3 is_4 r_5 R w → Calls Tryz.prog 271 #[.pointer l_1, .int .i64 key_2, .int .i64 val_3, .bool is_4, .pointer r_5] w R :=
  calls_of_eq (ann := fun _ => []) (fn := Tryz.f271) (c := bodyOf Tryz.f271) (args := #[.pointer l_1, .int .i64 key_2, .int .i64 val_3, .bool is_4, .pointer r_5]) 400 follows_mixed Tryz.func271 (by kernel_rfl) (by kernel_rfl)
set_option maxRecDepth 100000 in
/-- joinery/rb.High -/
def sh272 (t_1 : Option Addr) (R : Ending → World → Prop) (w : World) : Prop :=
 doCall Tryz.prog (.func (.func 319) #[] #[]) #[.pointer t_1] w (retS (fun v4 w5 => ∃ (x2 : Int), ∃ (x3 : Int), v4 = (.agg #[.int .u64 x2, .int .u64 x3] : Value) ∧ (
 R (.returned (.int .i64 (IntKind.wrap .i64 x3))) w5)) (fun ch w => Kfn R ch [] w))
set_option maxRecDepth 100000 in
theorem sh272_ok (t_1 : Option Addr) {R : Ending → World → Prop} {w : World} : sh272 t_1 R w → Calls Tryz.prog 272 #[.pointer t_1] w R :=
  calls_of_eq (ann := fun _ => []) (fn := Tryz.f272) (c := bodyOf Tryz.f272) (args := #[.pointer t_1]) 400 follows_mixed Tryz.func272 (by kernel_rfl) (by kernel_rfl)
set_option maxRecDepth 100000 in
/-- joinery/rbjoin.hang -/
def sh273 (s_1 : Value) (t_2 : Option Addr) (pair_3 : Option Addr) (low_4 : Option Addr) (R : Ending → World → Prop) (w : World) : Prop :=
 let K6 : World → Prop := fun (w5 : World) => 
 doGo Tryz.prog (.fn (.method "joinery/rbjoin.out") #[]) #[s_1, .pointer t_2] w5 (retS (fun v8 w9 => ∃ (x7 : Option Addr), v8 = (.pointer x7 : Value) ∧ (
 doCall Tryz.prog (.func (.func 273) #[] #[]) #[s_1, .pointer x7, .pointer pair_3, .pointer low_4] w9 (retS (fun v11 w12 => ∃ (x10 : Option Addr), v11 = (.pointer x10 : Value) ∧ (
 let K14 : World → Prop := fun (w13 : World) => 
 doDr w13 (fun w15 =>
 doNC Tryz.prog (.func (.method "joinery/rbjoin.make") #[s_1] #[]) (
 doGo Tryz.prog (.fn (.method "joinery/rbjoin.in") #[]) #[s_1, .pointer t_2] w15 (retS (fun v17 w18 => ∃ (x16 : Option Addr), v17 = (.pointer x16 : Value) ∧ (
 doCall Tryz.prog (.func (.func 275) #[] #[]) #[.pointer t_2] w18 (retS (fun v20 w21 => ∃ (x19 : Bool), v20 = (.bool x19 : Value) ∧ (
 doGo Tryz.prog (.fn (.method "joinery/rbjoin.make") #[]) #[s_1, .pointer x16, .pointer t_2, .bool x19, .pointer x10] w21 (retS (fun v23 w24 => ∃ (x22 : Option Addr), v23 = (.pointer x22 : Value) ∧ (
 R (.returned (.pointer x22)) w24)) (fun ch w => Kfn R ch [] w)))) (fun ch w => Kfn R ch [] w)))) (fun ch w => Kfn R ch [] w))))
 let K27 : Bool → World → Prop := fun (x25 : Bool) (w26 : World) => 
 ifB x25 (
 doDr w26 (fun w28 =>
 doNC Tryz.prog (.func (.method "joinery/rbjoin.make") #[s_1] #[]) (
 doNC Tryz.prog (.func (.method "joinery/rbjoin.make") #[s_1] #[]) (
 doGo Tryz.prog (.fn (.method "joinery/rbjoin.in") #[]) #[s_1, .pointer t_2] w28 (retS (fun v30 w31 => ∃ (x29 : Option Addr), v30 = (.pointer x29 : Value) ∧ (
 doGo Tryz.prog (.fn (.method "joinery/rbjoin.in") #[]) #[s_1, .pointer x10] w31 (retS (fun v33 w34 => ∃ (x32 : Option Addr), v33 = (.pointer x32 : Value) ∧ (
 doGo Tryz.prog (.fn (.method "joinery/rbjoin.make") #[]) #[s_1, .pointer x29, .pointer t_2, .bool false, .pointer x32] w34 (retS (fun v36 w37 => ∃ (x35 : Option Addr), v36 = (.pointer x35 : Value) ∧ (
 doGo Tryz.prog (.fn (.method "joinery/rbjoin.out") #[]) #[s_1, .pointer x10] w37 (retS (fun v39 w40 => ∃ (x38 : Option Addr), v39 = (.pointer x38 : Value) ∧ (
 doCall Tryz.prog (.func (.func 229) #[] #[]) #[.pointer x38] w40 (retS (fun v42 w43 => ∃ (x41 : Option Addr), v42 = (.pointer x41 : Value) ∧ (
 doGo Tryz.prog (.fn (.method "joinery/rbjoin.make") #[]) #[s_1, .pointer x35, .pointer x10, .bool true, .pointer x41] w43 (retS (fun v45 w46 => ∃ (x44 : Option Addr), v45 = (.pointer x44 : Value) ∧ (
 R (.returned (.pointer x44)) w46)) (fun ch w => Kfn R ch [] w)))) (fun ch w => Kfn R ch [] w)))) (fun ch w => Kfn R ch [] w)))) (fun ch w => Kfn R ch [] w)))) (fun ch w => Kfn R ch [] w)))) (fun ch w => Kfn R ch [] w)))))) (
 K14 w26)
 doCall Tryz.prog (.func (.func 275) #[] #[]) #[.pointer t_2] w12 (retS (fun v48 w49 => ∃ (x47 : Bool), v48 = (.bool x47 : Value) ∧ (
 ifB (!x47) (
 doCall Tryz.prog (.func (.func 275) #[] #[]) #[.pointer x10] w49 (retS (fun v51 w52 => ∃ (x50 : Bool), v51 = (.bool x50 : Value) ∧ (
 ifB x50 (
 doGo Tryz.prog (.fn (.method "joinery/rbjoin.out") #[]) #[s_1, .pointer x10] w52 (retS (fun v54 w55 => ∃ (x53 : Option Addr), v54 = (.pointer x53 : Value) ∧ (
 doCall Tryz.prog (.func (.func 275) #[] #[]) #[.pointer x53] w55 (retS (fun v57 w58 => ∃ (x56 : Bool), v57 = (.bool x56 : Value) ∧ (
 K27 x56 w58)) (fun ch w => Kfn R ch [] w)))) (fun ch w => Kfn R ch [] w))) (
 K14 w52))) (fun ch w => Kfn R ch [] w))) (
 K14 w49))) (fun ch w => Kfn R ch [] w)))) (fun ch w => Kfn R ch [] w)))) (fun ch w => Kfn R ch [] w))
 let K61 : Bool → World → Prop := fun (x59 : Bool) (w60 : World) => 
 ifB x59 (
 doGo Tryz.prog (.fn (.method "joinery/rbjoin.make") #[]) #[s_1, .pointer t_2, .pointer pair_3, .bool true, .pointer low_4] w60 (retS (fun v63 w64 => ∃ (x62 : Option Addr), v63 = (.pointer x62 : Value) ∧ (
 R (.returned (.pointer x62)) w64)) (fun ch w => Kfn R ch [] w))) (
 K6 w60)
 ifB ((t_2).isNone) (
 doGo Tryz.prog (.fn (.method "joinery/rbjoin.make") #[]) #[s_1, .pointer t_2, .pointer pair_3, .bool true, .pointer low_4] w (retS (fun v66 w67 => ∃ (x65 : Option Addr), v66 = (.pointer x65 : Value) ∧ (
 R (.returned (.pointer x65)) w67)) (fun ch w => Kfn R ch [] w))) (
 doCall Tryz.prog (.func (.func 275) #[] #[]) #[.pointer t_2] w (retS (fun v69 w70 => ∃ (x68 : Bool), v69 = (.bool x68 : Value) ∧ (
 ifB (!x68) (
 doCall Tryz.prog (.func (.func 272) #[] #[]) #[.pointer t_2] w70 (retS (fun v72 w73 => ∃ (x71 : Int), v72 = (.int .i64 x71 : Value) ∧ (
 doCall Tryz.prog (.func (.func 272) #[] #[]) #[.pointer low_4] w73 (retS (fun v75 w76 => ∃ (x74 : Int), v75 = (.int .i64 x74 : Value) ∧ (
 K61 (decide ((x71 : Int) ≤ x74)) w76)) (fun ch w => Kfn R ch [] w)))) (fun ch w => Kfn R ch [] w))) (
 K6 w70))) (fun ch w => Kfn R ch [] w)))
set_option maxRecDepth 100000 in
theorem sh273_ok (s_1 : Value) (t_2 : Option Addr) (pair_3 : Option Addr) (low_4 : Option Addr) {R : Ending → World → Prop} {w : World} : sh273 s_1 t_2 pair_3 low_4 R w → Calls Tryz.prog 273 #[s_1, .pointer t_2, .pointer pair_3, .pointer low_4] w R :=
  calls_of_eq (ann := fun _ => []) (fn := Tryz.f273) (c := bodyOf Tryz.f273) (args := #[s_1, .pointer t_2, .pointer pair_3, .pointer low_4]) 400 follows_mixed Tryz.func273 (by kernel_rfl) (by kernel_rfl)
set_option maxRecDepth 100000 in
/-- joinery/rb.Red -/
def sh275 (t_1 : Option Addr) (R : Ending → World → Prop) (w : World) : Prop :=
 doCall Tryz.prog (.func (.func 319) #[] #[]) #[.pointer t_1] w (retS (fun v4 w5 => ∃ (x2 : Int), ∃ (x3 : Int), v4 = (.agg #[.int .u64 x2, .int .u64 x3] : Value) ∧ (
 R (.returned (.bool ((x2 : Int) == 1))) w5)) (fun ch w => Kfn R ch [] w))
set_option maxRecDepth 100000 in
theorem sh275_ok (t_1 : Option Addr) {R : Ending → World → Prop} {w : World} : sh275 t_1 R w → Calls Tryz.prog 275 #[.pointer t_1] w R :=
  calls_of_eq (ann := fun _ => []) (fn := Tryz.f275) (c := bodyOf Tryz.f275) (args := #[.pointer t_1]) 400 follows_mixed Tryz.func275 (by kernel_rfl) (by kernel_rfl)
set_option maxRecDepth 100000 in
/-- joinery/wb.Make -/
def sh276 (l_1 : Option Addr) (key_2 : Int) (val_3 : Int) (r_4 : Option Addr) (R : Ending → World → Prop) (w : World) : Prop :=
 doCall Tryz.prog (.func (.func 105) #[] #[]) #[.pointer l_1, .int .i64 key_2, .int .i64 val_3, .int .u64 0, .pointer r_4] w (retS (fun v6 w7 => ∃ (x5 : Option Addr), v6 = (.pointer x5 : Value) ∧ (
 R (.returned (.pointer x5)) w7)) (fun ch w => Kfn R ch [] w))
set_option maxRecDepth 100000 in
theorem sh276_ok (l_1 : Option Addr) (key_2 : Int) (val_3 : Int) (r_4 : Option Addr) {R : Ending → World → Prop} {w : World} : sh276 l_1 key_2 val_3 r_4 R w → Calls Tryz.prog 276 #[.pointer l_1, .int .i64 key_2, .int .i64 val_3, .pointer r_4] w R :=
  calls_of_eq (ann := fun _ => []) (fn := Tryz.f276) (c := bodyOf Tryz.f276) (args := #[.pointer l_1, .int .i64 key_2, .int .i64 val_3, .pointer r_4]) 400 follows_mixed Tryz.func276 (by kernel_rfl) (by kernel_rfl)
set_option maxRecDepth 100000 in
/-- joinery/wb.Weight -/
def sh277 (t_1 : Option Addr) (R : Ending → World → Prop) (w : World) : Prop :=
 doCall Tryz.prog (.func (.func 91) #[] #[]) #[.pointer t_1] w (retS (fun v3 w4 => ∃ (x2 : Int), v3 = (.int .i64 x2 : Value) ∧ (
 R (.returned (.int .i64 (IntKind.wrap .i64 (x2 + 1)))) w4)) (fun ch w => Kfn R ch [] w))
set_option maxRecDepth 100000 in
theorem sh277_ok (t_1 : Option Addr) {R : Ending → World → Prop} {w : World} : sh277 t_1 R w → Calls Tryz.prog 277 #[.pointer t_1] w R :=
  calls_of_eq (ann := fun _ => []) (fn := Tryz.f277) (c := bodyOf Tryz.f277) (args := #[.pointer t_1]) 400 follows_mixed Tryz.func277 (by kernel_rfl) (by kernel_rfl)
end Go.Proofs.YtlddfgfmkapoiaaGreat

namespace Go.Proofs.YtlddfgfmkapoiaaGreat
open Go Go.Sh
set_option maxRecDepth 100000 in
/-- (joinery/wbjoin.side).hang -/
def sh278 (s_1 : Int) (t_2 : Option Addr) (pair_3 : Option Addr) (low_4 : Option Addr) (R : Ending → World → Prop) (w : World) : Prop :=
 let K7 : Bool → World → Prop := fun (x5 : Bool) (w6 : World) => 
 ifB x5 (
 doCall Tryz.prog (.func (.func 322) #[] #[]) #[.int .i64 s_1, .pointer t_2, .pointer pair_3, .pointer low_4] w6 (retS (fun v9 w10 => ∃ (x8 : Option Addr), v9 = (.pointer x8 : Value) ∧ (
 R (.returned (.pointer x8)) w10)) (fun ch w => Kfn R ch [] w))) (
 doCall Tryz.prog (.func (.func 323) #[] #[]) #[.int .i64 s_1] w6 (retS (fun v12 w13 => ∃ (x11 : Int), v12 = (.int .i64 x11 : Value) ∧ (
 doCall Tryz.prog (.func (.func 324) #[] #[]) #[.int .i64 x11, .pointer t_2] w13 (retS (fun v15 w16 => ∃ (x14 : Option Addr), v15 = (.pointer x14 : Value) ∧ (
 doCall Tryz.prog (.func (.func 324) #[] #[]) #[.int .i64 s_1, .pointer t_2] w16 (retS (fun v18 w19 => ∃ (x17 : Option Addr), v18 = (.pointer x17 : Value) ∧ (
 doCall Tryz.prog (.func (.func 278) #[] #[]) #[.int .i64 s_1, .pointer x17, .pointer pair_3, .pointer low_4] w19 (retS (fun v21 w22 => ∃ (x20 : Option Addr), v21 = (.pointer x20 : Value) ∧ (
 doCall Tryz.prog (.func (.func 277) #[] #[]) #[.pointer x14] w22 (retS (fun v24 w25 => ∃ (x23 : Int), v24 = (.int .i64 x23 : Value) ∧ (
 doCall Tryz.prog (.func (.func 277) #[] #[]) #[.pointer x20] w25 (retS (fun v27 w28 => ∃ (x26 : Int), v27 = (.int .i64 x26 : Value) ∧ (
 doCall Tryz.prog (.func (.func 279) #[] #[]) #[.int .i64 x23, .int .i64 x26] w28 (retS (fun v30 w31 => ∃ (x29 : Bool), v30 = (.bool x29 : Value) ∧ (
 ifB x29 (
 doCall Tryz.prog (.func (.func 322) #[] #[]) #[.int .i64 s_1, .pointer x14, .pointer t_2, .pointer x20] w31 (retS (fun v33 w34 => ∃ (x32 : Option Addr), v33 = (.pointer x32 : Value) ∧ (
 R (.returned (.pointer x32)) w34)) (fun ch w => Kfn R ch [] w))) (
 doCall Tryz.prog (.func (.func 323) #[] #[]) #[.int .i64 s_1] w31 (retS (fun v36 w37 => ∃ (x35 : Int), v36 = (.int .i64 x35 : Value) ∧ (
 doCall Tryz.prog (.func (.func 324) #[] #[]) #[.int .i64 x35, .pointer x20] w37 (retS (fun v39 w40 => ∃ (x38 : Option Addr), v39 = (.pointer x38 : Value) ∧ (
 doCall Tryz.prog (.func (.func 277) #[] #[]) #[.pointer x38] w40 (retS (fun v42 w43 => ∃ (x41 : Int), v42 = (.int .i64 x41 : Value) ∧ (
 doCall Tryz.prog (.func (.func 324) #[] #[]) #[.int .i64 s_1, .pointer x20] w43 (retS (fun v45 w46 => ∃ (x44 : Option Addr), v45 = (.pointer x44 : Value) ∧ (
 doCall Tryz.prog (.func (.func 277) #[] #[]) #[.pointer x44] w46 (retS (fun v48 w49 => ∃ (x47 : Int), v48 = (.int .i64 x47 : Value) ∧ (
 doAl (.map #[] 0) w49 (fun b50 w51 =>
 doMu Tryz.prog 367 (.map (some b50)) (.bool true) (.func (.func 325) #[.int .i64 s_1] #[]) w51 (fun w52 =>
 doMu Tryz.prog 367 (.map (some b50)) (.bool false) (.func (.func 326) #[.int .i64 s_1] #[]) w52 (fun w53 =>
 let K56 : (Option Addr) → World → Prop := fun (x54 : Option Addr) (w55 : World) => 
 R (.returned (.pointer x54)) w55
 doCall Tryz.prog (.func (.func 279) #[] #[]) #[.int .i64 x23, .int .i64 x41] w53 (retS (fun v58 w59 => ∃ (x57 : Bool), v58 = (.bool x57 : Value) ∧ (
 ifB x57 (
 doCall Tryz.prog (.func (.func 279) #[] #[]) #[.int .i64 (IntKind.wrap .i64 (x23 + x41)), .int .i64 x47] w59 (retS (fun v61 w62 => ∃ (x60 : Bool), v61 = (.bool x60 : Value) ∧ (
 doLk Tryz.prog 367 (.map (some b50)) (.bool x60) false w62 (fun v66 => (∃ (xf63 : Fn), ∃ (xx64 : Array Value), ∃ (xc65 : Array Value), v66 = (.func xf63 xx64 xc65 : Value) ∧ (
 doCall Tryz.prog (.func xf63 xx64 xc65) #[.pointer x14, .pointer t_2, .pointer x20] w62 (retS (fun v68 w69 => ∃ (x67 : Option Addr), v68 = (.pointer x67 : Value) ∧ (
 K56 x67 w69)) (fun ch w => Kfn R ch [] w)))) ∨ (v66 = (.nilFunc : Value) ∧ (
 doCall Tryz.prog (.nilFunc) #[.pointer x14, .pointer t_2, .pointer x20] w62 (retS (fun v71 w72 => ∃ (x70 : Option Addr), v71 = (.pointer x70 : Value) ∧ (
 K56 x70 w72)) (fun ch w => Kfn R ch [] w))))))) (fun ch w => Kfn R ch [] w))) (
 doLk Tryz.prog 367 (.map (some b50)) (.bool false) false w59 (fun v76 => (∃ (xf73 : Fn), ∃ (xx74 : Array Value), ∃ (xc75 : Array Value), v76 = (.func xf73 xx74 xc75 : Value) ∧ (
 doCall Tryz.prog (.func xf73 xx74 xc75) #[.pointer x14, .pointer t_2, .pointer x20] w59 (retS (fun v78 w79 => ∃ (x77 : Option Addr), v78 = (.pointer x77 : Value) ∧ (
 K56 x77 w79)) (fun ch w => Kfn R ch [] w)))) ∨ (v76 = (.nilFunc : Value) ∧ (
 doCall Tryz.prog (.nilFunc) #[.pointer x14, .pointer t_2, .pointer x20] w59 (retS (fun v81 w82 => ∃ (x80 : Option Addr), v81 = (.pointer x80 : Value) ∧ (
 K56 x80 w82)) (fun ch w => Kfn R ch [] w)))))))) (fun ch w => Kfn R ch [] w))))))) (fun ch w => Kfn R ch [] w)))) (fun ch w => Kfn R ch [] w)))) (fun ch w => Kfn R ch [] w)))) (fun ch w => Kfn R ch [] w)))) (fun ch w => Kfn R ch [] w))))) (fun ch w => Kfn R ch [] w)))) (fun ch w => Kfn R ch [] w)))) (fun ch w => Kfn R ch [] w)))) (fun ch w => Kfn R ch [] w)))) (fun ch w => Kfn R ch [] w)))) (fun ch w => Kfn R ch [] w)))) (fun ch w => Kfn R ch [] w)))
 ifB ((t_2).isNone) (
 doCall Tryz.prog (.func (.func 322) #[] #[]) #[.int .i64 s_1, .pointer t_2, .pointer pair_3, .pointer low_4] w (retS (fun v84 w85 => ∃ (x83 : Option Addr), v84 = (.pointer x83 : Value) ∧ (
 R (.returned (.pointer x83)) w85)) (fun ch w => Kfn R ch [] w))) (
 doCall Tryz.prog (.func (.func 277) #[] #[]) #[.pointer t_2] w (retS (fun v87 w88 => ∃ (x86 : Int), v87 = (.int .i64 x86 : Value) ∧ (
 doCall Tryz.prog (.func (.func 277) #[] #[]) #[.pointer low_4] w88 (retS (fun v90 w91 => ∃ (x89 : Int), v90 = (.int .i64 x89 : Value) ∧ (
 doCall Tryz.prog (.func (.func 279) #[] #[]) #[.int .i64 x86, .int .i64 x89] w91 (retS (fun v93 w94 => ∃ (x92 : Bool), v93 = (.bool x92 : Value) ∧ (
 K7 x92 w94)) (fun ch w => Kfn R ch [] w)))) (fun ch w => Kfn R ch [] w)))) (fun ch w => Kfn R ch [] w)))
set_option maxRecDepth 100000 in
theorem sh278_ok (s_1 : Int) (t_2 : Option Addr) (pair_3 : Option Addr) (low_4 : Option Addr) {R : Ending → World → Prop} {w : World} : sh278 s_1 t_2 pair_3 low_4 R w → Calls Tryz.prog 278 #[.int .i64 s_1, .pointer t_2, .pointer pair_3, .pointer low_4] w R :=
  calls_of_eq (ann := fun _ => []) (fn := Tryz.f278) (c := bodyOf Tryz.f278) (args := #[.int .i64 s_1, .pointer t_2, .pointer pair_3, .pointer low_4]) 400 follows_mixed Tryz.func278 (by kernel_rfl) (by kernel_rfl)
set_option maxRecDepth 100000 in
/-- joinery/wb.Like -/
def sh279 (a_1 : Int) (b_2 : Int) (R : Ending → World → Prop) (w : World) : Prop :=
 let K5 : Bool → World → Prop := fun (x3 : Bool) (w4 : World) => 
 R (.returned (.bool x3)) w4
 doAl (.cells #[.int .i64 a_1, .int .i64 b_2] 3) w (fun b6 w7 =>
 doCall Tryz.prog (.func (.func 327) #[] #[]) #[.int .i64 1, .int .i64 1099511627776, .slice (some (blk b6)) 2 2] w7 (retS (fun v9 w10 => ∃ (x8 : Bool), v9 = (.bool x8 : Value) ∧ (
 ifB x8 (
 doGo Tryz.prog (.builtin .min #[3, 3] 3 #[false, false]) #[.int .i64 a_1, .int .i64 b_2] w10 (retS (fun v12 w13 => ∃ (x11 : Int), v12 = (.int .i64 x11 : Value) ∧ (
 K5 (decide (((IntKind.wrap .i64 (29 * (IntKind.wrap .i64 (a_1 + b_2)))) : Int) ≤ (IntKind.wrap .i64 (100 * x11)))) w13)) (fun ch w => Kfn R ch [] w))) (
 R (.returned (.bool false)) w10))) (fun ch w => Kfn R ch [] w)))
set_option maxRecDepth 100000 in
theorem sh279_ok (a_1 : Int) (b_2 : Int) {R : Ending → World → Prop} {w : World} : sh279 a_1 b_2 R w → Calls Tryz.prog 279 #[.int .i64 a_1, .int .i64 b_2] w R :=
  calls_of_eq (ann := fun _ => []) (fn := Tryz.f279) (c := bodyOf Tryz.f279) (args := #[.int .i64 a_1, .int .i64 b_2]) 400 follows_mixed Tryz.func279 (by kernel_rfl) (by kernel_rfl)
set_option maxRecDepth 100000 in
/-- joinery/order.up -/
def sh280 (k_1 : Int) (R : Ending → World → Prop) (w : World) : Prop :=
 R (.returned (.int .u64 (bXor .u64 (IntKind.wrap .u64 k_1) 9223372036854775808))) w
set_option maxRecDepth 100000 in
theorem sh280_ok (k_1 : Int) {R : Ending → World → Prop} {w : World} : sh280 k_1 R w → Calls Tryz.prog 280 #[.int .i64 k_1] w R :=
  calls_of_eq (ann := fun _ => []) (fn := Tryz.f280) (c := bodyOf Tryz.f280) (args := #[.int .i64 k_1]) 400 follows_mixed Tryz.func280 (by kernel_rfl) (by kernel_rfl)
set_option maxRecDepth 100000 in
/-- joinery/order.kinds$1 -/
def sh282 (k_1 : Int) (R : Ending → World → Prop) (w : World) : Prop :=
 doCall Tryz.prog (.func (.func 280) #[] #[]) #[.int .i64 k_1] w (retS (fun v3 w4 => ∃ (x2 : Int), v3 = (.int .u64 x2 : Value) ∧ (
 R (.returned (.int .u64 (bXor .u64 (IntKind.max .u64) x2))) w4)) (fun ch w => Kfn R ch [] w))
set_option maxRecDepth 100000 in
theorem sh282_ok (k_1 : Int) {R : Ending → World → Prop} {w : World} : sh282 k_1 R w → Calls Tryz.prog 282 #[.int .i64 k_1] w R :=
  calls_of_eq (ann := fun _ => []) (fn := Tryz.f282) (c := bodyOf Tryz.f282) (args := #[.int .i64 k_1]) 400 follows_mixed Tryz.func282 (by kernel_rfl) (by kernel_rfl)
set_option maxRecDepth 100000 in
/-- joinery/order.kinds$3 -/
def sh284 (k_1 : Int) (R : Ending → World → Prop) (w : World) : Prop :=
 (0 : Int) ≤ 1 ∧ (
 (0 : Int) ≤ 63 ∧ (
 R (.returned (.int .u64 (IntKind.wrap .u64 (bXor .i64 (IntKind.wrap .i64 (k_1 * 2 ^ (min (1 : Int).toNat (IntKind.bits .i64)))) (Int.fdiv k_1 (2 ^ (min (63 : Int).toNat (IntKind.bits .i64)))))))) w))
set_option maxRecDepth 100000 in
theorem sh284_ok (k_1 : Int) {R : Ending → World → Prop} {w : World} : sh284 k_1 R w → Calls Tryz.prog 284 #[.int .i64 k_1] w R :=
  calls_of_eq (ann := fun _ => []) (fn := Tryz.f284) (c := bodyOf Tryz.f284) (args := #[.int .i64 k_1]) 400 follows_mixed Tryz.func284 (by kernel_rfl) (by kernel_rfl)
set_option maxRecDepth 100000 in
/-- joinery/order.kinds$5 -/
def sh286 (k_1 : Int) (R : Ending → World → Prop) (w : World) : Prop :=
 doCall Tryz.prog (.func (.func 287) #[] #[]) #[.int .u64 (IntKind.wrap .u64 k_1)] w (retS (fun v3 w4 => ∃ (x2 : Int), v3 = (.int .u64 x2 : Value) ∧ (
 R (.returned (.int .u64 x2)) w4)) (fun ch w => Kfn R ch [] w))
set_option maxRecDepth 100000 in
theorem sh286_ok (k_1 : Int) {R : Ending → World → Prop} {w : World} : sh286 k_1 R w → Calls Tryz.prog 286 #[.int .i64 k_1] w R :=
  calls_of_eq (ann := fun _ => []) (fn := Tryz.f286) (c := bodyOf Tryz.f286) (args := #[.int .i64 k_1]) 400 follows_mixed Tryz.func286 (by kernel_rfl) (by kernel_rfl)
set_option maxRecDepth 100000 in
/-- joinery/mix.Flip -/
def sh287 (x_1 : Int) (R : Ending → World → Prop) (w : World) : Prop :=
 doCall Tryz.prog (.func (.func 328) #[] #[]) #[.int .u64 x_1] w (retS (fun v3 w4 => ∃ (x2 : Int), v3 = (.int .u64 x2 : Value) ∧ (
 R (.returned (.int .u64 x2)) w4)) (fun ch w => Kfn R ch [] w))
set_option maxRecDepth 100000 in
theorem sh287_ok (x_1 : Int) {R : Ending → World → Prop} {w : World} : sh287 x_1 R w → Calls Tryz.prog 287 #[.int .u64 x_1] w R :=
  calls_of_eq (ann := fun _ => []) (fn := Tryz.f287) (c := bodyOf Tryz.f287) (args := #[.int .u64 x_1]) 400 follows_mixed Tryz.func287 (by kernel_rfl) (by kernel_rfl)
set_option maxRecDepth 100000 in
/-- joinery/order.kinds$7 -/
def sh289 (k_1 : Int) (R : Ending → World → Prop) (w : World) : Prop :=
 doCall Tryz.prog (.func (.func 280) #[] #[]) #[.int .i64 k_1] w (retS (fun v3 w4 => ∃ (x2 : Int), v3 = (.int .u64 x2 : Value) ∧ (
 doCall Tryz.prog (.func (.func 124) #[] #[]) #[.int .u64 x2, .int .i64 (-1)] w4 (retS (fun v6 w7 => ∃ (x5 : Int), v6 = (.int .u64 x5 : Value) ∧ (
 R (.returned (.int .u64 x5)) w7)) (fun ch w => Kfn R ch [] w)))) (fun ch w => Kfn R ch [] w))
set_option maxRecDepth 100000 in
theorem sh289_ok (k_1 : Int) {R : Ending → World → Prop} {w : World} : sh289 k_1 R w → Calls Tryz.prog 289 #[.int .i64 k_1] w R :=
  calls_of_eq (ann := fun _ => []) (fn := Tryz.f289) (c := bodyOf Tryz.f289) (args := #[.int .i64 k_1]) 400 follows_mixed Tryz.func289 (by kernel_rfl) (by kernel_rfl)
set_option maxRecDepth 100000 in
/-- joinery/order.kinds$9 -/
def sh291 (k_1 : Int) (R : Ending → World → Prop) (w : World) : Prop :=
 doCall Tryz.prog (.func (.func 280) #[] #[]) #[.int .i64 k_1] w (retS (fun v3 w4 => ∃ (x2 : Int), v3 = (.int .u64 x2 : Value) ∧ (
 doCall Tryz.prog (.func (.func 124) #[] #[]) #[.int .u64 x2, .int .i64 32] w4 (retS (fun v6 w7 => ∃ (x5 : Int), v6 = (.int .u64 x5 : Value) ∧ (
 R (.returned (.int .u64 x5)) w7)) (fun ch w => Kfn R ch [] w)))) (fun ch w => Kfn R ch [] w))
set_option maxRecDepth 100000 in
theorem sh291_ok (k_1 : Int) {R : Ending → World → Prop} {w : World} : sh291 k_1 R w → Calls Tryz.prog 291 #[.int .i64 k_1] w R :=
  calls_of_eq (ann := fun _ => []) (fn := Tryz.f291) (c := bodyOf Tryz.f291) (args := #[.int .i64 k_1]) 400 follows_mixed Tryz.func291 (by kernel_rfl) (by kernel_rfl)
set_option maxRecDepth 100000 in
/-- joinery/order.kinds$11 -/
def sh293 (k_1 : Int) (R : Ending → World → Prop) (w : World) : Prop :=
 doCall Tryz.prog (.func (.func 122) #[] #[]) #[.int .u64 (IntKind.wrap .u64 k_1)] w (retS (fun v3 w4 => ∃ (x2 : Int), v3 = (.int .u64 x2 : Value) ∧ (
 R (.returned (.int .u64 x2)) w4)) (fun ch w => Kfn R ch [] w))
set_option maxRecDepth 100000 in
theorem sh293_ok (k_1 : Int) {R : Ending → World → Prop} {w : World} : sh293 k_1 R w → Calls Tryz.prog 293 #[.int .i64 k_1] w R :=
  calls_of_eq (ann := fun _ => []) (fn := Tryz.f293) (c := bodyOf Tryz.f293) (args := #[.int .i64 k_1]) 400 follows_mixed Tryz.func293 (by kernel_rfl) (by kernel_rfl)
set_option maxRecDepth 100000 in
/-- slices.insertionSortCmpFunc[joinery/api.Pair] -/
def sh296 (data_p1 : Option Addr) (data_n2 : Nat) (_data_c3 : Nat) (a_4 : Int) (b_5 : Int) (cmp_f6 : Fn) (cmp_x7 : Array Value) (cmp_c8 : Array Value) (R : Ending → World → Prop) (w : World) : Prop :=
 ∃ (I9 : List Value → World → Prop) (μ10 : List Value → World → Nat), I9 [.int .i64 (IntKind.wrap .i64 (a_4 + 1))] w ∧ (∀ (i_13 : Int), ∀ (_j11 : Nat → Value) (w12 : World), I9 [.int .i64 i_13] w12 → (
 ifB (decide ((i_13 : Int) < b_5)) (
 let K15 : World → Prop := fun (w14 : World) => 
 I9 [.int .i64 (IntKind.wrap .i64 (i_13 + 1))] w14 ∧ μ10 [.int .i64 (IntKind.wrap .i64 (i_13 + 1))] w14 < μ10 [.int .i64 i_13] w12
 ∃ (I16 : List Value → World → Prop) (μ17 : List Value → World → Nat), I16 [.int .i64 i_13] w12 ∧ (∀ (j_20 : Int), ∀ (_j18 : Nat → Value) (w19 : World), I16 [.int .i64 j_20] w19 → (
 let K23 : Bool → World → Prop := fun (x21 : Bool) (w22 : World) => 
 ifB x21 (
 doDr w22 (fun w25 =>
 ∃ (C24 : World → Prop), C24 w25 ∧ (
 doIx data_p1 data_n2 2 (IntKind.wrap .i64 (j_20 - 1)) (fun a26 =>
 ∃ (x27 : Int), (∀ w, C24 w → World.cell? w (a26.add 0) = some (.int .i64 x27)) ∧ (
 ∃ (x28 : Int), (∀ w, C24 w → World.cell? w (a26.add 1) = some (.int .i64 x28)) ∧ (
 doIx data_p1 data_n2 2 (j_20) (fun a29 =>
 ∃ (x30 : Int), (∀ w, C24 w → World.cell? w (a29.add 0) = some (.int .i64 x30)) ∧ (
 ∃ (x31 : Int), (∀ w, C24 w → World.cell? w (a29.add 1) = some (.int .i64 x31)) ∧ (
 doIx data_p1 data_n2 2 (j_20) (fun a32 =>
 doSt (a32.add 0) (.int .i64 x27) w25 (fun w33 =>
 doSt (a32.add 1) (.int .i64 x28) w33 (fun w34 =>
 doIx data_p1 data_n2 2 (IntKind.wrap .i64 (j_20 - 1)) (fun a35 =>
 doSt (a35.add 0) (.int .i64 x30) w34 (fun w36 =>
 doSt (a35.add 1) (.int .i64 x31) w36 (fun w37 =>
 I16 [.int .i64 (IntKind.wrap .i64 (j_20 - 1))] w37 ∧ μ17 [.int .i64 (IntKind.wrap .i64 (j_20 - 1))] w37 < μ17 [.int .i64 j_20] w19))))))))))))))) (
 K15 w22)
 doDr w19 (fun w39 =>
 ∃ (C38 : World → Prop), C38 w39 ∧ (
 ifB (decide ((j_20 : Int) > a_4)) (
 doIx data_p1 data_n2 2 (j_20) (fun a40 =>
 ∃ (x41 : Int), (∀ w, C38 w → World.cell? w (a40.add 0) = some (.int .i64 x41)) ∧ (
 ∃ (x42 : Int), (∀ w, C38 w → World.cell? w (a40.add 1) = some (.int .i64 x42)) ∧ (
 doIx data_p1 data_n2 2 (IntKind.wrap .i64 (j_20 - 1)) (fun a43 =>
 ∃ (x44 : Int), (∀ w, C38 w → World.cell? w (a43.add 0) = some (.int .i64 x44)) ∧ (
 ∃ (x45 : Int), (∀ w, C38 w → World.cell? w (a43.add 1) = some (.int .i64 x45)) ∧ (
 doCall Tryz.prog (.func cmp_f6 cmp_x7 cmp_c8) #[.agg #[.int .i64 x41, .int .i64 x42], .agg #[.int .i64 x44, .int .i64 x45]] w39 (retS (fun v47 w48 => ∃ (x46 : Int), v47 = (.int .i64 x46 : Value) ∧ (
 K23 (decide ((x46 : Int) < 0)) w48)) (fun ch w => Kfn R ch [] w))))))))) (
 K15 w39)))))) (
 R (.returned (.tuple #[])) w12)))
set_option maxRecDepth 100000 in
theorem sh296_ok (data_p1 : Option Addr) (data_n2 : Nat) (data_c3 : Nat) (a_4 : Int) (b_5 : Int) (cmp_f6 : Fn) (cmp_x7 : Array Value) (cmp_c8 : Array Value) {R : Ending → World → Prop} {w : World} : sh296 data_p1 data_n2 data_c3 a_4 b_5 cmp_f6 cmp_x7 cmp_c8 R w → Calls Tryz.prog 296 #[.slice data_p1 data_n2 data_c3, .int .i64 a_4, .int .i64 b_5, .func cmp_f6 cmp_x7 cmp_c8] w R :=
  calls_of_eq (ann := fun i => if i = 2 then [(9, .int .i64 0)] else if i = 0 then [(8, .int .i64 0)] else []) (fn := Tryz.f296) (c := bodyOf Tryz.f296) (args := #[.slice data_p1 data_n2 data_c3, .int .i64 a_4, .int .i64 b_5, .func cmp_f6 cmp_x7 cmp_c8]) 400 follows_mixed Tryz.func296 (by kernel_rfl) (by kernel_rfl)
set_option maxRecDepth 100000 in
/-- joinery/look.goes$1 -/
def sh301 (yield_f1 : Fn) (yield_x2 : Array Value) (yield_c3 : Array Value) (x4 : Addr) (x5 : Addr) (x6 : Addr) (R : Ending → World → Prop) (w : World) : Prop :=
 doAl (.cells #[.func yield_f1 yield_x2 yield_c3] 161) w (fun b7 w8 =>
 doAl (.cells #[.nilFunc] 161) w8 (fun b9 w10 =>
 doSt ((blk b9).add 0) (.func (.func 302) #[] #[.pointer (some (blk b9)), .pointer (some x4), .pointer (some (blk b7)), .pointer (some x5)]) w10 (fun w11 =>
 ∃ (xf12 : Fn), ∃ (xx13 : Array Value), ∃ (xc14 : Array Value), World.cell? w11 (blk b9) = some (.func xf12 xx13 xc14) ∧ (
 ∃ (x15 : Option Addr), World.cell? w11 x6 = some (.pointer x15) ∧ (
 doCall Tryz.prog (.func xf12 xx13 xc14) #[.pointer x15] w11 (retS (fun v17 w18 => ∃ (x16 : Bool), v17 = (.bool x16 : Value) ∧ (
 R (.returned (.tuple #[])) w18)) (fun ch w => Kfn R ch [] w)))))))
set_option maxRecDepth 100000 in
theorem sh301_ok (yield_f1 : Fn) (yield_x2 : Array Value) (yield_c3 : Array Value) (x4 : Addr) (x5 : Addr) (x6 : Addr) {R : Ending → World → Prop} {w : World} : sh301 yield_f1 yield_x2 yield_c3 x4 x5 x6 R w → Calls Tryz.prog 301 #[.func yield_f1 yield_x2 yield_c3, .pointer (some x4), .pointer (some x5), .pointer (some x6)] w R :=
  calls_of_eq (ann := fun _ => []) (fn := Tryz.f301) (c := bodyOf Tryz.f301) (args := #[.func yield_f1 yield_x2 yield_c3, .pointer (some x4), .pointer (some x5), .pointer (some x6)]) 400 follows_mixed Tryz.func301 (by kernel_rfl) (by kernel_rfl)
set_option maxRecDepth 100000 in
/-- joinery/look.goes$1$1 -/
def sh302 (n_1 : Option Addr) (x2 : Addr) (x3 : Addr) (x4 : Addr) (x5 : Addr) (R : Ending → World → Prop) (w : World) : Prop :=
 let K8 : Bool → World → Prop := fun (x6 : Bool) (w7 : World) => 
 R (.returned (.bool x6)) w7
 doDr w (fun w10 =>
 ∃ (C9 : World → Prop), C9 w10 ∧ (
 ifB ((n_1).isNone) (
 R (.returned (.bool true)) w10) (
 ∃ (xf11 : Fn), ∃ (xx12 : Array Value), ∃ (xc13 : Array Value), (∀ w, C9 w → World.cell? w x2 = some (.func xf11 xx12 xc13)) ∧ (
 ∃ (xf14 : Fn), ∃ (xx15 : Array Value), ∃ (xc16 : Array Value), (∀ w, C9 w → World.cell? w x3 = some (.func xf14 xx15 xc16)) ∧ (
 doCall Tryz.prog (.func xf14 xx15 xc16) #[.pointer n_1] w10 (retS (fun v18 w19 => ∃ (x17 : Option Addr), v18 = (.pointer x17 : Value) ∧ (
 C9 w19 ∧ (
 doCall Tryz.prog (.func xf11 xx12 xc13) #[.pointer x17] w19 (retS (fun v21 w22 => ∃ (x20 : Bool), v21 = (.bool x20 : Value) ∧ (
 C9 w22 ∧ (
 ifB x20 (
 ∃ (xf23 : Fn), ∃ (xx24 : Array Value), ∃ (xc25 : Array Value), (∀ w, C9 w → World.cell? w x4 = some (.func xf23 xx24 xc25)) ∧ (
 doCall Tryz.prog (.func xf23 xx24 xc25) #[.pointer n_1] w22 (retS (fun v27 w28 => ∃ (x26 : Bool), v27 = (.bool x26 : Value) ∧ (
 C9 w28 ∧ (
 ifB x26 (
 ∃ (xf29 : Fn), ∃ (xx30 : Array Value), ∃ (xc31 : Array Value), (∀ w, C9 w → World.cell? w x2 = some (.func xf29 xx30 xc31)) ∧ (
 ∃ (xf32 : Fn), ∃ (xx33 : Array Value), ∃ (xc34 : Array Value), (∀ w, C9 w → World.cell? w x5 = some (.func xf32 xx33 xc34)) ∧ (
 doCall Tryz.prog (.func xf32 xx33 xc34) #[.pointer n_1] w28 (retS (fun v36 w37 => ∃ (x35 : Option Addr), v36 = (.pointer x35 : Value) ∧ (
 C9 w37 ∧ (
 doCall Tryz.prog (.func xf29 xx30 xc31) #[.pointer x35] w37 (retS (fun v39 w40 => ∃ (x38 : Bool), v39 = (.bool x38 : Value) ∧ (
 C9 w40 ∧ (
 K8 x38 w40))) (fun ch w => Kfn R ch [] w))))) (fun ch w => Kfn R ch [] w))))) (
 R (.returned (.bool false)) w28)))) (fun ch w => Kfn R ch [] w)))) (
 R (.returned (.bool false)) w22)))) (fun ch w => Kfn R ch [] w))))) (fun ch w => Kfn R ch [] w)))))))
set_option maxRecDepth 100000 in
theorem sh302_ok (n_1 : Option Addr) (x2 : Addr) (x3 : Addr) (x4 : Addr) (x5 : Addr) {R : Ending → World → Prop} {w : World} : sh302 n_1 x2 x3 x4 x5 R w → Calls Tryz.prog 302 #[.pointer n_1, .pointer (some x2), .pointer (some x3), .pointer (some x4), .pointer (some x5)] w R :=
  calls_of_eq (ann := fun _ => []) (fn := Tryz.f302) (c := bodyOf Tryz.f302) (args := #[.pointer n_1, .pointer (some x2), .pointer (some x3), .pointer (some x4), .pointer (some x5)]) 400 follows_mixed Tryz.func302 (by kernel_rfl) (by kernel_rfl)
set_option maxRecDepth 100000 in
/-- joinery/treap.above -/
def sh305 (a_1 : Int) (a_2 : Int) (a_3 : Int) (b_4 : Int) (b_5 : Int) (b_6 : Int) (R : Ending → World → Prop) (w : World) : Prop :=
 doAl (.cells #[.int .i64 a_1, .int .i64 a_2, .int .u64 a_3] 114) w (fun b7 w8 =>
 doAl (.cells #[.int .i64 b_4, .int .i64 b_5, .int .u64 b_6] 114) w8 (fun b9 w10 =>
 let K13 : Bool → World → Prop := fun (x11 : Bool) (w12 : World) => 
 R (.returned (.bool x11)) w12
 ∃ (x14 : Int), World.cell? w10 ((blk b7).add 2) = some (.int .u64 x14) ∧ (
 ∃ (x15 : Int), World.cell? w10 ((blk b9).add 2) = some (.int .u64 x15) ∧ (
 ifB (decide ((x14 : Int) > x15)) (
 R (.returned (.bool true)) w10) (
 ∃ (x16 : Int), World.cell? w10 ((blk b7).add 2) = some (.int .u64 x16) ∧ (
 ∃ (x17 : Int), World.cell? w10 ((blk b9).add 2) = some (.int .u64 x17) ∧ (
 ifB ((x16 : Int) == x17) (
 ∃ (x18 : Int), World.cell? w10 ((blk b7).add 0) = some (.int .i64 x18) ∧ (
 ∃ (x19 : Int), World.cell? w10 ((blk b9).add 0) = some (.int .i64 x19) ∧ (
 K13 (decide ((x18 : Int) > x19)) w10))) (
 R (.returned (.bool false)) w10))))))))
set_option maxRecDepth 100000 in
theorem sh305_ok (a_1 : Int) (a_2 : Int) (a_3 : Int) (b_4 : Int) (b_5 : Int) (b_6 : Int) {R : Ending → World → Prop} {w : World} : sh305 a_1 a_2 a_3 b_4 b_5 b_6 R w → Calls Tryz.prog 305 #[.agg #[.int .i64 a_1, .int .i64 a_2, .int .u64 a_3], .agg #[.int .i64 b_4, .int .i64 b_5, .int .u64 b_6]] w R :=
  calls_of_eq (ann := fun _ => []) (fn := Tryz.f305) (c := bodyOf Tryz.f305) (args := #[.agg #[.int .i64 a_1, .int .i64 a_2, .int .u64 a_3], .agg #[.int .i64 b_4, .int .i64 b_5, .int .u64 b_6]]) 400 follows_mixed Tryz.func305 (by kernel_rfl) (by kernel_rfl)
set_option maxRecDepth 100000 in
/-- joinery/treap.item -/
def sh306 (n_1 : Option Addr) (R : Ending → World → Prop) (w : World) : Prop :=
 doAl (.cells #[.int .i64 0, .int .i64 0, .int .u64 0] 114) w (fun b2 w3 =>
 doCall Tryz.prog (.func (.func 108) #[] #[]) #[.pointer n_1] w3 (retS (fun v5 w6 => ∃ (x4 : Int), v5 = (.int .i64 x4 : Value) ∧ (
 doCall Tryz.prog (.func (.func 126) #[] #[]) #[.pointer n_1] w6 (retS (fun v8 w9 => ∃ (x7 : Int), v8 = (.int .i64 x7 : Value) ∧ (
 doCall Tryz.prog (.func (.func 196) #[] #[]) #[.pointer n_1] w9 (retS (fun v11 w12 => ∃ (x10 : Int), v11 = (.int .u64 x10 : Value) ∧ (
 doSt ((blk b2).add 0) (.int .i64 x4) w12 (fun w13 =>
 doSt ((blk b2).add 1) (.int .i64 x7) w13 (fun w14 =>
 doSt ((blk b2).add 2) (.int .u64 x10) w14 (fun w15 =>
 ∃ (x16 : Int), World.cell? w15 ((blk b2).add 0) = some (.int .i64 x16) ∧ (
 ∃ (x17 : Int), World.cell? w15 ((blk b2).add 1) = some (.int .i64 x17) ∧ (
 ∃ (x18 : Int), World.cell? w15 ((blk b2).add 2) = some (.int .u64 x18) ∧ (
 R (.returned (.agg #[.int .i64 x16, .int .i64 x17, .int .u64 x18])) w15)))))))) (fun ch w => Kfn R ch [] w)))) (fun ch w => Kfn R ch [] w)))) (fun ch w => Kfn R ch [] w)))
set_option maxRecDepth 100000 in
theorem sh306_ok (n_1 : Option Addr) {R : Ending → World → Prop} {w : World} : sh306 n_1 R w → Calls Tryz.prog 306 #[.pointer n_1] w R :=
  calls_of_eq (ann := fun _ => []) (fn := Tryz.f306) (c := bodyOf Tryz.f306) (args := #[.pointer n_1]) 400 follows_mixed Tryz.func306 (by kernel_rfl) (by kernel_rfl)
end Go.Proofs.YtlddfgfmkapoiaaGreat

