/-
  Printed by a program (gen.py): what the functions of the program do, as formulas; each with the proof that its call is what the formula says.
-/
/-
  Printed by a program (gen.py): what the functions of the program do, as formulas; each with the proof that its call is what the formula says.
-/
/-
  Printed by a program (gen.py): what the functions of the program do, as formulas; each with the proof that its call is what the formula says.
-/
import Derived.Test.YthgckfeocalbdaaGreatPb
import Derived.Test.YthgckfeocalbdaaGreatProg
import Derived.Test.YthgckfeocalbdaaGreatPd

namespace Go.Proofs.YthgckfeocalbdaaGreat
open Go Go.Sh
set_option maxRecDepth 100000 in
/-- joinery/cut.to -/
def sh132 (s_1 : Option Addr) (last_2 : Bool) (R : Ending → World → Prop) (w : World) : Prop :=
 doAl (.cells #[.pointer s_1] 23) w (fun b3 w4 =>
 doAl (.cells #[.nilFunc, .nilFunc, .nilFunc] 195) w4 (fun b5 w6 =>
 ifB last_2 (
 doSt ((blk b5).add 0) (.func (.func 66) #[] #[]) w6 (fun w7 =>
 doSt ((blk b5).add 1) (.func (.func 68) #[] #[]) w7 (fun w8 =>
 doSt ((blk b5).add 2) (.func (.func 180) #[] #[.pointer (some (blk b3))]) w8 (fun w9 =>
 ∃ (xf10 : Fn), ∃ (xx11 : Array Value), ∃ (xc12 : Array Value), World.cell? w9 ((blk b5).add 0) = some (.func xf10 xx11 xc12) ∧ (
 ∃ (xf13 : Fn), ∃ (xx14 : Array Value), ∃ (xc15 : Array Value), World.cell? w9 ((blk b5).add 1) = some (.func xf13 xx14 xc15) ∧ (
 ∃ (xf16 : Fn), ∃ (xx17 : Array Value), ∃ (xc18 : Array Value), World.cell? w9 ((blk b5).add 2) = some (.func xf16 xx17 xc18) ∧ (
 R (.returned (.agg #[.func xf10 xx11 xc12, .func xf13 xx14 xc15, .func xf16 xx17 xc18])) w9))))))) (
 ∃ (x19 : Option Addr), World.cell? w6 (blk b3) = some (.pointer x19) ∧ (
 doSt ((blk b5).add 0) (.func (.func 68) #[] #[]) w6 (fun w20 =>
 doSt ((blk b5).add 1) (.func (.func 66) #[] #[]) w20 (fun w21 =>
 doSt ((blk b5).add 2) (.func (.func 51) #[.pointer x19] #[]) w21 (fun w22 =>
 ∃ (xf23 : Fn), ∃ (xx24 : Array Value), ∃ (xc25 : Array Value), World.cell? w22 ((blk b5).add 0) = some (.func xf23 xx24 xc25) ∧ (
 ∃ (xf26 : Fn), ∃ (xx27 : Array Value), ∃ (xc28 : Array Value), World.cell? w22 ((blk b5).add 1) = some (.func xf26 xx27 xc28) ∧ (
 ∃ (xf29 : Fn), ∃ (xx30 : Array Value), ∃ (xc31 : Array Value), World.cell? w22 ((blk b5).add 2) = some (.func xf29 xx30 xc31) ∧ (
 R (.returned (.agg #[.func xf23 xx24 xc25, .func xf26 xx27 xc28, .func xf29 xx30 xc31])) w22))))))))))
set_option maxRecDepth 100000 in
theorem sh132_ok (s_1 : Option Addr) (last_2 : Bool) {R : Ending → World → Prop} {w : World} : sh132 s_1 last_2 R w → Calls Tryz.prog 132 #[.pointer s_1, .bool last_2] w R :=
  calls_of_eq (ann := fun _ => []) (fn := Tryz.f132) (c := bodyOf Tryz.f132) (args := #[.pointer s_1, .bool last_2]) 400 follows_mixed Tryz.func132 (by kernel_rfl) (by kernel_rfl)
set_option maxRecDepth 100000 in
/-- joinery/sound.beads$1 -/
def sh135 (yield_f1 : Fn) (yield_x2 : Array Value) (yield_c3 : Array Value) (x4 : Addr) (x5 : Addr) (R : Ending → World → Prop) (w : World) : Prop :=
 doAl (.cells #[.func yield_f1 yield_x2 yield_c3] 198) w (fun b6 w7 =>
 doAl (.cells #[.nilFunc] 199) w7 (fun b8 w9 =>
 doSt ((blk b8).add 0) (.func (.func 136) #[] #[.pointer (some x4), .pointer (some (blk b6)), .pointer (some (blk b8))]) w9 (fun w10 =>
 ∃ (xf11 : Fn), ∃ (xx12 : Array Value), ∃ (xc13 : Array Value), World.cell? w10 (blk b8) = some (.func xf11 xx12 xc13) ∧ (
 ∃ (x14 : Option Addr), World.cell? w10 x5 = some (.pointer x14) ∧ (
 doCall Tryz.prog (.func xf11 xx12 xc13) #[.pointer x14, .func (.func 139) #[] #[]] w10 (retS (fun v16 w17 => ∃ (x15 : Bool), v16 = (.bool x15 : Value) ∧ (
 R (.returned (.tuple #[])) w17)) (fun ch w => Kfn R ch [] w)))))))
set_option maxRecDepth 100000 in
theorem sh135_ok (yield_f1 : Fn) (yield_x2 : Array Value) (yield_c3 : Array Value) (x4 : Addr) (x5 : Addr) {R : Ending → World → Prop} {w : World} : sh135 yield_f1 yield_x2 yield_c3 x4 x5 R w → Calls Tryz.prog 135 #[.func yield_f1 yield_x2 yield_c3, .pointer (some x4), .pointer (some x5)] w R :=
  calls_of_eq (ann := fun _ => []) (fn := Tryz.f135) (c := bodyOf Tryz.f135) (args := #[.func yield_f1 yield_x2 yield_c3, .pointer (some x4), .pointer (some x5)]) 400 follows_mixed Tryz.func135 (by kernel_rfl) (by kernel_rfl)
set_option maxRecDepth 100000 in
/-- joinery/sound.beads$1$1 -/
def sh136 (n_1 : Option Addr) (may_f2 : Fn) (may_x3 : Array Value) (may_c4 : Array Value) (x5 : Addr) (x6 : Addr) (x7 : Addr) (R : Ending → World → Prop) (w : World) : Prop :=
 doAl (.cells #[.pointer n_1] 29) w (fun b8 w9 =>
 doAl (.cells #[.func may_f2 may_x3 may_c4] 201) w9 (fun b10 w11 =>
 ∃ (x12 : Option Addr), World.cell? w11 (blk b8) = some (.pointer x12) ∧ (
 ifB ((x12).isNone) (
 R (.returned (.bool true)) w11) (
 let K15 : Bool → World → Prop := fun (x13 : Bool) (w14 : World) => 
 R (.returned (.bool x13)) w14
 doDr w11 (fun w17 =>
 ∃ (C16 : World → Prop), C16 w17 ∧ (
 ∃ (xf18 : Fn), ∃ (xx19 : Array Value), ∃ (xc20 : Array Value), (∀ w, C16 w → World.cell? w x6 = some (.func xf18 xx19 xc20)) ∧ (
 ∃ (x21 : Option Addr), (∀ w, C16 w → World.cell? w (blk b8) = some (.pointer x21)) ∧ (
 ∃ (xf22 : Fn), ∃ (xx23 : Array Value), ∃ (xc24 : Array Value), (∀ w, C16 w → World.cell? w (blk b10) = some (.func xf22 xx23 xc24)) ∧ (
 ∃ (x25 : Option Addr), (∀ w, C16 w → World.cell? w (blk b8) = some (.pointer x25)) ∧ (
 doCall Tryz.prog (.func (.func 67) #[] #[]) #[.pointer x25] w17 (retS (fun v27 w28 => ∃ (x26 : Int), v27 = (.int .i64 x26 : Value) ∧ (
 C16 w28 ∧ (
 doCall Tryz.prog (.func xf22 xx23 xc24) #[.int .i64 x26] w28 (retS (fun v30 w31 => ∃ (x29 : Bool), v30 = (.bool x29 : Value) ∧ (
 C16 w31 ∧ (
 doCall Tryz.prog (.func xf18 xx19 xc20) #[.pointer x21, .bool (!x29)] w31 (retS (fun v33 w34 => ∃ (x32 : Bool), v33 = (.bool x32 : Value) ∧ (
 C16 w34 ∧ (
 ifB x32 (
 ∃ (xf35 : Fn), ∃ (xx36 : Array Value), ∃ (xc37 : Array Value), (∀ w, C16 w → World.cell? w x7 = some (.func xf35 xx36 xc37)) ∧ (
 ∃ (x38 : Option Addr), (∀ w, C16 w → World.cell? w (blk b8) = some (.pointer x38)) ∧ (
 doCall Tryz.prog (.func (.func 68) #[] #[]) #[.pointer x38] w34 (retS (fun v40 w41 => ∃ (x39 : Option Addr), v40 = (.pointer x39 : Value) ∧ (
 C16 w41 ∧ (
 doCall Tryz.prog (.func xf35 xx36 xc37) #[.pointer x39, .func (.func 137) #[] #[.pointer (some (blk b10)), .pointer (some x5), .pointer (some (blk b8))]] w41 (retS (fun v43 w44 => ∃ (x42 : Bool), v43 = (.bool x42 : Value) ∧ (
 C16 w44 ∧ (
 ifB x42 (
 ∃ (xf45 : Fn), ∃ (xx46 : Array Value), ∃ (xc47 : Array Value), (∀ w, C16 w → World.cell? w x7 = some (.func xf45 xx46 xc47)) ∧ (
 ∃ (x48 : Option Addr), (∀ w, C16 w → World.cell? w (blk b8) = some (.pointer x48)) ∧ (
 doCall Tryz.prog (.func (.func 66) #[] #[]) #[.pointer x48] w44 (retS (fun v50 w51 => ∃ (x49 : Option Addr), v50 = (.pointer x49 : Value) ∧ (
 C16 w51 ∧ (
 doCall Tryz.prog (.func xf45 xx46 xc47) #[.pointer x49, .func (.func 138) #[] #[.pointer (some (blk b10)), .pointer (some x5), .pointer (some (blk b8))]] w51 (retS (fun v53 w54 => ∃ (x52 : Bool), v53 = (.bool x52 : Value) ∧ (
 C16 w54 ∧ (
 K15 x52 w54))) (fun ch w => Kfn R ch [] w))))) (fun ch w => Kfn R ch [] w))))) (
 R (.returned (.bool false)) w44)))) (fun ch w => Kfn R ch [] w))))) (fun ch w => Kfn R ch [] w))))) (
 R (.returned (.bool false)) w34)))) (fun ch w => Kfn R ch [] w))))) (fun ch w => Kfn R ch [] w))))) (fun ch w => Kfn R ch [] w))))))))))))
set_option maxRecDepth 100000 in
theorem sh136_ok (n_1 : Option Addr) (may_f2 : Fn) (may_x3 : Array Value) (may_c4 : Array Value) (x5 : Addr) (x6 : Addr) (x7 : Addr) {R : Ending → World → Prop} {w : World} : sh136 n_1 may_f2 may_x3 may_c4 x5 x6 x7 R w → Calls Tryz.prog 136 #[.pointer n_1, .func may_f2 may_x3 may_c4, .pointer (some x5), .pointer (some x6), .pointer (some x7)] w R :=
  calls_of_eq (ann := fun _ => []) (fn := Tryz.f136) (c := bodyOf Tryz.f136) (args := #[.pointer n_1, .func may_f2 may_x3 may_c4, .pointer (some x5), .pointer (some x6), .pointer (some x7)]) 400 follows_mixed Tryz.func136 (by kernel_rfl) (by kernel_rfl)
set_option maxRecDepth 100000 in
/-- joinery/sound.beads$1$1$1 -/
def sh137 (key_1 : Int) (x2 : Addr) (x3 : Addr) (x4 : Addr) (R : Ending → World → Prop) (w : World) : Prop :=
 let K7 : Bool → World → Prop := fun (x5 : Bool) (w6 : World) => 
 R (.returned (.bool x5)) w6
 doDr w (fun w9 =>
 ∃ (C8 : World → Prop), C8 w9 ∧ (
 ∃ (xf10 : Fn), ∃ (xx11 : Array Value), ∃ (xc12 : Array Value), (∀ w, C8 w → World.cell? w x2 = some (.func xf10 xx11 xc12)) ∧ (
 doCall Tryz.prog (.func xf10 xx11 xc12) #[.int .i64 key_1] w9 (retS (fun v14 w15 => ∃ (x13 : Bool), v14 = (.bool x13 : Value) ∧ (
 C8 w15 ∧ (
 ifB x13 (
 ∃ (x16 : Int), (∀ w, C8 w → World.cell? w x3 = some (.int .u8 x16)) ∧ (
 ∃ (x17 : Option Addr), (∀ w, C8 w → World.cell? w x4 = some (.pointer x17)) ∧ (
 doCall Tryz.prog (.func (.func 67) #[] #[]) #[.pointer x17] w15 (retS (fun v19 w20 => ∃ (x18 : Int), v19 = (.int .i64 x18 : Value) ∧ (
 C8 w20 ∧ (
 doCall Tryz.prog (.func (.func 64) #[] #[]) #[.int .u8 x16, .int .i64 key_1, .int .i64 x18] w20 (retS (fun v22 w23 => ∃ (x21 : Int), v22 = (.int .i64 x21 : Value) ∧ (
 C8 w23 ∧ (
 K7 (decide ((x21 : Int) < 0)) w23))) (fun ch w => Kfn R ch [] w))))) (fun ch w => Kfn R ch [] w))))) (
 R (.returned (.bool false)) w15)))) (fun ch w => Kfn R ch [] w)))))
set_option maxRecDepth 100000 in
theorem sh137_ok (key_1 : Int) (x2 : Addr) (x3 : Addr) (x4 : Addr) {R : Ending → World → Prop} {w : World} : sh137 key_1 x2 x3 x4 R w → Calls Tryz.prog 137 #[.int .i64 key_1, .pointer (some x2), .pointer (some x3), .pointer (some x4)] w R :=
  calls_of_eq (ann := fun _ => []) (fn := Tryz.f137) (c := bodyOf Tryz.f137) (args := #[.int .i64 key_1, .pointer (some x2), .pointer (some x3), .pointer (some x4)]) 400 follows_mixed Tryz.func137 (by kernel_rfl) (by kernel_rfl)
set_option maxRecDepth 100000 in
/-- joinery/sound.beads$1$1$2 -/
def sh138 (key_1 : Int) (x2 : Addr) (x3 : Addr) (x4 : Addr) (R : Ending → World → Prop) (w : World) : Prop :=
 let K7 : Bool → World → Prop := fun (x5 : Bool) (w6 : World) => 
 R (.returned (.bool x5)) w6
 doDr w (fun w9 =>
 ∃ (C8 : World → Prop), C8 w9 ∧ (
 ∃ (xf10 : Fn), ∃ (xx11 : Array Value), ∃ (xc12 : Array Value), (∀ w, C8 w → World.cell? w x2 = some (.func xf10 xx11 xc12)) ∧ (
 doCall Tryz.prog (.func xf10 xx11 xc12) #[.int .i64 key_1] w9 (retS (fun v14 w15 => ∃ (x13 : Bool), v14 = (.bool x13 : Value) ∧ (
 C8 w15 ∧ (
 ifB x13 (
 ∃ (x16 : Int), (∀ w, C8 w → World.cell? w x3 = some (.int .u8 x16)) ∧ (
 ∃ (x17 : Option Addr), (∀ w, C8 w → World.cell? w x4 = some (.pointer x17)) ∧ (
 doCall Tryz.prog (.func (.func 67) #[] #[]) #[.pointer x17] w15 (retS (fun v19 w20 => ∃ (x18 : Int), v19 = (.int .i64 x18 : Value) ∧ (
 C8 w20 ∧ (
 doCall Tryz.prog (.func (.func 64) #[] #[]) #[.int .u8 x16, .int .i64 key_1, .int .i64 x18] w20 (retS (fun v22 w23 => ∃ (x21 : Int), v22 = (.int .i64 x21 : Value) ∧ (
 C8 w23 ∧ (
 K7 (decide ((x21 : Int) > 0)) w23))) (fun ch w => Kfn R ch [] w))))) (fun ch w => Kfn R ch [] w))))) (
 R (.returned (.bool false)) w15)))) (fun ch w => Kfn R ch [] w)))))
set_option maxRecDepth 100000 in
theorem sh138_ok (key_1 : Int) (x2 : Addr) (x3 : Addr) (x4 : Addr) {R : Ending → World → Prop} {w : World} : sh138 key_1 x2 x3 x4 R w → Calls Tryz.prog 138 #[.int .i64 key_1, .pointer (some x2), .pointer (some x3), .pointer (some x4)] w R :=
  calls_of_eq (ann := fun _ => []) (fn := Tryz.f138) (c := bodyOf Tryz.f138) (args := #[.int .i64 key_1, .pointer (some x2), .pointer (some x3), .pointer (some x4)]) 400 follows_mixed Tryz.func138 (by kernel_rfl) (by kernel_rfl)
set_option maxRecDepth 100000 in
/-- joinery/sound.beads$1$2 -/
def sh139 (_x1 : Int) (R : Ending → World → Prop) (w : World) : Prop :=
 R (.returned (.bool true)) w
set_option maxRecDepth 100000 in
theorem sh139_ok (x1 : Int) {R : Ending → World → Prop} {w : World} : sh139 x1 R w → Calls Tryz.prog 139 #[.int .i64 x1] w R :=
  calls_of_eq (ann := fun _ => []) (fn := Tryz.f139) (c := bodyOf Tryz.f139) (args := #[.int .i64 x1]) 400 follows_mixed Tryz.func139 (by kernel_rfl) (by kernel_rfl)
set_option maxRecDepth 100000 in
/-- joinery/fold.kinds$1 -/
def sh140 (a_1 : Int) (_x2 : Int) (R : Ending → World → Prop) (w : World) : Prop :=
 R (.returned (.int .i64 a_1)) w
set_option maxRecDepth 100000 in
theorem sh140_ok (a_1 : Int) (x2 : Int) {R : Ending → World → Prop} {w : World} : sh140 a_1 x2 R w → Calls Tryz.prog 140 #[.int .i64 a_1, .int .i64 x2] w R :=
  calls_of_eq (ann := fun _ => []) (fn := Tryz.f140) (c := bodyOf Tryz.f140) (args := #[.int .i64 a_1, .int .i64 x2]) 400 follows_mixed Tryz.func140 (by kernel_rfl) (by kernel_rfl)
set_option maxRecDepth 100000 in
/-- joinery/fold.kinds$2 -/
def sh141 (_x1 : Int) (b_2 : Int) (R : Ending → World → Prop) (w : World) : Prop :=
 R (.returned (.int .i64 b_2)) w
set_option maxRecDepth 100000 in
theorem sh141_ok (x1 : Int) (b_2 : Int) {R : Ending → World → Prop} {w : World} : sh141 x1 b_2 R w → Calls Tryz.prog 141 #[.int .i64 x1, .int .i64 b_2] w R :=
  calls_of_eq (ann := fun _ => []) (fn := Tryz.f141) (c := bodyOf Tryz.f141) (args := #[.int .i64 x1, .int .i64 b_2]) 400 follows_mixed Tryz.func141 (by kernel_rfl) (by kernel_rfl)
set_option maxRecDepth 100000 in
/-- joinery/fold.kinds$3 -/
def sh142 (a_1 : Int) (b_2 : Int) (R : Ending → World → Prop) (w : World) : Prop :=
 R (.returned (.int .i64 (IntKind.wrap .i64 (a_1 + b_2)))) w
set_option maxRecDepth 100000 in
theorem sh142_ok (a_1 : Int) (b_2 : Int) {R : Ending → World → Prop} {w : World} : sh142 a_1 b_2 R w → Calls Tryz.prog 142 #[.int .i64 a_1, .int .i64 b_2] w R :=
  calls_of_eq (ann := fun _ => []) (fn := Tryz.f142) (c := bodyOf Tryz.f142) (args := #[.int .i64 a_1, .int .i64 b_2]) 400 follows_mixed Tryz.func142 (by kernel_rfl) (by kernel_rfl)
set_option maxRecDepth 100000 in
/-- joinery/avl.Make -/
def sh143 (l_1 : Option Addr) (key_2 : Int) (val_3 : Int) (r_4 : Option Addr) (R : Ending → World → Prop) (w : World) : Prop :=
 doCall Tryz.prog (.func (.func 126) #[] #[]) #[.pointer l_1] w (retS (fun v6 w7 => ∃ (x5 : Int), v6 = (.int .u64 x5 : Value) ∧ (
 doCall Tryz.prog (.func (.func 126) #[] #[]) #[.pointer r_4] w7 (retS (fun v9 w10 => ∃ (x8 : Int), v9 = (.int .u64 x8 : Value) ∧ (
 doGo Tryz.prog (.builtin .max #[31, 31] 31 #[false, false]) #[.int .u64 x5, .int .u64 x8] w10 (retS (fun v12 w13 => ∃ (x11 : Int), v12 = (.int .u64 x11 : Value) ∧ (
 doCall Tryz.prog (.func (.func 27) #[] #[]) #[.pointer l_1, .int .i64 key_2, .int .i64 val_3, .int .u64 (IntKind.wrap .u64 (x11 + 1)), .pointer r_4] w13 (retS (fun v15 w16 => ∃ (x14 : Option Addr), v15 = (.pointer x14 : Value) ∧ (
 R (.returned (.pointer x14)) w16)) (fun ch w => Kfn R ch [] w)))) (fun ch w => Kfn R ch [] w)))) (fun ch w => Kfn R ch [] w)))) (fun ch w => Kfn R ch [] w))
set_option maxRecDepth 100000 in
theorem sh143_ok (l_1 : Option Addr) (key_2 : Int) (val_3 : Int) (r_4 : Option Addr) {R : Ending → World → Prop} {w : World} : sh143 l_1 key_2 val_3 r_4 R w → Calls Tryz.prog 143 #[.pointer l_1, .int .i64 key_2, .int .i64 val_3, .pointer r_4] w R :=
  calls_of_eq (ann := fun _ => []) (fn := Tryz.f143) (c := bodyOf Tryz.f143) (args := #[.pointer l_1, .int .i64 key_2, .int .i64 val_3, .pointer r_4]) 400 follows_mixed Tryz.func143 (by kernel_rfl) (by kernel_rfl)
set_option maxRecDepth 100000 in
/-- joinery/avljoin.right -/
def sh144  (R : Ending → World → Prop) (w : World) : Prop :=
 doAl (.cells #[.nilFunc, .nilFunc, .nilFunc] 204) w (fun b1 w2 =>
 doSt ((blk b1).add 0) (.func (.func 68) #[] #[]) w2 (fun w3 =>
 doSt ((blk b1).add 1) (.func (.func 66) #[] #[]) w3 (fun w4 =>
 doSt ((blk b1).add 2) (.func (.func 185) #[] #[]) w4 (fun w5 =>
 ∃ (xf6 : Fn), ∃ (xx7 : Array Value), ∃ (xc8 : Array Value), World.cell? w5 ((blk b1).add 0) = some (.func xf6 xx7 xc8) ∧ (
 ∃ (xf9 : Fn), ∃ (xx10 : Array Value), ∃ (xc11 : Array Value), World.cell? w5 ((blk b1).add 1) = some (.func xf9 xx10 xc11) ∧ (
 ∃ (xf12 : Fn), ∃ (xx13 : Array Value), ∃ (xc14 : Array Value), World.cell? w5 ((blk b1).add 2) = some (.func xf12 xx13 xc14) ∧ (
 R (.returned (.agg #[.func xf6 xx7 xc8, .func xf9 xx10 xc11, .func xf12 xx13 xc14])) w5)))))))
set_option maxRecDepth 100000 in
theorem sh144_ok  {R : Ending → World → Prop} {w : World} : sh144  R w → Calls Tryz.prog 144 #[] w R :=
  calls_of_eq (ann := fun _ => []) (fn := Tryz.f144) (c := bodyOf Tryz.f144) (args := #[]) 400 follows_mixed Tryz.func144 (by kernel_rfl) (by kernel_rfl)
set_option maxRecDepth 100000 in
/-- (joinery/avljoin.side).hang -/
def sh145 (s_f1 : Fn) (s_x2 : Array Value) (s_c3 : Array Value) (s_f4 : Fn) (s_x5 : Array Value) (s_c6 : Array Value) (s_f7 : Fn) (s_x8 : Array Value) (s_c9 : Array Value) (t_10 : Option Addr) (pair_11 : Option Addr) (low_12 : Option Addr) (R : Ending → World → Prop) (w : World) : Prop :=
 doAl (.cells #[.func s_f1 s_x2 s_c3, .func s_f4 s_x5 s_c6, .func s_f7 s_x8 s_c9] 204) w (fun b13 w14 =>
 doDr w14 (fun w16 =>
 ∃ (C15 : World → Prop), C15 w16 ∧ (
 ∃ (xf17 : Fn), ∃ (xx18 : Array Value), ∃ (xc19 : Array Value), (∀ w, C15 w → World.cell? w ((blk b13).add 0) = some (.func xf17 xx18 xc19)) ∧ (
 ∃ (xf20 : Fn), ∃ (xx21 : Array Value), ∃ (xc22 : Array Value), (∀ w, C15 w → World.cell? w ((blk b13).add 1) = some (.func xf20 xx21 xc22)) ∧ (
 doCall Tryz.prog (.func xf17 xx18 xc19) #[.pointer t_10] w16 (retS (fun v24 w25 => ∃ (x23 : Option Addr), v24 = (.pointer x23 : Value) ∧ (
 C15 w25 ∧ (
 doCall Tryz.prog (.func xf20 xx21 xc22) #[.pointer t_10] w25 (retS (fun v27 w28 => ∃ (x26 : Option Addr), v27 = (.pointer x26 : Value) ∧ (
 C15 w28 ∧ (
 let K31 : Bool → World → Prop := fun (base_29 : Bool) (w30 : World) => 
 let K34 : (Option Addr) → World → Prop := fun (x_32 : Option Addr) (w33 : World) => 
 doCall Tryz.prog (.func (.func 105) #[] #[]) #[.pointer x_32] w33 (retS (fun v36 w37 => ∃ (x35 : Int), v36 = (.int .i64 x35 : Value) ∧ (
 doCall Tryz.prog (.func (.func 105) #[] #[]) #[.pointer x23] w37 (retS (fun v39 w40 => ∃ (x38 : Int), v39 = (.int .i64 x38 : Value) ∧ (
 ifB (decide ((x35 : Int) ≤ (IntKind.wrap .i64 (x38 + 1)))) (
 ∃ (xf41 : Fn), ∃ (xx42 : Array Value), ∃ (xc43 : Array Value), World.cell? w40 ((blk b13).add 2) = some (.func xf41 xx42 xc43) ∧ (
 doCall Tryz.prog (.func xf41 xx42 xc43) #[.pointer x23, .pointer t_10, .pointer x_32] w40 (retS (fun v45 w46 => ∃ (x44 : Option Addr), v45 = (.pointer x44 : Value) ∧ (
 R (.returned (.pointer x44)) w46)) (fun ch w => Kfn R ch [] w)))) (
 ifB base_29 (
 doDr w40 (fun w48 =>
 ∃ (C47 : World → Prop), C47 w48 ∧ (
 ∃ (xf49 : Fn), ∃ (xx50 : Array Value), ∃ (xc51 : Array Value), (∀ w, C47 w → World.cell? w ((blk b13).add 0) = some (.func xf49 xx50 xc51)) ∧ (
 ∃ (xf52 : Fn), ∃ (xx53 : Array Value), ∃ (xc54 : Array Value), (∀ w, C47 w → World.cell? w ((blk b13).add 1) = some (.func xf52 xx53 xc54)) ∧ (
 ∃ (xf55 : Fn), ∃ (xx56 : Array Value), ∃ (xc57 : Array Value), (∀ w, C47 w → World.cell? w ((blk b13).add 2) = some (.func xf55 xx56 xc57)) ∧ (
 ∃ (xf58 : Fn), ∃ (xx59 : Array Value), ∃ (xc60 : Array Value), (∀ w, C47 w → World.cell? w ((blk b13).add 2) = some (.func xf58 xx59 xc60)) ∧ (
 ∃ (xf61 : Fn), ∃ (xx62 : Array Value), ∃ (xc63 : Array Value), (∀ w, C47 w → World.cell? w ((blk b13).add 0) = some (.func xf61 xx62 xc63)) ∧ (
 ∃ (xf64 : Fn), ∃ (xx65 : Array Value), ∃ (xc66 : Array Value), (∀ w, C47 w → World.cell? w ((blk b13).add 1) = some (.func xf64 xx65 xc66)) ∧ (
 ∃ (xf67 : Fn), ∃ (xx68 : Array Value), ∃ (xc69 : Array Value), (∀ w, C47 w → World.cell? w ((blk b13).add 2) = some (.func xf67 xx68 xc69)) ∧ (
 doCall Tryz.prog (.func (.func 187) #[] #[]) #[.agg #[.func xf61 xx62 xc63, .func xf64 xx65 xc66, .func xf67 xx68 xc69], .pointer x_32] w48 (retS (fun v71 w72 => ∃ (x70 : Option Addr), v71 = (.pointer x70 : Value) ∧ (
 C47 w72 ∧ (
 doCall Tryz.prog (.func xf58 xx59 xc60) #[.pointer x23, .pointer t_10, .pointer x70] w72 (retS (fun v74 w75 => ∃ (x73 : Option Addr), v74 = (.pointer x73 : Value) ∧ (
 C47 w75 ∧ (
 doCall Tryz.prog (.func (.func 186) #[] #[]) #[.agg #[.func xf49 xx50 xc51, .func xf52 xx53 xc54, .func xf55 xx56 xc57], .pointer x73] w75 (retS (fun v77 w78 => ∃ (x76 : Option Addr), v77 = (.pointer x76 : Value) ∧ (
 C47 w78 ∧ (
 R (.returned (.pointer x76)) w78))) (fun ch w => Kfn R ch [] w))))) (fun ch w => Kfn R ch [] w))))) (fun ch w => Kfn R ch [] w)))))))))))) (
 doDr w40 (fun w80 =>
 ∃ (C79 : World → Prop), C79 w80 ∧ (
 ∃ (xf81 : Fn), ∃ (xx82 : Array Value), ∃ (xc83 : Array Value), (∀ w, C79 w → World.cell? w ((blk b13).add 0) = some (.func xf81 xx82 xc83)) ∧ (
 ∃ (xf84 : Fn), ∃ (xx85 : Array Value), ∃ (xc86 : Array Value), (∀ w, C79 w → World.cell? w ((blk b13).add 1) = some (.func xf84 xx85 xc86)) ∧ (
 ∃ (xf87 : Fn), ∃ (xx88 : Array Value), ∃ (xc89 : Array Value), (∀ w, C79 w → World.cell? w ((blk b13).add 2) = some (.func xf87 xx88 xc89)) ∧ (
 ∃ (xf90 : Fn), ∃ (xx91 : Array Value), ∃ (xc92 : Array Value), (∀ w, C79 w → World.cell? w ((blk b13).add 2) = some (.func xf90 xx91 xc92)) ∧ (
 doCall Tryz.prog (.func xf90 xx91 xc92) #[.pointer x23, .pointer t_10, .pointer x_32] w80 (retS (fun v94 w95 => ∃ (x93 : Option Addr), v94 = (.pointer x93 : Value) ∧ (
 C79 w95 ∧ (
 doCall Tryz.prog (.func (.func 186) #[] #[]) #[.agg #[.func xf81 xx82 xc83, .func xf84 xx85 xc86, .func xf87 xx88 xc89], .pointer x93] w95 (retS (fun v97 w98 => ∃ (x96 : Option Addr), v97 = (.pointer x96 : Value) ∧ (
 C79 w98 ∧ (
 R (.returned (.pointer x96)) w98))) (fun ch w => Kfn R ch [] w))))) (fun ch w => Kfn R ch [] w)))))))))))) (fun ch w => Kfn R ch [] w)))) (fun ch w => Kfn R ch [] w))
 ifB base_29 (
 ∃ (xf99 : Fn), ∃ (xx100 : Array Value), ∃ (xc101 : Array Value), World.cell? w30 ((blk b13).add 2) = some (.func xf99 xx100 xc101) ∧ (
 doCall Tryz.prog (.func xf99 xx100 xc101) #[.pointer x26, .pointer pair_11, .pointer low_12] w30 (retS (fun v103 w104 => ∃ (x102 : Option Addr), v103 = (.pointer x102 : Value) ∧ (
 K34 x102 w104)) (fun ch w => Kfn R ch [] w)))) (
 ∃ (xf105 : Fn), ∃ (xx106 : Array Value), ∃ (xc107 : Array Value), World.cell? w30 ((blk b13).add 0) = some (.func xf105 xx106 xc107) ∧ (
 ∃ (xf108 : Fn), ∃ (xx109 : Array Value), ∃ (xc110 : Array Value), World.cell? w30 ((blk b13).add 1) = some (.func xf108 xx109 xc110) ∧ (
 ∃ (xf111 : Fn), ∃ (xx112 : Array Value), ∃ (xc113 : Array Value), World.cell? w30 ((blk b13).add 2) = some (.func xf111 xx112 xc113) ∧ (
 doCall Tryz.prog (.func (.func 145) #[] #[]) #[.agg #[.func xf105 xx106 xc107, .func xf108 xx109 xc110, .func xf111 xx112 xc113], .pointer x26, .pointer pair_11, .pointer low_12] w30 (retS (fun v115 w116 => ∃ (x114 : Option Addr), v115 = (.pointer x114 : Value) ∧ (
 K34 x114 w116)) (fun ch w => Kfn R ch [] w))))))
 ifB ((x26).isNone) (
 K31 true w28) (
 doCall Tryz.prog (.func (.func 105) #[] #[]) #[.pointer x26] w28 (retS (fun v118 w119 => ∃ (x117 : Int), v118 = (.int .i64 x117 : Value) ∧ (
 doCall Tryz.prog (.func (.func 105) #[] #[]) #[.pointer low_12] w119 (retS (fun v121 w122 => ∃ (x120 : Int), v121 = (.int .i64 x120 : Value) ∧ (
 K31 (decide ((x117 : Int) ≤ (IntKind.wrap .i64 (x120 + 1)))) w122)) (fun ch w => Kfn R ch [] w)))) (fun ch w => Kfn R ch [] w)))))) (fun ch w => Kfn R ch [] w))))) (fun ch w => Kfn R ch [] w)))))))
set_option maxRecDepth 100000 in
theorem sh145_ok (s_f1 : Fn) (s_x2 : Array Value) (s_c3 : Array Value) (s_f4 : Fn) (s_x5 : Array Value) (s_c6 : Array Value) (s_f7 : Fn) (s_x8 : Array Value) (s_c9 : Array Value) (t_10 : Option Addr) (pair_11 : Option Addr) (low_12 : Option Addr) {R : Ending → World → Prop} {w : World} : sh145 s_f1 s_x2 s_c3 s_f4 s_x5 s_c6 s_f7 s_x8 s_c9 t_10 pair_11 low_12 R w → Calls Tryz.prog 145 #[.agg #[.func s_f1 s_x2 s_c3, .func s_f4 s_x5 s_c6, .func s_f7 s_x8 s_c9], .pointer t_10, .pointer pair_11, .pointer low_12] w R :=
  calls_of_eq (ann := fun _ => []) (fn := Tryz.f145) (c := bodyOf Tryz.f145) (args := #[.agg #[.func s_f1 s_x2 s_c3, .func s_f4 s_x5 s_c6, .func s_f7 s_x8 s_c9], .pointer t_10, .pointer pair_11, .pointer low_12]) 400 follows_mixed Tryz.func145 (by kernel_rfl) (by kernel_rfl)
set_option maxRecDepth 100000 in
/-- joinery/avljoin.left -/
def sh146  (R : Ending → World → Prop) (w : World) : Prop :=
 doAl (.cells #[.nilFunc, .nilFunc, .nilFunc] 204) w (fun b1 w2 =>
 doSt ((blk b1).add 0) (.func (.func 66) #[] #[]) w2 (fun w3 =>
 doSt ((blk b1).add 1) (.func (.func 68) #[] #[]) w3 (fun w4 =>
 doSt ((blk b1).add 2) (.func (.func 188) #[] #[]) w4 (fun w5 =>
 ∃ (xf6 : Fn), ∃ (xx7 : Array Value), ∃ (xc8 : Array Value), World.cell? w5 ((blk b1).add 0) = some (.func xf6 xx7 xc8) ∧ (
 ∃ (xf9 : Fn), ∃ (xx10 : Array Value), ∃ (xc11 : Array Value), World.cell? w5 ((blk b1).add 1) = some (.func xf9 xx10 xc11) ∧ (
 ∃ (xf12 : Fn), ∃ (xx13 : Array Value), ∃ (xc14 : Array Value), World.cell? w5 ((blk b1).add 2) = some (.func xf12 xx13 xc14) ∧ (
 R (.returned (.agg #[.func xf6 xx7 xc8, .func xf9 xx10 xc11, .func xf12 xx13 xc14])) w5)))))))
set_option maxRecDepth 100000 in
theorem sh146_ok  {R : Ending → World → Prop} {w : World} : sh146  R w → Calls Tryz.prog 146 #[] w R :=
  calls_of_eq (ann := fun _ => []) (fn := Tryz.f146) (c := bodyOf Tryz.f146) (args := #[]) 400 follows_mixed Tryz.func146 (by kernel_rfl) (by kernel_rfl)
set_option maxRecDepth 100000 in
/-- joinery/avl.looks -/
def sh147  (R : Ending → World → Prop) (w : World) : Prop :=
 doAl (.cells #[.nilFunc] 229) w (fun b1 w2 =>
 doSt ((blk b1).add 0) (.func (.func 189) #[] #[]) w2 (fun w3 =>
 doAl (.cells #[.func (.func 190) #[] #[.pointer (some (blk b1))], .int .i64 140, .func (.func 191) #[] #[.pointer (some (blk b1))], .int .i64 8] 212) w3 (fun b4 w5 =>
 R (.returned (.slice (some (blk b4)) 2 2)) w5)))
set_option maxRecDepth 100000 in
theorem sh147_ok  {R : Ending → World → Prop} {w : World} : sh147  R w → Calls Tryz.prog 147 #[] w R :=
  calls_of_eq (ann := fun _ => []) (fn := Tryz.f147) (c := bodyOf Tryz.f147) (args := #[]) 400 follows_mixed Tryz.func147 (by kernel_rfl) (by kernel_rfl)
set_option maxRecDepth 100000 in
/-- joinery/avl.beads -/
def sh148 (t_1 : Option Addr) (R : Ending → World → Prop) (w : World) : Prop :=
 doAl (.cells #[.pointer t_1] 29) w (fun b2 w3 =>
 R (.returned (.func (.func 192) #[] #[.pointer (some (blk b2))])) w3)
set_option maxRecDepth 100000 in
theorem sh148_ok (t_1 : Option Addr) {R : Ending → World → Prop} {w : World} : sh148 t_1 R w → Calls Tryz.prog 148 #[.pointer t_1] w R :=
  calls_of_eq (ann := fun _ => []) (fn := Tryz.f148) (c := bodyOf Tryz.f148) (args := #[.pointer t_1]) 400 follows_mixed Tryz.func148 (by kernel_rfl) (by kernel_rfl)
set_option maxRecDepth 100000 in
/-- joinery/rb.Make -/
def sh149 (l_1 : Option Addr) (key_2 : Int) (val_3 : Int) (is_4 : Bool) (r_5 : Option Addr) (R : Ending → World → Prop) (w : World) : Prop :=
 doCall Tryz.prog (.func (.func 195) #[] #[]) #[.pointer l_1] w (retS (fun v8 w9 => ∃ (x6 : Int), ∃ (x7 : Int), v8 = (.agg #[.int .u64 x6, .int .u64 x7] : Value) ∧ (
 doCall Tryz.prog (.func (.func 194) #[] #[]) #[.int .u64 x7, .bool is_4] w9 (retS (fun v12 w13 => ∃ (x10 : Int), ∃ (x11 : Int), v12 = (.agg #[.int .u64 x10, .int .u64 x11] : Value) ∧ (
 doCall Tryz.prog (.func (.func 196) #[] #[]) #[.agg #[.int .u64 x10, .int .u64 x11]] w13 (retS (fun v15 w16 => ∃ (x14 : Int), v15 = (.int .u64 x14 : Value) ∧ (
 doCall Tryz.prog (.func (.func 27) #[] #[]) #[.pointer l_1, .int .i64 key_2, .int .i64 val_3, .int .u64 x14, .pointer r_5] w16 (retS (fun v18 w19 => ∃ (x17 : Option Addr), v18 = (.pointer x17 : Value) ∧ (
 R (.returned (.pointer x17)) w19)) (fun ch w => Kfn R ch [] w)))) (fun ch w => Kfn R ch [] w)))) (fun ch w => Kfn R ch [] w)))) (fun ch w => Kfn R ch [] w))
set_option maxRecDepth 100000 in
theorem sh149_ok (l_1 : Option Addr) (key_2 : Int) (val_3 : Int) (is_4 : Bool) (r_5 : Option Addr) {R : Ending → World → Prop} {w : World} : sh149 l_1 key_2 val_3 is_4 r_5 R w → Calls Tryz.prog 149 #[.pointer l_1, .int .i64 key_2, .int .i64 val_3, .bool is_4, .pointer r_5] w R :=
  calls_of_eq (ann := fun _ => []) (fn := Tryz.f149) (c := bodyOf Tryz.f149) (args := #[.pointer l_1, .int .i64 key_2, .int .i64 val_3, .bool is_4, .pointer r_5]) 400 follows_mixed Tryz.func149 (by kernel_rfl) (by kernel_rfl)
set_option maxRecDepth 100000 in
/-- joinery/rb.High -/
def sh150 (t_1 : Option Addr) (R : Ending → World → Prop) (w : World) : Prop :=
 doCall Tryz.prog (.func (.func 195) #[] #[]) #[.pointer t_1] w (retS (fun v4 w5 => ∃ (x2 : Int), ∃ (x3 : Int), v4 = (.agg #[.int .u64 x2, .int .u64 x3] : Value) ∧ (
 R (.returned (.int .i64 (IntKind.wrap .i64 x3))) w5)) (fun ch w => Kfn R ch [] w))
set_option maxRecDepth 100000 in
theorem sh150_ok (t_1 : Option Addr) {R : Ending → World → Prop} {w : World} : sh150 t_1 R w → Calls Tryz.prog 150 #[.pointer t_1] w R :=
  calls_of_eq (ann := fun _ => []) (fn := Tryz.f150) (c := bodyOf Tryz.f150) (args := #[.pointer t_1]) 400 follows_mixed Tryz.func150 (by kernel_rfl) (by kernel_rfl)
set_option maxRecDepth 100000 in
/-- joinery/rbjoin.hang -/
def sh151 (s_1 : Value) (t_2 : Option Addr) (pair_3 : Option Addr) (low_4 : Option Addr) (R : Ending → World → Prop) (w : World) : Prop :=
 let K6 : World → Prop := fun (w5 : World) => 
 doGo Tryz.prog (.fn (.method "joinery/rbjoin.out") #[]) #[s_1, .pointer t_2] w5 (retS (fun v8 w9 => ∃ (x7 : Option Addr), v8 = (.pointer x7 : Value) ∧ (
 doCall Tryz.prog (.func (.func 151) #[] #[]) #[s_1, .pointer x7, .pointer pair_3, .pointer low_4] w9 (retS (fun v11 w12 => ∃ (x10 : Option Addr), v11 = (.pointer x10 : Value) ∧ (
 let K14 : World → Prop := fun (w13 : World) => 
 doDr w13 (fun w15 =>
 doNC Tryz.prog (.func (.method "joinery/rbjoin.make") #[s_1] #[]) (
 doGo Tryz.prog (.fn (.method "joinery/rbjoin.in") #[]) #[s_1, .pointer t_2] w15 (retS (fun v17 w18 => ∃ (x16 : Option Addr), v17 = (.pointer x16 : Value) ∧ (
 doCall Tryz.prog (.func (.func 153) #[] #[]) #[.pointer t_2] w18 (retS (fun v20 w21 => ∃ (x19 : Bool), v20 = (.bool x19 : Value) ∧ (
 doGo Tryz.prog (.fn (.method "joinery/rbjoin.make") #[]) #[s_1, .pointer x16, .pointer t_2, .bool x19, .pointer x10] w21 (retS (fun v23 w24 => ∃ (x22 : Option Addr), v23 = (.pointer x22 : Value) ∧ (
 R (.returned (.pointer x22)) w24)) (fun ch w => Kfn R ch [] w)))) (fun ch w => Kfn R ch [] w)))) (fun ch w => Kfn R ch [] w))))
 let K27 : Bool → World → Prop := fun (x25 : Bool) (w26 : World) => 
 ifB x25 (
 doDr w26 (fun w28 =>
 doNC Tryz.prog (.func (.method "joinery/rbjoin.make") #[s_1] #[]) (
 doNC Tryz.prog (.func (.method "joinery/rbjoin.make") #[s_1] #[]) (
 doGo Tryz.prog (.fn (.method "joinery/rbjoin.in") #[]) #[s_1, .pointer t_2] w28 (retS (fun v30 w31 => ∃ (x29 : Option Addr), v30 = (.pointer x29 : Value) ∧ (
 doGo Tryz.prog (.fn (.method "joinery/rbjoin.in") #[]) #[s_1, .pointer x10] w31 (retS (fun v33 w34 => ∃ (x32 : Option Addr), v33 = (.pointer x32 : Value) ∧ (
 doGo Tryz.prog (.fn (.method "joinery/rbjoin.make") #[]) #[s_1, .pointer x29, .pointer t_2, .bool false, .pointer x32] w34 (retS (fun v36 w37 => ∃ (x35 : Option Addr), v36 = (.pointer x35 : Value) ∧ (
 doGo Tryz.prog (.fn (.method "joinery/rbjoin.out") #[]) #[s_1, .pointer x10] w37 (retS (fun v39 w40 => ∃ (x38 : Option Addr), v39 = (.pointer x38 : Value) ∧ (
 doCall Tryz.prog (.func (.func 113) #[] #[]) #[.pointer x38] w40 (retS (fun v42 w43 => ∃ (x41 : Option Addr), v42 = (.pointer x41 : Value) ∧ (
 doGo Tryz.prog (.fn (.method "joinery/rbjoin.make") #[]) #[s_1, .pointer x35, .pointer x10, .bool true, .pointer x41] w43 (retS (fun v45 w46 => ∃ (x44 : Option Addr), v45 = (.pointer x44 : Value) ∧ (
 R (.returned (.pointer x44)) w46)) (fun ch w => Kfn R ch [] w)))) (fun ch w => Kfn R ch [] w)))) (fun ch w => Kfn R ch [] w)))) (fun ch w => Kfn R ch [] w)))) (fun ch w => Kfn R ch [] w)))) (fun ch w => Kfn R ch [] w)))))) (
 K14 w26)
 doCall Tryz.prog (.func (.func 153) #[] #[]) #[.pointer t_2] w12 (retS (fun v48 w49 => ∃ (x47 : Bool), v48 = (.bool x47 : Value) ∧ (
 ifB (!x47) (
 doCall Tryz.prog (.func (.func 153) #[] #[]) #[.pointer x10] w49 (retS (fun v51 w52 => ∃ (x50 : Bool), v51 = (.bool x50 : Value) ∧ (
 ifB x50 (
 doGo Tryz.prog (.fn (.method "joinery/rbjoin.out") #[]) #[s_1, .pointer x10] w52 (retS (fun v54 w55 => ∃ (x53 : Option Addr), v54 = (.pointer x53 : Value) ∧ (
 doCall Tryz.prog (.func (.func 153) #[] #[]) #[.pointer x53] w55 (retS (fun v57 w58 => ∃ (x56 : Bool), v57 = (.bool x56 : Value) ∧ (
 K27 x56 w58)) (fun ch w => Kfn R ch [] w)))) (fun ch w => Kfn R ch [] w))) (
 K14 w52))) (fun ch w => Kfn R ch [] w))) (
 K14 w49))) (fun ch w => Kfn R ch [] w)))) (fun ch w => Kfn R ch [] w)))) (fun ch w => Kfn R ch [] w))
 let K61 : Bool → World → Prop := fun (x59 : Bool) (w60 : World) => 
 ifB x59 (
 doGo Tryz.prog (.fn (.method "joinery/rbjoin.make") #[]) #[s_1, .pointer t_2, .pointer pair_3, .bool true, .pointer low_4] w60 (retS (fun v63 w64 => ∃ (x62 : Option Addr), v63 = (.pointer x62 : Value) ∧ (
 R (.returned (.pointer x62)) w64)) (fun ch w => Kfn R ch [] w))) (
 K6 w60)
 ifB ((t_2).isNone) (
 doGo Tryz.prog (.fn (.method "joinery/rbjoin.make") #[]) #[s_1, .pointer t_2, .pointer pair_3, .bool true, .pointer low_4] w (retS (fun v66 w67 => ∃ (x65 : Option Addr), v66 = (.pointer x65 : Value) ∧ (
 R (.returned (.pointer x65)) w67)) (fun ch w => Kfn R ch [] w))) (
 doCall Tryz.prog (.func (.func 153) #[] #[]) #[.pointer t_2] w (retS (fun v69 w70 => ∃ (x68 : Bool), v69 = (.bool x68 : Value) ∧ (
 ifB (!x68) (
 doCall Tryz.prog (.func (.func 150) #[] #[]) #[.pointer t_2] w70 (retS (fun v72 w73 => ∃ (x71 : Int), v72 = (.int .i64 x71 : Value) ∧ (
 doCall Tryz.prog (.func (.func 150) #[] #[]) #[.pointer low_4] w73 (retS (fun v75 w76 => ∃ (x74 : Int), v75 = (.int .i64 x74 : Value) ∧ (
 K61 (decide ((x71 : Int) ≤ x74)) w76)) (fun ch w => Kfn R ch [] w)))) (fun ch w => Kfn R ch [] w))) (
 K6 w70))) (fun ch w => Kfn R ch [] w)))
set_option maxRecDepth 100000 in
theorem sh151_ok (s_1 : Value) (t_2 : Option Addr) (pair_3 : Option Addr) (low_4 : Option Addr) {R : Ending → World → Prop} {w : World} : sh151 s_1 t_2 pair_3 low_4 R w → Calls Tryz.prog 151 #[s_1, .pointer t_2, .pointer pair_3, .pointer low_4] w R :=
  calls_of_eq (ann := fun _ => []) (fn := Tryz.f151) (c := bodyOf Tryz.f151) (args := #[s_1, .pointer t_2, .pointer pair_3, .pointer low_4]) 400 follows_mixed Tryz.func151 (by kernel_rfl) (by kernel_rfl)
end Go.Proofs.YthgckfeocalbdaaGreat

namespace Go.Proofs.YthgckfeocalbdaaGreat
open Go Go.Sh
set_option maxRecDepth 100000 in
/-- joinery/rb.first -/
def sh152 (t_1 : Option Addr) (R : Ending → World → Prop) (w : World) : Prop :=
 doAl (.cells #[.int .i64 0] 3) w (fun b2 w3 =>
 doAl (.cells #[.int .i64 0] 34) w3 (fun b4 w5 =>
 doCall Tryz.prog (.func (.func 197) #[] #[]) #[.pointer t_1] w5 (retS (fun v9 w10 => ∃ (xf6 : Fn), ∃ (xx7 : Array Value), ∃ (xc8 : Array Value), v9 = (.func xf6 xx7 xc8 : Value) ∧ (
 rfW Tryz.prog (.func xf6 xx7 xc8) (mkLoop #[.pointer t_1, undef, .pointer (some (blk b2)), .pointer (some (blk b4)), undef, .pointer t_1, .func xf6 xx7 xc8, undef, undef, undef, undef, undef, undef, undef, undef] (rfOf Tryz.f152 0).1 (rfOf Tryz.f152 0).2.1 (rfOf Tryz.f152 0).2.2)
 (fun w11 =>
 ∃ (x12 : Int), World.cell? w11 (blk b2) = some (.int .i64 x12) ∧ (
 doSt ((blk b2).add 0) (.int .i64 x12) w11 (fun w13 =>
 doSt ((blk b4).add 0) (.int .i64 0) w13 (fun w14 =>
 w14.heap[w10.heap.size]? = some (.deferred (some [])) ∧ (
 let w15 : World := w14.putObj w10.heap.size (.deferred none)
 ∃ (x16 : Int), World.cell? w15 (blk b2) = some (.int .i64 x16) ∧ (
 ∃ (x17 : Int), World.cell? w15 (blk b4) = some (.int .i64 x17) ∧ (
 R (.returned (.tuple #[.int .i64 x16, .int .i64 x17])) w15)))))))
 (fun w18 =>
 w18.heap[w10.heap.size]? = some (.deferred (some [])) ∧ (
 let w19 : World := w18.putObj w10.heap.size (.deferred none)
 ∃ (x20 : Int), World.cell? w19 (blk b2) = some (.int .i64 x20) ∧ (
 ∃ (x21 : Int), World.cell? w19 (blk b4) = some (.int .i64 x21) ∧ (
 R (.returned (.tuple #[.int .i64 x20, .int .i64 x21])) w19))))
 [] w10)) (fun ch w => Kfn R ch [] w))))
set_option maxRecDepth 100000 in
theorem sh152_ok (t_1 : Option Addr) {R : Ending → World → Prop} {w : World} : sh152 t_1 R w → Calls Tryz.prog 152 #[.pointer t_1] w R :=
  calls_of_eq (ann := fun _ => []) (fn := Tryz.f152) (c := bodyOf Tryz.f152) (args := #[.pointer t_1]) 400 follows_mixed Tryz.func152 (by kernel_rfl) (by kernel_rfl)
set_option maxRecDepth 100000 in
/-- joinery/rb.first, a round of loop 0 -/
def sh152_0 (at_1 : Addr) (e_2 : Addr) (y16 : Int) (l : Nat) (R : Ending → World → Prop) (w : World) : Prop :=
 ∃ (r17 : Loop), w.heap[l]? = some (.loop r17) ∧ r17.state = .ready ∧ (
 let w18 : World := w.putObj l (.loop { r17 with state := .busy })
 ifB ((y16 : Int) != 0) (
 ∃ (x19 : Int), World.cell? w18 at_1 = some (.int .i64 x19) ∧ (
 doSt (at_1.add 0) (.int .i64 x19) w18 (fun w20 =>
 doSt (e_2.add 0) (.int .i64 y16) w20 (fun w21 =>
 ∃ (r22 : Loop), w21.heap[l]? = some (.loop r22) ∧ R (.returned (.bool false)) (w21.putObj l (.loop { r22 with state := .done, pending := some .ret })))))) (
 ∃ (x23 : Int), World.cell? w18 at_1 = some (.int .i64 x23) ∧ (
 doSt (at_1.add 0) (.int .i64 (IntKind.wrap .i64 (x23 + 1))) w18 (fun w24 =>
 ∃ (r25 : Loop), w24.heap[l]? = some (.loop r25) ∧ R (.returned (.bool true)) (w24.putObj l (.loop { r25 with state := .ready, pending := none }))))))
set_option maxRecDepth 100000 in
theorem sh152_0_ok {dd3 : Value} {dd4 : Value} {dd5 : Value} {dd6 : Value} {dd7 : Value} {dd8 : Value} {dd9 : Value} {dd10 : Value} {dd11 : Value} {dd12 : Value} {dd13 : Value} {dd14 : Value} {dd15 : Value} {at_1 : Addr} {e_2 : Addr} {y16 : Int} {l fn D : Nat} {R : Ending → World → Prop} {w : World} (hl : w.heap[l]? = some (.loop (mkLoop #[dd3, dd4, .pointer (some at_1), .pointer (some e_2), dd5, dd6, dd7, dd8, dd9, dd10, dd11, dd12, dd13, dd14, dd15] (rfOf Tryz.f152 0).1 (rfOf Tryz.f152 0).2.1 (rfOf Tryz.f152 0).2.2 fn D))) : sh152_0 at_1 e_2 y16 l R w → doCall Tryz.prog (.func (.yield l) #[] #[]) #[.int .i64 y16] w R :=
  fun h => ⟨round_of_eq (ann := fun _ => []) 400 follows_mixed hl (by kernel_rfl) (by kernel_rfl) h⟩
set_option maxRecDepth 100000 in
/-- joinery/rb.Red -/
def sh153 (t_1 : Option Addr) (R : Ending → World → Prop) (w : World) : Prop :=
 doCall Tryz.prog (.func (.func 195) #[] #[]) #[.pointer t_1] w (retS (fun v4 w5 => ∃ (x2 : Int), ∃ (x3 : Int), v4 = (.agg #[.int .u64 x2, .int .u64 x3] : Value) ∧ (
 R (.returned (.bool ((x2 : Int) == 1))) w5)) (fun ch w => Kfn R ch [] w))
set_option maxRecDepth 100000 in
theorem sh153_ok (t_1 : Option Addr) {R : Ending → World → Prop} {w : World} : sh153 t_1 R w → Calls Tryz.prog 153 #[.pointer t_1] w R :=
  calls_of_eq (ann := fun _ => []) (fn := Tryz.f153) (c := bodyOf Tryz.f153) (args := #[.pointer t_1]) 400 follows_mixed Tryz.func153 (by kernel_rfl) (by kernel_rfl)
set_option maxRecDepth 100000 in
/-- joinery/wb.Make -/
def sh154 (l_1 : Option Addr) (key_2 : Int) (val_3 : Int) (r_4 : Option Addr) (R : Ending → World → Prop) (w : World) : Prop :=
 doCall Tryz.prog (.func (.func 27) #[] #[]) #[.pointer l_1, .int .i64 key_2, .int .i64 val_3, .int .u64 0, .pointer r_4] w (retS (fun v6 w7 => ∃ (x5 : Option Addr), v6 = (.pointer x5 : Value) ∧ (
 R (.returned (.pointer x5)) w7)) (fun ch w => Kfn R ch [] w))
set_option maxRecDepth 100000 in
theorem sh154_ok (l_1 : Option Addr) (key_2 : Int) (val_3 : Int) (r_4 : Option Addr) {R : Ending → World → Prop} {w : World} : sh154 l_1 key_2 val_3 r_4 R w → Calls Tryz.prog 154 #[.pointer l_1, .int .i64 key_2, .int .i64 val_3, .pointer r_4] w R :=
  calls_of_eq (ann := fun _ => []) (fn := Tryz.f154) (c := bodyOf Tryz.f154) (args := #[.pointer l_1, .int .i64 key_2, .int .i64 val_3, .pointer r_4]) 400 follows_mixed Tryz.func154 (by kernel_rfl) (by kernel_rfl)
set_option maxRecDepth 100000 in
/-- joinery/wb.Weight -/
def sh155 (t_1 : Option Addr) (R : Ending → World → Prop) (w : World) : Prop :=
 doCall Tryz.prog (.func (.func 29) #[] #[]) #[.pointer t_1] w (retS (fun v3 w4 => ∃ (x2 : Int), v3 = (.int .i64 x2 : Value) ∧ (
 R (.returned (.int .i64 (IntKind.wrap .i64 (x2 + 1)))) w4)) (fun ch w => Kfn R ch [] w))
set_option maxRecDepth 100000 in
theorem sh155_ok (t_1 : Option Addr) {R : Ending → World → Prop} {w : World} : sh155 t_1 R w → Calls Tryz.prog 155 #[.pointer t_1] w R :=
  calls_of_eq (ann := fun _ => []) (fn := Tryz.f155) (c := bodyOf Tryz.f155) (args := #[.pointer t_1]) 400 follows_mixed Tryz.func155 (by kernel_rfl) (by kernel_rfl)
set_option maxRecDepth 100000 in
/-- (joinery/wbjoin.side).hang -/
def sh156 (s_1 : Int) (t_2 : Option Addr) (pair_3 : Option Addr) (low_4 : Option Addr) (R : Ending → World → Prop) (w : World) : Prop :=
 let K7 : Bool → World → Prop := fun (x5 : Bool) (w6 : World) => 
 ifB x5 (
 doCall Tryz.prog (.func (.func 198) #[] #[]) #[.int .i64 s_1, .pointer t_2, .pointer pair_3, .pointer low_4] w6 (retS (fun v9 w10 => ∃ (x8 : Option Addr), v9 = (.pointer x8 : Value) ∧ (
 R (.returned (.pointer x8)) w10)) (fun ch w => Kfn R ch [] w))) (
 doCall Tryz.prog (.func (.func 199) #[] #[]) #[.int .i64 s_1] w6 (retS (fun v12 w13 => ∃ (x11 : Int), v12 = (.int .i64 x11 : Value) ∧ (
 doCall Tryz.prog (.func (.func 200) #[] #[]) #[.int .i64 x11, .pointer t_2] w13 (retS (fun v15 w16 => ∃ (x14 : Option Addr), v15 = (.pointer x14 : Value) ∧ (
 doCall Tryz.prog (.func (.func 200) #[] #[]) #[.int .i64 s_1, .pointer t_2] w16 (retS (fun v18 w19 => ∃ (x17 : Option Addr), v18 = (.pointer x17 : Value) ∧ (
 doCall Tryz.prog (.func (.func 156) #[] #[]) #[.int .i64 s_1, .pointer x17, .pointer pair_3, .pointer low_4] w19 (retS (fun v21 w22 => ∃ (x20 : Option Addr), v21 = (.pointer x20 : Value) ∧ (
 doCall Tryz.prog (.func (.func 155) #[] #[]) #[.pointer x14] w22 (retS (fun v24 w25 => ∃ (x23 : Int), v24 = (.int .i64 x23 : Value) ∧ (
 doCall Tryz.prog (.func (.func 155) #[] #[]) #[.pointer x20] w25 (retS (fun v27 w28 => ∃ (x26 : Int), v27 = (.int .i64 x26 : Value) ∧ (
 doCall Tryz.prog (.func (.func 157) #[] #[]) #[.int .i64 x23, .int .i64 x26] w28 (retS (fun v30 w31 => ∃ (x29 : Bool), v30 = (.bool x29 : Value) ∧ (
 ifB x29 (
 doCall Tryz.prog (.func (.func 198) #[] #[]) #[.int .i64 s_1, .pointer x14, .pointer t_2, .pointer x20] w31 (retS (fun v33 w34 => ∃ (x32 : Option Addr), v33 = (.pointer x32 : Value) ∧ (
 R (.returned (.pointer x32)) w34)) (fun ch w => Kfn R ch [] w))) (
 doCall Tryz.prog (.func (.func 199) #[] #[]) #[.int .i64 s_1] w31 (retS (fun v36 w37 => ∃ (x35 : Int), v36 = (.int .i64 x35 : Value) ∧ (
 doCall Tryz.prog (.func (.func 200) #[] #[]) #[.int .i64 x35, .pointer x20] w37 (retS (fun v39 w40 => ∃ (x38 : Option Addr), v39 = (.pointer x38 : Value) ∧ (
 doCall Tryz.prog (.func (.func 155) #[] #[]) #[.pointer x38] w40 (retS (fun v42 w43 => ∃ (x41 : Int), v42 = (.int .i64 x41 : Value) ∧ (
 doCall Tryz.prog (.func (.func 200) #[] #[]) #[.int .i64 s_1, .pointer x20] w43 (retS (fun v45 w46 => ∃ (x44 : Option Addr), v45 = (.pointer x44 : Value) ∧ (
 doCall Tryz.prog (.func (.func 155) #[] #[]) #[.pointer x44] w46 (retS (fun v48 w49 => ∃ (x47 : Int), v48 = (.int .i64 x47 : Value) ∧ (
 doAl (.map #[] 0) w49 (fun b50 w51 =>
 doMu Tryz.prog 242 (.map (some b50)) (.bool true) (.func (.func 201) #[.int .i64 s_1] #[]) w51 (fun w52 =>
 doMu Tryz.prog 242 (.map (some b50)) (.bool false) (.func (.func 202) #[.int .i64 s_1] #[]) w52 (fun w53 =>
 let K56 : (Option Addr) → World → Prop := fun (x54 : Option Addr) (w55 : World) => 
 R (.returned (.pointer x54)) w55
 doCall Tryz.prog (.func (.func 157) #[] #[]) #[.int .i64 x23, .int .i64 x41] w53 (retS (fun v58 w59 => ∃ (x57 : Bool), v58 = (.bool x57 : Value) ∧ (
 ifB x57 (
 doCall Tryz.prog (.func (.func 157) #[] #[]) #[.int .i64 (IntKind.wrap .i64 (x23 + x41)), .int .i64 x47] w59 (retS (fun v61 w62 => ∃ (x60 : Bool), v61 = (.bool x60 : Value) ∧ (
 doLk Tryz.prog 242 (.map (some b50)) (.bool x60) false w62 (fun v66 => (∃ (xf63 : Fn), ∃ (xx64 : Array Value), ∃ (xc65 : Array Value), v66 = (.func xf63 xx64 xc65 : Value) ∧ (
 doCall Tryz.prog (.func xf63 xx64 xc65) #[.pointer x14, .pointer t_2, .pointer x20] w62 (retS (fun v68 w69 => ∃ (x67 : Option Addr), v68 = (.pointer x67 : Value) ∧ (
 K56 x67 w69)) (fun ch w => Kfn R ch [] w)))) ∨ (v66 = (.nilFunc : Value) ∧ (
 doCall Tryz.prog (.nilFunc) #[.pointer x14, .pointer t_2, .pointer x20] w62 (retS (fun v71 w72 => ∃ (x70 : Option Addr), v71 = (.pointer x70 : Value) ∧ (
 K56 x70 w72)) (fun ch w => Kfn R ch [] w))))))) (fun ch w => Kfn R ch [] w))) (
 doLk Tryz.prog 242 (.map (some b50)) (.bool false) false w59 (fun v76 => (∃ (xf73 : Fn), ∃ (xx74 : Array Value), ∃ (xc75 : Array Value), v76 = (.func xf73 xx74 xc75 : Value) ∧ (
 doCall Tryz.prog (.func xf73 xx74 xc75) #[.pointer x14, .pointer t_2, .pointer x20] w59 (retS (fun v78 w79 => ∃ (x77 : Option Addr), v78 = (.pointer x77 : Value) ∧ (
 K56 x77 w79)) (fun ch w => Kfn R ch [] w)))) ∨ (v76 = (.nilFunc : Value) ∧ (
 doCall Tryz.prog (.nilFunc) #[.pointer x14, .pointer t_2, .pointer x20] w59 (retS (fun v81 w82 => ∃ (x80 : Option Addr), v81 = (.pointer x80 : Value) ∧ (
 K56 x80 w82)) (fun ch w => Kfn R ch [] w)))))))) (fun ch w => Kfn R ch [] w))))))) (fun ch w => Kfn R ch [] w)))) (fun ch w => Kfn R ch [] w)))) (fun ch w => Kfn R ch [] w)))) (fun ch w => Kfn R ch [] w)))) (fun ch w => Kfn R ch [] w))))) (fun ch w => Kfn R ch [] w)))) (fun ch w => Kfn R ch [] w)))) (fun ch w => Kfn R ch [] w)))) (fun ch w => Kfn R ch [] w)))) (fun ch w => Kfn R ch [] w)))) (fun ch w => Kfn R ch [] w)))) (fun ch w => Kfn R ch [] w)))
 ifB ((t_2).isNone) (
 doCall Tryz.prog (.func (.func 198) #[] #[]) #[.int .i64 s_1, .pointer t_2, .pointer pair_3, .pointer low_4] w (retS (fun v84 w85 => ∃ (x83 : Option Addr), v84 = (.pointer x83 : Value) ∧ (
 R (.returned (.pointer x83)) w85)) (fun ch w => Kfn R ch [] w))) (
 doCall Tryz.prog (.func (.func 155) #[] #[]) #[.pointer t_2] w (retS (fun v87 w88 => ∃ (x86 : Int), v87 = (.int .i64 x86 : Value) ∧ (
 doCall Tryz.prog (.func (.func 155) #[] #[]) #[.pointer low_4] w88 (retS (fun v90 w91 => ∃ (x89 : Int), v90 = (.int .i64 x89 : Value) ∧ (
 doCall Tryz.prog (.func (.func 157) #[] #[]) #[.int .i64 x86, .int .i64 x89] w91 (retS (fun v93 w94 => ∃ (x92 : Bool), v93 = (.bool x92 : Value) ∧ (
 K7 x92 w94)) (fun ch w => Kfn R ch [] w)))) (fun ch w => Kfn R ch [] w)))) (fun ch w => Kfn R ch [] w)))
set_option maxRecDepth 100000 in
theorem sh156_ok (s_1 : Int) (t_2 : Option Addr) (pair_3 : Option Addr) (low_4 : Option Addr) {R : Ending → World → Prop} {w : World} : sh156 s_1 t_2 pair_3 low_4 R w → Calls Tryz.prog 156 #[.int .i64 s_1, .pointer t_2, .pointer pair_3, .pointer low_4] w R :=
  calls_of_eq (ann := fun _ => []) (fn := Tryz.f156) (c := bodyOf Tryz.f156) (args := #[.int .i64 s_1, .pointer t_2, .pointer pair_3, .pointer low_4]) 400 follows_mixed Tryz.func156 (by kernel_rfl) (by kernel_rfl)
set_option maxRecDepth 100000 in
/-- joinery/wb.Like -/
def sh157 (a_1 : Int) (b_2 : Int) (R : Ending → World → Prop) (w : World) : Prop :=
 let K5 : Bool → World → Prop := fun (x3 : Bool) (w4 : World) => 
 R (.returned (.bool x3)) w4
 doAl (.cells #[.int .i64 a_1, .int .i64 b_2] 3) w (fun b6 w7 =>
 doCall Tryz.prog (.func (.func 203) #[] #[]) #[.int .i64 1, .int .i64 1099511627776, .slice (some (blk b6)) 2 2] w7 (retS (fun v9 w10 => ∃ (x8 : Bool), v9 = (.bool x8 : Value) ∧ (
 ifB x8 (
 doGo Tryz.prog (.builtin .min #[3, 3] 3 #[false, false]) #[.int .i64 a_1, .int .i64 b_2] w10 (retS (fun v12 w13 => ∃ (x11 : Int), v12 = (.int .i64 x11 : Value) ∧ (
 K5 (decide (((IntKind.wrap .i64 (29 * (IntKind.wrap .i64 (a_1 + b_2)))) : Int) ≤ (IntKind.wrap .i64 (100 * x11)))) w13)) (fun ch w => Kfn R ch [] w))) (
 R (.returned (.bool false)) w10))) (fun ch w => Kfn R ch [] w)))
set_option maxRecDepth 100000 in
theorem sh157_ok (a_1 : Int) (b_2 : Int) {R : Ending → World → Prop} {w : World} : sh157 a_1 b_2 R w → Calls Tryz.prog 157 #[.int .i64 a_1, .int .i64 b_2] w R :=
  calls_of_eq (ann := fun _ => []) (fn := Tryz.f157) (c := bodyOf Tryz.f157) (args := #[.int .i64 a_1, .int .i64 b_2]) 400 follows_mixed Tryz.func157 (by kernel_rfl) (by kernel_rfl)
set_option maxRecDepth 100000 in
/-- joinery/joineryref14.Check -/
def sh158 (l_p1 : Option Addr) (l_n2 : Nat) (l_c3 : Nat) (R : Ending → World → Prop) (w : World) : Prop :=
 ifB ((((l_n2 : Nat) : Int) : Int) == 0) (
 R (.returned (.tuple #[.int .i64 0, .int .i64 0])) w) (
 doCall Tryz.prog (.func (.func 204) #[] #[]) #[.slice l_p1 l_n2 l_c3] w (retS (fun v5 w6 => ∃ (x4 : Int), v5 = (.int .i64 x4 : Value) ∧ (
 ifB ((x4 : Int) != 0) (
 R (.returned (.tuple #[.int .i64 0, .int .i64 x4])) w6) (
 doCall Tryz.prog (.func (.func 52) #[] #[]) #[.slice l_p1 l_n2 l_c3] w6 (retS (fun v20 w21 => ∃ (x7 : Int), ∃ (x8 : Int), ∃ (x9 : Int), ∃ (x10 : Int), ∃ (x11 : Int), ∃ (x12 : Bool), ∃ (x13 : Bool), ∃ (xp14 : Option Addr), ∃ (xn15 : Nat), ∃ (xc16 : Nat), ∃ (xp17 : Option Addr), ∃ (xn18 : Nat), ∃ (xc19 : Nat), v20 = (.tuple #[.agg #[.int .i64 x7, .int .i64 x8, .int .i64 x9, .int .i64 x10, .int .u64 x11, .bool x12, .bool x13], .slice xp14 xn15 xc16, .slice xp17 xn18 xc19] : Value) ∧ (
 doAl (.cells #[.int .i64 0, .int .i64 0, .int .i64 0, .int .i64 0, .int .u64 0, .bool false, .bool false] 84) w21 (fun b22 w23 =>
 doSt ((blk b22).add 0) (.int .i64 x7) w23 (fun w24 =>
 doSt ((blk b22).add 1) (.int .i64 x8) w24 (fun w25 =>
 doSt ((blk b22).add 2) (.int .i64 x9) w25 (fun w26 =>
 doSt ((blk b22).add 3) (.int .i64 x10) w26 (fun w27 =>
 doSt ((blk b22).add 4) (.int .u64 x11) w27 (fun w28 =>
 doSt ((blk b22).add 5) (.bool x12) w28 (fun w29 =>
 doSt ((blk b22).add 6) (.bool x13) w29 (fun w30 =>
 doCall Tryz.prog (.func (.func 158) #[] #[]) #[.slice xp14 xn15 xc16] w30 (retS (fun v33 w34 => ∃ (x31 : Int), ∃ (x32 : Int), v33 = (.tuple #[.int .i64 x31, .int .i64 x32] : Value) ∧ (
 ifB ((x32 : Int) != 0) (
 R (.returned (.tuple #[.int .i64 (IntKind.wrap .i64 (1 + x31)), .int .i64 x32])) w34) (
 doCall Tryz.prog (.func (.func 158) #[] #[]) #[.slice xp17 xn18 xc19] w34 (retS (fun v37 w38 => ∃ (x35 : Int), ∃ (x36 : Int), v37 = (.tuple #[.int .i64 x35, .int .i64 x36] : Value) ∧ (
 R (.returned (.tuple #[.int .i64 (IntKind.wrap .i64 ((IntKind.wrap .i64 (1 + x31)) + x35)), .int .i64 x36])) w38)) (fun ch w => Kfn R ch [] w))))) (fun ch w => Kfn R ch [] w)))))))))))) (fun ch w => Kfn R ch [] w))))) (fun ch w => Kfn R ch [] w)))
set_option maxRecDepth 100000 in
theorem sh158_ok (l_p1 : Option Addr) (l_n2 : Nat) (l_c3 : Nat) {R : Ending → World → Prop} {w : World} : sh158 l_p1 l_n2 l_c3 R w → Calls Tryz.prog 158 #[.slice l_p1 l_n2 l_c3] w R :=
  calls_of_eq (ann := fun _ => []) (fn := Tryz.f158) (c := bodyOf Tryz.f158) (args := #[.slice l_p1 l_n2 l_c3]) 400 follows_mixed Tryz.func158 (by kernel_rfl) (by kernel_rfl)
set_option maxRecDepth 100000 in
/-- joinery/joineryref16.Check -/
def sh159 (l_p1 : Option Addr) (l_n2 : Nat) (l_c3 : Nat) (R : Ending → World → Prop) (w : World) : Prop :=
 doCall Tryz.prog (.func (.func 205) #[] #[]) #[.slice l_p1 l_n2 l_c3] w (retS (fun v6 w7 => ∃ (x4 : Int), ∃ (x5 : Int), v6 = (.tuple #[.int .i64 x4, .int .i64 x5] : Value) ∧ (
 let K9 : World → Prop := fun (w8 : World) => 
 R (.returned (.tuple #[.int .i64 x4, .int .i64 x5])) w8
 let K12 : Bool → World → Prop := fun (x10 : Bool) (w11 : World) => 
 ifB x10 (
 R (.returned (.tuple #[.int .i64 0, .int .i64 8])) w11) (
 K9 w11)
 ifB ((x5 : Int) == 0) (
 doCall Tryz.prog (.func (.func 206) #[] #[]) #[.slice l_p1 l_n2 l_c3] w7 (retS (fun v14 w15 => ∃ (x13 : Bool), v14 = (.bool x13 : Value) ∧ (
 K12 x13 w15)) (fun ch w => Kfn R ch [] w))) (
 K9 w7))) (fun ch w => Kfn R ch [] w))
set_option maxRecDepth 100000 in
theorem sh159_ok (l_p1 : Option Addr) (l_n2 : Nat) (l_c3 : Nat) {R : Ending → World → Prop} {w : World} : sh159 l_p1 l_n2 l_c3 R w → Calls Tryz.prog 159 #[.slice l_p1 l_n2 l_c3] w R :=
  calls_of_eq (ann := fun _ => []) (fn := Tryz.f159) (c := bodyOf Tryz.f159) (args := #[.slice l_p1 l_n2 l_c3]) 400 follows_mixed Tryz.func159 (by kernel_rfl) (by kernel_rfl)
set_option maxRecDepth 100000 in
/-- joinery/joineryref18.Check -/
def sh160 (l_p1 : Option Addr) (l_n2 : Nat) (l_c3 : Nat) (R : Ending → World → Prop) (w : World) : Prop :=
 ifB ((((l_n2 : Nat) : Int) : Int) == 0) (
 R (.returned (.tuple #[.int .i64 0, .int .i64 0])) w) (
 doCall Tryz.prog (.func (.func 52) #[] #[]) #[.slice l_p1 l_n2 l_c3] w (retS (fun v17 w18 => ∃ (x4 : Int), ∃ (x5 : Int), ∃ (x6 : Int), ∃ (x7 : Int), ∃ (x8 : Int), ∃ (x9 : Bool), ∃ (x10 : Bool), ∃ (xp11 : Option Addr), ∃ (xn12 : Nat), ∃ (xc13 : Nat), ∃ (xp14 : Option Addr), ∃ (xn15 : Nat), ∃ (xc16 : Nat), v17 = (.tuple #[.agg #[.int .i64 x4, .int .i64 x5, .int .i64 x6, .int .i64 x7, .int .u64 x8, .bool x9, .bool x10], .slice xp11 xn12 xc13, .slice xp14 xn15 xc16] : Value) ∧ (
 doAl (.cells #[.int .i64 0, .int .i64 0, .int .i64 0, .int .i64 0, .int .u64 0, .bool false, .bool false] 84) w18 (fun b19 w20 =>
 doSt ((blk b19).add 0) (.int .i64 x4) w20 (fun w21 =>
 doSt ((blk b19).add 1) (.int .i64 x5) w21 (fun w22 =>
 doSt ((blk b19).add 2) (.int .i64 x6) w22 (fun w23 =>
 doSt ((blk b19).add 3) (.int .i64 x7) w23 (fun w24 =>
 doSt ((blk b19).add 4) (.int .u64 x8) w24 (fun w25 =>
 doSt ((blk b19).add 5) (.bool x9) w25 (fun w26 =>
 doSt ((blk b19).add 6) (.bool x10) w26 (fun w27 =>
 ∃ (x28 : Int), World.cell? w27 ((blk b19).add 4) = some (.int .u64 x28) ∧ (
 ifB ((x28 : Int) != 0) (
 R (.returned (.tuple #[.int .i64 0, .int .i64 140])) w27) (
 doCall Tryz.prog (.func (.func 207) #[] #[]) #[.int .i64 (IntKind.wrap .i64 (((xn12 : Nat) : Int) + 1)), .int .i64 (IntKind.wrap .i64 (((xn15 : Nat) : Int) + 1))] w27 (retS (fun v30 w31 => ∃ (x29 : Bool), v30 = (.bool x29 : Value) ∧ (
 ifB (!x29) (
 R (.returned (.tuple #[.int .i64 0, .int .i64 8])) w31) (
 doCall Tryz.prog (.func (.func 160) #[] #[]) #[.slice xp11 xn12 xc13] w31 (retS (fun v34 w35 => ∃ (x32 : Int), ∃ (x33 : Int), v34 = (.tuple #[.int .i64 x32, .int .i64 x33] : Value) ∧ (
 ifB ((x33 : Int) != 0) (
 R (.returned (.tuple #[.int .i64 (IntKind.wrap .i64 (1 + x32)), .int .i64 x33])) w35) (
 doCall Tryz.prog (.func (.func 160) #[] #[]) #[.slice xp14 xn15 xc16] w35 (retS (fun v38 w39 => ∃ (x36 : Int), ∃ (x37 : Int), v38 = (.tuple #[.int .i64 x36, .int .i64 x37] : Value) ∧ (
 R (.returned (.tuple #[.int .i64 (IntKind.wrap .i64 ((IntKind.wrap .i64 (1 + x32)) + x36)), .int .i64 x37])) w39)) (fun ch w => Kfn R ch [] w))))) (fun ch w => Kfn R ch [] w))))) (fun ch w => Kfn R ch [] w)))))))))))))) (fun ch w => Kfn R ch [] w)))
set_option maxRecDepth 100000 in
theorem sh160_ok (l_p1 : Option Addr) (l_n2 : Nat) (l_c3 : Nat) {R : Ending → World → Prop} {w : World} : sh160 l_p1 l_n2 l_c3 R w → Calls Tryz.prog 160 #[.slice l_p1 l_n2 l_c3] w R :=
  calls_of_eq (ann := fun _ => []) (fn := Tryz.f160) (c := bodyOf Tryz.f160) (args := #[.slice l_p1 l_n2 l_c3]) 400 follows_mixed Tryz.func160 (by kernel_rfl) (by kernel_rfl)
set_option maxRecDepth 100000 in
/-- joinery/joineryref20.Check -/
def sh161 (l_p1 : Option Addr) (l_n2 : Nat) (l_c3 : Nat) (R : Ending → World → Prop) (w : World) : Prop :=
 ifB ((((l_n2 : Nat) : Int) : Int) == 0) (
 R (.returned (.tuple #[.int .i64 0, .int .i64 0])) w) (
 doCall Tryz.prog (.func (.func 52) #[] #[]) #[.slice l_p1 l_n2 l_c3] w (retS (fun v17 w18 => ∃ (x4 : Int), ∃ (x5 : Int), ∃ (x6 : Int), ∃ (x7 : Int), ∃ (x8 : Int), ∃ (x9 : Bool), ∃ (x10 : Bool), ∃ (xp11 : Option Addr), ∃ (xn12 : Nat), ∃ (xc13 : Nat), ∃ (xp14 : Option Addr), ∃ (xn15 : Nat), ∃ (xc16 : Nat), v17 = (.tuple #[.agg #[.int .i64 x4, .int .i64 x5, .int .i64 x6, .int .i64 x7, .int .u64 x8, .bool x9, .bool x10], .slice xp11 xn12 xc13, .slice xp14 xn15 xc16] : Value) ∧ (
 doAl (.cells #[.int .i64 0, .int .i64 0, .int .i64 0, .int .i64 0, .int .u64 0, .bool false, .bool false] 84) w18 (fun b19 w20 =>
 doSt ((blk b19).add 0) (.int .i64 x4) w20 (fun w21 =>
 doSt ((blk b19).add 1) (.int .i64 x5) w21 (fun w22 =>
 doSt ((blk b19).add 2) (.int .i64 x6) w22 (fun w23 =>
 doSt ((blk b19).add 3) (.int .i64 x7) w23 (fun w24 =>
 doSt ((blk b19).add 4) (.int .u64 x8) w24 (fun w25 =>
 doSt ((blk b19).add 5) (.bool x9) w25 (fun w26 =>
 doSt ((blk b19).add 6) (.bool x10) w26 (fun w27 =>
 let K30 : Bool → World → Prop := fun (x28 : Bool) (w29 : World) => 
 ifB x28 (
 R (.returned (.tuple #[.int .i64 0, .int .i64 8])) w29) (
 doCall Tryz.prog (.func (.func 161) #[] #[]) #[.slice xp11 xn12 xc13] w29 (retS (fun v33 w34 => ∃ (x31 : Int), ∃ (x32 : Int), v33 = (.tuple #[.int .i64 x31, .int .i64 x32] : Value) ∧ (
 ifB ((x32 : Int) != 0) (
 R (.returned (.tuple #[.int .i64 (IntKind.wrap .i64 (1 + x31)), .int .i64 x32])) w34) (
 doCall Tryz.prog (.func (.func 161) #[] #[]) #[.slice xp14 xn15 xc16] w34 (retS (fun v37 w38 => ∃ (x35 : Int), ∃ (x36 : Int), v37 = (.tuple #[.int .i64 x35, .int .i64 x36] : Value) ∧ (
 R (.returned (.tuple #[.int .i64 (IntKind.wrap .i64 ((IntKind.wrap .i64 (1 + x31)) + x35)), .int .i64 x36])) w38)) (fun ch w => Kfn R ch [] w))))) (fun ch w => Kfn R ch [] w)))
 ∃ (x39 : Int), World.cell? w27 ((blk b19).add 0) = some (.int .i64 x39) ∧ (
 ∃ (x40 : Int), World.cell? w27 ((blk b19).add 1) = some (.int .i64 x40) ∧ (
 ∃ (x41 : Int), World.cell? w27 ((blk b19).add 2) = some (.int .i64 x41) ∧ (
 ∃ (x42 : Int), World.cell? w27 ((blk b19).add 3) = some (.int .i64 x42) ∧ (
 ∃ (x43 : Int), World.cell? w27 ((blk b19).add 4) = some (.int .u64 x43) ∧ (
 ∃ (x44 : Bool), World.cell? w27 ((blk b19).add 5) = some (.bool x44) ∧ (
 ∃ (x45 : Bool), World.cell? w27 ((blk b19).add 6) = some (.bool x45) ∧ (
 doCall Tryz.prog (.func (.func 208) #[] #[]) #[.slice xp11 xn12 xc13, .agg #[.int .i64 x39, .int .i64 x40, .int .i64 x41, .int .i64 x42, .int .u64 x43, .bool x44, .bool x45]] w27 (retS (fun v47 w48 => ∃ (x46 : Bool), v47 = (.bool x46 : Value) ∧ (
 ifB x46 (
 R (.returned (.tuple #[.int .i64 0, .int .i64 8])) w48) (
 ∃ (x49 : Int), World.cell? w48 ((blk b19).add 0) = some (.int .i64 x49) ∧ (
 ∃ (x50 : Int), World.cell? w48 ((blk b19).add 1) = some (.int .i64 x50) ∧ (
 ∃ (x51 : Int), World.cell? w48 ((blk b19).add 2) = some (.int .i64 x51) ∧ (
 ∃ (x52 : Int), World.cell? w48 ((blk b19).add 3) = some (.int .i64 x52) ∧ (
 ∃ (x53 : Int), World.cell? w48 ((blk b19).add 4) = some (.int .u64 x53) ∧ (
 ∃ (x54 : Bool), World.cell? w48 ((blk b19).add 5) = some (.bool x54) ∧ (
 ∃ (x55 : Bool), World.cell? w48 ((blk b19).add 6) = some (.bool x55) ∧ (
 doCall Tryz.prog (.func (.func 208) #[] #[]) #[.slice xp14 xn15 xc16, .agg #[.int .i64 x49, .int .i64 x50, .int .i64 x51, .int .i64 x52, .int .u64 x53, .bool x54, .bool x55]] w48 (retS (fun v57 w58 => ∃ (x56 : Bool), v57 = (.bool x56 : Value) ∧ (
 K30 x56 w58)) (fun ch w => Kfn R ch [] w)))))))))))) (fun ch w => Kfn R ch [] w))))))))))))))))))) (fun ch w => Kfn R ch [] w)))
set_option maxRecDepth 100000 in
theorem sh161_ok (l_p1 : Option Addr) (l_n2 : Nat) (l_c3 : Nat) {R : Ending → World → Prop} {w : World} : sh161 l_p1 l_n2 l_c3 R w → Calls Tryz.prog 161 #[.slice l_p1 l_n2 l_c3] w R :=
  calls_of_eq (ann := fun _ => []) (fn := Tryz.f161) (c := bodyOf Tryz.f161) (args := #[.slice l_p1 l_n2 l_c3]) 400 follows_mixed Tryz.func161 (by kernel_rfl) (by kernel_rfl)
set_option maxRecDepth 100000 in
/-- joinery/order.up -/
def sh162 (k_1 : Int) (R : Ending → World → Prop) (w : World) : Prop :=
 R (.returned (.int .u64 (bXor .u64 (IntKind.wrap .u64 k_1) 9223372036854775808))) w
set_option maxRecDepth 100000 in
theorem sh162_ok (k_1 : Int) {R : Ending → World → Prop} {w : World} : sh162 k_1 R w → Calls Tryz.prog 162 #[.int .i64 k_1] w R :=
  calls_of_eq (ann := fun _ => []) (fn := Tryz.f162) (c := bodyOf Tryz.f162) (args := #[.int .i64 k_1]) 400 follows_mixed Tryz.func162 (by kernel_rfl) (by kernel_rfl)
set_option maxRecDepth 100000 in
/-- joinery/order.down -/
def sh163 (c_1 : Int) (R : Ending → World → Prop) (w : World) : Prop :=
 R (.returned (.int .i64 (IntKind.wrap .i64 (bXor .u64 c_1 9223372036854775808)))) w
set_option maxRecDepth 100000 in
theorem sh163_ok (c_1 : Int) {R : Ending → World → Prop} {w : World} : sh163 c_1 R w → Calls Tryz.prog 163 #[.int .u64 c_1] w R :=
  calls_of_eq (ann := fun _ => []) (fn := Tryz.f163) (c := bodyOf Tryz.f163) (args := #[.int .u64 c_1]) 400 follows_mixed Tryz.func163 (by kernel_rfl) (by kernel_rfl)
set_option maxRecDepth 100000 in
/-- joinery/order.kinds$1 -/
def sh164 (k_1 : Int) (R : Ending → World → Prop) (w : World) : Prop :=
 doCall Tryz.prog (.func (.func 162) #[] #[]) #[.int .i64 k_1] w (retS (fun v3 w4 => ∃ (x2 : Int), v3 = (.int .u64 x2 : Value) ∧ (
 R (.returned (.int .u64 (bXor .u64 (IntKind.max .u64) x2))) w4)) (fun ch w => Kfn R ch [] w))
set_option maxRecDepth 100000 in
theorem sh164_ok (k_1 : Int) {R : Ending → World → Prop} {w : World} : sh164 k_1 R w → Calls Tryz.prog 164 #[.int .i64 k_1] w R :=
  calls_of_eq (ann := fun _ => []) (fn := Tryz.f164) (c := bodyOf Tryz.f164) (args := #[.int .i64 k_1]) 400 follows_mixed Tryz.func164 (by kernel_rfl) (by kernel_rfl)
set_option maxRecDepth 100000 in
/-- joinery/order.kinds$2 -/
def sh165 (c_1 : Int) (R : Ending → World → Prop) (w : World) : Prop :=
 doCall Tryz.prog (.func (.func 163) #[] #[]) #[.int .u64 (bXor .u64 (IntKind.max .u64) c_1)] w (retS (fun v3 w4 => ∃ (x2 : Int), v3 = (.int .i64 x2 : Value) ∧ (
 R (.returned (.int .i64 x2)) w4)) (fun ch w => Kfn R ch [] w))
set_option maxRecDepth 100000 in
theorem sh165_ok (c_1 : Int) {R : Ending → World → Prop} {w : World} : sh165 c_1 R w → Calls Tryz.prog 165 #[.int .u64 c_1] w R :=
  calls_of_eq (ann := fun _ => []) (fn := Tryz.f165) (c := bodyOf Tryz.f165) (args := #[.int .u64 c_1]) 400 follows_mixed Tryz.func165 (by kernel_rfl) (by kernel_rfl)
set_option maxRecDepth 100000 in
/-- joinery/order.kinds$3 -/
def sh166 (k_1 : Int) (R : Ending → World → Prop) (w : World) : Prop :=
 (0 : Int) ≤ 1 ∧ (
 (0 : Int) ≤ 63 ∧ (
 R (.returned (.int .u64 (IntKind.wrap .u64 (bXor .i64 (IntKind.wrap .i64 (k_1 * 2 ^ (min (1 : Int).toNat (IntKind.bits .i64)))) (Int.fdiv k_1 (2 ^ (min (63 : Int).toNat (IntKind.bits .i64)))))))) w))
set_option maxRecDepth 100000 in
theorem sh166_ok (k_1 : Int) {R : Ending → World → Prop} {w : World} : sh166 k_1 R w → Calls Tryz.prog 166 #[.int .i64 k_1] w R :=
  calls_of_eq (ann := fun _ => []) (fn := Tryz.f166) (c := bodyOf Tryz.f166) (args := #[.int .i64 k_1]) 400 follows_mixed Tryz.func166 (by kernel_rfl) (by kernel_rfl)
set_option maxRecDepth 100000 in
/-- joinery/order.kinds$4 -/
def sh167 (c_1 : Int) (R : Ending → World → Prop) (w : World) : Prop :=
 (0 : Int) ≤ 1 ∧ (
 R (.returned (.int .i64 (bXor .i64 (IntKind.wrap .i64 (Int.fdiv c_1 (2 ^ (min (1 : Int).toNat (IntKind.bits .u64))))) (IntKind.wrap .i64 (0 - (IntKind.wrap .i64 (bAnd .u64 c_1 1))))))) w)
set_option maxRecDepth 100000 in
theorem sh167_ok (c_1 : Int) {R : Ending → World → Prop} {w : World} : sh167 c_1 R w → Calls Tryz.prog 167 #[.int .u64 c_1] w R :=
  calls_of_eq (ann := fun _ => []) (fn := Tryz.f167) (c := bodyOf Tryz.f167) (args := #[.int .u64 c_1]) 400 follows_mixed Tryz.func167 (by kernel_rfl) (by kernel_rfl)
set_option maxRecDepth 100000 in
/-- joinery/order.kinds$5 -/
def sh168 (k_1 : Int) (R : Ending → World → Prop) (w : World) : Prop :=
 doCall Tryz.prog (.func (.func 169) #[] #[]) #[.int .u64 (IntKind.wrap .u64 k_1)] w (retS (fun v3 w4 => ∃ (x2 : Int), v3 = (.int .u64 x2 : Value) ∧ (
 R (.returned (.int .u64 x2)) w4)) (fun ch w => Kfn R ch [] w))
set_option maxRecDepth 100000 in
theorem sh168_ok (k_1 : Int) {R : Ending → World → Prop} {w : World} : sh168 k_1 R w → Calls Tryz.prog 168 #[.int .i64 k_1] w R :=
  calls_of_eq (ann := fun _ => []) (fn := Tryz.f168) (c := bodyOf Tryz.f168) (args := #[.int .i64 k_1]) 400 follows_mixed Tryz.func168 (by kernel_rfl) (by kernel_rfl)
set_option maxRecDepth 100000 in
/-- joinery/mix.Flip -/
def sh169 (x_1 : Int) (R : Ending → World → Prop) (w : World) : Prop :=
 doCall Tryz.prog (.func (.func 209) #[] #[]) #[.int .u64 x_1] w (retS (fun v3 w4 => ∃ (x2 : Int), v3 = (.int .u64 x2 : Value) ∧ (
 R (.returned (.int .u64 x2)) w4)) (fun ch w => Kfn R ch [] w))
set_option maxRecDepth 100000 in
theorem sh169_ok (x_1 : Int) {R : Ending → World → Prop} {w : World} : sh169 x_1 R w → Calls Tryz.prog 169 #[.int .u64 x_1] w R :=
  calls_of_eq (ann := fun _ => []) (fn := Tryz.f169) (c := bodyOf Tryz.f169) (args := #[.int .u64 x_1]) 400 follows_mixed Tryz.func169 (by kernel_rfl) (by kernel_rfl)
end Go.Proofs.YthgckfeocalbdaaGreat

namespace Go.Proofs.YthgckfeocalbdaaGreat
open Go Go.Sh
set_option maxRecDepth 100000 in
/-- joinery/order.kinds$6 -/
def sh170 (c_1 : Int) (R : Ending → World → Prop) (w : World) : Prop :=
 doCall Tryz.prog (.func (.func 169) #[] #[]) #[.int .u64 c_1] w (retS (fun v3 w4 => ∃ (x2 : Int), v3 = (.int .u64 x2 : Value) ∧ (
 R (.returned (.int .i64 (IntKind.wrap .i64 x2))) w4)) (fun ch w => Kfn R ch [] w))
set_option maxRecDepth 100000 in
theorem sh170_ok (c_1 : Int) {R : Ending → World → Prop} {w : World} : sh170 c_1 R w → Calls Tryz.prog 170 #[.int .u64 c_1] w R :=
  calls_of_eq (ann := fun _ => []) (fn := Tryz.f170) (c := bodyOf Tryz.f170) (args := #[.int .u64 c_1]) 400 follows_mixed Tryz.func170 (by kernel_rfl) (by kernel_rfl)
set_option maxRecDepth 100000 in
/-- joinery/order.kinds$7 -/
def sh171 (k_1 : Int) (R : Ending → World → Prop) (w : World) : Prop :=
 doCall Tryz.prog (.func (.func 162) #[] #[]) #[.int .i64 k_1] w (retS (fun v3 w4 => ∃ (x2 : Int), v3 = (.int .u64 x2 : Value) ∧ (
 doCall Tryz.prog (.func (.func 172) #[] #[]) #[.int .u64 x2, .int .i64 (-1)] w4 (retS (fun v6 w7 => ∃ (x5 : Int), v6 = (.int .u64 x5 : Value) ∧ (
 R (.returned (.int .u64 x5)) w7)) (fun ch w => Kfn R ch [] w)))) (fun ch w => Kfn R ch [] w))
set_option maxRecDepth 100000 in
theorem sh171_ok (k_1 : Int) {R : Ending → World → Prop} {w : World} : sh171 k_1 R w → Calls Tryz.prog 171 #[.int .i64 k_1] w R :=
  calls_of_eq (ann := fun _ => []) (fn := Tryz.f171) (c := bodyOf Tryz.f171) (args := #[.int .i64 k_1]) 400 follows_mixed Tryz.func171 (by kernel_rfl) (by kernel_rfl)
set_option maxRecDepth 100000 in
/-- joinery/mix.Turn -/
def sh172 (x_1 : Int) (n_2 : Int) (R : Ending → World → Prop) (w : World) : Prop :=
 64 ≠ (0 : Int) ∧ (
 doCall Tryz.prog (.func (.func 210) #[] #[]) #[.int .u64 x_1, .int .i64 (Int.tmod n_2 64)] w (retS (fun v4 w5 => ∃ (x3 : Int), v4 = (.int .u64 x3 : Value) ∧ (
 R (.returned (.int .u64 x3)) w5)) (fun ch w => Kfn R ch [] w)))
set_option maxRecDepth 100000 in
theorem sh172_ok (x_1 : Int) (n_2 : Int) {R : Ending → World → Prop} {w : World} : sh172 x_1 n_2 R w → Calls Tryz.prog 172 #[.int .u64 x_1, .int .i64 n_2] w R :=
  calls_of_eq (ann := fun _ => []) (fn := Tryz.f172) (c := bodyOf Tryz.f172) (args := #[.int .u64 x_1, .int .i64 n_2]) 400 follows_mixed Tryz.func172 (by kernel_rfl) (by kernel_rfl)
set_option maxRecDepth 100000 in
/-- joinery/order.kinds$8 -/
def sh173 (c_1 : Int) (R : Ending → World → Prop) (w : World) : Prop :=
 doCall Tryz.prog (.func (.func 172) #[] #[]) #[.int .u64 c_1, .int .i64 1] w (retS (fun v3 w4 => ∃ (x2 : Int), v3 = (.int .u64 x2 : Value) ∧ (
 doCall Tryz.prog (.func (.func 163) #[] #[]) #[.int .u64 x2] w4 (retS (fun v6 w7 => ∃ (x5 : Int), v6 = (.int .i64 x5 : Value) ∧ (
 R (.returned (.int .i64 x5)) w7)) (fun ch w => Kfn R ch [] w)))) (fun ch w => Kfn R ch [] w))
set_option maxRecDepth 100000 in
theorem sh173_ok (c_1 : Int) {R : Ending → World → Prop} {w : World} : sh173 c_1 R w → Calls Tryz.prog 173 #[.int .u64 c_1] w R :=
  calls_of_eq (ann := fun _ => []) (fn := Tryz.f173) (c := bodyOf Tryz.f173) (args := #[.int .u64 c_1]) 400 follows_mixed Tryz.func173 (by kernel_rfl) (by kernel_rfl)
set_option maxRecDepth 100000 in
/-- joinery/order.kinds$9 -/
def sh174 (k_1 : Int) (R : Ending → World → Prop) (w : World) : Prop :=
 doCall Tryz.prog (.func (.func 162) #[] #[]) #[.int .i64 k_1] w (retS (fun v3 w4 => ∃ (x2 : Int), v3 = (.int .u64 x2 : Value) ∧ (
 doCall Tryz.prog (.func (.func 172) #[] #[]) #[.int .u64 x2, .int .i64 32] w4 (retS (fun v6 w7 => ∃ (x5 : Int), v6 = (.int .u64 x5 : Value) ∧ (
 R (.returned (.int .u64 x5)) w7)) (fun ch w => Kfn R ch [] w)))) (fun ch w => Kfn R ch [] w))
set_option maxRecDepth 100000 in
theorem sh174_ok (k_1 : Int) {R : Ending → World → Prop} {w : World} : sh174 k_1 R w → Calls Tryz.prog 174 #[.int .i64 k_1] w R :=
  calls_of_eq (ann := fun _ => []) (fn := Tryz.f174) (c := bodyOf Tryz.f174) (args := #[.int .i64 k_1]) 400 follows_mixed Tryz.func174 (by kernel_rfl) (by kernel_rfl)
set_option maxRecDepth 100000 in
/-- joinery/order.kinds$11 -/
def sh176 (k_1 : Int) (R : Ending → World → Prop) (w : World) : Prop :=
 doCall Tryz.prog (.func (.func 177) #[] #[]) #[.int .u64 (IntKind.wrap .u64 k_1)] w (retS (fun v3 w4 => ∃ (x2 : Int), v3 = (.int .u64 x2 : Value) ∧ (
 R (.returned (.int .u64 x2)) w4)) (fun ch w => Kfn R ch [] w))
set_option maxRecDepth 100000 in
theorem sh176_ok (k_1 : Int) {R : Ending → World → Prop} {w : World} : sh176 k_1 R w → Calls Tryz.prog 176 #[.int .i64 k_1] w R :=
  calls_of_eq (ann := fun _ => []) (fn := Tryz.f176) (c := bodyOf Tryz.f176) (args := #[.int .i64 k_1]) 400 follows_mixed Tryz.func176 (by kernel_rfl) (by kernel_rfl)
set_option maxRecDepth 100000 in
/-- joinery/mix.Mix -/
def sh177 (x_1 : Int) (R : Ending → World → Prop) (w : World) : Prop :=
 doAl (.cells #[.int .u64 x_1] 31) w (fun b2 w3 =>
 doCall Tryz.prog (.func (.func 211) #[] #[]) #[.bool false] w3 (retS (fun v7 w8 => ∃ (xf4 : Fn), ∃ (xx5 : Array Value), ∃ (xc6 : Array Value), v7 = (.func xf4 xx5 xc6 : Value) ∧ (
 rfW Tryz.prog (.func xf4 xx5 xc6) (mkLoop #[.int .u64 x_1, .pointer (some (blk b2)), .int .u64 0, undef, .func xf4 xx5 xc6, undef, undef, undef, undef, undef, undef, undef, undef, undef, undef, undef] (rfOf Tryz.f177 0).1 (rfOf Tryz.f177 0).2.1 (rfOf Tryz.f177 0).2.2)
 (fun w9 =>
 ∃ (x10 : Int), World.cell? w9 (blk b2) = some (.int .u64 x10) ∧ (
 w9.heap[w8.heap.size]? = some (.deferred (some [])) ∧ (
 let w11 : World := w9.putObj w8.heap.size (.deferred none)
 R (.returned (.int .u64 x10)) w11)))
 (fun w12 =>
 w12.heap[w8.heap.size]? = some (.deferred (some [])) ∧ (
 let w13 : World := w12.putObj w8.heap.size (.deferred none)
 R (.returned (.int .u64 0)) w13))
 [] w8)) (fun ch w => Kfn R ch [] w)))
set_option maxRecDepth 100000 in
theorem sh177_ok (x_1 : Int) {R : Ending → World → Prop} {w : World} : sh177 x_1 R w → Calls Tryz.prog 177 #[.int .u64 x_1] w R :=
  calls_of_eq (ann := fun _ => []) (fn := Tryz.f177) (c := bodyOf Tryz.f177) (args := #[.int .u64 x_1]) 400 follows_mixed Tryz.func177 (by kernel_rfl) (by kernel_rfl)
set_option maxRecDepth 100000 in
/-- joinery/mix.Mix, a round of loop 0 -/
def sh177_0 (x_1 : Addr) (y17 : Int) (y18 : Int) (l : Nat) (R : Ending → World → Prop) (w : World) : Prop :=
 doAl (.cells #[.int .i64 0, .int .u64 0] 250) w (fun b19 w20 =>
 doSt ((blk b19).add 0) (.int .i64 y17) w20 (fun w21 =>
 doSt ((blk b19).add 1) (.int .u64 y18) w21 (fun w22 =>
 ∃ (r23 : Loop), w22.heap[l]? = some (.loop r23) ∧ r23.state = .ready ∧ (
 let w24 : World := w22.putObj l (.loop { r23 with state := .busy })
 doDr w24 (fun w26 =>
 ∃ (C25 : World → Prop), C25 w26 ∧ (
 ∃ (x27 : Int), (∀ w, C25 w → World.cell? w x_1 = some (.int .u64 x27)) ∧ (
 ∃ (x28 : Int), (∀ w, C25 w → World.cell? w x_1 = some (.int .u64 x28)) ∧ (
 ∃ (x29 : Int), (∀ w, C25 w → World.cell? w ((blk b19).add 0) = some (.int .i64 x29)) ∧ (
 (0 : Int) ≤ x29 ∧ (
 ∃ (x30 : Int), (∀ w, C25 w → World.cell? w ((blk b19).add 1) = some (.int .u64 x30)) ∧ (
 doSt (x_1.add 0) (.int .u64 (IntKind.wrap .u64 ((bXor .u64 x27 (Int.fdiv x28 (2 ^ (min (x29 : Int).toNat (IntKind.bits .u64))))) * x30))) w26 (fun w31 =>
 ∃ (r32 : Loop), w31.heap[l]? = some (.loop r32) ∧ R (.returned (.bool true)) (w31.putObj l (.loop { r32 with state := .ready, pending := none }))))))))))))))
set_option maxRecDepth 100000 in
theorem sh177_0_ok {dd2 : Value} {dd3 : Value} {dd4 : Value} {dd5 : Value} {dd6 : Value} {dd7 : Value} {dd8 : Value} {dd9 : Value} {dd10 : Value} {dd11 : Value} {dd12 : Value} {dd13 : Value} {dd14 : Value} {dd15 : Value} {dd16 : Value} {x_1 : Addr} {y17 : Int} {y18 : Int} {l fn D : Nat} {R : Ending → World → Prop} {w : World} (hl : w.heap[l]? = some (.loop (mkLoop #[dd2, .pointer (some x_1), dd3, dd4, dd5, dd6, dd7, dd8, dd9, dd10, dd11, dd12, dd13, dd14, dd15, dd16] (rfOf Tryz.f177 0).1 (rfOf Tryz.f177 0).2.1 (rfOf Tryz.f177 0).2.2 fn D))) : sh177_0 x_1 y17 y18 l R w → doCall Tryz.prog (.func (.yield l) #[] #[]) #[.agg #[.int .i64 y17, .int .u64 y18]] w R :=
  fun h => ⟨round_of_eq (ann := fun _ => []) 400 follows_mixed hl (by kernel_rfl) (by kernel_rfl) h⟩
set_option maxRecDepth 100000 in
/-- joinery/cut.to$1 -/
def sh180 (there_1 : Option Addr) (x_2 : Int) (x_3 : Int) (x_4 : Int) (others_5 : Option Addr) (x6 : Addr) (R : Ending → World → Prop) (w : World) : Prop :=
 doAl (.cells #[.int .i64 x_2, .int .i64 x_3, .int .u64 x_4] 33) w (fun b7 w8 =>
 ∃ (x9 : Option Addr), World.cell? w8 x6 = some (.pointer x9) ∧ (
 ∃ (x10 : Int), World.cell? w8 ((blk b7).add 0) = some (.int .i64 x10) ∧ (
 ∃ (x11 : Int), World.cell? w8 ((blk b7).add 1) = some (.int .i64 x11) ∧ (
 ∃ (x12 : Int), World.cell? w8 ((blk b7).add 2) = some (.int .u64 x12) ∧ (
 doCall Tryz.prog (.func (.func 51) #[] #[]) #[.pointer x9, .pointer others_5, .agg #[.int .i64 x10, .int .i64 x11, .int .u64 x12], .pointer there_1] w8 (retS (fun v14 w15 => ∃ (x13 : Option Addr), v14 = (.pointer x13 : Value) ∧ (
 R (.returned (.pointer x13)) w15)) (fun ch w => Kfn R ch [] w)))))))
set_option maxRecDepth 100000 in
theorem sh180_ok (there_1 : Option Addr) (x_2 : Int) (x_3 : Int) (x_4 : Int) (others_5 : Option Addr) (x6 : Addr) {R : Ending → World → Prop} {w : World} : sh180 there_1 x_2 x_3 x_4 others_5 x6 R w → Calls Tryz.prog 180 #[.pointer there_1, .agg #[.int .i64 x_2, .int .i64 x_3, .int .u64 x_4], .pointer others_5, .pointer (some x6)] w R :=
  calls_of_eq (ann := fun _ => []) (fn := Tryz.f180) (c := bodyOf Tryz.f180) (args := #[.pointer there_1, .agg #[.int .i64 x_2, .int .i64 x_3, .int .u64 x_4], .pointer others_5, .pointer (some x6)]) 400 follows_mixed Tryz.func180 (by kernel_rfl) (by kernel_rfl)
set_option maxRecDepth 100000 in
/-- joinery/avljoin.right$1 -/
def sh185 (in_1 : Option Addr) (pair_2 : Option Addr) (out_3 : Option Addr) (R : Ending → World → Prop) (w : World) : Prop :=
 doCall Tryz.prog (.func (.func 67) #[] #[]) #[.pointer pair_2] w (retS (fun v5 w6 => ∃ (x4 : Int), v5 = (.int .i64 x4 : Value) ∧ (
 doCall Tryz.prog (.func (.func 125) #[] #[]) #[.pointer pair_2] w6 (retS (fun v8 w9 => ∃ (x7 : Int), v8 = (.int .i64 x7 : Value) ∧ (
 doCall Tryz.prog (.func (.func 143) #[] #[]) #[.pointer in_1, .int .i64 x4, .int .i64 x7, .pointer out_3] w9 (retS (fun v11 w12 => ∃ (x10 : Option Addr), v11 = (.pointer x10 : Value) ∧ (
 R (.returned (.pointer x10)) w12)) (fun ch w => Kfn R ch [] w)))) (fun ch w => Kfn R ch [] w)))) (fun ch w => Kfn R ch [] w))
set_option maxRecDepth 100000 in
theorem sh185_ok (in_1 : Option Addr) (pair_2 : Option Addr) (out_3 : Option Addr) {R : Ending → World → Prop} {w : World} : sh185 in_1 pair_2 out_3 R w → Calls Tryz.prog 185 #[.pointer in_1, .pointer pair_2, .pointer out_3] w R :=
  calls_of_eq (ann := fun _ => []) (fn := Tryz.f185) (c := bodyOf Tryz.f185) (args := #[.pointer in_1, .pointer pair_2, .pointer out_3]) 400 follows_mixed Tryz.func185 (by kernel_rfl) (by kernel_rfl)
set_option maxRecDepth 100000 in
/-- (joinery/avljoin.side).inward -/
def sh186 (s_f1 : Fn) (s_x2 : Array Value) (s_c3 : Array Value) (s_f4 : Fn) (s_x5 : Array Value) (s_c6 : Array Value) (s_f7 : Fn) (s_x8 : Array Value) (s_c9 : Array Value) (t_10 : Option Addr) (R : Ending → World → Prop) (w : World) : Prop :=
 doAl (.cells #[.func s_f1 s_x2 s_c3, .func s_f4 s_x5 s_c6, .func s_f7 s_x8 s_c9] 204) w (fun b11 w12 =>
 ∃ (xf13 : Fn), ∃ (xx14 : Array Value), ∃ (xc15 : Array Value), World.cell? w12 ((blk b11).add 1) = some (.func xf13 xx14 xc15) ∧ (
 doCall Tryz.prog (.func xf13 xx14 xc15) #[.pointer t_10] w12 (retS (fun v17 w18 => ∃ (x16 : Option Addr), v17 = (.pointer x16 : Value) ∧ (
 doDr w18 (fun w20 =>
 ∃ (C19 : World → Prop), C19 w20 ∧ (
 ∃ (xf21 : Fn), ∃ (xx22 : Array Value), ∃ (xc23 : Array Value), (∀ w, C19 w → World.cell? w ((blk b11).add 2) = some (.func xf21 xx22 xc23)) ∧ (
 ∃ (xf24 : Fn), ∃ (xx25 : Array Value), ∃ (xc26 : Array Value), (∀ w, C19 w → World.cell? w ((blk b11).add 2) = some (.func xf24 xx25 xc26)) ∧ (
 ∃ (xf27 : Fn), ∃ (xx28 : Array Value), ∃ (xc29 : Array Value), (∀ w, C19 w → World.cell? w ((blk b11).add 0) = some (.func xf27 xx28 xc29)) ∧ (
 ∃ (xf30 : Fn), ∃ (xx31 : Array Value), ∃ (xc32 : Array Value), (∀ w, C19 w → World.cell? w ((blk b11).add 0) = some (.func xf30 xx31 xc32)) ∧ (
 ∃ (xf33 : Fn), ∃ (xx34 : Array Value), ∃ (xc35 : Array Value), (∀ w, C19 w → World.cell? w ((blk b11).add 1) = some (.func xf33 xx34 xc35)) ∧ (
 doCall Tryz.prog (.func xf27 xx28 xc29) #[.pointer t_10] w20 (retS (fun v37 w38 => ∃ (x36 : Option Addr), v37 = (.pointer x36 : Value) ∧ (
 C19 w38 ∧ (
 doCall Tryz.prog (.func xf30 xx31 xc32) #[.pointer x16] w38 (retS (fun v40 w41 => ∃ (x39 : Option Addr), v40 = (.pointer x39 : Value) ∧ (
 C19 w41 ∧ (
 doCall Tryz.prog (.func xf24 xx25 xc26) #[.pointer x36, .pointer t_10, .pointer x39] w41 (retS (fun v43 w44 => ∃ (x42 : Option Addr), v43 = (.pointer x42 : Value) ∧ (
 C19 w44 ∧ (
 doCall Tryz.prog (.func xf33 xx34 xc35) #[.pointer x16] w44 (retS (fun v46 w47 => ∃ (x45 : Option Addr), v46 = (.pointer x45 : Value) ∧ (
 C19 w47 ∧ (
 doCall Tryz.prog (.func xf21 xx22 xc23) #[.pointer x42, .pointer x16, .pointer x45] w47 (retS (fun v49 w50 => ∃ (x48 : Option Addr), v49 = (.pointer x48 : Value) ∧ (
 C19 w50 ∧ (
 R (.returned (.pointer x48)) w50))) (fun ch w => Kfn R ch [] w))))) (fun ch w => Kfn R ch [] w))))) (fun ch w => Kfn R ch [] w))))) (fun ch w => Kfn R ch [] w))))) (fun ch w => Kfn R ch [] w))))))))))) (fun ch w => Kfn R ch [] w))))
set_option maxRecDepth 100000 in
theorem sh186_ok (s_f1 : Fn) (s_x2 : Array Value) (s_c3 : Array Value) (s_f4 : Fn) (s_x5 : Array Value) (s_c6 : Array Value) (s_f7 : Fn) (s_x8 : Array Value) (s_c9 : Array Value) (t_10 : Option Addr) {R : Ending → World → Prop} {w : World} : sh186 s_f1 s_x2 s_c3 s_f4 s_x5 s_c6 s_f7 s_x8 s_c9 t_10 R w → Calls Tryz.prog 186 #[.agg #[.func s_f1 s_x2 s_c3, .func s_f4 s_x5 s_c6, .func s_f7 s_x8 s_c9], .pointer t_10] w R :=
  calls_of_eq (ann := fun _ => []) (fn := Tryz.f186) (c := bodyOf Tryz.f186) (args := #[.agg #[.func s_f1 s_x2 s_c3, .func s_f4 s_x5 s_c6, .func s_f7 s_x8 s_c9], .pointer t_10]) 400 follows_mixed Tryz.func186 (by kernel_rfl) (by kernel_rfl)
set_option maxRecDepth 100000 in
/-- (joinery/avljoin.side).outward -/
def sh187 (s_f1 : Fn) (s_x2 : Array Value) (s_c3 : Array Value) (s_f4 : Fn) (s_x5 : Array Value) (s_c6 : Array Value) (s_f7 : Fn) (s_x8 : Array Value) (s_c9 : Array Value) (t_10 : Option Addr) (R : Ending → World → Prop) (w : World) : Prop :=
 doAl (.cells #[.func s_f1 s_x2 s_c3, .func s_f4 s_x5 s_c6, .func s_f7 s_x8 s_c9] 204) w (fun b11 w12 =>
 ∃ (xf13 : Fn), ∃ (xx14 : Array Value), ∃ (xc15 : Array Value), World.cell? w12 ((blk b11).add 0) = some (.func xf13 xx14 xc15) ∧ (
 doCall Tryz.prog (.func xf13 xx14 xc15) #[.pointer t_10] w12 (retS (fun v17 w18 => ∃ (x16 : Option Addr), v17 = (.pointer x16 : Value) ∧ (
 doDr w18 (fun w20 =>
 ∃ (C19 : World → Prop), C19 w20 ∧ (
 ∃ (xf21 : Fn), ∃ (xx22 : Array Value), ∃ (xc23 : Array Value), (∀ w, C19 w → World.cell? w ((blk b11).add 2) = some (.func xf21 xx22 xc23)) ∧ (
 ∃ (xf24 : Fn), ∃ (xx25 : Array Value), ∃ (xc26 : Array Value), (∀ w, C19 w → World.cell? w ((blk b11).add 0) = some (.func xf24 xx25 xc26)) ∧ (
 ∃ (xf27 : Fn), ∃ (xx28 : Array Value), ∃ (xc29 : Array Value), (∀ w, C19 w → World.cell? w ((blk b11).add 2) = some (.func xf27 xx28 xc29)) ∧ (
 ∃ (xf30 : Fn), ∃ (xx31 : Array Value), ∃ (xc32 : Array Value), (∀ w, C19 w → World.cell? w ((blk b11).add 1) = some (.func xf30 xx31 xc32)) ∧ (
 ∃ (xf33 : Fn), ∃ (xx34 : Array Value), ∃ (xc35 : Array Value), (∀ w, C19 w → World.cell? w ((blk b11).add 1) = some (.func xf33 xx34 xc35)) ∧ (
 doCall Tryz.prog (.func xf24 xx25 xc26) #[.pointer x16] w20 (retS (fun v37 w38 => ∃ (x36 : Option Addr), v37 = (.pointer x36 : Value) ∧ (
 C19 w38 ∧ (
 doCall Tryz.prog (.func xf30 xx31 xc32) #[.pointer x16] w38 (retS (fun v40 w41 => ∃ (x39 : Option Addr), v40 = (.pointer x39 : Value) ∧ (
 C19 w41 ∧ (
 doCall Tryz.prog (.func xf33 xx34 xc35) #[.pointer t_10] w41 (retS (fun v43 w44 => ∃ (x42 : Option Addr), v43 = (.pointer x42 : Value) ∧ (
 C19 w44 ∧ (
 doCall Tryz.prog (.func xf27 xx28 xc29) #[.pointer x39, .pointer t_10, .pointer x42] w44 (retS (fun v46 w47 => ∃ (x45 : Option Addr), v46 = (.pointer x45 : Value) ∧ (
 C19 w47 ∧ (
 doCall Tryz.prog (.func xf21 xx22 xc23) #[.pointer x36, .pointer x16, .pointer x45] w47 (retS (fun v49 w50 => ∃ (x48 : Option Addr), v49 = (.pointer x48 : Value) ∧ (
 C19 w50 ∧ (
 R (.returned (.pointer x48)) w50))) (fun ch w => Kfn R ch [] w))))) (fun ch w => Kfn R ch [] w))))) (fun ch w => Kfn R ch [] w))))) (fun ch w => Kfn R ch [] w))))) (fun ch w => Kfn R ch [] w))))))))))) (fun ch w => Kfn R ch [] w))))
set_option maxRecDepth 100000 in
theorem sh187_ok (s_f1 : Fn) (s_x2 : Array Value) (s_c3 : Array Value) (s_f4 : Fn) (s_x5 : Array Value) (s_c6 : Array Value) (s_f7 : Fn) (s_x8 : Array Value) (s_c9 : Array Value) (t_10 : Option Addr) {R : Ending → World → Prop} {w : World} : sh187 s_f1 s_x2 s_c3 s_f4 s_x5 s_c6 s_f7 s_x8 s_c9 t_10 R w → Calls Tryz.prog 187 #[.agg #[.func s_f1 s_x2 s_c3, .func s_f4 s_x5 s_c6, .func s_f7 s_x8 s_c9], .pointer t_10] w R :=
  calls_of_eq (ann := fun _ => []) (fn := Tryz.f187) (c := bodyOf Tryz.f187) (args := #[.agg #[.func s_f1 s_x2 s_c3, .func s_f4 s_x5 s_c6, .func s_f7 s_x8 s_c9], .pointer t_10]) 400 follows_mixed Tryz.func187 (by kernel_rfl) (by kernel_rfl)
set_option maxRecDepth 100000 in
/-- joinery/avljoin.left$1 -/
def sh188 (in_1 : Option Addr) (pair_2 : Option Addr) (out_3 : Option Addr) (R : Ending → World → Prop) (w : World) : Prop :=
 doCall Tryz.prog (.func (.func 67) #[] #[]) #[.pointer pair_2] w (retS (fun v5 w6 => ∃ (x4 : Int), v5 = (.int .i64 x4 : Value) ∧ (
 doCall Tryz.prog (.func (.func 125) #[] #[]) #[.pointer pair_2] w6 (retS (fun v8 w9 => ∃ (x7 : Int), v8 = (.int .i64 x7 : Value) ∧ (
 doCall Tryz.prog (.func (.func 143) #[] #[]) #[.pointer out_3, .int .i64 x4, .int .i64 x7, .pointer in_1] w9 (retS (fun v11 w12 => ∃ (x10 : Option Addr), v11 = (.pointer x10 : Value) ∧ (
 R (.returned (.pointer x10)) w12)) (fun ch w => Kfn R ch [] w)))) (fun ch w => Kfn R ch [] w)))) (fun ch w => Kfn R ch [] w))
set_option maxRecDepth 100000 in
theorem sh188_ok (in_1 : Option Addr) (pair_2 : Option Addr) (out_3 : Option Addr) {R : Ending → World → Prop} {w : World} : sh188 in_1 pair_2 out_3 R w → Calls Tryz.prog 188 #[.pointer in_1, .pointer pair_2, .pointer out_3] w R :=
  calls_of_eq (ann := fun _ => []) (fn := Tryz.f188) (c := bodyOf Tryz.f188) (args := #[.pointer in_1, .pointer pair_2, .pointer out_3]) 400 follows_mixed Tryz.func188 (by kernel_rfl) (by kernel_rfl)
set_option maxRecDepth 100000 in
/-- joinery/avl.looks$1 -/
def sh189 (n_1 : Option Addr) (R : Ending → World → Prop) (w : World) : Prop :=
 doCall Tryz.prog (.func (.func 68) #[] #[]) #[.pointer n_1] w (retS (fun v3 w4 => ∃ (x2 : Option Addr), v3 = (.pointer x2 : Value) ∧ (
 doCall Tryz.prog (.func (.func 126) #[] #[]) #[.pointer x2] w4 (retS (fun v6 w7 => ∃ (x5 : Int), v6 = (.int .u64 x5 : Value) ∧ (
 doCall Tryz.prog (.func (.func 66) #[] #[]) #[.pointer n_1] w7 (retS (fun v9 w10 => ∃ (x8 : Option Addr), v9 = (.pointer x8 : Value) ∧ (
 doCall Tryz.prog (.func (.func 126) #[] #[]) #[.pointer x8] w10 (retS (fun v12 w13 => ∃ (x11 : Int), v12 = (.int .u64 x11 : Value) ∧ (
 doGo Tryz.prog (.builtin .min #[31, 31] 31 #[false, false]) #[.int .u64 x5, .int .u64 x11] w13 (retS (fun v15 w16 => ∃ (x14 : Int), v15 = (.int .u64 x14 : Value) ∧ (
 doGo Tryz.prog (.builtin .max #[31, 31] 31 #[false, false]) #[.int .u64 x5, .int .u64 x11] w16 (retS (fun v18 w19 => ∃ (x17 : Int), v18 = (.int .u64 x17 : Value) ∧ (
 R (.returned (.tuple #[.int .u64 x14, .int .u64 x17])) w19)) (fun ch w => Kfn R ch [] w)))) (fun ch w => Kfn R ch [] w)))) (fun ch w => Kfn R ch [] w)))) (fun ch w => Kfn R ch [] w)))) (fun ch w => Kfn R ch [] w)))) (fun ch w => Kfn R ch [] w))
set_option maxRecDepth 100000 in
theorem sh189_ok (n_1 : Option Addr) {R : Ending → World → Prop} {w : World} : sh189 n_1 R w → Calls Tryz.prog 189 #[.pointer n_1] w R :=
  calls_of_eq (ann := fun _ => []) (fn := Tryz.f189) (c := bodyOf Tryz.f189) (args := #[.pointer n_1]) 400 follows_mixed Tryz.func189 (by kernel_rfl) (by kernel_rfl)
set_option maxRecDepth 100000 in
/-- joinery/avl.looks$2 -/
def sh190 (n_1 : Option Addr) (x2 : Addr) (R : Ending → World → Prop) (w : World) : Prop :=
 ∃ (xf3 : Fn), ∃ (xx4 : Array Value), ∃ (xc5 : Array Value), World.cell? w x2 = some (.func xf3 xx4 xc5) ∧ (
 doCall Tryz.prog (.func xf3 xx4 xc5) #[.pointer n_1] w (retS (fun v8 w9 => ∃ (x6 : Int), ∃ (x7 : Int), v8 = (.tuple #[.int .u64 x6, .int .u64 x7] : Value) ∧ (
 let K12 : Bool → World → Prop := fun (x10 : Bool) (w11 : World) => 
 R (.returned (.bool x10)) w11
 doCall Tryz.prog (.func (.func 126) #[] #[]) #[.pointer n_1] w9 (retS (fun v14 w15 => ∃ (x13 : Int), v14 = (.int .u64 x13 : Value) ∧ (
 ifB ((x13 : Int) == 0) (
 R (.returned (.bool true)) w15) (
 doCall Tryz.prog (.func (.func 126) #[] #[]) #[.pointer n_1] w15 (retS (fun v17 w18 => ∃ (x16 : Int), v17 = (.int .u64 x16 : Value) ∧ (
 K12 (((IntKind.wrap .u64 (x16 - 1)) : Int) != x7) w18)) (fun ch w => Kfn R ch [] w))))) (fun ch w => Kfn R ch [] w)))) (fun ch w => Kfn R ch [] w)))
set_option maxRecDepth 100000 in
theorem sh190_ok (n_1 : Option Addr) (x2 : Addr) {R : Ending → World → Prop} {w : World} : sh190 n_1 x2 R w → Calls Tryz.prog 190 #[.pointer n_1, .pointer (some x2)] w R :=
  calls_of_eq (ann := fun _ => []) (fn := Tryz.f190) (c := bodyOf Tryz.f190) (args := #[.pointer n_1, .pointer (some x2)]) 400 follows_mixed Tryz.func190 (by kernel_rfl) (by kernel_rfl)
set_option maxRecDepth 100000 in
/-- joinery/avl.looks$3 -/
def sh191 (n_1 : Option Addr) (x2 : Addr) (R : Ending → World → Prop) (w : World) : Prop :=
 ∃ (xf3 : Fn), ∃ (xx4 : Array Value), ∃ (xc5 : Array Value), World.cell? w x2 = some (.func xf3 xx4 xc5) ∧ (
 doCall Tryz.prog (.func xf3 xx4 xc5) #[.pointer n_1] w (retS (fun v8 w9 => ∃ (x6 : Int), ∃ (x7 : Int), v8 = (.tuple #[.int .u64 x6, .int .u64 x7] : Value) ∧ (
 R (.returned (.bool (decide (((IntKind.wrap .u64 (x7 - x6)) : Int) > 1)))) w9)) (fun ch w => Kfn R ch [] w)))
set_option maxRecDepth 100000 in
theorem sh191_ok (n_1 : Option Addr) (x2 : Addr) {R : Ending → World → Prop} {w : World} : sh191 n_1 x2 R w → Calls Tryz.prog 191 #[.pointer n_1, .pointer (some x2)] w R :=
  calls_of_eq (ann := fun _ => []) (fn := Tryz.f191) (c := bodyOf Tryz.f191) (args := #[.pointer n_1, .pointer (some x2)]) 400 follows_mixed Tryz.func191 (by kernel_rfl) (by kernel_rfl)
set_option maxRecDepth 100000 in
/-- joinery/avl.beads$1 -/
def sh192 (yield_f1 : Fn) (yield_x2 : Array Value) (yield_c3 : Array Value) (x4 : Addr) (R : Ending → World → Prop) (w : World) : Prop :=
 doAl (.cells #[.func yield_f1 yield_x2 yield_c3] 101) w (fun b5 w6 =>
 doAl (.cells #[.nilFunc] 101) w6 (fun b7 w8 =>
 doSt ((blk b7).add 0) (.func (.func 193) #[] #[.pointer (some (blk b5)), .pointer (some (blk b7))]) w8 (fun w9 =>
 ∃ (xf10 : Fn), ∃ (xx11 : Array Value), ∃ (xc12 : Array Value), World.cell? w9 (blk b7) = some (.func xf10 xx11 xc12) ∧ (
 ∃ (x13 : Option Addr), World.cell? w9 x4 = some (.pointer x13) ∧ (
 doCall Tryz.prog (.func xf10 xx11 xc12) #[.pointer x13] w9 (retS (fun v15 w16 => ∃ (x14 : Bool), v15 = (.bool x14 : Value) ∧ (
 R (.returned (.tuple #[])) w16)) (fun ch w => Kfn R ch [] w)))))))
set_option maxRecDepth 100000 in
theorem sh192_ok (yield_f1 : Fn) (yield_x2 : Array Value) (yield_c3 : Array Value) (x4 : Addr) {R : Ending → World → Prop} {w : World} : sh192 yield_f1 yield_x2 yield_c3 x4 R w → Calls Tryz.prog 192 #[.func yield_f1 yield_x2 yield_c3, .pointer (some x4)] w R :=
  calls_of_eq (ann := fun _ => []) (fn := Tryz.f192) (c := bodyOf Tryz.f192) (args := #[.func yield_f1 yield_x2 yield_c3, .pointer (some x4)]) 400 follows_mixed Tryz.func192 (by kernel_rfl) (by kernel_rfl)
set_option maxRecDepth 100000 in
/-- joinery/avl.beads$1$1 -/
def sh193 (n_1 : Option Addr) (x2 : Addr) (x3 : Addr) (R : Ending → World → Prop) (w : World) : Prop :=
 let K6 : Bool → World → Prop := fun (x4 : Bool) (w5 : World) => 
 R (.returned (.bool x4)) w5
 doDr w (fun w8 =>
 ∃ (C7 : World → Prop), C7 w8 ∧ (
 ifB ((n_1).isNone) (
 R (.returned (.bool true)) w8) (
 ∃ (xf9 : Fn), ∃ (xx10 : Array Value), ∃ (xc11 : Array Value), (∀ w, C7 w → World.cell? w x2 = some (.func xf9 xx10 xc11)) ∧ (
 doCall Tryz.prog (.func xf9 xx10 xc11) #[.pointer n_1] w8 (retS (fun v13 w14 => ∃ (x12 : Bool), v13 = (.bool x12 : Value) ∧ (
 C7 w14 ∧ (
 ifB x12 (
 ∃ (xf15 : Fn), ∃ (xx16 : Array Value), ∃ (xc17 : Array Value), (∀ w, C7 w → World.cell? w x3 = some (.func xf15 xx16 xc17)) ∧ (
 doCall Tryz.prog (.func (.func 68) #[] #[]) #[.pointer n_1] w14 (retS (fun v19 w20 => ∃ (x18 : Option Addr), v19 = (.pointer x18 : Value) ∧ (
 C7 w20 ∧ (
 doCall Tryz.prog (.func xf15 xx16 xc17) #[.pointer x18] w20 (retS (fun v22 w23 => ∃ (x21 : Bool), v22 = (.bool x21 : Value) ∧ (
 C7 w23 ∧ (
 ifB x21 (
 ∃ (xf24 : Fn), ∃ (xx25 : Array Value), ∃ (xc26 : Array Value), (∀ w, C7 w → World.cell? w x3 = some (.func xf24 xx25 xc26)) ∧ (
 doCall Tryz.prog (.func (.func 66) #[] #[]) #[.pointer n_1] w23 (retS (fun v28 w29 => ∃ (x27 : Option Addr), v28 = (.pointer x27 : Value) ∧ (
 C7 w29 ∧ (
 doCall Tryz.prog (.func xf24 xx25 xc26) #[.pointer x27] w29 (retS (fun v31 w32 => ∃ (x30 : Bool), v31 = (.bool x30 : Value) ∧ (
 C7 w32 ∧ (
 K6 x30 w32))) (fun ch w => Kfn R ch [] w))))) (fun ch w => Kfn R ch [] w)))) (
 R (.returned (.bool false)) w23)))) (fun ch w => Kfn R ch [] w))))) (fun ch w => Kfn R ch [] w)))) (
 R (.returned (.bool false)) w14)))) (fun ch w => Kfn R ch [] w))))))
set_option maxRecDepth 100000 in
theorem sh193_ok (n_1 : Option Addr) (x2 : Addr) (x3 : Addr) {R : Ending → World → Prop} {w : World} : sh193 n_1 x2 x3 R w → Calls Tryz.prog 193 #[.pointer n_1, .pointer (some x2), .pointer (some x3)] w R :=
  calls_of_eq (ann := fun _ => []) (fn := Tryz.f193) (c := bodyOf Tryz.f193) (args := #[.pointer n_1, .pointer (some x2), .pointer (some x3)]) 400 follows_mixed Tryz.func193 (by kernel_rfl) (by kernel_rfl)
set_option maxRecDepth 100000 in
/-- joinery/rb.over -/
def sh194 (high_1 : Int) (is_2 : Bool) (R : Ending → World → Prop) (w : World) : Prop :=
 doAl (.cells #[.int .u64 0, .int .u64 0] 232) w (fun b3 w4 =>
 ifB is_2 (
 doSt ((blk b3).add 0) (.int .u64 1) w4 (fun w5 =>
 doSt ((blk b3).add 1) (.int .u64 high_1) w5 (fun w6 =>
 ∃ (x7 : Int), World.cell? w6 ((blk b3).add 0) = some (.int .u64 x7) ∧ (
 ∃ (x8 : Int), World.cell? w6 ((blk b3).add 1) = some (.int .u64 x8) ∧ (
 R (.returned (.agg #[.int .u64 x7, .int .u64 x8])) w6))))) (
 doSt ((blk b3).add 0) (.int .u64 0) w4 (fun w9 =>
 doSt ((blk b3).add 1) (.int .u64 (IntKind.wrap .u64 (high_1 + 1))) w9 (fun w10 =>
 ∃ (x11 : Int), World.cell? w10 ((blk b3).add 0) = some (.int .u64 x11) ∧ (
 ∃ (x12 : Int), World.cell? w10 ((blk b3).add 1) = some (.int .u64 x12) ∧ (
 R (.returned (.agg #[.int .u64 x11, .int .u64 x12])) w10))))))
set_option maxRecDepth 100000 in
theorem sh194_ok (high_1 : Int) (is_2 : Bool) {R : Ending → World → Prop} {w : World} : sh194 high_1 is_2 R w → Calls Tryz.prog 194 #[.int .u64 high_1, .bool is_2] w R :=
  calls_of_eq (ann := fun _ => []) (fn := Tryz.f194) (c := bodyOf Tryz.f194) (args := #[.int .u64 high_1, .bool is_2]) 400 follows_mixed Tryz.func194 (by kernel_rfl) (by kernel_rfl)
end Go.Proofs.YthgckfeocalbdaaGreat
