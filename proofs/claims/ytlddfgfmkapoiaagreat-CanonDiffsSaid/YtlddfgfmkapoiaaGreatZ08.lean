/-
  Printed by a program (gen.py): what the functions of the program do, as formulas; each with the proof that its call is what the formula says.
-/
/-
  Printed by a program (gen.py): what the functions of the program do, as formulas; each with the proof that its call is what the formula says.
-/
import Derived.Test.YtlddfgfmkapoiaaGreatZ02
import Derived.Test.YtlddfgfmkapoiaaGreatProg
import Derived.Test.YtlddfgfmkapoiaaGreatZ03

namespace Go.Proofs.YtlddfgfmkapoiaaGreat
open Go Go.Sh
set_option maxRecDepth 100000 in
/-- joinery/row.two$1 -/
def sh242 (yield_f1 : Fn) (yield_x2 : Array Value) (yield_c3 : Array Value) (x4 : Addr) (R : Ending → World → Prop) (w : World) : Prop :=
 ∃ (xp5 : Option Addr), ∃ (xn6 : Nat), ∃ (xc7 : Nat), World.cell? w x4 = some (.slice xp5 xn6 xc7) ∧ (
 ∃ (I8 : List Value → World → Prop) (μ9 : List Value → World → Nat), I8 [.int .i64 0] w ∧ (∀ (x12 : Int), ∀ (_j10 : Nat → Value) (w11 : World), I8 [.int .i64 x12] w11 → (
 ifB (decide ((x12 : Int) < ((xn6 : Nat) : Int))) (
 let K14 : World → Prop := fun (w13 : World) => 
 I8 [.int .i64 (IntKind.wrap .i64 (x12 + 1))] w13 ∧ μ9 [.int .i64 (IntKind.wrap .i64 (x12 + 1))] w13 < μ9 [.int .i64 x12] w11
 let K17 : Bool → World → Prop := fun (x15 : Bool) (w16 : World) => 
 ifB x15 (
 R (.returned (.tuple #[])) w16) (
 K14 w16)
 doDr w11 (fun w19 =>
 ∃ (C18 : World → Prop), C18 w19 ∧ (
 ifB (decide ((x12 : Int) > 0)) (
 ∃ (xp20 : Option Addr), ∃ (xn21 : Nat), ∃ (xc22 : Nat), (∀ w, C18 w → World.cell? w x4 = some (.slice xp20 xn21 xc22)) ∧ (
 doIx xp20 xn21 2 (IntKind.wrap .i64 (x12 - 1)) (fun a23 =>
 ∃ (x24 : Int), (∀ w, C18 w → World.cell? w (a23.add 0) = some (.int .i64 x24)) ∧ (
 ∃ (x25 : Int), (∀ w, C18 w → World.cell? w (a23.add 1) = some (.int .i64 x25)) ∧ (
 ∃ (xp26 : Option Addr), ∃ (xn27 : Nat), ∃ (xc28 : Nat), (∀ w, C18 w → World.cell? w x4 = some (.slice xp26 xn27 xc28)) ∧ (
 doIx xp26 xn27 2 (x12) (fun a29 =>
 ∃ (x30 : Int), (∀ w, C18 w → World.cell? w (a29.add 0) = some (.int .i64 x30)) ∧ (
 ∃ (x31 : Int), (∀ w, C18 w → World.cell? w (a29.add 1) = some (.int .i64 x31)) ∧ (
 doCall Tryz.prog (.func yield_f1 yield_x2 yield_c3) #[.agg #[.int .i64 x24, .int .i64 x25], .agg #[.int .i64 x30, .int .i64 x31]] w19 (retS (fun v33 w34 => ∃ (x32 : Bool), v33 = (.bool x32 : Value) ∧ (
 C18 w34 ∧ (
 K17 (!x32) w34))) (fun ch w => Kfn R ch [] w))))))))))) (
 K14 w19)))) (
 R (.returned (.tuple #[])) w11))))
set_option maxRecDepth 100000 in
theorem sh242_ok (yield_f1 : Fn) (yield_x2 : Array Value) (yield_c3 : Array Value) (x4 : Addr) {R : Ending → World → Prop} {w : World} : sh242 yield_f1 yield_x2 yield_c3 x4 R w → Calls Tryz.prog 242 #[.func yield_f1 yield_x2 yield_c3, .pointer (some x4)] w R :=
  calls_of_eq (ann := fun i => if i = 0 then [(6, .int .i64 0)] else []) (fn := Tryz.f242) (c := bodyOf Tryz.f242) (args := #[.func yield_f1 yield_x2 yield_c3, .pointer (some x4)]) 400 follows_mixed Tryz.func242 (by kernel_rfl) (by kernel_rfl)
set_option maxRecDepth 100000 in
/-- (*joinery/scheme.Scheme).face$1 -/
def sh245 (x1 : Addr) (R : Ending → World → Prop) (w : World) : Prop :=
 doDr w (fun w3 =>
 ∃ (C2 : World → Prop), C2 w3 ∧ (
 ∃ (x4 : Option Addr), (∀ w, C2 w → World.cell? w x1 = some (.pointer x4)) ∧ (
 ∃ (x5 : Option Addr), (∀ w, C2 w → World.cell? w x1 = some (.pointer x5)) ∧ (
 ∃ (q6 : Addr), x5 = some q6 ∧ (
 ∃ (x7 : Int), (∀ w, C2 w → World.cell? w (q6.add 0) = some (.int .u8 x7)) ∧ (
 doCall Tryz.prog (.func (.func 167) #[] #[]) #[.int .u8 x7] w3 (retS (fun v9 w10 => ∃ (x8 : Value), v9 = (x8 : Value) ∧ (
 C2 w10 ∧ (
 doGo Tryz.prog (.fn (.method "joinery/scheme.faces") #[]) #[x8] w10 (retS (fun v31 w32 => ∃ (x11 : ByteArray), ∃ (xf12 : Fn), ∃ (xx13 : Array Value), ∃ (xc14 : Array Value), ∃ (xf15 : Fn), ∃ (xx16 : Array Value), ∃ (xc17 : Array Value), ∃ (xf18 : Fn), ∃ (xx19 : Array Value), ∃ (xc20 : Array Value), ∃ (xf21 : Fn), ∃ (xx22 : Array Value), ∃ (xc23 : Array Value), ∃ (xf24 : Fn), ∃ (xx25 : Array Value), ∃ (xc26 : Array Value), ∃ (xf27 : Fn), ∃ (xx28 : Array Value), ∃ (xc29 : Array Value), ∃ (x30 : Bool), v31 = (.agg #[.string x11, .func xf12 xx13 xc14, .func xf15 xx16 xc17, .func xf18 xx19 xc20, .func xf21 xx22 xc23, .func xf24 xx25 xc26, .func xf27 xx28 xc29, .bool x30] : Value) ∧ (
 C2 w32 ∧ (
 ∃ (q33 : Addr), x4 = some q33 ∧ (
 doSt ((q33.add 4).add 0) (.string x11) w32 (fun w34 =>
 doSt ((q33.add 4).add 1) (.func xf12 xx13 xc14) w34 (fun w35 =>
 doSt ((q33.add 4).add 2) (.func xf15 xx16 xc17) w35 (fun w36 =>
 doSt ((q33.add 4).add 3) (.func xf18 xx19 xc20) w36 (fun w37 =>
 doSt ((q33.add 4).add 4) (.func xf21 xx22 xc23) w37 (fun w38 =>
 doSt ((q33.add 4).add 5) (.func xf24 xx25 xc26) w38 (fun w39 =>
 doSt ((q33.add 4).add 6) (.func xf27 xx28 xc29) w39 (fun w40 =>
 doSt ((q33.add 4).add 7) (.bool x30) w40 (fun w41 =>
 R (.returned (.tuple #[])) w41)))))))))))) (fun ch w => Kfn R ch [] w))))) (fun ch w => Kfn R ch [] w))))))))
set_option maxRecDepth 100000 in
theorem sh245_ok (x1 : Addr) {R : Ending → World → Prop} {w : World} : sh245 x1 R w → Calls Tryz.prog 245 #[.pointer (some x1)] w R :=
  calls_of_eq (ann := fun _ => []) (fn := Tryz.f245) (c := bodyOf Tryz.f245) (args := #[.pointer (some x1)]) 400 follows_mixed Tryz.func245 (by kernel_rfl) (by kernel_rfl)
set_option maxRecDepth 100000 in
/-- joinery/sound.beads$1 -/
def sh247 (yield_f1 : Fn) (yield_x2 : Array Value) (yield_c3 : Array Value) (x4 : Addr) (x5 : Addr) (R : Ending → World → Prop) (w : World) : Prop :=
 doAl (.cells #[.func yield_f1 yield_x2 yield_c3] 317) w (fun b6 w7 =>
 doAl (.cells #[.nilFunc] 318) w7 (fun b8 w9 =>
 doSt ((blk b8).add 0) (.func (.func 248) #[] #[.pointer (some x4), .pointer (some (blk b6)), .pointer (some (blk b8))]) w9 (fun w10 =>
 ∃ (xf11 : Fn), ∃ (xx12 : Array Value), ∃ (xc13 : Array Value), World.cell? w10 (blk b8) = some (.func xf11 xx12 xc13) ∧ (
 ∃ (x14 : Option Addr), World.cell? w10 x5 = some (.pointer x14) ∧ (
 doCall Tryz.prog (.func xf11 xx12 xc13) #[.pointer x14, .func (.func 251) #[] #[]] w10 (retS (fun v16 w17 => ∃ (x15 : Bool), v16 = (.bool x15 : Value) ∧ (
 R (.returned (.tuple #[])) w17)) (fun ch w => Kfn R ch [] w)))))))
set_option maxRecDepth 100000 in
theorem sh247_ok (yield_f1 : Fn) (yield_x2 : Array Value) (yield_c3 : Array Value) (x4 : Addr) (x5 : Addr) {R : Ending → World → Prop} {w : World} : sh247 yield_f1 yield_x2 yield_c3 x4 x5 R w → Calls Tryz.prog 247 #[.func yield_f1 yield_x2 yield_c3, .pointer (some x4), .pointer (some x5)] w R :=
  calls_of_eq (ann := fun _ => []) (fn := Tryz.f247) (c := bodyOf Tryz.f247) (args := #[.func yield_f1 yield_x2 yield_c3, .pointer (some x4), .pointer (some x5)]) 400 follows_mixed Tryz.func247 (by kernel_rfl) (by kernel_rfl)
set_option maxRecDepth 100000 in
/-- joinery/sound.beads$1$1 -/
def sh248 (n_1 : Option Addr) (may_f2 : Fn) (may_x3 : Array Value) (may_c4 : Array Value) (x5 : Addr) (x6 : Addr) (x7 : Addr) (R : Ending → World → Prop) (w : World) : Prop :=
 doAl (.cells #[.pointer n_1] 35) w (fun b8 w9 =>
 doAl (.cells #[.func may_f2 may_x3 may_c4] 319) w9 (fun b10 w11 =>
 ∃ (x12 : Option Addr), World.cell? w11 (blk b8) = some (.pointer x12) ∧ (
 ifB ((x12).isNone) (
 R (.returned (.bool true)) w11) (
 let K15 : Bool → World → Prop := fun (x13 : Bool) (w14 : World) => 
 R (.returned (.bool x13)) w14
 doDr w11 (fun w17 =>
 ∃ (C16 : World → Prop), C16 w17 ∧ (
 ∃ (xf18 : Fn), ∃ (xx19 : Array Value), ∃ (xc20 : Array Value), (∀ w, C16 w → World.cell? w x6 = some (.func xf18 xx19 xc20)) ∧ (
 ∃ (x21 : Option Addr), (∀ w, C16 w → World.cell? w (blk b8) = some (.pointer x21)) ∧ (
 ∃ (xf22 : Fn), ∃ (xx23 : Array Value), ∃ (xc24 : Array Value), (∀ w, C16 w → World.cell? w (blk b10) = some (.func xf22 xx23 xc24)) ∧ (
 ∃ (x25 : Option Addr), (∀ w, C16 w → World.cell? w (blk b8) = some (.pointer x25)) ∧ (
 doCall Tryz.prog (.func (.func 108) #[] #[]) #[.pointer x25] w17 (retS (fun v27 w28 => ∃ (x26 : Int), v27 = (.int .i64 x26 : Value) ∧ (
 C16 w28 ∧ (
 doCall Tryz.prog (.func xf22 xx23 xc24) #[.int .i64 x26] w28 (retS (fun v30 w31 => ∃ (x29 : Bool), v30 = (.bool x29 : Value) ∧ (
 C16 w31 ∧ (
 doCall Tryz.prog (.func xf18 xx19 xc20) #[.pointer x21, .bool (!x29)] w31 (retS (fun v33 w34 => ∃ (x32 : Bool), v33 = (.bool x32 : Value) ∧ (
 C16 w34 ∧ (
 ifB x32 (
 ∃ (xf35 : Fn), ∃ (xx36 : Array Value), ∃ (xc37 : Array Value), (∀ w, C16 w → World.cell? w x7 = some (.func xf35 xx36 xc37)) ∧ (
 ∃ (x38 : Option Addr), (∀ w, C16 w → World.cell? w (blk b8) = some (.pointer x38)) ∧ (
 doCall Tryz.prog (.func (.func 123) #[] #[]) #[.pointer x38] w34 (retS (fun v40 w41 => ∃ (x39 : Option Addr), v40 = (.pointer x39 : Value) ∧ (
 C16 w41 ∧ (
 doCall Tryz.prog (.func xf35 xx36 xc37) #[.pointer x39, .func (.func 249) #[] #[.pointer (some (blk b10)), .pointer (some x5), .pointer (some (blk b8))]] w41 (retS (fun v43 w44 => ∃ (x42 : Bool), v43 = (.bool x42 : Value) ∧ (
 C16 w44 ∧ (
 ifB x42 (
 ∃ (xf45 : Fn), ∃ (xx46 : Array Value), ∃ (xc47 : Array Value), (∀ w, C16 w → World.cell? w x7 = some (.func xf45 xx46 xc47)) ∧ (
 ∃ (x48 : Option Addr), (∀ w, C16 w → World.cell? w (blk b8) = some (.pointer x48)) ∧ (
 doCall Tryz.prog (.func (.func 125) #[] #[]) #[.pointer x48] w44 (retS (fun v50 w51 => ∃ (x49 : Option Addr), v50 = (.pointer x49 : Value) ∧ (
 C16 w51 ∧ (
 doCall Tryz.prog (.func xf45 xx46 xc47) #[.pointer x49, .func (.func 250) #[] #[.pointer (some (blk b10)), .pointer (some x5), .pointer (some (blk b8))]] w51 (retS (fun v53 w54 => ∃ (x52 : Bool), v53 = (.bool x52 : Value) ∧ (
 C16 w54 ∧ (
 K15 x52 w54))) (fun ch w => Kfn R ch [] w))))) (fun ch w => Kfn R ch [] w))))) (
 R (.returned (.bool false)) w44)))) (fun ch w => Kfn R ch [] w))))) (fun ch w => Kfn R ch [] w))))) (
 R (.returned (.bool false)) w34)))) (fun ch w => Kfn R ch [] w))))) (fun ch w => Kfn R ch [] w))))) (fun ch w => Kfn R ch [] w))))))))))))
set_option maxRecDepth 100000 in
theorem sh248_ok (n_1 : Option Addr) (may_f2 : Fn) (may_x3 : Array Value) (may_c4 : Array Value) (x5 : Addr) (x6 : Addr) (x7 : Addr) {R : Ending → World → Prop} {w : World} : sh248 n_1 may_f2 may_x3 may_c4 x5 x6 x7 R w → Calls Tryz.prog 248 #[.pointer n_1, .func may_f2 may_x3 may_c4, .pointer (some x5), .pointer (some x6), .pointer (some x7)] w R :=
  calls_of_eq (ann := fun _ => []) (fn := Tryz.f248) (c := bodyOf Tryz.f248) (args := #[.pointer n_1, .func may_f2 may_x3 may_c4, .pointer (some x5), .pointer (some x6), .pointer (some x7)]) 400 follows_mixed Tryz.func248 (by kernel_rfl) (by kernel_rfl)
set_option maxRecDepth 100000 in
/-- joinery/sound.beads$1$1$1 -/
def sh249 (key_1 : Int) (x2 : Addr) (x3 : Addr) (x4 : Addr) (R : Ending → World → Prop) (w : World) : Prop :=
 let K7 : Bool → World → Prop := fun (x5 : Bool) (w6 : World) => 
 R (.returned (.bool x5)) w6
 doDr w (fun w9 =>
 ∃ (C8 : World → Prop), C8 w9 ∧ (
 ∃ (xf10 : Fn), ∃ (xx11 : Array Value), ∃ (xc12 : Array Value), (∀ w, C8 w → World.cell? w x2 = some (.func xf10 xx11 xc12)) ∧ (
 doCall Tryz.prog (.func xf10 xx11 xc12) #[.int .i64 key_1] w9 (retS (fun v14 w15 => ∃ (x13 : Bool), v14 = (.bool x13 : Value) ∧ (
 C8 w15 ∧ (
 ifB x13 (
 ∃ (x16 : Int), (∀ w, C8 w → World.cell? w x3 = some (.int .u8 x16)) ∧ (
 ∃ (x17 : Option Addr), (∀ w, C8 w → World.cell? w x4 = some (.pointer x17)) ∧ (
 doCall Tryz.prog (.func (.func 108) #[] #[]) #[.pointer x17] w15 (retS (fun v19 w20 => ∃ (x18 : Int), v19 = (.int .i64 x18 : Value) ∧ (
 C8 w20 ∧ (
 doCall Tryz.prog (.func (.func 176) #[] #[]) #[.int .u8 x16, .int .i64 key_1, .int .i64 x18] w20 (retS (fun v22 w23 => ∃ (x21 : Int), v22 = (.int .i64 x21 : Value) ∧ (
 C8 w23 ∧ (
 K7 (decide ((x21 : Int) < 0)) w23))) (fun ch w => Kfn R ch [] w))))) (fun ch w => Kfn R ch [] w))))) (
 R (.returned (.bool false)) w15)))) (fun ch w => Kfn R ch [] w)))))
set_option maxRecDepth 100000 in
theorem sh249_ok (key_1 : Int) (x2 : Addr) (x3 : Addr) (x4 : Addr) {R : Ending → World → Prop} {w : World} : sh249 key_1 x2 x3 x4 R w → Calls Tryz.prog 249 #[.int .i64 key_1, .pointer (some x2), .pointer (some x3), .pointer (some x4)] w R :=
  calls_of_eq (ann := fun _ => []) (fn := Tryz.f249) (c := bodyOf Tryz.f249) (args := #[.int .i64 key_1, .pointer (some x2), .pointer (some x3), .pointer (some x4)]) 400 follows_mixed Tryz.func249 (by kernel_rfl) (by kernel_rfl)
set_option maxRecDepth 100000 in
/-- joinery/sound.beads$1$1$2 -/
def sh250 (key_1 : Int) (x2 : Addr) (x3 : Addr) (x4 : Addr) (R : Ending → World → Prop) (w : World) : Prop :=
 let K7 : Bool → World → Prop := fun (x5 : Bool) (w6 : World) => 
 R (.returned (.bool x5)) w6
 doDr w (fun w9 =>
 ∃ (C8 : World → Prop), C8 w9 ∧ (
 ∃ (xf10 : Fn), ∃ (xx11 : Array Value), ∃ (xc12 : Array Value), (∀ w, C8 w → World.cell? w x2 = some (.func xf10 xx11 xc12)) ∧ (
 doCall Tryz.prog (.func xf10 xx11 xc12) #[.int .i64 key_1] w9 (retS (fun v14 w15 => ∃ (x13 : Bool), v14 = (.bool x13 : Value) ∧ (
 C8 w15 ∧ (
 ifB x13 (
 ∃ (x16 : Int), (∀ w, C8 w → World.cell? w x3 = some (.int .u8 x16)) ∧ (
 ∃ (x17 : Option Addr), (∀ w, C8 w → World.cell? w x4 = some (.pointer x17)) ∧ (
 doCall Tryz.prog (.func (.func 108) #[] #[]) #[.pointer x17] w15 (retS (fun v19 w20 => ∃ (x18 : Int), v19 = (.int .i64 x18 : Value) ∧ (
 C8 w20 ∧ (
 doCall Tryz.prog (.func (.func 176) #[] #[]) #[.int .u8 x16, .int .i64 key_1, .int .i64 x18] w20 (retS (fun v22 w23 => ∃ (x21 : Int), v22 = (.int .i64 x21 : Value) ∧ (
 C8 w23 ∧ (
 K7 (decide ((x21 : Int) > 0)) w23))) (fun ch w => Kfn R ch [] w))))) (fun ch w => Kfn R ch [] w))))) (
 R (.returned (.bool false)) w15)))) (fun ch w => Kfn R ch [] w)))))
set_option maxRecDepth 100000 in
theorem sh250_ok (key_1 : Int) (x2 : Addr) (x3 : Addr) (x4 : Addr) {R : Ending → World → Prop} {w : World} : sh250 key_1 x2 x3 x4 R w → Calls Tryz.prog 250 #[.int .i64 key_1, .pointer (some x2), .pointer (some x3), .pointer (some x4)] w R :=
  calls_of_eq (ann := fun _ => []) (fn := Tryz.f250) (c := bodyOf Tryz.f250) (args := #[.int .i64 key_1, .pointer (some x2), .pointer (some x3), .pointer (some x4)]) 400 follows_mixed Tryz.func250 (by kernel_rfl) (by kernel_rfl)
set_option maxRecDepth 100000 in
/-- joinery/sound.beads$1$2 -/
def sh251 (_x1 : Int) (R : Ending → World → Prop) (w : World) : Prop :=
 R (.returned (.bool true)) w
set_option maxRecDepth 100000 in
theorem sh251_ok (x1 : Int) {R : Ending → World → Prop} {w : World} : sh251 x1 R w → Calls Tryz.prog 251 #[.int .i64 x1] w R :=
  calls_of_eq (ann := fun _ => []) (fn := Tryz.f251) (c := bodyOf Tryz.f251) (args := #[.int .i64 x1]) 400 follows_mixed Tryz.func251 (by kernel_rfl) (by kernel_rfl)
set_option maxRecDepth 100000 in
/-- joinery/treap.Check$1 -/
def sh252 (n_1 : Option Addr) (x2 : Addr) (x3 : Addr) (R : Ending → World → Prop) (w : World) : Prop :=
 ifB ((n_1).isNone) (
 R (.returned (.bool true)) w) (
 let K6 : Bool → World → Prop := fun (x4 : Bool) (w5 : World) => 
 ifB x4 (
 R (.returned (.bool false)) w5) (
 ∃ (x7 : Int), World.cell? w5 x2 = some (.int .i64 x7) ∧ (
 doSt (x2.add 0) (.int .i64 (IntKind.wrap .i64 (x7 + 1))) w5 (fun w8 =>
 let K11 : Bool → World → Prop := fun (x9 : Bool) (w10 : World) => 
 R (.returned (.bool x9)) w10
 doDr w8 (fun w13 =>
 ∃ (C12 : World → Prop), C12 w13 ∧ (
 ∃ (xf14 : Fn), ∃ (xx15 : Array Value), ∃ (xc16 : Array Value), (∀ w, C12 w → World.cell? w x3 = some (.func xf14 xx15 xc16)) ∧ (
 doCall Tryz.prog (.func (.func 123) #[] #[]) #[.pointer n_1] w13 (retS (fun v18 w19 => ∃ (x17 : Option Addr), v18 = (.pointer x17 : Value) ∧ (
 C12 w19 ∧ (
 doCall Tryz.prog (.func xf14 xx15 xc16) #[.pointer x17] w19 (retS (fun v21 w22 => ∃ (x20 : Bool), v21 = (.bool x20 : Value) ∧ (
 C12 w22 ∧ (
 ifB x20 (
 ∃ (xf23 : Fn), ∃ (xx24 : Array Value), ∃ (xc25 : Array Value), (∀ w, C12 w → World.cell? w x3 = some (.func xf23 xx24 xc25)) ∧ (
 doCall Tryz.prog (.func (.func 125) #[] #[]) #[.pointer n_1] w22 (retS (fun v27 w28 => ∃ (x26 : Option Addr), v27 = (.pointer x26 : Value) ∧ (
 C12 w28 ∧ (
 doCall Tryz.prog (.func xf23 xx24 xc25) #[.pointer x26] w28 (retS (fun v30 w31 => ∃ (x29 : Bool), v30 = (.bool x29 : Value) ∧ (
 C12 w31 ∧ (
 K11 x29 w31))) (fun ch w => Kfn R ch [] w))))) (fun ch w => Kfn R ch [] w)))) (
 R (.returned (.bool false)) w22)))) (fun ch w => Kfn R ch [] w))))) (fun ch w => Kfn R ch [] w))))))))
 doCall Tryz.prog (.func (.func 123) #[] #[]) #[.pointer n_1] w (retS (fun v33 w34 => ∃ (x32 : Option Addr), v33 = (.pointer x32 : Value) ∧ (
 doCall Tryz.prog (.func (.func 253) #[] #[]) #[.pointer x32, .pointer n_1] w34 (retS (fun v36 w37 => ∃ (x35 : Bool), v36 = (.bool x35 : Value) ∧ (
 ifB x35 (
 R (.returned (.bool false)) w37) (
 doCall Tryz.prog (.func (.func 125) #[] #[]) #[.pointer n_1] w37 (retS (fun v39 w40 => ∃ (x38 : Option Addr), v39 = (.pointer x38 : Value) ∧ (
 doCall Tryz.prog (.func (.func 253) #[] #[]) #[.pointer x38, .pointer n_1] w40 (retS (fun v42 w43 => ∃ (x41 : Bool), v42 = (.bool x41 : Value) ∧ (
 K6 x41 w43)) (fun ch w => Kfn R ch [] w)))) (fun ch w => Kfn R ch [] w))))) (fun ch w => Kfn R ch [] w)))) (fun ch w => Kfn R ch [] w)))
set_option maxRecDepth 100000 in
theorem sh252_ok (n_1 : Option Addr) (x2 : Addr) (x3 : Addr) {R : Ending → World → Prop} {w : World} : sh252 n_1 x2 x3 R w → Calls Tryz.prog 252 #[.pointer n_1, .pointer (some x2), .pointer (some x3)] w R :=
  calls_of_eq (ann := fun _ => []) (fn := Tryz.f252) (c := bodyOf Tryz.f252) (args := #[.pointer n_1, .pointer (some x2), .pointer (some x3)]) 400 follows_mixed Tryz.func252 (by kernel_rfl) (by kernel_rfl)
set_option maxRecDepth 100000 in
/-- joinery/treap.Above -/
def sh253 (a_1 : Option Addr) (b_2 : Option Addr) (R : Ending → World → Prop) (w : World) : Prop :=
 let K5 : Bool → World → Prop := fun (x3 : Bool) (w4 : World) => 
 R (.returned (.bool x3)) w4
 ifB (!(a_1).isNone) (
 ifB (!(b_2).isNone) (
 doCall Tryz.prog (.func (.func 306) #[] #[]) #[.pointer a_1] w (retS (fun v9 w10 => ∃ (x6 : Int), ∃ (x7 : Int), ∃ (x8 : Int), v9 = (.agg #[.int .i64 x6, .int .i64 x7, .int .u64 x8] : Value) ∧ (
 doCall Tryz.prog (.func (.func 306) #[] #[]) #[.pointer b_2] w10 (retS (fun v14 w15 => ∃ (x11 : Int), ∃ (x12 : Int), ∃ (x13 : Int), v14 = (.agg #[.int .i64 x11, .int .i64 x12, .int .u64 x13] : Value) ∧ (
 doCall Tryz.prog (.func (.func 305) #[] #[]) #[.agg #[.int .i64 x6, .int .i64 x7, .int .u64 x8], .agg #[.int .i64 x11, .int .i64 x12, .int .u64 x13]] w15 (retS (fun v17 w18 => ∃ (x16 : Bool), v17 = (.bool x16 : Value) ∧ (
 K5 x16 w18)) (fun ch w => Kfn R ch [] w)))) (fun ch w => Kfn R ch [] w)))) (fun ch w => Kfn R ch [] w))) (
 R (.returned (.bool false)) w)) (
 R (.returned (.bool false)) w)
set_option maxRecDepth 100000 in
theorem sh253_ok (a_1 : Option Addr) (b_2 : Option Addr) {R : Ending → World → Prop} {w : World} : sh253 a_1 b_2 R w → Calls Tryz.prog 253 #[.pointer a_1, .pointer b_2] w R :=
  calls_of_eq (ann := fun _ => []) (fn := Tryz.f253) (c := bodyOf Tryz.f253) (args := #[.pointer a_1, .pointer b_2]) 400 follows_mixed Tryz.func253 (by kernel_rfl) (by kernel_rfl)
set_option maxRecDepth 100000 in
/-- joinery/mix.all -/
def sh254  (R : Ending → World → Prop) (w : World) : Prop :=
 doAl (.cells #[.int .i64 0, .int .u64 0, .int .i64 0, .int .u64 0, .int .i64 0, .int .u64 0] 320) w (fun b1 w2 =>
 doSt ((blk b1).add 0) (.int .i64 30) w2 (fun w3 =>
 doSt ((blk b1).add 1) (.int .u64 13787848793156543929) w3 (fun w4 =>
 doSt ((blk b1).add 2) (.int .i64 27) w4 (fun w5 =>
 doSt ((blk b1).add 3) (.int .u64 10723151780598845931) w5 (fun w6 =>
 doSt ((blk b1).add 4) (.int .i64 31) w6 (fun w7 =>
 doSt ((blk b1).add 5) (.int .u64 1) w7 (fun w8 =>
 ∃ (x9 : Int), World.cell? w8 ((blk b1).add 0) = some (.int .i64 x9) ∧ (
 ∃ (x10 : Int), World.cell? w8 ((blk b1).add 1) = some (.int .u64 x10) ∧ (
 ∃ (x11 : Int), World.cell? w8 ((blk b1).add 2) = some (.int .i64 x11) ∧ (
 ∃ (x12 : Int), World.cell? w8 ((blk b1).add 3) = some (.int .u64 x12) ∧ (
 ∃ (x13 : Int), World.cell? w8 ((blk b1).add 4) = some (.int .i64 x13) ∧ (
 ∃ (x14 : Int), World.cell? w8 ((blk b1).add 5) = some (.int .u64 x14) ∧ (
 R (.returned (.agg #[.int .i64 x9, .int .u64 x10, .int .i64 x11, .int .u64 x12, .int .i64 x13, .int .u64 x14])) w8)))))))))))))
set_option maxRecDepth 100000 in
theorem sh254_ok  {R : Ending → World → Prop} {w : World} : sh254  R w → Calls Tryz.prog 254 #[] w R :=
  calls_of_eq (ann := fun _ => []) (fn := Tryz.f254) (c := bodyOf Tryz.f254) (args := #[]) 400 follows_mixed Tryz.func254 (by kernel_rfl) (by kernel_rfl)
set_option maxRecDepth 100000 in
/-- joinery/mix.steps$1 -/
def sh255 (yield_f1 : Fn) (yield_x2 : Array Value) (yield_c3 : Array Value) (x4 : Addr) (x5 : Addr) (R : Ending → World → Prop) (w : World) : Prop :=
 ∃ (I6 : List Value → World → Prop) (μ7 : List Value → World → Nat), I6 [.int .i64 0] w ∧ (∀ (x10 : Int), ∀ (_j8 : Nat → Value) (w9 : World), I6 [.int .i64 x10] w9 → (
 ifB (decide ((x10 : Int) < 3)) (
 let K13 : Int → World → Prop := fun (k_11 : Int) (w12 : World) => 
 doIx (some x5) 3 2 (k_11) (fun a14 =>
 ∃ (x15 : Int), World.cell? w12 (a14.add 0) = some (.int .i64 x15) ∧ (
 ∃ (x16 : Int), World.cell? w12 (a14.add 1) = some (.int .u64 x16) ∧ (
 doCall Tryz.prog (.func yield_f1 yield_x2 yield_c3) #[.agg #[.int .i64 x15, .int .u64 x16]] w12 (retS (fun v18 w19 => ∃ (x17 : Bool), v18 = (.bool x17 : Value) ∧ (
 ifB (!x17) (
 R (.returned (.tuple #[])) w19) (
 I6 [.int .i64 (IntKind.wrap .i64 (x10 + 1))] w19 ∧ μ7 [.int .i64 (IntKind.wrap .i64 (x10 + 1))] w19 < μ7 [.int .i64 x10] w9))) (fun ch w => Kfn R ch [] w)))))
 ∃ (x20 : Bool), World.cell? w9 x4 = some (.bool x20) ∧ (
 ifB x20 (
 K13 (IntKind.wrap .i64 (2 - x10)) w9) (
 K13 x10 w9))) (
 R (.returned (.tuple #[])) w9)))
set_option maxRecDepth 100000 in
theorem sh255_ok (yield_f1 : Fn) (yield_x2 : Array Value) (yield_c3 : Array Value) (x4 : Addr) (x5 : Addr) {R : Ending → World → Prop} {w : World} : sh255 yield_f1 yield_x2 yield_c3 x4 x5 R w → Calls Tryz.prog 255 #[.func yield_f1 yield_x2 yield_c3, .pointer (some x4), .pointer (some x5)] w R :=
  calls_of_eq (ann := fun i => if i = 0 then [(5, .int .i64 0)] else []) (fn := Tryz.f255) (c := bodyOf Tryz.f255) (args := #[.func yield_f1 yield_x2 yield_c3, .pointer (some x4), .pointer (some x5)]) 400 follows_mixed Tryz.func255 (by kernel_rfl) (by kernel_rfl)
set_option maxRecDepth 100000 in
/-- joinery/joineryref20.over -/
def sh256 (l_p1 : Option Addr) (l_n2 : Nat) (_l_c3 : Nat) (x_4 : Int) (x_5 : Int) (x_6 : Int) (x_7 : Int) (x_8 : Int) (x_9 : Bool) (x_10 : Bool) (R : Ending → World → Prop) (w : World) : Prop :=
 doAl (.cells #[.int .i64 x_4, .int .i64 x_5, .int .i64 x_6, .int .i64 x_7, .int .u64 x_8, .bool x_9, .bool x_10] 150) w (fun b11 w12 =>
 let K15 : Bool → World → Prop := fun (x13 : Bool) (w14 : World) => 
 R (.returned (.bool x13)) w14
 doDr w12 (fun w17 =>
 ∃ (C16 : World → Prop), C16 w17 ∧ (
 ifB (decide ((((l_n2 : Nat) : Int) : Int) > 0)) (
 doIx l_p1 l_n2 7 (0) (fun a18 =>
 ∃ (x19 : Int), (∀ w, C16 w → World.cell? w (a18.add 0) = some (.int .i64 x19)) ∧ (
 ∃ (x20 : Int), (∀ w, C16 w → World.cell? w (a18.add 1) = some (.int .i64 x20)) ∧ (
 ∃ (x21 : Int), (∀ w, C16 w → World.cell? w (a18.add 2) = some (.int .i64 x21)) ∧ (
 ∃ (x22 : Int), (∀ w, C16 w → World.cell? w (a18.add 3) = some (.int .i64 x22)) ∧ (
 ∃ (x23 : Int), (∀ w, C16 w → World.cell? w (a18.add 4) = some (.int .u64 x23)) ∧ (
 ∃ (x24 : Bool), (∀ w, C16 w → World.cell? w (a18.add 5) = some (.bool x24)) ∧ (
 ∃ (x25 : Bool), (∀ w, C16 w → World.cell? w (a18.add 6) = some (.bool x25)) ∧ (
 ∃ (x26 : Int), (∀ w, C16 w → World.cell? w ((blk b11).add 0) = some (.int .i64 x26)) ∧ (
 ∃ (x27 : Int), (∀ w, C16 w → World.cell? w ((blk b11).add 1) = some (.int .i64 x27)) ∧ (
 ∃ (x28 : Int), (∀ w, C16 w → World.cell? w ((blk b11).add 2) = some (.int .i64 x28)) ∧ (
 ∃ (x29 : Int), (∀ w, C16 w → World.cell? w ((blk b11).add 3) = some (.int .i64 x29)) ∧ (
 ∃ (x30 : Int), (∀ w, C16 w → World.cell? w ((blk b11).add 4) = some (.int .u64 x30)) ∧ (
 ∃ (x31 : Bool), (∀ w, C16 w → World.cell? w ((blk b11).add 5) = some (.bool x31)) ∧ (
 ∃ (x32 : Bool), (∀ w, C16 w → World.cell? w ((blk b11).add 6) = some (.bool x32)) ∧ (
 doCall Tryz.prog (.func (.func 190) #[] #[]) #[.agg #[.int .i64 x19, .int .i64 x20, .int .i64 x21, .int .i64 x22, .int .u64 x23, .bool x24, .bool x25]] w17 (retS (fun v36 w37 => ∃ (x33 : Int), ∃ (x34 : Int), ∃ (x35 : Int), v36 = (.agg #[.int .i64 x33, .int .i64 x34, .int .u64 x35] : Value) ∧ (
 C16 w37 ∧ (
 doCall Tryz.prog (.func (.func 190) #[] #[]) #[.agg #[.int .i64 x26, .int .i64 x27, .int .i64 x28, .int .i64 x29, .int .u64 x30, .bool x31, .bool x32]] w37 (retS (fun v41 w42 => ∃ (x38 : Int), ∃ (x39 : Int), ∃ (x40 : Int), v41 = (.agg #[.int .i64 x38, .int .i64 x39, .int .u64 x40] : Value) ∧ (
 C16 w42 ∧ (
 doCall Tryz.prog (.func (.func 192) #[] #[]) #[.agg #[.int .i64 x33, .int .i64 x34, .int .u64 x35], .agg #[.int .i64 x38, .int .i64 x39, .int .u64 x40]] w42 (retS (fun v44 w45 => ∃ (x43 : Bool), v44 = (.bool x43 : Value) ∧ (
 C16 w45 ∧ (
 K15 x43 w45))) (fun ch w => Kfn R ch [] w))))) (fun ch w => Kfn R ch [] w))))) (fun ch w => Kfn R ch [] w)))))))))))))))))) (
 R (.returned (.bool false)) w17))))
set_option maxRecDepth 100000 in
theorem sh256_ok (l_p1 : Option Addr) (l_n2 : Nat) (l_c3 : Nat) (x_4 : Int) (x_5 : Int) (x_6 : Int) (x_7 : Int) (x_8 : Int) (x_9 : Bool) (x_10 : Bool) {R : Ending → World → Prop} {w : World} : sh256 l_p1 l_n2 l_c3 x_4 x_5 x_6 x_7 x_8 x_9 x_10 R w → Calls Tryz.prog 256 #[.slice l_p1 l_n2 l_c3, .agg #[.int .i64 x_4, .int .i64 x_5, .int .i64 x_6, .int .i64 x_7, .int .u64 x_8, .bool x_9, .bool x_10]] w R :=
  calls_of_eq (ann := fun _ => []) (fn := Tryz.f256) (c := bodyOf Tryz.f256) (args := #[.slice l_p1 l_n2 l_c3, .agg #[.int .i64 x_4, .int .i64 x_5, .int .i64 x_6, .int .i64 x_7, .int .u64 x_8, .bool x_9, .bool x_10]]) 400 follows_mixed Tryz.func256 (by kernel_rfl) (by kernel_rfl)
end Go.Proofs.YtlddfgfmkapoiaaGreat

namespace Go.Proofs.YtlddfgfmkapoiaaGreat
open Go Go.Sh
set_option maxRecDepth 100000 in
/-- joinery/fold.kinds$1 -/
def sh260 (a_1 : Int) (_x2 : Int) (R : Ending → World → Prop) (w : World) : Prop :=
 R (.returned (.int .i64 a_1)) w
set_option maxRecDepth 100000 in
theorem sh260_ok (a_1 : Int) (x2 : Int) {R : Ending → World → Prop} {w : World} : sh260 a_1 x2 R w → Calls Tryz.prog 260 #[.int .i64 a_1, .int .i64 x2] w R :=
  calls_of_eq (ann := fun _ => []) (fn := Tryz.f260) (c := bodyOf Tryz.f260) (args := #[.int .i64 a_1, .int .i64 x2]) 400 follows_mixed Tryz.func260 (by kernel_rfl) (by kernel_rfl)
set_option maxRecDepth 100000 in
/-- joinery/fold.kinds$2 -/
def sh261 (_x1 : Int) (b_2 : Int) (R : Ending → World → Prop) (w : World) : Prop :=
 R (.returned (.int .i64 b_2)) w
set_option maxRecDepth 100000 in
theorem sh261_ok (x1 : Int) (b_2 : Int) {R : Ending → World → Prop} {w : World} : sh261 x1 b_2 R w → Calls Tryz.prog 261 #[.int .i64 x1, .int .i64 b_2] w R :=
  calls_of_eq (ann := fun _ => []) (fn := Tryz.f261) (c := bodyOf Tryz.f261) (args := #[.int .i64 x1, .int .i64 b_2]) 400 follows_mixed Tryz.func261 (by kernel_rfl) (by kernel_rfl)
set_option maxRecDepth 100000 in
/-- joinery/fold.kinds$3 -/
def sh262 (a_1 : Int) (b_2 : Int) (R : Ending → World → Prop) (w : World) : Prop :=
 R (.returned (.int .i64 (IntKind.wrap .i64 (a_1 + b_2)))) w
set_option maxRecDepth 100000 in
theorem sh262_ok (a_1 : Int) (b_2 : Int) {R : Ending → World → Prop} {w : World} : sh262 a_1 b_2 R w → Calls Tryz.prog 262 #[.int .i64 a_1, .int .i64 b_2] w R :=
  calls_of_eq (ann := fun _ => []) (fn := Tryz.f262) (c := bodyOf Tryz.f262) (args := #[.int .i64 a_1, .int .i64 b_2]) 400 follows_mixed Tryz.func262 (by kernel_rfl) (by kernel_rfl)
set_option maxRecDepth 100000 in
/-- cmp.isNaN[uint64] -/
def sh264 (x_1 : Int) (R : Ending → World → Prop) (w : World) : Prop :=
 R (.returned (.bool ((x_1 : Int) != x_1))) w
set_option maxRecDepth 100000 in
theorem sh264_ok (x_1 : Int) {R : Ending → World → Prop} {w : World} : sh264 x_1 R w → Calls Tryz.prog 264 #[.int .u64 x_1] w R :=
  calls_of_eq (ann := fun _ => []) (fn := Tryz.f264) (c := bodyOf Tryz.f264) (args := #[.int .u64 x_1]) 400 follows_mixed Tryz.func264 (by kernel_rfl) (by kernel_rfl)
set_option maxRecDepth 100000 in
/-- joinery/avl.Make -/
def sh265 (l_1 : Option Addr) (key_2 : Int) (val_3 : Int) (r_4 : Option Addr) (R : Ending → World → Prop) (w : World) : Prop :=
 doCall Tryz.prog (.func (.func 196) #[] #[]) #[.pointer l_1] w (retS (fun v6 w7 => ∃ (x5 : Int), v6 = (.int .u64 x5 : Value) ∧ (
 doCall Tryz.prog (.func (.func 196) #[] #[]) #[.pointer r_4] w7 (retS (fun v9 w10 => ∃ (x8 : Int), v9 = (.int .u64 x8 : Value) ∧ (
 doGo Tryz.prog (.builtin .max #[75, 75] 75 #[false, false]) #[.int .u64 x5, .int .u64 x8] w10 (retS (fun v12 w13 => ∃ (x11 : Int), v12 = (.int .u64 x11 : Value) ∧ (
 doCall Tryz.prog (.func (.func 105) #[] #[]) #[.pointer l_1, .int .i64 key_2, .int .i64 val_3, .int .u64 (IntKind.wrap .u64 (x11 + 1)), .pointer r_4] w13 (retS (fun v15 w16 => ∃ (x14 : Option Addr), v15 = (.pointer x14 : Value) ∧ (
 R (.returned (.pointer x14)) w16)) (fun ch w => Kfn R ch [] w)))) (fun ch w => Kfn R ch [] w)))) (fun ch w => Kfn R ch [] w)))) (fun ch w => Kfn R ch [] w))
set_option maxRecDepth 100000 in
theorem sh265_ok (l_1 : Option Addr) (key_2 : Int) (val_3 : Int) (r_4 : Option Addr) {R : Ending → World → Prop} {w : World} : sh265 l_1 key_2 val_3 r_4 R w → Calls Tryz.prog 265 #[.pointer l_1, .int .i64 key_2, .int .i64 val_3, .pointer r_4] w R :=
  calls_of_eq (ann := fun _ => []) (fn := Tryz.f265) (c := bodyOf Tryz.f265) (args := #[.pointer l_1, .int .i64 key_2, .int .i64 val_3, .pointer r_4]) 400 follows_mixed Tryz.func265 (by kernel_rfl) (by kernel_rfl)
set_option maxRecDepth 100000 in
/-- joinery/avljoin.right -/
def sh266  (R : Ending → World → Prop) (w : World) : Prop :=
 doAl (.cells #[.nilFunc, .nilFunc, .nilFunc] 331) w (fun b1 w2 =>
 doSt ((blk b1).add 0) (.func (.func 123) #[] #[]) w2 (fun w3 =>
 doSt ((blk b1).add 1) (.func (.func 125) #[] #[]) w3 (fun w4 =>
 doSt ((blk b1).add 2) (.func (.func 309) #[] #[]) w4 (fun w5 =>
 ∃ (xf6 : Fn), ∃ (xx7 : Array Value), ∃ (xc8 : Array Value), World.cell? w5 ((blk b1).add 0) = some (.func xf6 xx7 xc8) ∧ (
 ∃ (xf9 : Fn), ∃ (xx10 : Array Value), ∃ (xc11 : Array Value), World.cell? w5 ((blk b1).add 1) = some (.func xf9 xx10 xc11) ∧ (
 ∃ (xf12 : Fn), ∃ (xx13 : Array Value), ∃ (xc14 : Array Value), World.cell? w5 ((blk b1).add 2) = some (.func xf12 xx13 xc14) ∧ (
 R (.returned (.agg #[.func xf6 xx7 xc8, .func xf9 xx10 xc11, .func xf12 xx13 xc14])) w5)))))))
set_option maxRecDepth 100000 in
theorem sh266_ok  {R : Ending → World → Prop} {w : World} : sh266  R w → Calls Tryz.prog 266 #[] w R :=
  calls_of_eq (ann := fun _ => []) (fn := Tryz.f266) (c := bodyOf Tryz.f266) (args := #[]) 400 follows_mixed Tryz.func266 (by kernel_rfl) (by kernel_rfl)
set_option maxRecDepth 100000 in
/-- (joinery/avljoin.side).hang -/
def sh267 (s_f1 : Fn) (s_x2 : Array Value) (s_c3 : Array Value) (s_f4 : Fn) (s_x5 : Array Value) (s_c6 : Array Value) (s_f7 : Fn) (s_x8 : Array Value) (s_c9 : Array Value) (t_10 : Option Addr) (pair_11 : Option Addr) (low_12 : Option Addr) (R : Ending → World → Prop) (w : World) : Prop :=
 doAl (.cells #[.func s_f1 s_x2 s_c3, .func s_f4 s_x5 s_c6, .func s_f7 s_x8 s_c9] 331) w (fun b13 w14 =>
 doDr w14 (fun w16 =>
 ∃ (C15 : World → Prop), C15 w16 ∧ (
 ∃ (xf17 : Fn), ∃ (xx18 : Array Value), ∃ (xc19 : Array Value), (∀ w, C15 w → World.cell? w ((blk b13).add 0) = some (.func xf17 xx18 xc19)) ∧ (
 ∃ (xf20 : Fn), ∃ (xx21 : Array Value), ∃ (xc22 : Array Value), (∀ w, C15 w → World.cell? w ((blk b13).add 1) = some (.func xf20 xx21 xc22)) ∧ (
 doCall Tryz.prog (.func xf17 xx18 xc19) #[.pointer t_10] w16 (retS (fun v24 w25 => ∃ (x23 : Option Addr), v24 = (.pointer x23 : Value) ∧ (
 C15 w25 ∧ (
 doCall Tryz.prog (.func xf20 xx21 xc22) #[.pointer t_10] w25 (retS (fun v27 w28 => ∃ (x26 : Option Addr), v27 = (.pointer x26 : Value) ∧ (
 C15 w28 ∧ (
 let K31 : Bool → World → Prop := fun (base_29 : Bool) (w30 : World) => 
 let K34 : (Option Addr) → World → Prop := fun (x_32 : Option Addr) (w33 : World) => 
 doCall Tryz.prog (.func (.func 221) #[] #[]) #[.pointer x_32] w33 (retS (fun v36 w37 => ∃ (x35 : Int), v36 = (.int .i64 x35 : Value) ∧ (
 doCall Tryz.prog (.func (.func 221) #[] #[]) #[.pointer x23] w37 (retS (fun v39 w40 => ∃ (x38 : Int), v39 = (.int .i64 x38 : Value) ∧ (
 ifB (decide ((x35 : Int) ≤ (IntKind.wrap .i64 (x38 + 1)))) (
 ∃ (xf41 : Fn), ∃ (xx42 : Array Value), ∃ (xc43 : Array Value), World.cell? w40 ((blk b13).add 2) = some (.func xf41 xx42 xc43) ∧ (
 doCall Tryz.prog (.func xf41 xx42 xc43) #[.pointer x23, .pointer t_10, .pointer x_32] w40 (retS (fun v45 w46 => ∃ (x44 : Option Addr), v45 = (.pointer x44 : Value) ∧ (
 R (.returned (.pointer x44)) w46)) (fun ch w => Kfn R ch [] w)))) (
 ifB base_29 (
 doDr w40 (fun w48 =>
 ∃ (C47 : World → Prop), C47 w48 ∧ (
 ∃ (xf49 : Fn), ∃ (xx50 : Array Value), ∃ (xc51 : Array Value), (∀ w, C47 w → World.cell? w ((blk b13).add 0) = some (.func xf49 xx50 xc51)) ∧ (
 ∃ (xf52 : Fn), ∃ (xx53 : Array Value), ∃ (xc54 : Array Value), (∀ w, C47 w → World.cell? w ((blk b13).add 1) = some (.func xf52 xx53 xc54)) ∧ (
 ∃ (xf55 : Fn), ∃ (xx56 : Array Value), ∃ (xc57 : Array Value), (∀ w, C47 w → World.cell? w ((blk b13).add 2) = some (.func xf55 xx56 xc57)) ∧ (
 ∃ (xf58 : Fn), ∃ (xx59 : Array Value), ∃ (xc60 : Array Value), (∀ w, C47 w → World.cell? w ((blk b13).add 2) = some (.func xf58 xx59 xc60)) ∧ (
 ∃ (xf61 : Fn), ∃ (xx62 : Array Value), ∃ (xc63 : Array Value), (∀ w, C47 w → World.cell? w ((blk b13).add 0) = some (.func xf61 xx62 xc63)) ∧ (
 ∃ (xf64 : Fn), ∃ (xx65 : Array Value), ∃ (xc66 : Array Value), (∀ w, C47 w → World.cell? w ((blk b13).add 1) = some (.func xf64 xx65 xc66)) ∧ (
 ∃ (xf67 : Fn), ∃ (xx68 : Array Value), ∃ (xc69 : Array Value), (∀ w, C47 w → World.cell? w ((blk b13).add 2) = some (.func xf67 xx68 xc69)) ∧ (
 doCall Tryz.prog (.func (.func 311) #[] #[]) #[.agg #[.func xf61 xx62 xc63, .func xf64 xx65 xc66, .func xf67 xx68 xc69], .pointer x_32] w48 (retS (fun v71 w72 => ∃ (x70 : Option Addr), v71 = (.pointer x70 : Value) ∧ (
 C47 w72 ∧ (
 doCall Tryz.prog (.func xf58 xx59 xc60) #[.pointer x23, .pointer t_10, .pointer x70] w72 (retS (fun v74 w75 => ∃ (x73 : Option Addr), v74 = (.pointer x73 : Value) ∧ (
 C47 w75 ∧ (
 doCall Tryz.prog (.func (.func 310) #[] #[]) #[.agg #[.func xf49 xx50 xc51, .func xf52 xx53 xc54, .func xf55 xx56 xc57], .pointer x73] w75 (retS (fun v77 w78 => ∃ (x76 : Option Addr), v77 = (.pointer x76 : Value) ∧ (
 C47 w78 ∧ (
 R (.returned (.pointer x76)) w78))) (fun ch w => Kfn R ch [] w))))) (fun ch w => Kfn R ch [] w))))) (fun ch w => Kfn R ch [] w)))))))))))) (
 doDr w40 (fun w80 =>
 ∃ (C79 : World → Prop), C79 w80 ∧ (
 ∃ (xf81 : Fn), ∃ (xx82 : Array Value), ∃ (xc83 : Array Value), (∀ w, C79 w → World.cell? w ((blk b13).add 0) = some (.func xf81 xx82 xc83)) ∧ (
 ∃ (xf84 : Fn), ∃ (xx85 : Array Value), ∃ (xc86 : Array Value), (∀ w, C79 w → World.cell? w ((blk b13).add 1) = some (.func xf84 xx85 xc86)) ∧ (
 ∃ (xf87 : Fn), ∃ (xx88 : Array Value), ∃ (xc89 : Array Value), (∀ w, C79 w → World.cell? w ((blk b13).add 2) = some (.func xf87 xx88 xc89)) ∧ (
 ∃ (xf90 : Fn), ∃ (xx91 : Array Value), ∃ (xc92 : Array Value), (∀ w, C79 w → World.cell? w ((blk b13).add 2) = some (.func xf90 xx91 xc92)) ∧ (
 doCall Tryz.prog (.func xf90 xx91 xc92) #[.pointer x23, .pointer t_10, .pointer x_32] w80 (retS (fun v94 w95 => ∃ (x93 : Option Addr), v94 = (.pointer x93 : Value) ∧ (
 C79 w95 ∧ (
 doCall Tryz.prog (.func (.func 310) #[] #[]) #[.agg #[.func xf81 xx82 xc83, .func xf84 xx85 xc86, .func xf87 xx88 xc89], .pointer x93] w95 (retS (fun v97 w98 => ∃ (x96 : Option Addr), v97 = (.pointer x96 : Value) ∧ (
 C79 w98 ∧ (
 R (.returned (.pointer x96)) w98))) (fun ch w => Kfn R ch [] w))))) (fun ch w => Kfn R ch [] w)))))))))))) (fun ch w => Kfn R ch [] w)))) (fun ch w => Kfn R ch [] w))
 ifB base_29 (
 ∃ (xf99 : Fn), ∃ (xx100 : Array Value), ∃ (xc101 : Array Value), World.cell? w30 ((blk b13).add 2) = some (.func xf99 xx100 xc101) ∧ (
 doCall Tryz.prog (.func xf99 xx100 xc101) #[.pointer x26, .pointer pair_11, .pointer low_12] w30 (retS (fun v103 w104 => ∃ (x102 : Option Addr), v103 = (.pointer x102 : Value) ∧ (
 K34 x102 w104)) (fun ch w => Kfn R ch [] w)))) (
 ∃ (xf105 : Fn), ∃ (xx106 : Array Value), ∃ (xc107 : Array Value), World.cell? w30 ((blk b13).add 0) = some (.func xf105 xx106 xc107) ∧ (
 ∃ (xf108 : Fn), ∃ (xx109 : Array Value), ∃ (xc110 : Array Value), World.cell? w30 ((blk b13).add 1) = some (.func xf108 xx109 xc110) ∧ (
 ∃ (xf111 : Fn), ∃ (xx112 : Array Value), ∃ (xc113 : Array Value), World.cell? w30 ((blk b13).add 2) = some (.func xf111 xx112 xc113) ∧ (
 doCall Tryz.prog (.func (.func 267) #[] #[]) #[.agg #[.func xf105 xx106 xc107, .func xf108 xx109 xc110, .func xf111 xx112 xc113], .pointer x26, .pointer pair_11, .pointer low_12] w30 (retS (fun v115 w116 => ∃ (x114 : Option Addr), v115 = (.pointer x114 : Value) ∧ (
 K34 x114 w116)) (fun ch w => Kfn R ch [] w))))))
 ifB ((x26).isNone) (
 K31 true w28) (
 doCall Tryz.prog (.func (.func 221) #[] #[]) #[.pointer x26] w28 (retS (fun v118 w119 => ∃ (x117 : Int), v118 = (.int .i64 x117 : Value) ∧ (
 doCall Tryz.prog (.func (.func 221) #[] #[]) #[.pointer low_12] w119 (retS (fun v121 w122 => ∃ (x120 : Int), v121 = (.int .i64 x120 : Value) ∧ (
 K31 (decide ((x117 : Int) ≤ (IntKind.wrap .i64 (x120 + 1)))) w122)) (fun ch w => Kfn R ch [] w)))) (fun ch w => Kfn R ch [] w)))))) (fun ch w => Kfn R ch [] w))))) (fun ch w => Kfn R ch [] w)))))))
set_option maxRecDepth 100000 in
theorem sh267_ok (s_f1 : Fn) (s_x2 : Array Value) (s_c3 : Array Value) (s_f4 : Fn) (s_x5 : Array Value) (s_c6 : Array Value) (s_f7 : Fn) (s_x8 : Array Value) (s_c9 : Array Value) (t_10 : Option Addr) (pair_11 : Option Addr) (low_12 : Option Addr) {R : Ending → World → Prop} {w : World} : sh267 s_f1 s_x2 s_c3 s_f4 s_x5 s_c6 s_f7 s_x8 s_c9 t_10 pair_11 low_12 R w → Calls Tryz.prog 267 #[.agg #[.func s_f1 s_x2 s_c3, .func s_f4 s_x5 s_c6, .func s_f7 s_x8 s_c9], .pointer t_10, .pointer pair_11, .pointer low_12] w R :=
  calls_of_eq (ann := fun _ => []) (fn := Tryz.f267) (c := bodyOf Tryz.f267) (args := #[.agg #[.func s_f1 s_x2 s_c3, .func s_f4 s_x5 s_c6, .func s_f7 s_x8 s_c9], .pointer t_10, .pointer pair_11, .pointer low_12]) 400 follows_mixed Tryz.func267 (by kernel_rfl) (by kernel_rfl)
set_option maxRecDepth 100000 in
/-- joinery/avljoin.left -/
def sh268  (R : Ending → World → Prop) (w : World) : Prop :=
 doAl (.cells #[.nilFunc, .nilFunc, .nilFunc] 331) w (fun b1 w2 =>
 doSt ((blk b1).add 0) (.func (.func 125) #[] #[]) w2 (fun w3 =>
 doSt ((blk b1).add 1) (.func (.func 123) #[] #[]) w3 (fun w4 =>
 doSt ((blk b1).add 2) (.func (.func 312) #[] #[]) w4 (fun w5 =>
 ∃ (xf6 : Fn), ∃ (xx7 : Array Value), ∃ (xc8 : Array Value), World.cell? w5 ((blk b1).add 0) = some (.func xf6 xx7 xc8) ∧ (
 ∃ (xf9 : Fn), ∃ (xx10 : Array Value), ∃ (xc11 : Array Value), World.cell? w5 ((blk b1).add 1) = some (.func xf9 xx10 xc11) ∧ (
 ∃ (xf12 : Fn), ∃ (xx13 : Array Value), ∃ (xc14 : Array Value), World.cell? w5 ((blk b1).add 2) = some (.func xf12 xx13 xc14) ∧ (
 R (.returned (.agg #[.func xf6 xx7 xc8, .func xf9 xx10 xc11, .func xf12 xx13 xc14])) w5)))))))
set_option maxRecDepth 100000 in
theorem sh268_ok  {R : Ending → World → Prop} {w : World} : sh268  R w → Calls Tryz.prog 268 #[] w R :=
  calls_of_eq (ann := fun _ => []) (fn := Tryz.f268) (c := bodyOf Tryz.f268) (args := #[]) 400 follows_mixed Tryz.func268 (by kernel_rfl) (by kernel_rfl)
set_option maxRecDepth 100000 in
/-- joinery/rb.Make -/
def sh271 (l_1 : Option Addr) (key_2 : Int) (val_3 : Int) (is_4 : Bool) (r_5 : Option Addr) (R : Ending → World → Prop) (w : World) : Prop :=
 doCall Tryz.prog (.func (.func 319) #[] #[]) #[.pointer l_1] w (retS (fun v8 w9 => ∃ (x6 : Int), ∃ (x7 : Int), v8 = (.agg #[.int .u64 x6, .int .u64 x7] : Value) ∧ (
 doCall Tryz.prog (.func (.func 318) #[] #[]) #[.int .u64 x7, .bool is_4] w9 (retS (fun v12 w13 => ∃ (x10 : Int), ∃ (x11 : Int), v12 = (.agg #[.int .u64 x10, .int .u64 x11] : Value) ∧ (
 doCall Tryz.prog (.func (.func 320) #[] #[]) #[.agg #[.int .u64 x10, .int .u64 x11]] w13 (retS (fun v15 w16 => ∃ (x14 : Int), v15 = (.int .u64 x14 : Value) ∧ (
 doCall Tryz.prog (.func (.func 105) #[] #[]) #[.pointer l_1, .int .i64 key_2, .int .i64 val_3, .int .u64 x14, .pointer r_5] w16 (retS (fun v18 w19 => ∃ (x17 : Option Addr), v18 = (.pointer x17 : Value) ∧ (
 R (.returned (.pointer x17)) w19)) (fun ch w => Kfn R ch [] w)))) (fun ch w => Kfn R ch [] w)))) (fun ch w => Kfn R ch [] w)))) (fun ch w => Kfn R ch [] w))
set_option maxRecDepth 100000 in
theorem sh271_ok (l_1 : Option Addr) (key_2 : Int) (val_3 : Int) (is_4 : Bool) (r_5 : Option Addr) {R : Ending → World → Prop} {w : World} : sh271 l_1 key_2 val_3 is_4 r_5 R w → Calls Tryz.prog 271 #[.pointer l_1, .int .i64 key_2, .int .i64 val_3, .bool is_4, .pointer r_5] w R :=
  calls_of_eq (ann := fun _ => []) (fn := Tryz.f271) (c := bodyOf Tryz.f271) (args := #[.pointer l_1, .int .i64 key_2, .int .i64 val_3, .bool is_4, .pointer r_5]) 400 follows_mixed Tryz.func271 (by kernel_rfl) (by kernel_rfl)
set_option maxRecDepth 100000 in
/-- joinery/rb.High -/
def sh272 (t_1 : Option Addr) (R : Ending → World → Prop) (w : World) : Prop :=
 doCall Tryz.prog (.func (.func 319) #[] #[]) #[.pointer t_1] w (retS (fun v4 w5 => ∃ (x2 : Int), ∃ (x3 : Int), v4 = (.agg #[.int .u64 x2, .int .u64 x3] : Value) ∧ (
 R (.returned (.int .i64 (IntKind.wrap .i64 x3))) w5)) (fun ch w => Kfn R ch [] w))
set_option maxRecDepth 100000 in
theorem sh272_ok (t_1 : Option Addr) {R : Ending → World → Prop} {w : World} : sh272 t_1 R w → Calls Tryz.prog 272 #[.pointer t_1] w R :=
  calls_of_eq (ann := fun _ => []) (fn := Tryz.f272) (c := bodyOf Tryz.f272) (args := #[.pointer t_1]) 400 follows_mixed Tryz.func272 (by kernel_rfl) (by kernel_rfl)
set_option maxRecDepth 100000 in
/-- joinery/rbjoin.hang -/
def sh273 (s_1 : Value) (t_2 : Option Addr) (pair_3 : Option Addr) (low_4 : Option Addr) (R : Ending → World → Prop) (w : World) : Prop :=
 let K6 : World → Prop := fun (w5 : World) => 
 doGo Tryz.prog (.fn (.method "joinery/rbjoin.out") #[]) #[s_1, .pointer t_2] w5 (retS (fun v8 w9 => ∃ (x7 : Option Addr), v8 = (.pointer x7 : Value) ∧ (
 doCall Tryz.prog (.func (.func 273) #[] #[]) #[s_1, .pointer x7, .pointer pair_3, .pointer low_4] w9 (retS (fun v11 w12 => ∃ (x10 : Option Addr), v11 = (.pointer x10 : Value) ∧ (
 let K14 : World → Prop := fun (w13 : World) => 
 doDr w13 (fun w15 =>
 doNC Tryz.prog (.func (.method "joinery/rbjoin.make") #[s_1] #[]) (
 doGo Tryz.prog (.fn (.method "joinery/rbjoin.in") #[]) #[s_1, .pointer t_2] w15 (retS (fun v17 w18 => ∃ (x16 : Option Addr), v17 = (.pointer x16 : Value) ∧ (
 doCall Tryz.prog (.func (.func 275) #[] #[]) #[.pointer t_2] w18 (retS (fun v20 w21 => ∃ (x19 : Bool), v20 = (.bool x19 : Value) ∧ (
 doGo Tryz.prog (.fn (.method "joinery/rbjoin.make") #[]) #[s_1, .pointer x16, .pointer t_2, .bool x19, .pointer x10] w21 (retS (fun v23 w24 => ∃ (x22 : Option Addr), v23 = (.pointer x22 : Value) ∧ (
 R (.returned (.pointer x22)) w24)) (fun ch w => Kfn R ch [] w)))) (fun ch w => Kfn R ch [] w)))) (fun ch w => Kfn R ch [] w))))
 let K27 : Bool → World → Prop := fun (x25 : Bool) (w26 : World) => 
 ifB x25 (
 doDr w26 (fun w28 =>
 doNC Tryz.prog (.func (.method "joinery/rbjoin.make") #[s_1] #[]) (
 doNC Tryz.prog (.func (.method "joinery/rbjoin.make") #[s_1] #[]) (
 doGo Tryz.prog (.fn (.method "joinery/rbjoin.in") #[]) #[s_1, .pointer t_2] w28 (retS (fun v30 w31 => ∃ (x29 : Option Addr), v30 = (.pointer x29 : Value) ∧ (
 doGo Tryz.prog (.fn (.method "joinery/rbjoin.in") #[]) #[s_1, .pointer x10] w31 (retS (fun v33 w34 => ∃ (x32 : Option Addr), v33 = (.pointer x32 : Value) ∧ (
 doGo Tryz.prog (.fn (.method "joinery/rbjoin.make") #[]) #[s_1, .pointer x29, .pointer t_2, .bool false, .pointer x32] w34 (retS (fun v36 w37 => ∃ (x35 : Option Addr), v36 = (.pointer x35 : Value) ∧ (
 doGo Tryz.prog (.fn (.method "joinery/rbjoin.out") #[]) #[s_1, .pointer x10] w37 (retS (fun v39 w40 => ∃ (x38 : Option Addr), v39 = (.pointer x38 : Value) ∧ (
 doCall Tryz.prog (.func (.func 229) #[] #[]) #[.pointer x38] w40 (retS (fun v42 w43 => ∃ (x41 : Option Addr), v42 = (.pointer x41 : Value) ∧ (
 doGo Tryz.prog (.fn (.method "joinery/rbjoin.make") #[]) #[s_1, .pointer x35, .pointer x10, .bool true, .pointer x41] w43 (retS (fun v45 w46 => ∃ (x44 : Option Addr), v45 = (.pointer x44 : Value) ∧ (
 R (.returned (.pointer x44)) w46)) (fun ch w => Kfn R ch [] w)))) (fun ch w => Kfn R ch [] w)))) (fun ch w => Kfn R ch [] w)))) (fun ch w => Kfn R ch [] w)))) (fun ch w => Kfn R ch [] w)))) (fun ch w => Kfn R ch [] w)))))) (
 K14 w26)
 doCall Tryz.prog (.func (.func 275) #[] #[]) #[.pointer t_2] w12 (retS (fun v48 w49 => ∃ (x47 : Bool), v48 = (.bool x47 : Value) ∧ (
 ifB (!x47) (
 doCall Tryz.prog (.func (.func 275) #[] #[]) #[.pointer x10] w49 (retS (fun v51 w52 => ∃ (x50 : Bool), v51 = (.bool x50 : Value) ∧ (
 ifB x50 (
 doGo Tryz.prog (.fn (.method "joinery/rbjoin.out") #[]) #[s_1, .pointer x10] w52 (retS (fun v54 w55 => ∃ (x53 : Option Addr), v54 = (.pointer x53 : Value) ∧ (
 doCall Tryz.prog (.func (.func 275) #[] #[]) #[.pointer x53] w55 (retS (fun v57 w58 => ∃ (x56 : Bool), v57 = (.bool x56 : Value) ∧ (
 K27 x56 w58)) (fun ch w => Kfn R ch [] w)))) (fun ch w => Kfn R ch [] w))) (
 K14 w52))) (fun ch w => Kfn R ch [] w))) (
 K14 w49))) (fun ch w => Kfn R ch [] w)))) (fun ch w => Kfn R ch [] w)))) (fun ch w => Kfn R ch [] w))
 let K61 : Bool → World → Prop := fun (x59 : Bool) (w60 : World) => 
 ifB x59 (
 doGo Tryz.prog (.fn (.method "joinery/rbjoin.make") #[]) #[s_1, .pointer t_2, .pointer pair_3, .bool true, .pointer low_4] w60 (retS (fun v63 w64 => ∃ (x62 : Option Addr), v63 = (.pointer x62 : Value) ∧ (
 R (.returned (.pointer x62)) w64)) (fun ch w => Kfn R ch [] w))) (
 K6 w60)
 ifB ((t_2).isNone) (
 doGo Tryz.prog (.fn (.method "joinery/rbjoin.make") #[]) #[s_1, .pointer t_2, .pointer pair_3, .bool true, .pointer low_4] w (retS (fun v66 w67 => ∃ (x65 : Option Addr), v66 = (.pointer x65 : Value) ∧ (
 R (.returned (.pointer x65)) w67)) (fun ch w => Kfn R ch [] w))) (
 doCall Tryz.prog (.func (.func 275) #[] #[]) #[.pointer t_2] w (retS (fun v69 w70 => ∃ (x68 : Bool), v69 = (.bool x68 : Value) ∧ (
 ifB (!x68) (
 doCall Tryz.prog (.func (.func 272) #[] #[]) #[.pointer t_2] w70 (retS (fun v72 w73 => ∃ (x71 : Int), v72 = (.int .i64 x71 : Value) ∧ (
 doCall Tryz.prog (.func (.func 272) #[] #[]) #[.pointer low_4] w73 (retS (fun v75 w76 => ∃ (x74 : Int), v75 = (.int .i64 x74 : Value) ∧ (
 K61 (decide ((x71 : Int) ≤ x74)) w76)) (fun ch w => Kfn R ch [] w)))) (fun ch w => Kfn R ch [] w))) (
 K6 w70))) (fun ch w => Kfn R ch [] w)))
set_option maxRecDepth 100000 in
theorem sh273_ok (s_1 : Value) (t_2 : Option Addr) (pair_3 : Option Addr) (low_4 : Option Addr) {R : Ending → World → Prop} {w : World} : sh273 s_1 t_2 pair_3 low_4 R w → Calls Tryz.prog 273 #[s_1, .pointer t_2, .pointer pair_3, .pointer low_4] w R :=
  calls_of_eq (ann := fun _ => []) (fn := Tryz.f273) (c := bodyOf Tryz.f273) (args := #[s_1, .pointer t_2, .pointer pair_3, .pointer low_4]) 400 follows_mixed Tryz.func273 (by kernel_rfl) (by kernel_rfl)
set_option maxRecDepth 100000 in
/-- joinery/rb.Red -/
def sh275 (t_1 : Option Addr) (R : Ending → World → Prop) (w : World) : Prop :=
 doCall Tryz.prog (.func (.func 319) #[] #[]) #[.pointer t_1] w (retS (fun v4 w5 => ∃ (x2 : Int), ∃ (x3 : Int), v4 = (.agg #[.int .u64 x2, .int .u64 x3] : Value) ∧ (
 R (.returned (.bool ((x2 : Int) == 1))) w5)) (fun ch w => Kfn R ch [] w))
set_option maxRecDepth 100000 in
theorem sh275_ok (t_1 : Option Addr) {R : Ending → World → Prop} {w : World} : sh275 t_1 R w → Calls Tryz.prog 275 #[.pointer t_1] w R :=
  calls_of_eq (ann := fun _ => []) (fn := Tryz.f275) (c := bodyOf Tryz.f275) (args := #[.pointer t_1]) 400 follows_mixed Tryz.func275 (by kernel_rfl) (by kernel_rfl)
set_option maxRecDepth 100000 in
/-- joinery/wb.Make -/
def sh276 (l_1 : Option Addr) (key_2 : Int) (val_3 : Int) (r_4 : Option Addr) (R : Ending → World → Prop) (w : World) : Prop :=
 doCall Tryz.prog (.func (.func 105) #[] #[]) #[.pointer l_1, .int .i64 key_2, .int .i64 val_3, .int .u64 0, .pointer r_4] w (retS (fun v6 w7 => ∃ (x5 : Option Addr), v6 = (.pointer x5 : Value) ∧ (
 R (.returned (.pointer x5)) w7)) (fun ch w => Kfn R ch [] w))
set_option maxRecDepth 100000 in
theorem sh276_ok (l_1 : Option Addr) (key_2 : Int) (val_3 : Int) (r_4 : Option Addr) {R : Ending → World → Prop} {w : World} : sh276 l_1 key_2 val_3 r_4 R w → Calls Tryz.prog 276 #[.pointer l_1, .int .i64 key_2, .int .i64 val_3, .pointer r_4] w R :=
  calls_of_eq (ann := fun _ => []) (fn := Tryz.f276) (c := bodyOf Tryz.f276) (args := #[.pointer l_1, .int .i64 key_2, .int .i64 val_3, .pointer r_4]) 400 follows_mixed Tryz.func276 (by kernel_rfl) (by kernel_rfl)
set_option maxRecDepth 100000 in
/-- joinery/wb.Weight -/
def sh277 (t_1 : Option Addr) (R : Ending → World → Prop) (w : World) : Prop :=
 doCall Tryz.prog (.func (.func 91) #[] #[]) #[.pointer t_1] w (retS (fun v3 w4 => ∃ (x2 : Int), v3 = (.int .i64 x2 : Value) ∧ (
 R (.returned (.int .i64 (IntKind.wrap .i64 (x2 + 1)))) w4)) (fun ch w => Kfn R ch [] w))
set_option maxRecDepth 100000 in
theorem sh277_ok (t_1 : Option Addr) {R : Ending → World → Prop} {w : World} : sh277 t_1 R w → Calls Tryz.prog 277 #[.pointer t_1] w R :=
  calls_of_eq (ann := fun _ => []) (fn := Tryz.f277) (c := bodyOf Tryz.f277) (args := #[.pointer t_1]) 400 follows_mixed Tryz.func277 (by kernel_rfl) (by kernel_rfl)
end Go.Proofs.YtlddfgfmkapoiaaGreat

