/-
  Printed by a program (gen.py): what the functions of the program do, as formulas; each with the proof that its call is what the formula says.
-/
/-
  Printed by a program (gen.py): what the functions of the program do, as formulas; each with the proof that its call is what the formula says.
-/
import Derived.Test.YtlfjaogbehpleaaGreatZ04
import Derived.Test.YtlfjaogbehpleaaGreatProg
import Derived.Test.YtlfjaogbehpleaaGreatZ05

namespace Go.Proofs.YtlfjaogbehpleaaGreat
open Go Go.Sh
set_option maxRecDepth 100000 in
/-- joinery/find.way$1 -/
def sh152 (yield_f1 : Fn) (yield_x2 : Array Value) (yield_c3 : Array Value) (x4 : Addr) (x5 : Addr) (x6 : Addr) (R : Ending → World → Prop) (w : World) : Prop :=
 ∃ (x7 : Int), World.cell? w x4 = some (.int .u8 x7) ∧ (
 doCall Tryz.prog (.func (.func 40) #[] #[]) #[.int .u8 x7] w (retS (fun v9 w10 => ∃ (x8 : ByteArray), v9 = (.string x8 : Value) ∧ (
 ifB (x8.toList == (⟨#[]⟩ : ByteArray).toList) (
 R (.returned (.tuple #[])) w10) (
 ∃ (x11 : Option Addr), World.cell? w10 x5 = some (.pointer x11) ∧ (
 ∃ (I12 : List Value → World → Prop) (μ13 : List Value → World → Nat), I12 [.pointer x11] w10 ∧ (∀ (n_16 : Option Addr), ∀ (_j14 : Nat → Value) (w15 : World), I12 [.pointer n_16] w15 → (
 ifB (!(n_16).isNone) (
 doDr w15 (fun w18 =>
 ∃ (C17 : World → Prop), C17 w18 ∧ (
 ∃ (x19 : Int), (∀ w, C17 w → World.cell? w x4 = some (.int .u8 x19)) ∧ (
 ∃ (x20 : Int), (∀ w, C17 w → World.cell? w x6 = some (.int .i64 x20)) ∧ (
 doCall Tryz.prog (.func (.func 131) #[] #[]) #[.pointer n_16] w18 (retS (fun v22 w23 => ∃ (x21 : Int), v22 = (.int .i64 x21 : Value) ∧ (
 C17 w23 ∧ (
 doCall Tryz.prog (.func (.func 64) #[] #[]) #[.int .u8 x19, .int .i64 x20, .int .i64 x21] w23 (retS (fun v25 w26 => ∃ (x24 : Int), v25 = (.int .i64 x24 : Value) ∧ (
 let K29 : Bool → World → Prop := fun (x27 : Bool) (w28 : World) => 
 ifB x27 (
 R (.returned (.tuple #[])) w28) (
 ifB (decide ((x24 : Int) < 0)) (
 doCall Tryz.prog (.func (.func 128) #[] #[]) #[.pointer n_16] w28 (retS (fun v31 w32 => ∃ (x30 : Option Addr), v31 = (.pointer x30 : Value) ∧ (
 I12 [.pointer x30] w32 ∧ μ13 [.pointer x30] w32 < μ13 [.pointer n_16] w15)) (fun ch w => Kfn R ch [] w))) (
 doCall Tryz.prog (.func (.func 130) #[] #[]) #[.pointer n_16] w28 (retS (fun v34 w35 => ∃ (x33 : Option Addr), v34 = (.pointer x33 : Value) ∧ (
 I12 [.pointer x33] w35 ∧ μ13 [.pointer x33] w35 < μ13 [.pointer n_16] w15)) (fun ch w => Kfn R ch [] w))))
 doCall Tryz.prog (.func yield_f1 yield_x2 yield_c3) #[.pointer n_16, .int .i64 x24] w26 (retS (fun v37 w38 => ∃ (x36 : Bool), v37 = (.bool x36 : Value) ∧ (
 ifB (!x36) (
 R (.returned (.tuple #[])) w38) (
 K29 ((x24 : Int) == 0) w38))) (fun ch w => Kfn R ch [] w)))) (fun ch w => Kfn R ch [] w))))) (fun ch w => Kfn R ch [] w))))))) (
 R (.returned (.tuple #[])) w15))))))) (fun ch w => Kfn R ch [] w)))
set_option maxRecDepth 100000 in
theorem sh152_ok (yield_f1 : Fn) (yield_x2 : Array Value) (yield_c3 : Array Value) (x4 : Addr) (x5 : Addr) (x6 : Addr) {R : Ending → World → Prop} {w : World} : sh152 yield_f1 yield_x2 yield_c3 x4 x5 x6 R w → Calls Tryz.prog 152 #[.func yield_f1 yield_x2 yield_c3, .pointer (some x4), .pointer (some x5), .pointer (some x6)] w R :=
  Old.calls_of_eq (ann := fun i => if i = 0 then [(5, .pointer none)] else []) (fn := Tryz.f152) (c := bodyOf Tryz.f152) (args := #[.func yield_f1 yield_x2 yield_c3, .pointer (some x4), .pointer (some x5), .pointer (some x6)]) 400 follows_mixed Tryz.func152 (by kernel_rfl) (by kernel_rfl)
set_option maxRecDepth 100000 in
/-- joinery/avljoin.Join -/
def sh193 (l_1 : Option Addr) (key_2 : Int) (val_3 : Int) (r_4 : Option Addr) (R : Ending → World → Prop) (w : World) : Prop :=
 doCall Tryz.prog (.func (.func 250) #[] #[]) #[.pointer none, .int .i64 key_2, .int .i64 val_3, .pointer none] w (retS (fun v6 w7 => ∃ (x5 : Option Addr), v6 = (.pointer x5 : Value) ∧ (
 doCall Tryz.prog (.func (.func 196) #[] #[]) #[.pointer l_1] w7 (retS (fun v9 w10 => ∃ (x8 : Int), v9 = (.int .i64 x8 : Value) ∧ (
 doCall Tryz.prog (.func (.func 196) #[] #[]) #[.pointer r_4] w10 (retS (fun v12 w13 => ∃ (x11 : Int), v12 = (.int .i64 x11 : Value) ∧ (
 ifB (decide ((x8 : Int) > (IntKind.wrap .i64 (x11 + 1)))) (
 doCall Tryz.prog (.func (.func 251) #[] #[]) #[] w13 (retS (fun v23 w24 => ∃ (xf14 : Fn), ∃ (xx15 : Array Value), ∃ (xc16 : Array Value), ∃ (xf17 : Fn), ∃ (xx18 : Array Value), ∃ (xc19 : Array Value), ∃ (xf20 : Fn), ∃ (xx21 : Array Value), ∃ (xc22 : Array Value), v23 = (.agg #[.func xf14 xx15 xc16, .func xf17 xx18 xc19, .func xf20 xx21 xc22] : Value) ∧ (
 doCall Tryz.prog (.func (.func 252) #[] #[]) #[.agg #[.func xf14 xx15 xc16, .func xf17 xx18 xc19, .func xf20 xx21 xc22], .pointer l_1, .pointer x5, .pointer r_4] w24 (retS (fun v26 w27 => ∃ (x25 : Option Addr), v26 = (.pointer x25 : Value) ∧ (
 R (.returned (.pointer x25)) w27)) (fun ch w => Kfn R ch [] w)))) (fun ch w => Kfn R ch [] w))) (
 ifB (decide ((x11 : Int) > (IntKind.wrap .i64 (x8 + 1)))) (
 doCall Tryz.prog (.func (.func 253) #[] #[]) #[] w13 (retS (fun v37 w38 => ∃ (xf28 : Fn), ∃ (xx29 : Array Value), ∃ (xc30 : Array Value), ∃ (xf31 : Fn), ∃ (xx32 : Array Value), ∃ (xc33 : Array Value), ∃ (xf34 : Fn), ∃ (xx35 : Array Value), ∃ (xc36 : Array Value), v37 = (.agg #[.func xf28 xx29 xc30, .func xf31 xx32 xc33, .func xf34 xx35 xc36] : Value) ∧ (
 doCall Tryz.prog (.func (.func 252) #[] #[]) #[.agg #[.func xf28 xx29 xc30, .func xf31 xx32 xc33, .func xf34 xx35 xc36], .pointer r_4, .pointer x5, .pointer l_1] w38 (retS (fun v40 w41 => ∃ (x39 : Option Addr), v40 = (.pointer x39 : Value) ∧ (
 R (.returned (.pointer x39)) w41)) (fun ch w => Kfn R ch [] w)))) (fun ch w => Kfn R ch [] w))) (
 doCall Tryz.prog (.func (.func 250) #[] #[]) #[.pointer l_1, .int .i64 key_2, .int .i64 val_3, .pointer r_4] w13 (retS (fun v43 w44 => ∃ (x42 : Option Addr), v43 = (.pointer x42 : Value) ∧ (
 R (.returned (.pointer x42)) w44)) (fun ch w => Kfn R ch [] w)))))) (fun ch w => Kfn R ch [] w)))) (fun ch w => Kfn R ch [] w)))) (fun ch w => Kfn R ch [] w))
set_option maxRecDepth 100000 in
theorem sh193_ok (l_1 : Option Addr) (key_2 : Int) (val_3 : Int) (r_4 : Option Addr) {R : Ending → World → Prop} {w : World} : sh193 l_1 key_2 val_3 r_4 R w → Calls Tryz.prog 193 #[.pointer l_1, .int .i64 key_2, .int .i64 val_3, .pointer r_4] w R :=
  Old.calls_of_eq (ann := fun _ => []) (fn := Tryz.f193) (c := bodyOf Tryz.f193) (args := #[.pointer l_1, .int .i64 key_2, .int .i64 val_3, .pointer r_4]) 400 follows_mixed Tryz.func193 (by kernel_rfl) (by kernel_rfl)
set_option maxRecDepth 100000 in
/-- joinery/avl.Rank -/
def sh196 (t_1 : Option Addr) (R : Ending → World → Prop) (w : World) : Prop :=
 doCall Tryz.prog (.func (.func 214) #[] #[]) #[.pointer t_1] w (retS (fun v3 w4 => ∃ (x2 : Int), v3 = (.int .u64 x2 : Value) ∧ (
 R (.returned (.int .i64 (IntKind.wrap .i64 x2))) w4)) (fun ch w => Kfn R ch [] w))
set_option maxRecDepth 100000 in
theorem sh196_ok (t_1 : Option Addr) {R : Ending → World → Prop} {w : World} : sh196 t_1 R w → Calls Tryz.prog 196 #[.pointer t_1] w R :=
  Old.calls_of_eq (ann := fun _ => []) (fn := Tryz.f196) (c := bodyOf Tryz.f196) (args := #[.pointer t_1]) 400 follows_mixed Tryz.func196 (by kernel_rfl) (by kernel_rfl)
set_option maxRecDepth 100000 in
/-- joinery/scheme.same -/
def sh198 (t_1 : Option Addr) (R : Ending → World → Prop) (w : World) : Prop :=
 R (.returned (.pointer t_1)) w
set_option maxRecDepth 100000 in
theorem sh198_ok (t_1 : Option Addr) {R : Ending → World → Prop} {w : World} : sh198 t_1 R w → Calls Tryz.prog 198 #[.pointer t_1] w R :=
  Old.calls_of_eq (ann := fun _ => []) (fn := Tryz.f198) (c := bodyOf Tryz.f198) (args := #[.pointer t_1]) 400 follows_mixed Tryz.func198 (by kernel_rfl) (by kernel_rfl)
set_option maxRecDepth 100000 in
/-- joinery/rbjoin.Join -/
def sh199 (l_1 : Option Addr) (key_2 : Int) (val_3 : Int) (r_4 : Option Addr) (R : Ending → World → Prop) (w : World) : Prop :=
 doCall Tryz.prog (.func (.func 204) #[] #[]) #[.pointer l_1] w (retS (fun v6 w7 => ∃ (x5 : Option Addr), v6 = (.pointer x5 : Value) ∧ (
 doCall Tryz.prog (.func (.func 204) #[] #[]) #[.pointer r_4] w7 (retS (fun v9 w10 => ∃ (x8 : Option Addr), v9 = (.pointer x8 : Value) ∧ (
 doCall Tryz.prog (.func (.func 256) #[] #[]) #[.pointer none, .int .i64 key_2, .int .i64 val_3, .bool false, .pointer none] w10 (retS (fun v12 w13 => ∃ (x11 : Option Addr), v12 = (.pointer x11 : Value) ∧ (
 doCall Tryz.prog (.func (.func 257) #[] #[]) #[.pointer x5] w13 (retS (fun v15 w16 => ∃ (x14 : Int), v15 = (.int .i64 x14 : Value) ∧ (
 doCall Tryz.prog (.func (.func 257) #[] #[]) #[.pointer x8] w16 (retS (fun v18 w19 => ∃ (x17 : Int), v18 = (.int .i64 x17 : Value) ∧ (
 ifB (decide ((x14 : Int) > x17)) (
 doCall Tryz.prog (.func (.func 258) #[] #[]) #[.iface 309 (.agg #[]), .pointer x5, .pointer x11, .pointer x8] w19 (retS (fun v21 w22 => ∃ (x20 : Option Addr), v21 = (.pointer x20 : Value) ∧ (
 doCall Tryz.prog (.func (.func 204) #[] #[]) #[.pointer x20] w22 (retS (fun v24 w25 => ∃ (x23 : Option Addr), v24 = (.pointer x23 : Value) ∧ (
 R (.returned (.pointer x23)) w25)) (fun ch w => Kfn R ch [] w)))) (fun ch w => Kfn R ch [] w))) (
 ifB (decide ((x17 : Int) > x14)) (
 doCall Tryz.prog (.func (.func 258) #[] #[]) #[.iface 310 (.agg #[]), .pointer x8, .pointer x11, .pointer x5] w19 (retS (fun v27 w28 => ∃ (x26 : Option Addr), v27 = (.pointer x26 : Value) ∧ (
 doCall Tryz.prog (.func (.func 204) #[] #[]) #[.pointer x26] w28 (retS (fun v30 w31 => ∃ (x29 : Option Addr), v30 = (.pointer x29 : Value) ∧ (
 R (.returned (.pointer x29)) w31)) (fun ch w => Kfn R ch [] w)))) (fun ch w => Kfn R ch [] w))) (
 doCall Tryz.prog (.func (.func 256) #[] #[]) #[.pointer x5, .int .i64 key_2, .int .i64 val_3, .bool false, .pointer x8] w19 (retS (fun v33 w34 => ∃ (x32 : Option Addr), v33 = (.pointer x32 : Value) ∧ (
 R (.returned (.pointer x32)) w34)) (fun ch w => Kfn R ch [] w)))))) (fun ch w => Kfn R ch [] w)))) (fun ch w => Kfn R ch [] w)))) (fun ch w => Kfn R ch [] w)))) (fun ch w => Kfn R ch [] w)))) (fun ch w => Kfn R ch [] w))
set_option maxRecDepth 100000 in
theorem sh199_ok (l_1 : Option Addr) (key_2 : Int) (val_3 : Int) (r_4 : Option Addr) {R : Ending → World → Prop} {w : World} : sh199 l_1 key_2 val_3 r_4 R w → Calls Tryz.prog 199 #[.pointer l_1, .int .i64 key_2, .int .i64 val_3, .pointer r_4] w R :=
  Old.calls_of_eq (ann := fun _ => []) (fn := Tryz.f199) (c := bodyOf Tryz.f199) (args := #[.pointer l_1, .int .i64 key_2, .int .i64 val_3, .pointer r_4]) 400 follows_mixed Tryz.func199 (by kernel_rfl) (by kernel_rfl)
set_option maxRecDepth 100000 in
/-- joinery/rb.Blacken -/
def sh204 (t_1 : Option Addr) (R : Ending → World → Prop) (w : World) : Prop :=
 doCall Tryz.prog (.func (.func 260) #[] #[]) #[.pointer t_1] w (retS (fun v3 w4 => ∃ (x2 : Bool), v3 = (.bool x2 : Value) ∧ (
 ifB (!x2) (
 R (.returned (.pointer t_1)) w4) (
 doCall Tryz.prog (.func (.func 128) #[] #[]) #[.pointer t_1] w4 (retS (fun v6 w7 => ∃ (x5 : Option Addr), v6 = (.pointer x5 : Value) ∧ (
 doCall Tryz.prog (.func (.func 131) #[] #[]) #[.pointer t_1] w7 (retS (fun v9 w10 => ∃ (x8 : Int), v9 = (.int .i64 x8 : Value) ∧ (
 doCall Tryz.prog (.func (.func 132) #[] #[]) #[.pointer t_1] w10 (retS (fun v12 w13 => ∃ (x11 : Int), v12 = (.int .i64 x11 : Value) ∧ (
 doCall Tryz.prog (.func (.func 214) #[] #[]) #[.pointer t_1] w13 (retS (fun v15 w16 => ∃ (x14 : Int), v15 = (.int .u64 x14 : Value) ∧ (
 doCall Tryz.prog (.func (.func 130) #[] #[]) #[.pointer t_1] w16 (retS (fun v18 w19 => ∃ (x17 : Option Addr), v18 = (.pointer x17 : Value) ∧ (
 doCall Tryz.prog (.func (.func 261) #[] #[]) #[.pointer x5, .int .i64 x8, .int .i64 x11, .int .u64 (IntKind.wrap .u64 (x14 + 1)), .pointer x17] w19 (retS (fun v21 w22 => ∃ (x20 : Option Addr), v21 = (.pointer x20 : Value) ∧ (
 R (.returned (.pointer x20)) w22)) (fun ch w => Kfn R ch [] w)))) (fun ch w => Kfn R ch [] w)))) (fun ch w => Kfn R ch [] w)))) (fun ch w => Kfn R ch [] w)))) (fun ch w => Kfn R ch [] w)))) (fun ch w => Kfn R ch [] w))))) (fun ch w => Kfn R ch [] w))
set_option maxRecDepth 100000 in
theorem sh204_ok (t_1 : Option Addr) {R : Ending → World → Prop} {w : World} : sh204 t_1 R w → Calls Tryz.prog 204 #[.pointer t_1] w R :=
  Old.calls_of_eq (ann := fun _ => []) (fn := Tryz.f204) (c := bodyOf Tryz.f204) (args := #[.pointer t_1]) 400 follows_mixed Tryz.func204 (by kernel_rfl) (by kernel_rfl)
set_option maxRecDepth 100000 in
/-- joinery/wbjoin.Join -/
def sh205 (l_1 : Option Addr) (key_2 : Int) (val_3 : Int) (r_4 : Option Addr) (R : Ending → World → Prop) (w : World) : Prop :=
 doCall Tryz.prog (.func (.func 262) #[] #[]) #[.pointer none, .int .i64 key_2, .int .i64 val_3, .pointer none] w (retS (fun v6 w7 => ∃ (x5 : Option Addr), v6 = (.pointer x5 : Value) ∧ (
 doCall Tryz.prog (.func (.func 263) #[] #[]) #[.pointer l_1] w7 (retS (fun v9 w10 => ∃ (x8 : Int), v9 = (.int .i64 x8 : Value) ∧ (
 doCall Tryz.prog (.func (.func 263) #[] #[]) #[.pointer r_4] w10 (retS (fun v12 w13 => ∃ (x11 : Int), v12 = (.int .i64 x11 : Value) ∧ (
 ifB (decide ((x8 : Int) < x11)) (
 doCall Tryz.prog (.func (.func 264) #[] #[]) #[.int .i64 0, .pointer r_4, .pointer x5, .pointer l_1] w13 (retS (fun v15 w16 => ∃ (x14 : Option Addr), v15 = (.pointer x14 : Value) ∧ (
 R (.returned (.pointer x14)) w16)) (fun ch w => Kfn R ch [] w))) (
 doCall Tryz.prog (.func (.func 264) #[] #[]) #[.int .i64 1, .pointer l_1, .pointer x5, .pointer r_4] w13 (retS (fun v18 w19 => ∃ (x17 : Option Addr), v18 = (.pointer x17 : Value) ∧ (
 R (.returned (.pointer x17)) w19)) (fun ch w => Kfn R ch [] w))))) (fun ch w => Kfn R ch [] w)))) (fun ch w => Kfn R ch [] w)))) (fun ch w => Kfn R ch [] w))
set_option maxRecDepth 100000 in
theorem sh205_ok (l_1 : Option Addr) (key_2 : Int) (val_3 : Int) (r_4 : Option Addr) {R : Ending → World → Prop} {w : World} : sh205 l_1 key_2 val_3 r_4 R w → Calls Tryz.prog 205 #[.pointer l_1, .int .i64 key_2, .int .i64 val_3, .pointer r_4] w R :=
  Old.calls_of_eq (ann := fun _ => []) (fn := Tryz.f205) (c := bodyOf Tryz.f205) (args := #[.pointer l_1, .int .i64 key_2, .int .i64 val_3, .pointer r_4]) 400 follows_mixed Tryz.func205 (by kernel_rfl) (by kernel_rfl)
set_option maxRecDepth 100000 in
/-- joinery/sound.beads -/
def sh212 (o_1 : Int) (t_2 : Option Addr) (R : Ending → World → Prop) (w : World) : Prop :=
 doAl (.cells #[.int .u8 o_1] 5) w (fun b3 w4 =>
 doAl (.cells #[.pointer t_2] 68) w4 (fun b5 w6 =>
 R (.returned (.func (.func 268) #[] #[.pointer (some (blk b3)), .pointer (some (blk b5))])) w6))
set_option maxRecDepth 100000 in
theorem sh212_ok (o_1 : Int) (t_2 : Option Addr) {R : Ending → World → Prop} {w : World} : sh212 o_1 t_2 R w → Calls Tryz.prog 212 #[.int .u8 o_1, .pointer t_2] w R :=
  Old.calls_of_eq (ann := fun _ => []) (fn := Tryz.f212) (c := bodyOf Tryz.f212) (args := #[.int .u8 o_1, .pointer t_2]) 400 follows_mixed Tryz.func212 (by kernel_rfl) (by kernel_rfl)
set_option maxRecDepth 100000 in
/-- joinery/treap.Check -/
def sh213 (t_1 : Option Addr) (R : Ending → World → Prop) (w : World) : Prop :=
 doAl (.cells #[.int .i64 0] 3) w (fun b2 w3 =>
 doAl (.cells #[.nilFunc] 189) w3 (fun b4 w5 =>
 doSt ((blk b4).add 0) (.func (.func 273) #[] #[.pointer (some (blk b2)), .pointer (some (blk b4))]) w5 (fun w6 =>
 ∃ (xf7 : Fn), ∃ (xx8 : Array Value), ∃ (xc9 : Array Value), World.cell? w6 (blk b4) = some (.func xf7 xx8 xc9) ∧ (
 doCall Tryz.prog (.func xf7 xx8 xc9) #[.pointer t_1] w6 (retS (fun v11 w12 => ∃ (x10 : Bool), v11 = (.bool x10 : Value) ∧ (
 ifB (!x10) (
 ∃ (x13 : Int), World.cell? w12 (blk b2) = some (.int .i64 x13) ∧ (
 doSt ((blk b2).add 0) (.int .i64 x13) w12 (fun w14 =>
 ∃ (x15 : Int), World.cell? w14 (blk b2) = some (.int .i64 x15) ∧ (
 R (.returned (.tuple #[.int .i64 x15, .int .i64 8])) w14)))) (
 ∃ (x16 : Int), World.cell? w12 (blk b2) = some (.int .i64 x16) ∧ (
 doSt ((blk b2).add 0) (.int .i64 x16) w12 (fun w17 =>
 ∃ (x18 : Int), World.cell? w17 (blk b2) = some (.int .i64 x18) ∧ (
 R (.returned (.tuple #[.int .i64 x18, .int .i64 0])) w17)))))) (fun ch w => Kfn R ch [] w))))))
set_option maxRecDepth 100000 in
theorem sh213_ok (t_1 : Option Addr) {R : Ending → World → Prop} {w : World} : sh213 t_1 R w → Calls Tryz.prog 213 #[.pointer t_1] w R :=
  Old.calls_of_eq (ann := fun _ => []) (fn := Tryz.f213) (c := bodyOf Tryz.f213) (args := #[.pointer t_1]) 400 follows_mixed Tryz.func213 (by kernel_rfl) (by kernel_rfl)
set_option maxRecDepth 100000 in
/-- joinery/mix.Of -/
def sh215 (key_1 : Int) (R : Ending → World → Prop) (w : World) : Prop :=
 doCall Tryz.prog (.func (.func 127) #[] #[]) #[.int .u64 (IntKind.wrap .u64 ((IntKind.wrap .u64 key_1) + 11400714819323198485))] w (retS (fun v3 w4 => ∃ (x2 : Int), v3 = (.int .u64 x2 : Value) ∧ (
 R (.returned (.int .u64 x2)) w4)) (fun ch w => Kfn R ch [] w))
set_option maxRecDepth 100000 in
theorem sh215_ok (key_1 : Int) {R : Ending → World → Prop} {w : World} : sh215 key_1 R w → Calls Tryz.prog 215 #[.int .i64 key_1] w R :=
  Old.calls_of_eq (ann := fun _ => []) (fn := Tryz.f215) (c := bodyOf Tryz.f215) (args := #[.int .i64 key_1]) 400 follows_mixed Tryz.func215 (by kernel_rfl) (by kernel_rfl)
set_option maxRecDepth 100000 in
/-- joinery/build.tagged -/
def sh219 (s_1 : Option Addr) (d_2 : Option Addr) (l_p3 : Option Addr) (l_n4 : Nat) (l_c5 : Nat) (R : Ending → World → Prop) (w : World) : Prop :=
 doAl (.cells #[.pointer s_1] 65) w (fun b6 w7 =>
 doAl (.cells #[.pointer d_2] 202) w7 (fun b8 w9 =>
 doAl (.cells #[.slice l_p3 l_n4 l_c5] 22) w9 (fun b10 w11 =>
 R (.returned (.func (.func 276) #[] #[.pointer (some (blk b10)), .pointer (some (blk b6)), .pointer (some (blk b8))])) w11)))
set_option maxRecDepth 100000 in
theorem sh219_ok (s_1 : Option Addr) (d_2 : Option Addr) (l_p3 : Option Addr) (l_n4 : Nat) (l_c5 : Nat) {R : Ending → World → Prop} {w : World} : sh219 s_1 d_2 l_p3 l_n4 l_c5 R w → Calls Tryz.prog 219 #[.pointer s_1, .pointer d_2, .slice l_p3 l_n4 l_c5] w R :=
  Old.calls_of_eq (ann := fun _ => []) (fn := Tryz.f219) (c := bodyOf Tryz.f219) (args := #[.pointer s_1, .pointer d_2, .slice l_p3 l_n4 l_c5]) 400 follows_mixed Tryz.func219 (by kernel_rfl) (by kernel_rfl)
end Go.Proofs.YtlfjaogbehpleaaGreat

namespace Go.Proofs.YtlfjaogbehpleaaGreat
open Go Go.Sh
set_option maxRecDepth 100000 in
/-- joinery/build.Items -/
def sh220 (s_1 : Option Addr) (l_p2 : Option Addr) (l_n3 : Nat) (l_c4 : Nat) (R : Ending → World → Prop) (w : World) : Prop :=
 doAl (.cells #[.pointer s_1] 65) w (fun b5 w6 =>
 doAl (.cells #[.nilFunc] 324) w6 (fun b7 w8 =>
 doSt ((blk b7).add 0) (.func (.func 279) #[] #[.pointer (some (blk b5)), .pointer (some (blk b7))]) w8 (fun w9 =>
 ∃ (xf10 : Fn), ∃ (xx11 : Array Value), ∃ (xc12 : Array Value), World.cell? w9 (blk b7) = some (.func xf10 xx11 xc12) ∧ (
 doCall Tryz.prog (.func xf10 xx11 xc12) #[.slice l_p2 l_n3 l_c4] w9 (retS (fun v14 w15 => ∃ (x13 : Option Addr), v14 = (.pointer x13 : Value) ∧ (
 R (.returned (.pointer x13)) w15)) (fun ch w => Kfn R ch [] w))))))
set_option maxRecDepth 100000 in
theorem sh220_ok (s_1 : Option Addr) (l_p2 : Option Addr) (l_n3 : Nat) (l_c4 : Nat) {R : Ending → World → Prop} {w : World} : sh220 s_1 l_p2 l_n3 l_c4 R w → Calls Tryz.prog 220 #[.pointer s_1, .slice l_p2 l_n3 l_c4] w R :=
  Old.calls_of_eq (ann := fun _ => []) (fn := Tryz.f220) (c := bodyOf Tryz.f220) (args := #[.pointer s_1, .slice l_p2 l_n3 l_c4]) 400 follows_mixed Tryz.func220 (by kernel_rfl) (by kernel_rfl)
set_option maxRecDepth 100000 in
/-- joinery/split.where -/
def sh221 (o_1 : Int) (key_2 : Int) (R : Ending → World → Prop) (w : World) : Prop :=
 doAl (.cells #[.int .u8 o_1] 5) w (fun b3 w4 =>
 ∃ (x5 : Int), World.cell? w4 (blk b3) = some (.int .u8 x5) ∧ (
 doCall Tryz.prog (.func (.func 124) #[] #[]) #[.int .u8 x5, .int .i64 key_2] w4 (retS (fun v8 w9 => ∃ (x6 : Int), ∃ (x7 : Int), v8 = (.tuple #[.int .u64 x6, .int .i64 x7] : Value) ∧ (
 doAl (.cells #[.int .u64 0] 79) w9 (fun b10 w11 =>
 doSt ((blk b10).add 0) (.int .u64 x6) w11 (fun w12 =>
 ifB ((x7 : Int) != 0) (
 R (.returned (.tuple #[.nilFunc, .int .i64 2])) w12) (
 R (.returned (.tuple #[.func (.func 280) #[] #[.pointer (some (blk b3)), .pointer (some (blk b10))], .int .i64 0])) w12))))) (fun ch w => Kfn R ch [] w))))
set_option maxRecDepth 100000 in
theorem sh221_ok (o_1 : Int) (key_2 : Int) {R : Ending → World → Prop} {w : World} : sh221 o_1 key_2 R w → Calls Tryz.prog 221 #[.int .u8 o_1, .int .i64 key_2] w R :=
  Old.calls_of_eq (ann := fun _ => []) (fn := Tryz.f221) (c := bodyOf Tryz.f221) (args := #[.int .u8 o_1, .int .i64 key_2]) 400 follows_mixed Tryz.func221 (by kernel_rfl) (by kernel_rfl)
set_option maxRecDepth 100000 in
/-- (*joinery/scheme.Scheme).face$1 -/
def sh224 (x1 : Addr) (R : Ending → World → Prop) (w : World) : Prop :=
 doDr w (fun w3 =>
 ∃ (C2 : World → Prop), C2 w3 ∧ (
 ∃ (x4 : Option Addr), (∀ w, C2 w → World.cell? w x1 = some (.pointer x4)) ∧ (
 ∃ (x5 : Option Addr), (∀ w, C2 w → World.cell? w x1 = some (.pointer x5)) ∧ (
 ∃ (q6 : Addr), x5 = some q6 ∧ (
 ∃ (x7 : Int), (∀ w, C2 w → World.cell? w (q6.add 0) = some (.int .u8 x7)) ∧ (
 doCall Tryz.prog (.func (.func 126) #[] #[]) #[.int .u8 x7] w3 (retS (fun v9 w10 => ∃ (x8 : Value), v9 = (x8 : Value) ∧ (
 C2 w10 ∧ (
 doGo Tryz.prog (.fn (.method "joinery/scheme.faces") #[]) #[x8] w10 (retS (fun v31 w32 => ∃ (x11 : ByteArray), ∃ (xf12 : Fn), ∃ (xx13 : Array Value), ∃ (xc14 : Array Value), ∃ (xf15 : Fn), ∃ (xx16 : Array Value), ∃ (xc17 : Array Value), ∃ (xf18 : Fn), ∃ (xx19 : Array Value), ∃ (xc20 : Array Value), ∃ (xf21 : Fn), ∃ (xx22 : Array Value), ∃ (xc23 : Array Value), ∃ (xf24 : Fn), ∃ (xx25 : Array Value), ∃ (xc26 : Array Value), ∃ (xf27 : Fn), ∃ (xx28 : Array Value), ∃ (xc29 : Array Value), ∃ (x30 : Bool), v31 = (.agg #[.string x11, .func xf12 xx13 xc14, .func xf15 xx16 xc17, .func xf18 xx19 xc20, .func xf21 xx22 xc23, .func xf24 xx25 xc26, .func xf27 xx28 xc29, .bool x30] : Value) ∧ (
 C2 w32 ∧ (
 ∃ (q33 : Addr), x4 = some q33 ∧ (
 doSt ((q33.add 4).add 0) (.string x11) w32 (fun w34 =>
 doSt ((q33.add 4).add 1) (.func xf12 xx13 xc14) w34 (fun w35 =>
 doSt ((q33.add 4).add 2) (.func xf15 xx16 xc17) w35 (fun w36 =>
 doSt ((q33.add 4).add 3) (.func xf18 xx19 xc20) w36 (fun w37 =>
 doSt ((q33.add 4).add 4) (.func xf21 xx22 xc23) w37 (fun w38 =>
 doSt ((q33.add 4).add 5) (.func xf24 xx25 xc26) w38 (fun w39 =>
 doSt ((q33.add 4).add 6) (.func xf27 xx28 xc29) w39 (fun w40 =>
 doSt ((q33.add 4).add 7) (.bool x30) w40 (fun w41 =>
 R (.returned (.tuple #[])) w41)))))))))))) (fun ch w => Kfn R ch [] w))))) (fun ch w => Kfn R ch [] w))))))))
set_option maxRecDepth 100000 in
theorem sh224_ok (x1 : Addr) {R : Ending → World → Prop} {w : World} : sh224 x1 R w → Calls Tryz.prog 224 #[.pointer (some x1)] w R :=
  Old.calls_of_eq (ann := fun _ => []) (fn := Tryz.f224) (c := bodyOf Tryz.f224) (args := #[.pointer (some x1)]) 400 follows_mixed Tryz.func224 (by kernel_rfl) (by kernel_rfl)
set_option maxRecDepth 100000 in
/-- (*sync/atomic.Uint64).Add -/
def sh225 (x_1 : Option Addr) (delta_2 : Int) (R : Ending → World → Prop) (w : World) : Prop :=
 ∃ (q3 : Addr), x_1 = some q3 ∧ (
 doCall Tryz.prog (.func (.func 283) #[] #[]) #[.pointer (some (q3.add 0)), .int .u64 delta_2] w (retS (fun v5 w6 => ∃ (x4 : Int), v5 = (.int .u64 x4 : Value) ∧ (
 R (.returned (.int .u64 x4)) w6)) (fun ch w => Kfn R ch [] w)))
set_option maxRecDepth 100000 in
theorem sh225_ok (x_1 : Option Addr) (delta_2 : Int) {R : Ending → World → Prop} {w : World} : sh225 x_1 delta_2 R w → Calls Tryz.prog 225 #[.pointer x_1, .int .u64 delta_2] w R :=
  Old.calls_of_eq (ann := fun _ => []) (fn := Tryz.f225) (c := bodyOf Tryz.f225) (args := #[.pointer x_1, .int .u64 delta_2]) 400 follows_mixed Tryz.func225 (by kernel_rfl) (by kernel_rfl)
set_option maxRecDepth 100000 in
/-- joinery/cut.Last -/
def sh226 (s_1 : Option Addr) (t_2 : Option Addr) (R : Ending → World → Prop) (w : World) : Prop :=
 doAl (.cells #[.int .i64 0, .int .i64 0, .int .u64 0] 133) w (fun b3 w4 =>
 let K7 : Bool → World → Prop := fun (x5 : Bool) (w6 : World) => 
 ifB x5 (
 doSt ((blk b3).add 0) (.int .i64 0) w6 (fun w8 =>
 doSt ((blk b3).add 1) (.int .i64 0) w8 (fun w9 =>
 doSt ((blk b3).add 2) (.int .u64 0) w9 (fun w10 =>
 ∃ (x11 : Int), World.cell? w10 ((blk b3).add 0) = some (.int .i64 x11) ∧ (
 ∃ (x12 : Int), World.cell? w10 ((blk b3).add 1) = some (.int .i64 x12) ∧ (
 ∃ (x13 : Int), World.cell? w10 ((blk b3).add 2) = some (.int .u64 x13) ∧ (
 R (.returned (.tuple #[.pointer none, .agg #[.int .i64 x11, .int .i64 x12, .int .u64 x13], .bool false])) w10))))))) (
 doCall Tryz.prog (.func (.func 285) #[] #[]) #[.pointer s_1, .bool true] w6 (retS (fun v23 w24 => ∃ (xf14 : Fn), ∃ (xx15 : Array Value), ∃ (xc16 : Array Value), ∃ (xf17 : Fn), ∃ (xx18 : Array Value), ∃ (xc19 : Array Value), ∃ (xf20 : Fn), ∃ (xx21 : Array Value), ∃ (xc22 : Array Value), v23 = (.agg #[.func xf14 xx15 xc16, .func xf17 xx18 xc19, .func xf20 xx21 xc22] : Value) ∧ (
 doCall Tryz.prog (.func (.func 284) #[] #[]) #[.pointer s_1, .agg #[.func xf14 xx15 xc16, .func xf17 xx18 xc19, .func xf20 xx21 xc22], .pointer t_2] w24 (retS (fun v29 w30 => ∃ (x25 : Option Addr), ∃ (x26 : Int), ∃ (x27 : Int), ∃ (x28 : Int), v29 = (.tuple #[.pointer x25, .agg #[.int .i64 x26, .int .i64 x27, .int .u64 x28]] : Value) ∧ (
 doSt ((blk b3).add 0) (.int .i64 x26) w30 (fun w31 =>
 doSt ((blk b3).add 1) (.int .i64 x27) w31 (fun w32 =>
 doSt ((blk b3).add 2) (.int .u64 x28) w32 (fun w33 =>
 doDr w33 (fun w35 =>
 ∃ (C34 : World → Prop), C34 w35 ∧ (
 ∃ (x36 : Int), (∀ w, C34 w → World.cell? w ((blk b3).add 0) = some (.int .i64 x36)) ∧ (
 ∃ (x37 : Int), (∀ w, C34 w → World.cell? w ((blk b3).add 1) = some (.int .i64 x37)) ∧ (
 ∃ (x38 : Int), (∀ w, C34 w → World.cell? w ((blk b3).add 2) = some (.int .u64 x38)) ∧ (
 doSt ((blk b3).add 0) (.int .i64 x36) w35 (fun w39 =>
 doSt ((blk b3).add 1) (.int .i64 x37) w39 (fun w40 =>
 doSt ((blk b3).add 2) (.int .u64 x38) w40 (fun w41 =>
 ∃ (x42 : Int), World.cell? w41 ((blk b3).add 0) = some (.int .i64 x42) ∧ (
 ∃ (x43 : Int), World.cell? w41 ((blk b3).add 1) = some (.int .i64 x43) ∧ (
 ∃ (x44 : Int), World.cell? w41 ((blk b3).add 2) = some (.int .u64 x44) ∧ (
 R (.returned (.tuple #[.pointer x25, .agg #[.int .i64 x42, .int .i64 x43, .int .u64 x44], .bool true])) w41)))))))))))))))) (fun ch w => Kfn R ch [] w)))) (fun ch w => Kfn R ch [] w)))
 ifB ((s_1).isNone) (
 K7 true w4) (
 K7 ((t_2).isNone) w4))
set_option maxRecDepth 100000 in
theorem sh226_ok (s_1 : Option Addr) (t_2 : Option Addr) {R : Ending → World → Prop} {w : World} : sh226 s_1 t_2 R w → Calls Tryz.prog 226 #[.pointer s_1, .pointer t_2] w R :=
  Old.calls_of_eq (ann := fun _ => []) (fn := Tryz.f226) (c := bodyOf Tryz.f226) (args := #[.pointer s_1, .pointer t_2]) 400 follows_mixed Tryz.func226 (by kernel_rfl) (by kernel_rfl)
set_option maxRecDepth 100000 in
/-- joinery/look.pairs$1 -/
def sh230 (yield_f1 : Fn) (yield_x2 : Array Value) (yield_c3 : Array Value) (x4 : Addr) (R : Ending → World → Prop) (w : World) : Prop :=
 doAl (.cells #[.func yield_f1 yield_x2 yield_c3] 267) w (fun b5 w6 =>
 ∃ (xf7 : Fn), ∃ (xx8 : Array Value), ∃ (xc9 : Array Value), World.cell? w6 x4 = some (.func xf7 xx8 xc9) ∧ (
 rfW Tryz.prog (.func xf7 xx8 xc9) (mkLoop #[.func yield_f1 yield_x2 yield_c3, .pointer (some x4), .pointer (some (blk b5)), undef, .func xf7 xx8 xc9, undef, undef, undef, undef, undef, undef, undef, undef] (rfOf Tryz.f230 0).1 (rfOf Tryz.f230 0).2.1 (rfOf Tryz.f230 0).2.2)
 (fun w10 =>
 w10.heap[w6.heap.size]? = some (.deferred (some [])) ∧ (
 let w11 : World := w10.putObj w6.heap.size (.deferred none)
 R (.returned (.tuple #[])) w11))
 (fun w12 =>
 w12.heap[w6.heap.size]? = some (.deferred (some [])) ∧ (
 let w13 : World := w12.putObj w6.heap.size (.deferred none)
 R (.returned (.tuple #[])) w13))
 [] w6))
set_option maxRecDepth 100000 in
theorem sh230_ok (yield_f1 : Fn) (yield_x2 : Array Value) (yield_c3 : Array Value) (x4 : Addr) {R : Ending → World → Prop} {w : World} : sh230 yield_f1 yield_x2 yield_c3 x4 R w → Calls Tryz.prog 230 #[.func yield_f1 yield_x2 yield_c3, .pointer (some x4)] w R :=
  Old.calls_of_eq (ann := fun _ => []) (fn := Tryz.f230) (c := bodyOf Tryz.f230) (args := #[.func yield_f1 yield_x2 yield_c3, .pointer (some x4)]) 400 follows_mixed Tryz.func230 (by kernel_rfl) (by kernel_rfl)
set_option maxRecDepth 100000 in
/-- joinery/look.pairs$1, a round of loop 0 -/
def sh230_0 (yield_1 : Addr) (y14 : Option Addr) (l : Nat) (R : Ending → World → Prop) (w : World) : Prop :=
 ∃ (r15 : Loop), w.heap[l]? = some (.loop r15) ∧ r15.state = .ready ∧ (
 let w16 : World := w.putObj l (.loop { r15 with state := .busy })
 doDr w16 (fun w18 =>
 ∃ (C17 : World → Prop), C17 w18 ∧ (
 ∃ (xf19 : Fn), ∃ (xx20 : Array Value), ∃ (xc21 : Array Value), (∀ w, C17 w → World.cell? w yield_1 = some (.func xf19 xx20 xc21)) ∧ (
 doCall Tryz.prog (.func (.func 131) #[] #[]) #[.pointer y14] w18 (retS (fun v23 w24 => ∃ (x22 : Int), v23 = (.int .i64 x22 : Value) ∧ (
 C17 w24 ∧ (
 doCall Tryz.prog (.func (.func 132) #[] #[]) #[.pointer y14] w24 (retS (fun v26 w27 => ∃ (x25 : Int), v26 = (.int .i64 x25 : Value) ∧ (
 C17 w27 ∧ (
 doCall Tryz.prog (.func xf19 xx20 xc21) #[.int .i64 x22, .int .i64 x25] w27 (retS (fun v29 w30 => ∃ (x28 : Bool), v29 = (.bool x28 : Value) ∧ (
 ifB (!x28) (
 ∃ (r31 : Loop), w30.heap[l]? = some (.loop r31) ∧ R (.returned (.bool false)) (w30.putObj l (.loop { r31 with state := .done, pending := some .ret }))) (
 ∃ (r32 : Loop), w30.heap[l]? = some (.loop r32) ∧ R (.returned (.bool true)) (w30.putObj l (.loop { r32 with state := .ready, pending := none }))))) (fun _ _ => False))))) (fun _ _ => False))))) (fun _ _ => False))))))
set_option maxRecDepth 100000 in
theorem sh230_0_ok {dd2 : Value} {dd3 : Value} {dd4 : Value} {dd5 : Value} {dd6 : Value} {dd7 : Value} {dd8 : Value} {dd9 : Value} {dd10 : Value} {dd11 : Value} {dd12 : Value} {dd13 : Value} {yield_1 : Addr} {y14 : Option Addr} {l fn D : Nat} {R : Ending → World → Prop} {w : World} (hl : w.heap[l]? = some (.loop (mkLoop #[dd2, dd3, .pointer (some yield_1), dd4, dd5, dd6, dd7, dd8, dd9, dd10, dd11, dd12, dd13] (rfOf Tryz.f230 0).1 (rfOf Tryz.f230 0).2.1 (rfOf Tryz.f230 0).2.2 fn D))) : sh230_0 yield_1 y14 l R w → doCall Tryz.prog (.func (.yield l) #[] #[]) #[.pointer y14] w R :=
  fun h => ⟨Old.round_of_eq (ann := fun _ => []) 400 follows_mixed hl (by kernel_rfl) (by kernel_rfl) h⟩
set_option maxRecDepth 100000 in
/-- joinery/look.goes -/
def sh231 (t_1 : Option Addr) (ahead_f2 : Fn) (ahead_x3 : Array Value) (ahead_c4 : Array Value) (behind_f5 : Fn) (behind_x6 : Array Value) (behind_c7 : Array Value) (R : Ending → World → Prop) (w : World) : Prop :=
 doAl (.cells #[.pointer t_1] 68) w (fun b8 w9 =>
 doAl (.cells #[.func ahead_f2 ahead_x3 ahead_c4] 128) w9 (fun b10 w11 =>
 doAl (.cells #[.func behind_f5 behind_x6 behind_c7] 128) w11 (fun b12 w13 =>
 R (.returned (.func (.func 286) #[] #[.pointer (some (blk b10)), .pointer (some (blk b12)), .pointer (some (blk b8))])) w13)))
set_option maxRecDepth 100000 in
theorem sh231_ok (t_1 : Option Addr) (ahead_f2 : Fn) (ahead_x3 : Array Value) (ahead_c4 : Array Value) (behind_f5 : Fn) (behind_x6 : Array Value) (behind_c7 : Array Value) {R : Ending → World → Prop} {w : World} : sh231 t_1 ahead_f2 ahead_x3 ahead_c4 behind_f5 behind_x6 behind_c7 R w → Calls Tryz.prog 231 #[.pointer t_1, .func ahead_f2 ahead_x3 ahead_c4, .func behind_f5 behind_x6 behind_c7] w R :=
  Old.calls_of_eq (ann := fun _ => []) (fn := Tryz.f231) (c := bodyOf Tryz.f231) (args := #[.pointer t_1, .func ahead_f2 ahead_x3 ahead_c4, .func behind_f5 behind_x6 behind_c7]) 400 follows_mixed Tryz.func231 (by kernel_rfl) (by kernel_rfl)
set_option maxRecDepth 100000 in
/-- joinery/avl.Make -/
def sh250 (l_1 : Option Addr) (key_2 : Int) (val_3 : Int) (r_4 : Option Addr) (R : Ending → World → Prop) (w : World) : Prop :=
 doCall Tryz.prog (.func (.func 214) #[] #[]) #[.pointer l_1] w (retS (fun v6 w7 => ∃ (x5 : Int), v6 = (.int .u64 x5 : Value) ∧ (
 doCall Tryz.prog (.func (.func 214) #[] #[]) #[.pointer r_4] w7 (retS (fun v9 w10 => ∃ (x8 : Int), v9 = (.int .u64 x8 : Value) ∧ (
 doGo Tryz.prog (.builtin .max #[79, 79] 79 #[false, false]) #[.int .u64 x5, .int .u64 x8] w10 (retS (fun v12 w13 => ∃ (x11 : Int), v12 = (.int .u64 x11 : Value) ∧ (
 doCall Tryz.prog (.func (.func 261) #[] #[]) #[.pointer l_1, .int .i64 key_2, .int .i64 val_3, .int .u64 (IntKind.wrap .u64 (x11 + 1)), .pointer r_4] w13 (retS (fun v15 w16 => ∃ (x14 : Option Addr), v15 = (.pointer x14 : Value) ∧ (
 R (.returned (.pointer x14)) w16)) (fun ch w => Kfn R ch [] w)))) (fun ch w => Kfn R ch [] w)))) (fun ch w => Kfn R ch [] w)))) (fun ch w => Kfn R ch [] w))
set_option maxRecDepth 100000 in
theorem sh250_ok (l_1 : Option Addr) (key_2 : Int) (val_3 : Int) (r_4 : Option Addr) {R : Ending → World → Prop} {w : World} : sh250 l_1 key_2 val_3 r_4 R w → Calls Tryz.prog 250 #[.pointer l_1, .int .i64 key_2, .int .i64 val_3, .pointer r_4] w R :=
  Old.calls_of_eq (ann := fun _ => []) (fn := Tryz.f250) (c := bodyOf Tryz.f250) (args := #[.pointer l_1, .int .i64 key_2, .int .i64 val_3, .pointer r_4]) 400 follows_mixed Tryz.func250 (by kernel_rfl) (by kernel_rfl)
set_option maxRecDepth 100000 in
/-- joinery/avljoin.right -/
def sh251  (R : Ending → World → Prop) (w : World) : Prop :=
 doAl (.cells #[.nilFunc, .nilFunc, .nilFunc] 299) w (fun b1 w2 =>
 doSt ((blk b1).add 0) (.func (.func 128) #[] #[]) w2 (fun w3 =>
 doSt ((blk b1).add 1) (.func (.func 130) #[] #[]) w3 (fun w4 =>
 doSt ((blk b1).add 2) (.func (.func 308) #[] #[]) w4 (fun w5 =>
 ∃ (xf6 : Fn), ∃ (xx7 : Array Value), ∃ (xc8 : Array Value), World.cell? w5 ((blk b1).add 0) = some (.func xf6 xx7 xc8) ∧ (
 ∃ (xf9 : Fn), ∃ (xx10 : Array Value), ∃ (xc11 : Array Value), World.cell? w5 ((blk b1).add 1) = some (.func xf9 xx10 xc11) ∧ (
 ∃ (xf12 : Fn), ∃ (xx13 : Array Value), ∃ (xc14 : Array Value), World.cell? w5 ((blk b1).add 2) = some (.func xf12 xx13 xc14) ∧ (
 R (.returned (.agg #[.func xf6 xx7 xc8, .func xf9 xx10 xc11, .func xf12 xx13 xc14])) w5)))))))
set_option maxRecDepth 100000 in
theorem sh251_ok  {R : Ending → World → Prop} {w : World} : sh251  R w → Calls Tryz.prog 251 #[] w R :=
  Old.calls_of_eq (ann := fun _ => []) (fn := Tryz.f251) (c := bodyOf Tryz.f251) (args := #[]) 400 follows_mixed Tryz.func251 (by kernel_rfl) (by kernel_rfl)
set_option maxRecDepth 100000 in
/-- (joinery/avljoin.side).hang -/
def sh252 (s_f1 : Fn) (s_x2 : Array Value) (s_c3 : Array Value) (s_f4 : Fn) (s_x5 : Array Value) (s_c6 : Array Value) (s_f7 : Fn) (s_x8 : Array Value) (s_c9 : Array Value) (t_10 : Option Addr) (pair_11 : Option Addr) (low_12 : Option Addr) (R : Ending → World → Prop) (w : World) : Prop :=
 doAl (.cells #[.func s_f1 s_x2 s_c3, .func s_f4 s_x5 s_c6, .func s_f7 s_x8 s_c9] 299) w (fun b13 w14 =>
 doDr w14 (fun w16 =>
 ∃ (C15 : World → Prop), C15 w16 ∧ (
 ∃ (xf17 : Fn), ∃ (xx18 : Array Value), ∃ (xc19 : Array Value), (∀ w, C15 w → World.cell? w ((blk b13).add 0) = some (.func xf17 xx18 xc19)) ∧ (
 ∃ (xf20 : Fn), ∃ (xx21 : Array Value), ∃ (xc22 : Array Value), (∀ w, C15 w → World.cell? w ((blk b13).add 1) = some (.func xf20 xx21 xc22)) ∧ (
 doCall Tryz.prog (.func xf17 xx18 xc19) #[.pointer t_10] w16 (retS (fun v24 w25 => ∃ (x23 : Option Addr), v24 = (.pointer x23 : Value) ∧ (
 C15 w25 ∧ (
 doCall Tryz.prog (.func xf20 xx21 xc22) #[.pointer t_10] w25 (retS (fun v27 w28 => ∃ (x26 : Option Addr), v27 = (.pointer x26 : Value) ∧ (
 C15 w28 ∧ (
 let K31 : Bool → World → Prop := fun (base_29 : Bool) (w30 : World) => 
 let K34 : (Option Addr) → World → Prop := fun (x_32 : Option Addr) (w33 : World) => 
 doCall Tryz.prog (.func (.func 196) #[] #[]) #[.pointer x_32] w33 (retS (fun v36 w37 => ∃ (x35 : Int), v36 = (.int .i64 x35 : Value) ∧ (
 doCall Tryz.prog (.func (.func 196) #[] #[]) #[.pointer x23] w37 (retS (fun v39 w40 => ∃ (x38 : Int), v39 = (.int .i64 x38 : Value) ∧ (
 ifB (decide ((x35 : Int) ≤ (IntKind.wrap .i64 (x38 + 1)))) (
 ∃ (xf41 : Fn), ∃ (xx42 : Array Value), ∃ (xc43 : Array Value), World.cell? w40 ((blk b13).add 2) = some (.func xf41 xx42 xc43) ∧ (
 doCall Tryz.prog (.func xf41 xx42 xc43) #[.pointer x23, .pointer t_10, .pointer x_32] w40 (retS (fun v45 w46 => ∃ (x44 : Option Addr), v45 = (.pointer x44 : Value) ∧ (
 R (.returned (.pointer x44)) w46)) (fun ch w => Kfn R ch [] w)))) (
 ifB base_29 (
 doDr w40 (fun w48 =>
 ∃ (C47 : World → Prop), C47 w48 ∧ (
 ∃ (xf49 : Fn), ∃ (xx50 : Array Value), ∃ (xc51 : Array Value), (∀ w, C47 w → World.cell? w ((blk b13).add 0) = some (.func xf49 xx50 xc51)) ∧ (
 ∃ (xf52 : Fn), ∃ (xx53 : Array Value), ∃ (xc54 : Array Value), (∀ w, C47 w → World.cell? w ((blk b13).add 1) = some (.func xf52 xx53 xc54)) ∧ (
 ∃ (xf55 : Fn), ∃ (xx56 : Array Value), ∃ (xc57 : Array Value), (∀ w, C47 w → World.cell? w ((blk b13).add 2) = some (.func xf55 xx56 xc57)) ∧ (
 ∃ (xf58 : Fn), ∃ (xx59 : Array Value), ∃ (xc60 : Array Value), (∀ w, C47 w → World.cell? w ((blk b13).add 2) = some (.func xf58 xx59 xc60)) ∧ (
 ∃ (xf61 : Fn), ∃ (xx62 : Array Value), ∃ (xc63 : Array Value), (∀ w, C47 w → World.cell? w ((blk b13).add 0) = some (.func xf61 xx62 xc63)) ∧ (
 ∃ (xf64 : Fn), ∃ (xx65 : Array Value), ∃ (xc66 : Array Value), (∀ w, C47 w → World.cell? w ((blk b13).add 1) = some (.func xf64 xx65 xc66)) ∧ (
 ∃ (xf67 : Fn), ∃ (xx68 : Array Value), ∃ (xc69 : Array Value), (∀ w, C47 w → World.cell? w ((blk b13).add 2) = some (.func xf67 xx68 xc69)) ∧ (
 doCall Tryz.prog (.func (.func 310) #[] #[]) #[.agg #[.func xf61 xx62 xc63, .func xf64 xx65 xc66, .func xf67 xx68 xc69], .pointer x_32] w48 (retS (fun v71 w72 => ∃ (x70 : Option Addr), v71 = (.pointer x70 : Value) ∧ (
 C47 w72 ∧ (
 doCall Tryz.prog (.func xf58 xx59 xc60) #[.pointer x23, .pointer t_10, .pointer x70] w72 (retS (fun v74 w75 => ∃ (x73 : Option Addr), v74 = (.pointer x73 : Value) ∧ (
 C47 w75 ∧ (
 doCall Tryz.prog (.func (.func 309) #[] #[]) #[.agg #[.func xf49 xx50 xc51, .func xf52 xx53 xc54, .func xf55 xx56 xc57], .pointer x73] w75 (retS (fun v77 w78 => ∃ (x76 : Option Addr), v77 = (.pointer x76 : Value) ∧ (
 C47 w78 ∧ (
 R (.returned (.pointer x76)) w78))) (fun ch w => Kfn R ch [] w))))) (fun ch w => Kfn R ch [] w))))) (fun ch w => Kfn R ch [] w)))))))))))) (
 doDr w40 (fun w80 =>
 ∃ (C79 : World → Prop), C79 w80 ∧ (
 ∃ (xf81 : Fn), ∃ (xx82 : Array Value), ∃ (xc83 : Array Value), (∀ w, C79 w → World.cell? w ((blk b13).add 0) = some (.func xf81 xx82 xc83)) ∧ (
 ∃ (xf84 : Fn), ∃ (xx85 : Array Value), ∃ (xc86 : Array Value), (∀ w, C79 w → World.cell? w ((blk b13).add 1) = some (.func xf84 xx85 xc86)) ∧ (
 ∃ (xf87 : Fn), ∃ (xx88 : Array Value), ∃ (xc89 : Array Value), (∀ w, C79 w → World.cell? w ((blk b13).add 2) = some (.func xf87 xx88 xc89)) ∧ (
 ∃ (xf90 : Fn), ∃ (xx91 : Array Value), ∃ (xc92 : Array Value), (∀ w, C79 w → World.cell? w ((blk b13).add 2) = some (.func xf90 xx91 xc92)) ∧ (
 doCall Tryz.prog (.func xf90 xx91 xc92) #[.pointer x23, .pointer t_10, .pointer x_32] w80 (retS (fun v94 w95 => ∃ (x93 : Option Addr), v94 = (.pointer x93 : Value) ∧ (
 C79 w95 ∧ (
 doCall Tryz.prog (.func (.func 309) #[] #[]) #[.agg #[.func xf81 xx82 xc83, .func xf84 xx85 xc86, .func xf87 xx88 xc89], .pointer x93] w95 (retS (fun v97 w98 => ∃ (x96 : Option Addr), v97 = (.pointer x96 : Value) ∧ (
 C79 w98 ∧ (
 R (.returned (.pointer x96)) w98))) (fun ch w => Kfn R ch [] w))))) (fun ch w => Kfn R ch [] w)))))))))))) (fun ch w => Kfn R ch [] w)))) (fun ch w => Kfn R ch [] w))
 ifB base_29 (
 ∃ (xf99 : Fn), ∃ (xx100 : Array Value), ∃ (xc101 : Array Value), World.cell? w30 ((blk b13).add 2) = some (.func xf99 xx100 xc101) ∧ (
 doCall Tryz.prog (.func xf99 xx100 xc101) #[.pointer x26, .pointer pair_11, .pointer low_12] w30 (retS (fun v103 w104 => ∃ (x102 : Option Addr), v103 = (.pointer x102 : Value) ∧ (
 K34 x102 w104)) (fun ch w => Kfn R ch [] w)))) (
 ∃ (xf105 : Fn), ∃ (xx106 : Array Value), ∃ (xc107 : Array Value), World.cell? w30 ((blk b13).add 0) = some (.func xf105 xx106 xc107) ∧ (
 ∃ (xf108 : Fn), ∃ (xx109 : Array Value), ∃ (xc110 : Array Value), World.cell? w30 ((blk b13).add 1) = some (.func xf108 xx109 xc110) ∧ (
 ∃ (xf111 : Fn), ∃ (xx112 : Array Value), ∃ (xc113 : Array Value), World.cell? w30 ((blk b13).add 2) = some (.func xf111 xx112 xc113) ∧ (
 doCall Tryz.prog (.func (.func 252) #[] #[]) #[.agg #[.func xf105 xx106 xc107, .func xf108 xx109 xc110, .func xf111 xx112 xc113], .pointer x26, .pointer pair_11, .pointer low_12] w30 (retS (fun v115 w116 => ∃ (x114 : Option Addr), v115 = (.pointer x114 : Value) ∧ (
 K34 x114 w116)) (fun ch w => Kfn R ch [] w))))))
 ifB ((x26).isNone) (
 K31 true w28) (
 doCall Tryz.prog (.func (.func 196) #[] #[]) #[.pointer x26] w28 (retS (fun v118 w119 => ∃ (x117 : Int), v118 = (.int .i64 x117 : Value) ∧ (
 doCall Tryz.prog (.func (.func 196) #[] #[]) #[.pointer low_12] w119 (retS (fun v121 w122 => ∃ (x120 : Int), v121 = (.int .i64 x120 : Value) ∧ (
 K31 (decide ((x117 : Int) ≤ (IntKind.wrap .i64 (x120 + 1)))) w122)) (fun ch w => Kfn R ch [] w)))) (fun ch w => Kfn R ch [] w)))))) (fun ch w => Kfn R ch [] w))))) (fun ch w => Kfn R ch [] w)))))))
set_option maxRecDepth 100000 in
theorem sh252_ok (s_f1 : Fn) (s_x2 : Array Value) (s_c3 : Array Value) (s_f4 : Fn) (s_x5 : Array Value) (s_c6 : Array Value) (s_f7 : Fn) (s_x8 : Array Value) (s_c9 : Array Value) (t_10 : Option Addr) (pair_11 : Option Addr) (low_12 : Option Addr) {R : Ending → World → Prop} {w : World} : sh252 s_f1 s_x2 s_c3 s_f4 s_x5 s_c6 s_f7 s_x8 s_c9 t_10 pair_11 low_12 R w → Calls Tryz.prog 252 #[.agg #[.func s_f1 s_x2 s_c3, .func s_f4 s_x5 s_c6, .func s_f7 s_x8 s_c9], .pointer t_10, .pointer pair_11, .pointer low_12] w R :=
  Old.calls_of_eq (ann := fun _ => []) (fn := Tryz.f252) (c := bodyOf Tryz.f252) (args := #[.agg #[.func s_f1 s_x2 s_c3, .func s_f4 s_x5 s_c6, .func s_f7 s_x8 s_c9], .pointer t_10, .pointer pair_11, .pointer low_12]) 400 follows_mixed Tryz.func252 (by kernel_rfl) (by kernel_rfl)
set_option maxRecDepth 100000 in
/-- joinery/avljoin.left -/
def sh253  (R : Ending → World → Prop) (w : World) : Prop :=
 doAl (.cells #[.nilFunc, .nilFunc, .nilFunc] 299) w (fun b1 w2 =>
 doSt ((blk b1).add 0) (.func (.func 130) #[] #[]) w2 (fun w3 =>
 doSt ((blk b1).add 1) (.func (.func 128) #[] #[]) w3 (fun w4 =>
 doSt ((blk b1).add 2) (.func (.func 311) #[] #[]) w4 (fun w5 =>
 ∃ (xf6 : Fn), ∃ (xx7 : Array Value), ∃ (xc8 : Array Value), World.cell? w5 ((blk b1).add 0) = some (.func xf6 xx7 xc8) ∧ (
 ∃ (xf9 : Fn), ∃ (xx10 : Array Value), ∃ (xc11 : Array Value), World.cell? w5 ((blk b1).add 1) = some (.func xf9 xx10 xc11) ∧ (
 ∃ (xf12 : Fn), ∃ (xx13 : Array Value), ∃ (xc14 : Array Value), World.cell? w5 ((blk b1).add 2) = some (.func xf12 xx13 xc14) ∧ (
 R (.returned (.agg #[.func xf6 xx7 xc8, .func xf9 xx10 xc11, .func xf12 xx13 xc14])) w5)))))))
set_option maxRecDepth 100000 in
theorem sh253_ok  {R : Ending → World → Prop} {w : World} : sh253  R w → Calls Tryz.prog 253 #[] w R :=
  Old.calls_of_eq (ann := fun _ => []) (fn := Tryz.f253) (c := bodyOf Tryz.f253) (args := #[]) 400 follows_mixed Tryz.func253 (by kernel_rfl) (by kernel_rfl)
set_option maxRecDepth 100000 in
/-- joinery/rb.Make -/
def sh256 (l_1 : Option Addr) (key_2 : Int) (val_3 : Int) (is_4 : Bool) (r_5 : Option Addr) (R : Ending → World → Prop) (w : World) : Prop :=
 doCall Tryz.prog (.func (.func 318) #[] #[]) #[.pointer l_1] w (retS (fun v8 w9 => ∃ (x6 : Int), ∃ (x7 : Int), v8 = (.agg #[.int .u64 x6, .int .u64 x7] : Value) ∧ (
 doCall Tryz.prog (.func (.func 317) #[] #[]) #[.int .u64 x7, .bool is_4] w9 (retS (fun v12 w13 => ∃ (x10 : Int), ∃ (x11 : Int), v12 = (.agg #[.int .u64 x10, .int .u64 x11] : Value) ∧ (
 doCall Tryz.prog (.func (.func 319) #[] #[]) #[.agg #[.int .u64 x10, .int .u64 x11]] w13 (retS (fun v15 w16 => ∃ (x14 : Int), v15 = (.int .u64 x14 : Value) ∧ (
 doCall Tryz.prog (.func (.func 261) #[] #[]) #[.pointer l_1, .int .i64 key_2, .int .i64 val_3, .int .u64 x14, .pointer r_5] w16 (retS (fun v18 w19 => ∃ (x17 : Option Addr), v18 = (.pointer x17 : Value) ∧ (
 R (.returned (.pointer x17)) w19)) (fun ch w => Kfn R ch [] w)))) (fun ch w => Kfn R ch [] w)))) (fun ch w => Kfn R ch [] w)))) (fun ch w => Kfn R ch [] w))
set_option maxRecDepth 100000 in
theorem sh256_ok (l_1 : Option Addr) (key_2 : Int) (val_3 : Int) (is_4 : Bool) (r_5 : Option Addr) {R : Ending → World → Prop} {w : World} : sh256 l_1 key_2 val_3 is_4 r_5 R w → Calls Tryz.prog 256 #[.pointer l_1, .int .i64 key_2, .int .i64 val_3, .bool is_4, .pointer r_5] w R :=
  Old.calls_of_eq (ann := fun _ => []) (fn := Tryz.f256) (c := bodyOf Tryz.f256) (args := #[.pointer l_1, .int .i64 key_2, .int .i64 val_3, .bool is_4, .pointer r_5]) 400 follows_mixed Tryz.func256 (by kernel_rfl) (by kernel_rfl)
end Go.Proofs.YtlfjaogbehpleaaGreat

