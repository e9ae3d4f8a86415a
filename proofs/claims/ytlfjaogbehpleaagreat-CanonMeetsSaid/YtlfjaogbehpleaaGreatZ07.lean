/-
  Printed by a program (gen.py): what the functions of the program do, as formulas; each with the proof that its call is what the formula says.
-/
import Derived.Test.YtlfjaogbehpleaaGreatZ04
import Derived.Test.YtlfjaogbehpleaaGreatProg
import Derived.Test.YtlfjaogbehpleaaGreatZ05

namespace Go.Proofs.YtlfjaogbehpleaaGreat
open Go Go.Sh
set_option maxRecDepth 100000 in
/-- joinery/shape.Same -/
def sh136 (a_1 : Option Addr) (b_2 : Option Addr) (R : Ending → World → Prop) (w : World) : Prop :=
 doPE Tryz.prog .eql 68 (.tmp 6) (.tmp 7) (.pointer a_1) (.pointer b_2) w (fun b3 =>
 ifB b3 (
 R (.returned (.bool true)) w) (
 let K6 : Bool → World → Prop := fun (x4 : Bool) (w5 : World) => 
 ifB x4 (
 R (.returned (.bool false)) w5) (
 let K9 : Bool → World → Prop := fun (x7 : Bool) (w8 : World) => 
 R (.returned (.bool x7)) w8
 doCall Tryz.prog (.func (.func 128) #[] #[]) #[.pointer a_1] w5 (retS (fun v11 w12 => ∃ (x10 : Option Addr), v11 = (.pointer x10 : Value) ∧ (
 doCall Tryz.prog (.func (.func 128) #[] #[]) #[.pointer b_2] w12 (retS (fun v14 w15 => ∃ (x13 : Option Addr), v14 = (.pointer x13 : Value) ∧ (
 doCall Tryz.prog (.func (.func 136) #[] #[]) #[.pointer x10, .pointer x13] w15 (retS (fun v17 w18 => ∃ (x16 : Bool), v17 = (.bool x16 : Value) ∧ (
 ifB x16 (
 doCall Tryz.prog (.func (.func 130) #[] #[]) #[.pointer a_1] w18 (retS (fun v20 w21 => ∃ (x19 : Option Addr), v20 = (.pointer x19 : Value) ∧ (
 doCall Tryz.prog (.func (.func 130) #[] #[]) #[.pointer b_2] w21 (retS (fun v23 w24 => ∃ (x22 : Option Addr), v23 = (.pointer x22 : Value) ∧ (
 doCall Tryz.prog (.func (.func 136) #[] #[]) #[.pointer x19, .pointer x22] w24 (retS (fun v26 w27 => ∃ (x25 : Bool), v26 = (.bool x25 : Value) ∧ (
 K9 x25 w27)) (fun ch w => Kfn R ch [] w)))) (fun ch w => Kfn R ch [] w)))) (fun ch w => Kfn R ch [] w))) (
 R (.returned (.bool false)) w18))) (fun ch w => Kfn R ch [] w)))) (fun ch w => Kfn R ch [] w)))) (fun ch w => Kfn R ch [] w)))
 ifB ((a_1).isNone) (
 R (.returned (.bool false)) w) (
 ifB ((b_2).isNone) (
 R (.returned (.bool false)) w) (
 doCall Tryz.prog (.func (.func 131) #[] #[]) #[.pointer a_1] w (retS (fun v29 w30 => ∃ (x28 : Int), v29 = (.int .i64 x28 : Value) ∧ (
 doCall Tryz.prog (.func (.func 131) #[] #[]) #[.pointer b_2] w30 (retS (fun v32 w33 => ∃ (x31 : Int), v32 = (.int .i64 x31 : Value) ∧ (
 ifB ((x28 : Int) != x31) (
 R (.returned (.bool false)) w33) (
 doCall Tryz.prog (.func (.func 132) #[] #[]) #[.pointer a_1] w33 (retS (fun v35 w36 => ∃ (x34 : Int), v35 = (.int .i64 x34 : Value) ∧ (
 doCall Tryz.prog (.func (.func 132) #[] #[]) #[.pointer b_2] w36 (retS (fun v38 w39 => ∃ (x37 : Int), v38 = (.int .i64 x37 : Value) ∧ (
 ifB ((x34 : Int) != x37) (
 R (.returned (.bool false)) w39) (
 doCall Tryz.prog (.func (.func 214) #[] #[]) #[.pointer a_1] w39 (retS (fun v41 w42 => ∃ (x40 : Int), v41 = (.int .u64 x40 : Value) ∧ (
 doCall Tryz.prog (.func (.func 214) #[] #[]) #[.pointer b_2] w42 (retS (fun v44 w45 => ∃ (x43 : Int), v44 = (.int .u64 x43 : Value) ∧ (
 ifB ((x40 : Int) != x43) (
 R (.returned (.bool false)) w45) (
 doCall Tryz.prog (.func (.func 32) #[] #[]) #[.pointer a_1] w45 (retS (fun v47 w48 => ∃ (x46 : Int), v47 = (.int .i64 x46 : Value) ∧ (
 doCall Tryz.prog (.func (.func 32) #[] #[]) #[.pointer b_2] w48 (retS (fun v50 w51 => ∃ (x49 : Int), v50 = (.int .i64 x49 : Value) ∧ (
 ifB ((x46 : Int) != x49) (
 R (.returned (.bool false)) w51) (
 doCall Tryz.prog (.func (.func 216) #[] #[]) #[.pointer a_1] w51 (retS (fun v53 w54 => ∃ (x52 : Int), v53 = (.int .i64 x52 : Value) ∧ (
 doCall Tryz.prog (.func (.func 216) #[] #[]) #[.pointer b_2] w54 (retS (fun v56 w57 => ∃ (x55 : Int), v56 = (.int .i64 x55 : Value) ∧ (
 K6 ((x52 : Int) != x55) w57)) (fun ch w => Kfn R ch [] w)))) (fun ch w => Kfn R ch [] w))))) (fun ch w => Kfn R ch [] w)))) (fun ch w => Kfn R ch [] w))))) (fun ch w => Kfn R ch [] w)))) (fun ch w => Kfn R ch [] w))))) (fun ch w => Kfn R ch [] w)))) (fun ch w => Kfn R ch [] w))))) (fun ch w => Kfn R ch [] w)))) (fun ch w => Kfn R ch [] w))))))
set_option maxRecDepth 100000 in
theorem sh136_ok (a_1 : Option Addr) (b_2 : Option Addr) {R : Ending → World → Prop} {w : World} : sh136 a_1 b_2 R w → Calls Tryz.prog 136 #[.pointer a_1, .pointer b_2] w R :=
  Old.calls_of_eq (ann := fun _ => []) (fn := Tryz.f136) (c := bodyOf Tryz.f136) (args := #[.pointer a_1, .pointer b_2]) 400 follows_mixed Tryz.func136 (by kernel_rfl) (by kernel_rfl)
set_option maxRecDepth 100000 in
/-- joinery/build.Row -/
def sh138 (s_1 : Option Addr) (o_2 : Int) (d_3 : Option Addr) (l_p4 : Option Addr) (l_n5 : Nat) (l_c6 : Nat) (R : Ending → World → Prop) (w : World) : Prop :=
 let K13 : Bool → Value → Value → Value → Value → World → Prop := fun (x7 : Bool) (d8 : Value) (d9 : Value) (d10 : Value) (d11 : Value) (w12 : World) => 
 doAl (.cells #[.slice none 0 0] 254) w12 (fun b14 w15 =>
 doCall Tryz.prog (.func (.func 219) #[] #[]) #[.pointer s_1, .pointer d_3, .slice l_p4 l_n5 l_c6] w15 (retS (fun v19 w20 => ∃ (xf16 : Fn), ∃ (xx17 : Array Value), ∃ (xc18 : Array Value), v19 = (.func xf16 xx17 xc18 : Value) ∧ (
 rfW Tryz.prog (.func xf16 xx17 xc18) (mkLoop #[.pointer s_1, .int .u8 o_2, .pointer d_3, .slice l_p4 l_n5 l_c6, undef, undef, undef, undef, .pointer none, .int .i64 0, .pointer (some (blk b14)), undef, .pointer s_1, .bool ((s_1).isNone), .bool x7, d8, d9, d10, d11, .bool false, .pointer s_1, .pointer d_3, .slice l_p4 l_n5 l_c6, .func xf16 xx17 xc18, undef, undef, undef, undef, undef, undef, undef, undef] (rfOf Tryz.f138 0).1 (rfOf Tryz.f138 0).2.1 (rfOf Tryz.f138 0).2.2)
 (fun w21 =>
 ∃ (xp22 : Option Addr), ∃ (xn23 : Nat), ∃ (xc24 : Nat), World.cell? w21 (blk b14) = some (.slice xp22 xn23 xc24) ∧ (
 doCall Tryz.prog (.func (.func 220) #[] #[]) #[.pointer s_1, .slice xp22 xn23 xc24] w21 (retS (fun v26 w27 => ∃ (x25 : Option Addr), v26 = (.pointer x25 : Value) ∧ (
 w27.heap[w20.heap.size]? = some (.deferred (some [])) ∧ (
 let w28 : World := w27.putObj w20.heap.size (.deferred none)
 R (.returned (.tuple #[.pointer x25, .int .i64 0])) w28))) (fun ch w => Kfn R ch [{ target := .collected w20.heap.size, args := #[] }] w))))
 (fun w29 =>
 w29.heap[w20.heap.size]? = some (.deferred (some [])) ∧ (
 let w30 : World := w29.putObj w20.heap.size (.deferred none)
 R (.returned (.tuple #[.pointer none, .int .i64 0])) w30))
 [] w20)) (fun ch w => Kfn R ch [] w)))
 let _K38 : Bool → Value → Value → Value → Value → Bool → World → Prop := fun (x31 : Bool) (d32 : Value) (d33 : Value) (d34 : Value) (d35 : Value) (x36 : Bool) (w37 : World) => 
 ifB x36 (
 R (.returned (.tuple #[.pointer none, .int .i64 2])) w37) (
 K13 x31 (d32 : Value) (d33 : Value) (d34 : Value) (d35 : Value) w37)
 ifB ((s_1).isNone) (
 R (.returned (.tuple #[.pointer none, .int .i64 2])) w) (
 doCall Tryz.prog (.func (.func 25) #[] #[]) #[.int .u8 o_2, .slice l_p4 l_n5 l_c6] w (retS (fun v40 w41 => ∃ (x39 : Bool), v40 = (.bool x39 : Value) ∧ (
 ifB (!x39) (
 R (.returned (.tuple #[.pointer none, .int .i64 2])) w41) (
 K13 false (.int .u8 o_2 : Value) (.slice l_p4 l_n5 l_c6 : Value) (.bool x39 : Value) (.bool (!x39) : Value) w41))) (fun ch w => Kfn R ch [] w)))
set_option maxRecDepth 100000 in
theorem sh138_ok (s_1 : Option Addr) (o_2 : Int) (d_3 : Option Addr) (l_p4 : Option Addr) (l_n5 : Nat) (l_c6 : Nat) {R : Ending → World → Prop} {w : World} : sh138 s_1 o_2 d_3 l_p4 l_n5 l_c6 R w → Calls Tryz.prog 138 #[.pointer s_1, .int .u8 o_2, .pointer d_3, .slice l_p4 l_n5 l_c6] w R :=
  Old.calls_of_eq (ann := fun _ => []) (fn := Tryz.f138) (c := bodyOf Tryz.f138) (args := #[.pointer s_1, .int .u8 o_2, .pointer d_3, .slice l_p4 l_n5 l_c6]) 400 follows_mixed Tryz.func138 (by kernel_rfl) (by kernel_rfl)
set_option maxRecDepth 100000 in
/-- joinery/build.Row, a round of loop 0 -/
def sh138_0 (all_1 : Addr) (y33 : Int) (y34 : Int) (y35 : Int) (l : Nat) (R : Ending → World → Prop) (w : World) : Prop :=
 doAl (.cells #[.int .i64 0, .int .i64 0, .int .u64 0] 133) w (fun b36 w37 =>
 doSt ((blk b36).add 0) (.int .i64 y33) w37 (fun w38 =>
 doSt ((blk b36).add 1) (.int .i64 y34) w38 (fun w39 =>
 doSt ((blk b36).add 2) (.int .u64 y35) w39 (fun w40 =>
 ∃ (r41 : Loop), w40.heap[l]? = some (.loop r41) ∧ r41.state = .ready ∧ (
 let w42 : World := w40.putObj l (.loop { r41 with state := .busy })
 ∃ (xp43 : Option Addr), ∃ (xn44 : Nat), ∃ (xc45 : Nat), World.cell? w42 all_1 = some (.slice xp43 xn44 xc45) ∧ (
 ∃ (x46 : Int), World.cell? w42 ((blk b36).add 0) = some (.int .i64 x46) ∧ (
 ∃ (x47 : Int), World.cell? w42 ((blk b36).add 1) = some (.int .i64 x47) ∧ (
 ∃ (x48 : Int), World.cell? w42 ((blk b36).add 2) = some (.int .u64 x48) ∧ (
 doAl (.cells #[.int .i64 x46, .int .i64 x47, .int .u64 x48] 133) w42 (fun b49 w50 =>
 doGo Tryz.prog (.builtin .append #[254, 254] 254 #[false, false]) #[.slice xp43 xn44 xc45, .slice (some (blk b49)) 1 1] w50 (retS (fun v54 w55 => ∃ (xp51 : Option Addr), ∃ (xn52 : Nat), ∃ (xc53 : Nat), v54 = (.slice xp51 xn52 xc53 : Value) ∧ (
 doSt (all_1.add 0) (.slice xp51 xn52 xc53) w55 (fun w56 =>
 ∃ (r57 : Loop), w56.heap[l]? = some (.loop r57) ∧ R (.returned (.bool true)) (w56.putObj l (.loop { r57 with state := .ready, pending := none }))))) (fun _ _ => False))))))))))))
set_option maxRecDepth 100000 in
theorem sh138_0_ok {dd2 : Value} {dd3 : Value} {dd4 : Value} {dd5 : Value} {dd6 : Value} {dd7 : Value} {dd8 : Value} {dd9 : Value} {dd10 : Value} {dd11 : Value} {dd12 : Value} {dd13 : Value} {dd14 : Value} {dd15 : Value} {dd16 : Value} {dd17 : Value} {dd18 : Value} {dd19 : Value} {dd20 : Value} {dd21 : Value} {dd22 : Value} {dd23 : Value} {dd24 : Value} {dd25 : Value} {dd26 : Value} {dd27 : Value} {dd28 : Value} {dd29 : Value} {dd30 : Value} {dd31 : Value} {dd32 : Value} {all_1 : Addr} {y33 : Int} {y34 : Int} {y35 : Int} {l fn D : Nat} {R : Ending → World → Prop} {w : World} (hl : w.heap[l]? = some (.loop (mkLoop #[dd2, dd3, dd4, dd5, dd6, dd7, dd8, dd9, dd10, dd11, .pointer (some all_1), dd12, dd13, dd14, dd15, dd16, dd17, dd18, dd19, dd20, dd21, dd22, dd23, dd24, dd25, dd26, dd27, dd28, dd29, dd30, dd31, dd32] (rfOf Tryz.f138 0).1 (rfOf Tryz.f138 0).2.1 (rfOf Tryz.f138 0).2.2 fn D))) : sh138_0 all_1 y33 y34 y35 l R w → doCall Tryz.prog (.func (.yield l) #[] #[]) #[.agg #[.int .i64 y33, .int .i64 y34, .int .u64 y35]] w R :=
  fun h => ⟨Old.round_of_eq (ann := fun _ => []) 400 follows_mixed hl (by kernel_rfl) (by kernel_rfl) h⟩
set_option maxRecDepth 100000 in
/-- joinery/canon.unlike$1 -/
def sh139 (yield_f1 : Fn) (yield_x2 : Array Value) (yield_c3 : Array Value) (x4 : Addr) (x5 : Addr) (x6 : Addr) (x7 : Addr) (R : Ending → World → Prop) (w : World) : Prop :=
 doAl (.cells #[.func yield_f1 yield_x2 yield_c3] 205) w (fun b8 w9 =>
 doAl (.cells #[.nilFunc] 123) w9 (fun b10 w11 =>
 doSt ((blk b10).add 0) (.func (.func 140) #[] #[.pointer (some (blk b10)), .pointer (some (blk b8)), .pointer (some x4), .pointer (some x5)]) w11 (fun w12 =>
 ∃ (xf13 : Fn), ∃ (xx14 : Array Value), ∃ (xc15 : Array Value), World.cell? w12 (blk b10) = some (.func xf13 xx14 xc15) ∧ (
 ∃ (x16 : Option Addr), World.cell? w12 x6 = some (.pointer x16) ∧ (
 ∃ (x17 : Option Addr), World.cell? w12 x7 = some (.pointer x17) ∧ (
 doCall Tryz.prog (.func xf13 xx14 xc15) #[.pointer x16, .pointer x17] w12 (retS (fun v19 w20 => ∃ (x18 : Bool), v19 = (.bool x18 : Value) ∧ (
 R (.returned (.tuple #[])) w20)) (fun ch w => Kfn R ch [] w))))))))
set_option maxRecDepth 100000 in
theorem sh139_ok (yield_f1 : Fn) (yield_x2 : Array Value) (yield_c3 : Array Value) (x4 : Addr) (x5 : Addr) (x6 : Addr) (x7 : Addr) {R : Ending → World → Prop} {w : World} : sh139 yield_f1 yield_x2 yield_c3 x4 x5 x6 x7 R w → Calls Tryz.prog 139 #[.func yield_f1 yield_x2 yield_c3, .pointer (some x4), .pointer (some x5), .pointer (some x6), .pointer (some x7)] w R :=
  Old.calls_of_eq (ann := fun _ => []) (fn := Tryz.f139) (c := bodyOf Tryz.f139) (args := #[.func yield_f1 yield_x2 yield_c3, .pointer (some x4), .pointer (some x5), .pointer (some x6), .pointer (some x7)]) 400 follows_mixed Tryz.func139 (by kernel_rfl) (by kernel_rfl)
set_option maxRecDepth 100000 in
/-- joinery/canon.unlike$1$1 -/
def sh140 (a_1 : Option Addr) (b_2 : Option Addr) (x3 : Addr) (x4 : Addr) (x5 : Addr) (x6 : Addr) (R : Ending → World → Prop) (w : World) : Prop :=
 doPE Tryz.prog .eql 68 (.tmp 15) (.tmp 16) (.pointer a_1) (.pointer b_2) w (fun b7 =>
 ifB b7 (
 R (.returned (.bool true)) w) (
 ifB ((a_1).isNone) (
 let K10 : Bool → World → Prop := fun (x8 : Bool) (w9 : World) => 
 R (.returned (.bool x8)) w9
 doDr w (fun w12 =>
 ∃ (C11 : World → Prop), C11 w12 ∧ (
 ∃ (xf13 : Fn), ∃ (xx14 : Array Value), ∃ (xc15 : Array Value), (∀ w, C11 w → World.cell? w x3 = some (.func xf13 xx14 xc15)) ∧ (
 doCall Tryz.prog (.func (.func 128) #[] #[]) #[.pointer b_2] w12 (retS (fun v17 w18 => ∃ (x16 : Option Addr), v17 = (.pointer x16 : Value) ∧ (
 C11 w18 ∧ (
 doCall Tryz.prog (.func xf13 xx14 xc15) #[.pointer none, .pointer x16] w18 (retS (fun v20 w21 => ∃ (x19 : Bool), v20 = (.bool x19 : Value) ∧ (
 C11 w21 ∧ (
 ifB x19 (
 ∃ (xf22 : Fn), ∃ (xx23 : Array Value), ∃ (xc24 : Array Value), (∀ w, C11 w → World.cell? w x4 = some (.func xf22 xx23 xc24)) ∧ (
 doCall Tryz.prog (.func (.func 131) #[] #[]) #[.pointer b_2] w21 (retS (fun v26 w27 => ∃ (x25 : Int), v26 = (.int .i64 x25 : Value) ∧ (
 C11 w27 ∧ (
 doCall Tryz.prog (.func xf22 xx23 xc24) #[.int .i64 x25] w27 (retS (fun v29 w30 => ∃ (x28 : Bool), v29 = (.bool x28 : Value) ∧ (
 C11 w30 ∧ (
 ifB x28 (
 ∃ (xf31 : Fn), ∃ (xx32 : Array Value), ∃ (xc33 : Array Value), (∀ w, C11 w → World.cell? w x3 = some (.func xf31 xx32 xc33)) ∧ (
 doCall Tryz.prog (.func (.func 130) #[] #[]) #[.pointer b_2] w30 (retS (fun v35 w36 => ∃ (x34 : Option Addr), v35 = (.pointer x34 : Value) ∧ (
 C11 w36 ∧ (
 doCall Tryz.prog (.func xf31 xx32 xc33) #[.pointer none, .pointer x34] w36 (retS (fun v38 w39 => ∃ (x37 : Bool), v38 = (.bool x37 : Value) ∧ (
 C11 w39 ∧ (
 K10 x37 w39))) (fun ch w => Kfn R ch [] w))))) (fun ch w => Kfn R ch [] w)))) (
 R (.returned (.bool false)) w30)))) (fun ch w => Kfn R ch [] w))))) (fun ch w => Kfn R ch [] w)))) (
 R (.returned (.bool false)) w21)))) (fun ch w => Kfn R ch [] w))))) (fun ch w => Kfn R ch [] w)))))) (
 ifB ((b_2).isNone) (
 let K42 : Bool → World → Prop := fun (x40 : Bool) (w41 : World) => 
 R (.returned (.bool x40)) w41
 doDr w (fun w44 =>
 ∃ (C43 : World → Prop), C43 w44 ∧ (
 ∃ (xf45 : Fn), ∃ (xx46 : Array Value), ∃ (xc47 : Array Value), (∀ w, C43 w → World.cell? w x3 = some (.func xf45 xx46 xc47)) ∧ (
 doCall Tryz.prog (.func (.func 128) #[] #[]) #[.pointer a_1] w44 (retS (fun v49 w50 => ∃ (x48 : Option Addr), v49 = (.pointer x48 : Value) ∧ (
 C43 w50 ∧ (
 doCall Tryz.prog (.func xf45 xx46 xc47) #[.pointer x48, .pointer none] w50 (retS (fun v52 w53 => ∃ (x51 : Bool), v52 = (.bool x51 : Value) ∧ (
 C43 w53 ∧ (
 ifB x51 (
 ∃ (xf54 : Fn), ∃ (xx55 : Array Value), ∃ (xc56 : Array Value), (∀ w, C43 w → World.cell? w x4 = some (.func xf54 xx55 xc56)) ∧ (
 doCall Tryz.prog (.func (.func 131) #[] #[]) #[.pointer a_1] w53 (retS (fun v58 w59 => ∃ (x57 : Int), v58 = (.int .i64 x57 : Value) ∧ (
 C43 w59 ∧ (
 doCall Tryz.prog (.func xf54 xx55 xc56) #[.int .i64 x57] w59 (retS (fun v61 w62 => ∃ (x60 : Bool), v61 = (.bool x60 : Value) ∧ (
 C43 w62 ∧ (
 ifB x60 (
 ∃ (xf63 : Fn), ∃ (xx64 : Array Value), ∃ (xc65 : Array Value), (∀ w, C43 w → World.cell? w x3 = some (.func xf63 xx64 xc65)) ∧ (
 doCall Tryz.prog (.func (.func 130) #[] #[]) #[.pointer a_1] w62 (retS (fun v67 w68 => ∃ (x66 : Option Addr), v67 = (.pointer x66 : Value) ∧ (
 C43 w68 ∧ (
 doCall Tryz.prog (.func xf63 xx64 xc65) #[.pointer x66, .pointer none] w68 (retS (fun v70 w71 => ∃ (x69 : Bool), v70 = (.bool x69 : Value) ∧ (
 C43 w71 ∧ (
 K42 x69 w71))) (fun ch w => Kfn R ch [] w))))) (fun ch w => Kfn R ch [] w)))) (
 R (.returned (.bool false)) w62)))) (fun ch w => Kfn R ch [] w))))) (fun ch w => Kfn R ch [] w)))) (
 R (.returned (.bool false)) w53)))) (fun ch w => Kfn R ch [] w))))) (fun ch w => Kfn R ch [] w)))))) (
 let K77 : (Option Addr) → Addr → Bool → (Option Addr) → World → Prop := fun (l_72 : Option Addr) (x_73 : Addr) (is_74 : Bool) (r_75 : Option Addr) (w76 : World) => 
 let K80 : Bool → World → Prop := fun (x78 : Bool) (w79 : World) => 
 R (.returned (.bool x78)) w79
 doDr w76 (fun w82 =>
 ∃ (C81 : World → Prop), C81 w82 ∧ (
 ∃ (xf83 : Fn), ∃ (xx84 : Array Value), ∃ (xc85 : Array Value), (∀ w, C81 w → World.cell? w x3 = some (.func xf83 xx84 xc85)) ∧ (
 doCall Tryz.prog (.func (.func 128) #[] #[]) #[.pointer a_1] w82 (retS (fun v87 w88 => ∃ (x86 : Option Addr), v87 = (.pointer x86 : Value) ∧ (
 C81 w88 ∧ (
 doCall Tryz.prog (.func xf83 xx84 xc85) #[.pointer x86, .pointer l_72] w88 (retS (fun v90 w91 => ∃ (x89 : Bool), v90 = (.bool x89 : Value) ∧ (
 C81 w91 ∧ (
 ifB x89 (
 ifB is_74 (
 ∃ (x92 : Int), (∀ w, C81 w → World.cell? w (x_73.add 1) = some (.int .i64 x92)) ∧ (
 doCall Tryz.prog (.func (.func 132) #[] #[]) #[.pointer a_1] w91 (retS (fun v94 w95 => ∃ (x93 : Int), v94 = (.int .i64 x93 : Value) ∧ (
 C81 w95 ∧ (
 ifB ((x92 : Int) == x93) (
 ∃ (xf96 : Fn), ∃ (xx97 : Array Value), ∃ (xc98 : Array Value), (∀ w, C81 w → World.cell? w x3 = some (.func xf96 xx97 xc98)) ∧ (
 doCall Tryz.prog (.func (.func 130) #[] #[]) #[.pointer a_1] w95 (retS (fun v100 w101 => ∃ (x99 : Option Addr), v100 = (.pointer x99 : Value) ∧ (
 C81 w101 ∧ (
 doCall Tryz.prog (.func xf96 xx97 xc98) #[.pointer x99, .pointer r_75] w101 (retS (fun v103 w104 => ∃ (x102 : Bool), v103 = (.bool x102 : Value) ∧ (
 C81 w104 ∧ (
 K80 x102 w104))) (fun ch w => Kfn R ch [] w))))) (fun ch w => Kfn R ch [] w)))) (
 ∃ (xf105 : Fn), ∃ (xx106 : Array Value), ∃ (xc107 : Array Value), (∀ w, C81 w → World.cell? w x4 = some (.func xf105 xx106 xc107)) ∧ (
 doCall Tryz.prog (.func (.func 131) #[] #[]) #[.pointer a_1] w95 (retS (fun v109 w110 => ∃ (x108 : Int), v109 = (.int .i64 x108 : Value) ∧ (
 C81 w110 ∧ (
 doCall Tryz.prog (.func xf105 xx106 xc107) #[.int .i64 x108] w110 (retS (fun v112 w113 => ∃ (x111 : Bool), v112 = (.bool x111 : Value) ∧ (
 C81 w113 ∧ (
 ifB x111 (
 ∃ (xf114 : Fn), ∃ (xx115 : Array Value), ∃ (xc116 : Array Value), (∀ w, C81 w → World.cell? w x3 = some (.func xf114 xx115 xc116)) ∧ (
 doCall Tryz.prog (.func (.func 130) #[] #[]) #[.pointer a_1] w113 (retS (fun v118 w119 => ∃ (x117 : Option Addr), v118 = (.pointer x117 : Value) ∧ (
 C81 w119 ∧ (
 doCall Tryz.prog (.func xf114 xx115 xc116) #[.pointer x117, .pointer r_75] w119 (retS (fun v121 w122 => ∃ (x120 : Bool), v121 = (.bool x120 : Value) ∧ (
 C81 w122 ∧ (
 K80 x120 w122))) (fun ch w => Kfn R ch [] w))))) (fun ch w => Kfn R ch [] w)))) (
 R (.returned (.bool false)) w113)))) (fun ch w => Kfn R ch [] w))))) (fun ch w => Kfn R ch [] w))))))) (fun ch w => Kfn R ch [] w)))) (
 ∃ (xf123 : Fn), ∃ (xx124 : Array Value), ∃ (xc125 : Array Value), (∀ w, C81 w → World.cell? w x4 = some (.func xf123 xx124 xc125)) ∧ (
 doCall Tryz.prog (.func (.func 131) #[] #[]) #[.pointer a_1] w91 (retS (fun v127 w128 => ∃ (x126 : Int), v127 = (.int .i64 x126 : Value) ∧ (
 C81 w128 ∧ (
 doCall Tryz.prog (.func xf123 xx124 xc125) #[.int .i64 x126] w128 (retS (fun v130 w131 => ∃ (x129 : Bool), v130 = (.bool x129 : Value) ∧ (
 C81 w131 ∧ (
 ifB x129 (
 ∃ (xf132 : Fn), ∃ (xx133 : Array Value), ∃ (xc134 : Array Value), (∀ w, C81 w → World.cell? w x3 = some (.func xf132 xx133 xc134)) ∧ (
 doCall Tryz.prog (.func (.func 130) #[] #[]) #[.pointer a_1] w131 (retS (fun v136 w137 => ∃ (x135 : Option Addr), v136 = (.pointer x135 : Value) ∧ (
 C81 w137 ∧ (
 doCall Tryz.prog (.func xf132 xx133 xc134) #[.pointer x135, .pointer r_75] w137 (retS (fun v139 w140 => ∃ (x138 : Bool), v139 = (.bool x138 : Value) ∧ (
 C81 w140 ∧ (
 K80 x138 w140))) (fun ch w => Kfn R ch [] w))))) (fun ch w => Kfn R ch [] w)))) (
 R (.returned (.bool false)) w131)))) (fun ch w => Kfn R ch [] w))))) (fun ch w => Kfn R ch [] w))))) (
 R (.returned (.bool false)) w91)))) (fun ch w => Kfn R ch [] w))))) (fun ch w => Kfn R ch [] w)))))
 doDr w (fun w142 =>
 ∃ (C141 : World → Prop), C141 w142 ∧ (
 ∃ (x143 : Option Addr), (∀ w, C141 w → World.cell? w x5 = some (.pointer x143)) ∧ (
 ∃ (x144 : Int), (∀ w, C141 w → World.cell? w x6 = some (.int .u8 x144)) ∧ (
 (doCall Tryz.prog (.func (.func 131) #[] #[]) #[.pointer a_1] w142 (retS (fun v146 w147 => ∃ (x145 : Int), v146 = (.int .i64 x145 : Value) ∧ (
 C141 w147 ∧ (
 (doCall Tryz.prog (.func (.func 141) #[] #[]) #[.pointer x143, .int .u8 x144, .pointer b_2, .int .i64 x145] w147 (retS (fun v155 w156 => ∃ (x148 : Option Addr), ∃ (x149 : Int), ∃ (x150 : Int), ∃ (x151 : Int), ∃ (x152 : Bool), ∃ (x153 : Option Addr), ∃ (x154 : Int), v155 = (.tuple #[.pointer x148, .agg #[.int .i64 x149, .int .i64 x150, .int .u64 x151], .bool x152, .pointer x153, .int .i64 x154] : Value) ∧ (
 doAl (.cells #[.int .i64 0, .int .i64 0, .int .u64 0] 133) w156 (fun b157 w158 =>
 C141 w158 ∧ (
 doSt ((blk b157).add 0) (.int .i64 x149) w158 (fun w159 =>
 doSt ((blk b157).add 1) (.int .i64 x150) w159 (fun w160 =>
 doSt ((blk b157).add 2) (.int .u64 x151) w160 (fun w161 =>
 K77 x148 (blk b157) x152 x153 w161))))))) (fun ch w => Kfn R ch [] w))) ∧ (doAl (.cells #[.int .i64 0, .int .i64 0, .int .u64 0] 133) w147 (fun b162 w163 =>
 C141 w163 ∧ (
 doCall Tryz.prog (.func (.func 141) #[] #[]) #[.pointer x143, .int .u8 x144, .pointer b_2, .int .i64 x145] w163 (retS (fun v171 w172 => ∃ (x164 : Option Addr), ∃ (x165 : Int), ∃ (x166 : Int), ∃ (x167 : Int), ∃ (x168 : Bool), ∃ (x169 : Option Addr), ∃ (x170 : Int), v171 = (.tuple #[.pointer x164, .agg #[.int .i64 x165, .int .i64 x166, .int .u64 x167], .bool x168, .pointer x169, .int .i64 x170] : Value) ∧ (
 doSt ((blk b162).add 0) (.int .i64 x165) w172 (fun w173 =>
 doSt ((blk b162).add 1) (.int .i64 x166) w173 (fun w174 =>
 doSt ((blk b162).add 2) (.int .u64 x167) w174 (fun w175 =>
 K77 x164 (blk b162) x168 x169 w175))))) (fun ch w => Kfn R ch [] w)))))))) (fun ch w => Kfn R ch [] w))) ∧ (doAl (.cells #[.int .i64 0, .int .i64 0, .int .u64 0] 133) w142 (fun b176 w177 =>
 C141 w177 ∧ (
 doCall Tryz.prog (.func (.func 131) #[] #[]) #[.pointer a_1] w177 (retS (fun v179 w180 => ∃ (x178 : Int), v179 = (.int .i64 x178 : Value) ∧ (
 C141 w180 ∧ (
 doCall Tryz.prog (.func (.func 141) #[] #[]) #[.pointer x143, .int .u8 x144, .pointer b_2, .int .i64 x178] w180 (retS (fun v188 w189 => ∃ (x181 : Option Addr), ∃ (x182 : Int), ∃ (x183 : Int), ∃ (x184 : Int), ∃ (x185 : Bool), ∃ (x186 : Option Addr), ∃ (x187 : Int), v188 = (.tuple #[.pointer x181, .agg #[.int .i64 x182, .int .i64 x183, .int .u64 x184], .bool x185, .pointer x186, .int .i64 x187] : Value) ∧ (
 doSt ((blk b176).add 0) (.int .i64 x182) w189 (fun w190 =>
 doSt ((blk b176).add 1) (.int .i64 x183) w190 (fun w191 =>
 doSt ((blk b176).add 2) (.int .u64 x184) w191 (fun w192 =>
 K77 x181 (blk b176) x185 x186 w192))))) (fun ch w => Kfn R ch [] w))))) (fun ch w => Kfn R ch [] w)))))))))))))
set_option maxRecDepth 100000 in
theorem sh140_ok (a_1 : Option Addr) (b_2 : Option Addr) (x3 : Addr) (x4 : Addr) (x5 : Addr) (x6 : Addr) {R : Ending → World → Prop} {w : World} : sh140 a_1 b_2 x3 x4 x5 x6 R w → Calls Tryz.prog 140 #[.pointer a_1, .pointer b_2, .pointer (some x3), .pointer (some x4), .pointer (some x5), .pointer (some x6)] w R :=
  Old.calls_of_eq (ann := fun _ => []) (fn := Tryz.f140) (c := bodyOf Tryz.f140) (args := #[.pointer a_1, .pointer b_2, .pointer (some x3), .pointer (some x4), .pointer (some x5), .pointer (some x6)]) 400 follows_mixed Tryz.func140 (by kernel_rfl) (by kernel_rfl)
set_option maxRecDepth 100000 in
/-- joinery/split.Split -/
def sh141 (s_1 : Option Addr) (o_2 : Int) (t_3 : Option Addr) (key_4 : Int) (R : Ending → World → Prop) (w : World) : Prop :=
 doAl (.cells #[.int .i64 0, .int .i64 0, .int .u64 0] 133) w (fun b5 w6 =>
 let K10 : Int → Value → World → Prop := fun (e_7 : Int) (d8 : Value) (w9 : World) => 
 let K13 : Bool → World → Prop := fun (x11 : Bool) (w12 : World) => 
 ifB x11 (
 doDr w12 (fun w15 =>
 ∃ (C14 : World → Prop), C14 w15 ∧ (
 ∃ (x16 : Int), (∀ w, C14 w → World.cell? w ((blk b5).add 0) = some (.int .i64 x16)) ∧ (
 ∃ (x17 : Int), (∀ w, C14 w → World.cell? w ((blk b5).add 1) = some (.int .i64 x17)) ∧ (
 ∃ (x18 : Int), (∀ w, C14 w → World.cell? w ((blk b5).add 2) = some (.int .u64 x18)) ∧ (
 doSt ((blk b5).add 0) (.int .i64 x16) w15 (fun w19 =>
 doSt ((blk b5).add 1) (.int .i64 x17) w19 (fun w20 =>
 doSt ((blk b5).add 2) (.int .u64 x18) w20 (fun w21 =>
 ∃ (x22 : Int), World.cell? w21 ((blk b5).add 0) = some (.int .i64 x22) ∧ (
 ∃ (x23 : Int), World.cell? w21 ((blk b5).add 1) = some (.int .i64 x23) ∧ (
 ∃ (x24 : Int), World.cell? w21 ((blk b5).add 2) = some (.int .u64 x24) ∧ (
 R (.returned (.tuple #[.pointer none, .agg #[.int .i64 x22, .int .i64 x23, .int .u64 x24], .bool false, .pointer none, .int .i64 2])) w21)))))))))))) (
 doCall Tryz.prog (.func (.func 222) #[] #[]) #[.pointer s_1, d8, .pointer t_3] w12 (retS (fun v31 w32 => ∃ (x25 : Option Addr), ∃ (x26 : Int), ∃ (x27 : Int), ∃ (x28 : Int), ∃ (x29 : Bool), ∃ (x30 : Option Addr), v31 = (.tuple #[.pointer x25, .agg #[.int .i64 x26, .int .i64 x27, .int .u64 x28], .bool x29, .pointer x30] : Value) ∧ (
 doSt ((blk b5).add 0) (.int .i64 x26) w32 (fun w33 =>
 doSt ((blk b5).add 1) (.int .i64 x27) w33 (fun w34 =>
 doSt ((blk b5).add 2) (.int .u64 x28) w34 (fun w35 =>
 doDr w35 (fun w37 =>
 ∃ (C36 : World → Prop), C36 w37 ∧ (
 ∃ (x38 : Int), (∀ w, C36 w → World.cell? w ((blk b5).add 0) = some (.int .i64 x38)) ∧ (
 ∃ (x39 : Int), (∀ w, C36 w → World.cell? w ((blk b5).add 1) = some (.int .i64 x39)) ∧ (
 ∃ (x40 : Int), (∀ w, C36 w → World.cell? w ((blk b5).add 2) = some (.int .u64 x40)) ∧ (
 doSt ((blk b5).add 0) (.int .i64 x38) w37 (fun w41 =>
 doSt ((blk b5).add 1) (.int .i64 x39) w41 (fun w42 =>
 doSt ((blk b5).add 2) (.int .u64 x40) w42 (fun w43 =>
 ∃ (x44 : Int), World.cell? w43 ((blk b5).add 0) = some (.int .i64 x44) ∧ (
 ∃ (x45 : Int), World.cell? w43 ((blk b5).add 1) = some (.int .i64 x45) ∧ (
 ∃ (x46 : Int), World.cell? w43 ((blk b5).add 2) = some (.int .u64 x46) ∧ (
 R (.returned (.tuple #[.pointer x25, .agg #[.int .i64 x44, .int .i64 x45, .int .u64 x46], .bool x29, .pointer x30, .int .i64 0])) w43)))))))))))))))) (fun ch w => Kfn R ch [] w)))
 ifB ((s_1).isNone) (
 K13 true w9) (
 K13 ((e_7 : Int) != 0) w9)
 doCall Tryz.prog (.func (.func 221) #[] #[]) #[.int .u8 o_2, .int .i64 key_4] w6 (retS (fun v51 w52 => (∃ (xf47 : Fn), ∃ (xx48 : Array Value), ∃ (xc49 : Array Value), ∃ (x50 : Int), v51 = (.tuple #[.func xf47 xx48 xc49, .int .i64 x50] : Value) ∧ (
 K10 x50 (.func xf47 xx48 xc49 : Value) w52)) ∨ (∃ (x53 : Int), v51 = (.tuple #[.nilFunc, .int .i64 x53] : Value) ∧ (
 K10 x53 (.nilFunc : Value) w52))) (fun ch w => Kfn R ch [] w)))
set_option maxRecDepth 100000 in
theorem sh141_ok (s_1 : Option Addr) (o_2 : Int) (t_3 : Option Addr) (key_4 : Int) {R : Ending → World → Prop} {w : World} : sh141 s_1 o_2 t_3 key_4 R w → Calls Tryz.prog 141 #[.pointer s_1, .int .u8 o_2, .pointer t_3, .int .i64 key_4] w R :=
  Old.calls_of_eq (ann := fun _ => []) (fn := Tryz.f141) (c := bodyOf Tryz.f141) (args := #[.pointer s_1, .int .u8 o_2, .pointer t_3, .int .i64 key_4]) 400 follows_mixed Tryz.func141 (by kernel_rfl) (by kernel_rfl)
set_option maxRecDepth 100000 in
/-- (*joinery/scheme.Scheme).face -/
def sh142 (s_1 : Option Addr) (R : Ending → World → Prop) (w : World) : Prop :=
 doAl (.cells #[.pointer s_1] 65) w (fun b2 w3 =>
 doAl (.cells #[.string (⟨#[]⟩ : ByteArray), .nilFunc, .nilFunc, .nilFunc, .nilFunc, .nilFunc, .nilFunc, .bool false] 193) w3 (fun b4 w5 =>
 ∃ (x6 : Option Addr), World.cell? w5 (blk b2) = some (.pointer x6) ∧ (
 ∃ (q7 : Addr), x6 = some q7 ∧ (
 doCall Tryz.prog (.func (.func 223) #[] #[]) #[.pointer (some (q7.add 1)), .func (.func 224) #[] #[.pointer (some (blk b2))]] w5 (retS (fun v8 w9 => v8 = (.tuple #[] : Value) ∧ (
 ∃ (x10 : Option Addr), World.cell? w9 (blk b2) = some (.pointer x10) ∧ (
 ∃ (q11 : Addr), x10 = some q11 ∧ (
 ∃ (x12 : ByteArray), World.cell? w9 ((q11.add 4).add 0) = some (.string x12) ∧ (
 ∃ (xf13 : Fn), ∃ (xx14 : Array Value), ∃ (xc15 : Array Value), World.cell? w9 ((q11.add 4).add 1) = some (.func xf13 xx14 xc15) ∧ (
 ∃ (xf16 : Fn), ∃ (xx17 : Array Value), ∃ (xc18 : Array Value), World.cell? w9 ((q11.add 4).add 2) = some (.func xf16 xx17 xc18) ∧ (
 ∃ (xf19 : Fn), ∃ (xx20 : Array Value), ∃ (xc21 : Array Value), World.cell? w9 ((q11.add 4).add 3) = some (.func xf19 xx20 xc21) ∧ (
 ∃ (xf22 : Fn), ∃ (xx23 : Array Value), ∃ (xc24 : Array Value), World.cell? w9 ((q11.add 4).add 4) = some (.func xf22 xx23 xc24) ∧ (
 ∃ (xf25 : Fn), ∃ (xx26 : Array Value), ∃ (xc27 : Array Value), World.cell? w9 ((q11.add 4).add 5) = some (.func xf25 xx26 xc27) ∧ (
 ∃ (xf28 : Fn), ∃ (xx29 : Array Value), ∃ (xc30 : Array Value), World.cell? w9 ((q11.add 4).add 6) = some (.func xf28 xx29 xc30) ∧ (
 ∃ (x31 : Bool), World.cell? w9 ((q11.add 4).add 7) = some (.bool x31) ∧ (
 doSt ((blk b4).add 0) (.string x12) w9 (fun w32 =>
 doSt ((blk b4).add 1) (.func xf13 xx14 xc15) w32 (fun w33 =>
 doSt ((blk b4).add 2) (.func xf16 xx17 xc18) w33 (fun w34 =>
 doSt ((blk b4).add 3) (.func xf19 xx20 xc21) w34 (fun w35 =>
 doSt ((blk b4).add 4) (.func xf22 xx23 xc24) w35 (fun w36 =>
 doSt ((blk b4).add 5) (.func xf25 xx26 xc27) w36 (fun w37 =>
 doSt ((blk b4).add 6) (.func xf28 xx29 xc30) w37 (fun w38 =>
 doSt ((blk b4).add 7) (.bool x31) w38 (fun w39 =>
 ∃ (x40 : ByteArray), World.cell? w39 ((blk b4).add 0) = some (.string x40) ∧ (
 ∃ (xf41 : Fn), ∃ (xx42 : Array Value), ∃ (xc43 : Array Value), World.cell? w39 ((blk b4).add 1) = some (.func xf41 xx42 xc43) ∧ (
 ∃ (xf44 : Fn), ∃ (xx45 : Array Value), ∃ (xc46 : Array Value), World.cell? w39 ((blk b4).add 2) = some (.func xf44 xx45 xc46) ∧ (
 ∃ (xf47 : Fn), ∃ (xx48 : Array Value), ∃ (xc49 : Array Value), World.cell? w39 ((blk b4).add 3) = some (.func xf47 xx48 xc49) ∧ (
 ∃ (xf50 : Fn), ∃ (xx51 : Array Value), ∃ (xc52 : Array Value), World.cell? w39 ((blk b4).add 4) = some (.func xf50 xx51 xc52) ∧ (
 ∃ (xf53 : Fn), ∃ (xx54 : Array Value), ∃ (xc55 : Array Value), World.cell? w39 ((blk b4).add 5) = some (.func xf53 xx54 xc55) ∧ (
 ∃ (xf56 : Fn), ∃ (xx57 : Array Value), ∃ (xc58 : Array Value), World.cell? w39 ((blk b4).add 6) = some (.func xf56 xx57 xc58) ∧ (
 ∃ (x59 : Bool), World.cell? w39 ((blk b4).add 7) = some (.bool x59) ∧ (
 R (.returned (.agg #[.string x40, .func xf41 xx42 xc43, .func xf44 xx45 xc46, .func xf47 xx48 xc49, .func xf50 xx51 xc52, .func xf53 xx54 xc55, .func xf56 xx57 xc58, .bool x59])) w39)))))))))))))))))))))))))))) (fun ch w => Kfn R ch [] w))))))
set_option maxRecDepth 100000 in
theorem sh142_ok (s_1 : Option Addr) {R : Ending → World → Prop} {w : World} : sh142 s_1 R w → Calls Tryz.prog 142 #[.pointer s_1] w R :=
  Old.calls_of_eq (ann := fun _ => []) (fn := Tryz.f142) (c := bodyOf Tryz.f142) (args := #[.pointer s_1]) 400 follows_mixed Tryz.func142 (by kernel_rfl) (by kernel_rfl)
set_option maxRecDepth 100000 in
/-- (joinery/meet.way).goes$1 -/
def sh143 (a_1 : Option Addr) (b_2 : Option Addr) (x3 : Addr) (x4 : Addr) (x5 : Addr) (x6 : Addr) (R : Ending → World → Prop) (w : World) : Prop :=
 ifB ((a_1).isNone) (
 ∃ (xf7 : Fn), ∃ (xx8 : Array Value), ∃ (xc9 : Array Value), World.cell? w (x3.add 1) = some (.func xf7 xx8 xc9) ∧ (
 doCall Tryz.prog (.func xf7 xx8 xc9) #[.pointer b_2] w (retS (fun v11 w12 => ∃ (x10 : Option Addr), v11 = (.pointer x10 : Value) ∧ (
 R (.returned (.pointer x10)) w12)) (fun ch w => Kfn R ch [] w)))) (
 ifB ((b_2).isNone) (
 ∃ (xf13 : Fn), ∃ (xx14 : Array Value), ∃ (xc15 : Array Value), World.cell? w (x3.add 0) = some (.func xf13 xx14 xc15) ∧ (
 doCall Tryz.prog (.func xf13 xx14 xc15) #[.pointer a_1] w (retS (fun v17 w18 => ∃ (x16 : Option Addr), v17 = (.pointer x16 : Value) ∧ (
 R (.returned (.pointer x16)) w18)) (fun ch w => Kfn R ch [] w)))) (
 let K24 : (Option Addr) → Addr → Bool → (Option Addr) → World → Prop := fun (l_19 : Option Addr) (y_20 : Addr) (is_21 : Bool) (r_22 : Option Addr) (w23 : World) => 
 doDr w23 (fun w26 =>
 ∃ (C25 : World → Prop), C25 w26 ∧ (
 ∃ (xf27 : Fn), ∃ (xx28 : Array Value), ∃ (xc29 : Array Value), (∀ w, C25 w → World.cell? w x6 = some (.func xf27 xx28 xc29)) ∧ (
 ∃ (xf30 : Fn), ∃ (xx31 : Array Value), ∃ (xc32 : Array Value), (∀ w, C25 w → World.cell? w x6 = some (.func xf30 xx31 xc32)) ∧ (
 doCall Tryz.prog (.func (.func 128) #[] #[]) #[.pointer a_1] w26 (retS (fun v34 w35 => ∃ (x33 : Option Addr), v34 = (.pointer x33 : Value) ∧ (
 C25 w35 ∧ (
 doCall Tryz.prog (.func xf27 xx28 xc29) #[.pointer x33, .pointer l_19] w35 (retS (fun v37 w38 => ∃ (x36 : Option Addr), v37 = (.pointer x36 : Value) ∧ (
 C25 w38 ∧ (
 doCall Tryz.prog (.func (.func 130) #[] #[]) #[.pointer a_1] w38 (retS (fun v40 w41 => ∃ (x39 : Option Addr), v40 = (.pointer x39 : Value) ∧ (
 C25 w41 ∧ (
 doCall Tryz.prog (.func xf30 xx31 xc32) #[.pointer x39, .pointer r_22] w41 (retS (fun v43 w44 => ∃ (x42 : Option Addr), v43 = (.pointer x42 : Value) ∧ (
 C25 w44 ∧ (
 let K48 : Addr → Bool → World → Prop := fun (x_45 : Addr) (stays_46 : Bool) (w47 : World) => 
 ifB stays_46 (
 ∃ (x49 : Option Addr), World.cell? w47 x4 = some (.pointer x49) ∧ (
 ∃ (x50 : Int), World.cell? w47 (x_45.add 0) = some (.int .i64 x50) ∧ (
 ∃ (x51 : Int), World.cell? w47 (x_45.add 1) = some (.int .i64 x51) ∧ (
 ∃ (x52 : Int), World.cell? w47 (x_45.add 2) = some (.int .u64 x52) ∧ (
 doCall Tryz.prog (.func (.func 145) #[] #[]) #[.pointer x49, .pointer x36, .agg #[.int .i64 x50, .int .i64 x51, .int .u64 x52], .pointer x42] w47 (retS (fun v54 w55 => ∃ (x53 : Option Addr), v54 = (.pointer x53 : Value) ∧ (
 R (.returned (.pointer x53)) w55)) (fun ch w => Kfn R ch [] w))))))) (
 ∃ (x56 : Option Addr), World.cell? w47 x4 = some (.pointer x56) ∧ (
 doCall Tryz.prog (.func (.func 146) #[] #[]) #[.pointer x56, .pointer x36, .pointer x42] w47 (retS (fun v58 w59 => ∃ (x57 : Option Addr), v58 = (.pointer x57 : Value) ∧ (
 R (.returned (.pointer x57)) w59)) (fun ch w => Kfn R ch [] w))))
 doDr w44 (fun w61 =>
 ∃ (C60 : World → Prop), C60 w61 ∧ (
 ∃ (xf62 : Fn), ∃ (xx63 : Array Value), ∃ (xc64 : Array Value), (∀ w, C60 w → World.cell? w (x3.add 2) = some (.func xf62 xx63 xc64)) ∧ (
 ∃ (x65 : Option Addr), (∀ w, C60 w → World.cell? w x4 = some (.pointer x65)) ∧ (
 ∃ (x66 : Int), (∀ w, C60 w → World.cell? w (y_20.add 0) = some (.int .i64 x66)) ∧ (
 ∃ (x67 : Int), (∀ w, C60 w → World.cell? w (y_20.add 1) = some (.int .i64 x67)) ∧ (
 ∃ (x68 : Int), (∀ w, C60 w → World.cell? w (y_20.add 2) = some (.int .u64 x68)) ∧ (
 (doCall Tryz.prog (.func (.func 144) #[] #[]) #[.pointer x65, .pointer a_1] w61 (retS (fun v72 w73 => ∃ (x69 : Int), ∃ (x70 : Int), ∃ (x71 : Int), v72 = (.agg #[.int .i64 x69, .int .i64 x70, .int .u64 x71] : Value) ∧ (
 C60 w73 ∧ (
 (doCall Tryz.prog (.func xf62 xx63 xc64) #[.agg #[.int .i64 x69, .int .i64 x70, .int .u64 x71], .agg #[.int .i64 x66, .int .i64 x67, .int .u64 x68], .bool is_21] w73 (retS (fun v78 w79 => ∃ (x74 : Int), ∃ (x75 : Int), ∃ (x76 : Int), ∃ (x77 : Bool), v78 = (.tuple #[.agg #[.int .i64 x74, .int .i64 x75, .int .u64 x76], .bool x77] : Value) ∧ (
 C60 w79 ∧ (
 doAl (.cells #[.int .i64 0, .int .i64 0, .int .u64 0] 133) w79 (fun b80 w81 =>
 C60 w81 ∧ (
 doSt ((blk b80).add 0) (.int .i64 x74) w81 (fun w82 =>
 doSt ((blk b80).add 1) (.int .i64 x75) w82 (fun w83 =>
 doSt ((blk b80).add 2) (.int .u64 x76) w83 (fun w84 =>
 K48 (blk b80) x77 w84)))))))) (fun ch w => Kfn R ch [] w))) ∧ (doAl (.cells #[.int .i64 0, .int .i64 0, .int .u64 0] 133) w73 (fun b85 w86 =>
 C60 w86 ∧ (
 doCall Tryz.prog (.func xf62 xx63 xc64) #[.agg #[.int .i64 x69, .int .i64 x70, .int .u64 x71], .agg #[.int .i64 x66, .int .i64 x67, .int .u64 x68], .bool is_21] w86 (retS (fun v91 w92 => ∃ (x87 : Int), ∃ (x88 : Int), ∃ (x89 : Int), ∃ (x90 : Bool), v91 = (.tuple #[.agg #[.int .i64 x87, .int .i64 x88, .int .u64 x89], .bool x90] : Value) ∧ (
 C60 w92 ∧ (
 doSt ((blk b85).add 0) (.int .i64 x87) w92 (fun w93 =>
 doSt ((blk b85).add 1) (.int .i64 x88) w93 (fun w94 =>
 doSt ((blk b85).add 2) (.int .u64 x89) w94 (fun w95 =>
 K48 (blk b85) x90 w95)))))) (fun ch w => Kfn R ch [] w)))))))) (fun ch w => Kfn R ch [] w))) ∧ (doAl (.cells #[.int .i64 0, .int .i64 0, .int .u64 0] 133) w61 (fun b96 w97 =>
 C60 w97 ∧ (
 doCall Tryz.prog (.func (.func 144) #[] #[]) #[.pointer x65, .pointer a_1] w97 (retS (fun v101 w102 => ∃ (x98 : Int), ∃ (x99 : Int), ∃ (x100 : Int), v101 = (.agg #[.int .i64 x98, .int .i64 x99, .int .u64 x100] : Value) ∧ (
 C60 w102 ∧ (
 doCall Tryz.prog (.func xf62 xx63 xc64) #[.agg #[.int .i64 x98, .int .i64 x99, .int .u64 x100], .agg #[.int .i64 x66, .int .i64 x67, .int .u64 x68], .bool is_21] w102 (retS (fun v107 w108 => ∃ (x103 : Int), ∃ (x104 : Int), ∃ (x105 : Int), ∃ (x106 : Bool), v107 = (.tuple #[.agg #[.int .i64 x103, .int .i64 x104, .int .u64 x105], .bool x106] : Value) ∧ (
 C60 w108 ∧ (
 doSt ((blk b96).add 0) (.int .i64 x103) w108 (fun w109 =>
 doSt ((blk b96).add 1) (.int .i64 x104) w109 (fun w110 =>
 doSt ((blk b96).add 2) (.int .u64 x105) w110 (fun w111 =>
 K48 (blk b96) x106 w111)))))) (fun ch w => Kfn R ch [] w))))) (fun ch w => Kfn R ch [] w))))))))))))))) (fun ch w => Kfn R ch [] w))))) (fun ch w => Kfn R ch [] w))))) (fun ch w => Kfn R ch [] w))))) (fun ch w => Kfn R ch [] w))))))
 doDr w (fun w113 =>
 ∃ (C112 : World → Prop), C112 w113 ∧ (
 ∃ (x114 : Option Addr), (∀ w, C112 w → World.cell? w x4 = some (.pointer x114)) ∧ (
 ∃ (x115 : Int), (∀ w, C112 w → World.cell? w x5 = some (.int .u8 x115)) ∧ (
 (doCall Tryz.prog (.func (.func 131) #[] #[]) #[.pointer a_1] w113 (retS (fun v117 w118 => ∃ (x116 : Int), v117 = (.int .i64 x116 : Value) ∧ (
 C112 w118 ∧ (
 (doCall Tryz.prog (.func (.func 141) #[] #[]) #[.pointer x114, .int .u8 x115, .pointer b_2, .int .i64 x116] w118 (retS (fun v126 w127 => ∃ (x119 : Option Addr), ∃ (x120 : Int), ∃ (x121 : Int), ∃ (x122 : Int), ∃ (x123 : Bool), ∃ (x124 : Option Addr), ∃ (x125 : Int), v126 = (.tuple #[.pointer x119, .agg #[.int .i64 x120, .int .i64 x121, .int .u64 x122], .bool x123, .pointer x124, .int .i64 x125] : Value) ∧ (
 doAl (.cells #[.int .i64 0, .int .i64 0, .int .u64 0] 133) w127 (fun b128 w129 =>
 C112 w129 ∧ (
 doSt ((blk b128).add 0) (.int .i64 x120) w129 (fun w130 =>
 doSt ((blk b128).add 1) (.int .i64 x121) w130 (fun w131 =>
 doSt ((blk b128).add 2) (.int .u64 x122) w131 (fun w132 =>
 K24 x119 (blk b128) x123 x124 w132))))))) (fun ch w => Kfn R ch [] w))) ∧ (doAl (.cells #[.int .i64 0, .int .i64 0, .int .u64 0] 133) w118 (fun b133 w134 =>
 C112 w134 ∧ (
 doCall Tryz.prog (.func (.func 141) #[] #[]) #[.pointer x114, .int .u8 x115, .pointer b_2, .int .i64 x116] w134 (retS (fun v142 w143 => ∃ (x135 : Option Addr), ∃ (x136 : Int), ∃ (x137 : Int), ∃ (x138 : Int), ∃ (x139 : Bool), ∃ (x140 : Option Addr), ∃ (x141 : Int), v142 = (.tuple #[.pointer x135, .agg #[.int .i64 x136, .int .i64 x137, .int .u64 x138], .bool x139, .pointer x140, .int .i64 x141] : Value) ∧ (
 doSt ((blk b133).add 0) (.int .i64 x136) w143 (fun w144 =>
 doSt ((blk b133).add 1) (.int .i64 x137) w144 (fun w145 =>
 doSt ((blk b133).add 2) (.int .u64 x138) w145 (fun w146 =>
 K24 x135 (blk b133) x139 x140 w146))))) (fun ch w => Kfn R ch [] w)))))))) (fun ch w => Kfn R ch [] w))) ∧ (doAl (.cells #[.int .i64 0, .int .i64 0, .int .u64 0] 133) w113 (fun b147 w148 =>
 C112 w148 ∧ (
 doCall Tryz.prog (.func (.func 131) #[] #[]) #[.pointer a_1] w148 (retS (fun v150 w151 => ∃ (x149 : Int), v150 = (.int .i64 x149 : Value) ∧ (
 C112 w151 ∧ (
 doCall Tryz.prog (.func (.func 141) #[] #[]) #[.pointer x114, .int .u8 x115, .pointer b_2, .int .i64 x149] w151 (retS (fun v159 w160 => ∃ (x152 : Option Addr), ∃ (x153 : Int), ∃ (x154 : Int), ∃ (x155 : Int), ∃ (x156 : Bool), ∃ (x157 : Option Addr), ∃ (x158 : Int), v159 = (.tuple #[.pointer x152, .agg #[.int .i64 x153, .int .i64 x154, .int .u64 x155], .bool x156, .pointer x157, .int .i64 x158] : Value) ∧ (
 doSt ((blk b147).add 0) (.int .i64 x153) w160 (fun w161 =>
 doSt ((blk b147).add 1) (.int .i64 x154) w161 (fun w162 =>
 doSt ((blk b147).add 2) (.int .u64 x155) w162 (fun w163 =>
 K24 x152 (blk b147) x156 x157 w163))))) (fun ch w => Kfn R ch [] w))))) (fun ch w => Kfn R ch [] w)))))))))))
set_option maxRecDepth 100000 in
theorem sh143_ok (a_1 : Option Addr) (b_2 : Option Addr) (x3 : Addr) (x4 : Addr) (x5 : Addr) (x6 : Addr) {R : Ending → World → Prop} {w : World} : sh143 a_1 b_2 x3 x4 x5 x6 R w → Calls Tryz.prog 143 #[.pointer a_1, .pointer b_2, .pointer (some x3), .pointer (some x4), .pointer (some x5), .pointer (some x6)] w R :=
  Old.calls_of_eq (ann := fun _ => []) (fn := Tryz.f143) (c := bodyOf Tryz.f143) (args := #[.pointer a_1, .pointer b_2, .pointer (some x3), .pointer (some x4), .pointer (some x5), .pointer (some x6)]) 400 follows_mixed Tryz.func143 (by kernel_rfl) (by kernel_rfl)
set_option maxRecDepth 100000 in
/-- (*joinery/scheme.Scheme).Item -/
def sh144 (s_1 : Option Addr) (t_2 : Option Addr) (R : Ending → World → Prop) (w : World) : Prop :=
 doAl (.cells #[.int .i64 0, .int .i64 0, .int .u64 0] 133) w (fun b3 w4 =>
 let K7 : Bool → World → Prop := fun (x5 : Bool) (w6 : World) => 
 ifB x5 (
 doSt ((blk b3).add 0) (.int .i64 0) w6 (fun w8 =>
 doSt ((blk b3).add 1) (.int .i64 0) w8 (fun w9 =>
 doSt ((blk b3).add 2) (.int .u64 0) w9 (fun w10 =>
 ∃ (x11 : Int), World.cell? w10 ((blk b3).add 0) = some (.int .i64 x11) ∧ (
 ∃ (x12 : Int), World.cell? w10 ((blk b3).add 1) = some (.int .i64 x12) ∧ (
 ∃ (x13 : Int), World.cell? w10 ((blk b3).add 2) = some (.int .u64 x13) ∧ (
 R (.returned (.agg #[.int .i64 x11, .int .i64 x12, .int .u64 x13])) w10))))))) (
 doCall Tryz.prog (.func (.func 131) #[] #[]) #[.pointer t_2] w6 (retS (fun v15 w16 => ∃ (x14 : Int), v15 = (.int .i64 x14 : Value) ∧ (
 doCall Tryz.prog (.func (.func 132) #[] #[]) #[.pointer t_2] w16 (retS (fun v18 w19 => ∃ (x17 : Int), v18 = (.int .i64 x17 : Value) ∧ (
 doAl (.cells #[.int .i64 0, .int .i64 0, .int .u64 0] 133) w19 (fun b20 w21 =>
 doSt ((blk b20).add 0) (.int .i64 x14) w21 (fun w22 =>
 doSt ((blk b20).add 1) (.int .i64 x17) w22 (fun w23 =>
 doSt ((blk b20).add 2) (.int .u64 0) w23 (fun w24 =>
 let K26 : World → Prop := fun (w25 : World) => 
 ∃ (x27 : Int), World.cell? w25 ((blk b20).add 0) = some (.int .i64 x27) ∧ (
 ∃ (x28 : Int), World.cell? w25 ((blk b20).add 1) = some (.int .i64 x28) ∧ (
 ∃ (x29 : Int), World.cell? w25 ((blk b20).add 2) = some (.int .u64 x29) ∧ (
 doSt ((blk b3).add 0) (.int .i64 x27) w25 (fun w30 =>
 doSt ((blk b3).add 1) (.int .i64 x28) w30 (fun w31 =>
 doSt ((blk b3).add 2) (.int .u64 x29) w31 (fun w32 =>
 ∃ (x33 : Int), World.cell? w32 ((blk b3).add 0) = some (.int .i64 x33) ∧ (
 ∃ (x34 : Int), World.cell? w32 ((blk b3).add 1) = some (.int .i64 x34) ∧ (
 ∃ (x35 : Int), World.cell? w32 ((blk b3).add 2) = some (.int .u64 x35) ∧ (
 R (.returned (.agg #[.int .i64 x33, .int .i64 x34, .int .u64 x35])) w32)))))))))
 doCall Tryz.prog (.func (.func 142) #[] #[]) #[.pointer s_1] w24 (retS (fun v56 w57 => ∃ (x36 : ByteArray), ∃ (xf37 : Fn), ∃ (xx38 : Array Value), ∃ (xc39 : Array Value), ∃ (xf40 : Fn), ∃ (xx41 : Array Value), ∃ (xc42 : Array Value), ∃ (xf43 : Fn), ∃ (xx44 : Array Value), ∃ (xc45 : Array Value), ∃ (xf46 : Fn), ∃ (xx47 : Array Value), ∃ (xc48 : Array Value), ∃ (xf49 : Fn), ∃ (xx50 : Array Value), ∃ (xc51 : Array Value), ∃ (xf52 : Fn), ∃ (xx53 : Array Value), ∃ (xc54 : Array Value), ∃ (x55 : Bool), v56 = (.agg #[.string x36, .func xf37 xx38 xc39, .func xf40 xx41 xc42, .func xf43 xx44 xc45, .func xf46 xx47 xc48, .func xf49 xx50 xc51, .func xf52 xx53 xc54, .bool x55] : Value) ∧ (
 ifB x55 (
 doCall Tryz.prog (.func (.func 214) #[] #[]) #[.pointer t_2] w57 (retS (fun v59 w60 => ∃ (x58 : Int), v59 = (.int .u64 x58 : Value) ∧ (
 doSt (((blk b20).add 2).add 0) (.int .u64 x58) w60 (fun w61 =>
 K26 w61))) (fun ch w => Kfn R ch [] w))) (
 K26 w57))) (fun ch w => Kfn R ch [] w)))))))) (fun ch w => Kfn R ch [] w)))) (fun ch w => Kfn R ch [] w)))
 ifB ((s_1).isNone) (
 K7 true w4) (
 K7 ((t_2).isNone) w4))
set_option maxRecDepth 100000 in
theorem sh144_ok (s_1 : Option Addr) (t_2 : Option Addr) {R : Ending → World → Prop} {w : World} : sh144 s_1 t_2 R w → Calls Tryz.prog 144 #[.pointer s_1, .pointer t_2] w R :=
  Old.calls_of_eq (ann := fun _ => []) (fn := Tryz.f144) (c := bodyOf Tryz.f144) (args := #[.pointer s_1, .pointer t_2]) 400 follows_mixed Tryz.func144 (by kernel_rfl) (by kernel_rfl)
set_option maxRecDepth 100000 in
/-- (*joinery/scheme.Scheme).Join -/
def sh145 (s_1 : Option Addr) (l_2 : Option Addr) (x_3 : Int) (x_4 : Int) (x_5 : Int) (r_6 : Option Addr) (R : Ending → World → Prop) (w : World) : Prop :=
 doAl (.cells #[.int .i64 x_3, .int .i64 x_4, .int .u64 x_5] 133) w (fun b7 w8 =>
 ifB ((s_1).isNone) (
 R (.returned (.pointer none)) w8) (
 ∃ (q9 : Addr), s_1 = some q9 ∧ (
 doCall Tryz.prog (.func (.func 225) #[] #[]) #[.pointer (some (q9.add 12)), .int .u64 1] w8 (retS (fun v11 w12 => ∃ (x10 : Int), v11 = (.int .u64 x10 : Value) ∧ (
 doDr w12 (fun w14 =>
 ∃ (C13 : World → Prop), C13 w14 ∧ (
 ∃ (x15 : Int), (∀ w, C13 w → World.cell? w ((blk b7).add 0) = some (.int .i64 x15)) ∧ (
 ∃ (x16 : Int), (∀ w, C13 w → World.cell? w ((blk b7).add 1) = some (.int .i64 x16)) ∧ (
 ∃ (x17 : Int), (∀ w, C13 w → World.cell? w ((blk b7).add 2) = some (.int .u64 x17)) ∧ (
 doCall Tryz.prog (.func (.func 142) #[] #[]) #[.pointer s_1] w14 (retS (fun v38 w39 => ∃ (x18 : ByteArray), ∃ (xf19 : Fn), ∃ (xx20 : Array Value), ∃ (xc21 : Array Value), ∃ (xf22 : Fn), ∃ (xx23 : Array Value), ∃ (xc24 : Array Value), ∃ (xf25 : Fn), ∃ (xx26 : Array Value), ∃ (xc27 : Array Value), ∃ (xf28 : Fn), ∃ (xx29 : Array Value), ∃ (xc30 : Array Value), ∃ (xf31 : Fn), ∃ (xx32 : Array Value), ∃ (xc33 : Array Value), ∃ (xf34 : Fn), ∃ (xx35 : Array Value), ∃ (xc36 : Array Value), ∃ (x37 : Bool), v38 = (.agg #[.string x18, .func xf19 xx20 xc21, .func xf22 xx23 xc24, .func xf25 xx26 xc27, .func xf28 xx29 xc30, .func xf31 xx32 xc33, .func xf34 xx35 xc36, .bool x37] : Value) ∧ (
 C13 w39 ∧ (
 doCall Tryz.prog (.func xf19 xx20 xc21) #[.pointer l_2, .agg #[.int .i64 x15, .int .i64 x16, .int .u64 x17], .pointer r_6] w39 (retS (fun v41 w42 => ∃ (x40 : Option Addr), v41 = (.pointer x40 : Value) ∧ (
 R (.returned (.pointer x40)) w42)) (fun ch w => Kfn R ch [] w))))) (fun ch w => Kfn R ch [] w))))))))) (fun ch w => Kfn R ch [] w)))))
set_option maxRecDepth 100000 in
theorem sh145_ok (s_1 : Option Addr) (l_2 : Option Addr) (x_3 : Int) (x_4 : Int) (x_5 : Int) (r_6 : Option Addr) {R : Ending → World → Prop} {w : World} : sh145 s_1 l_2 x_3 x_4 x_5 r_6 R w → Calls Tryz.prog 145 #[.pointer s_1, .pointer l_2, .agg #[.int .i64 x_3, .int .i64 x_4, .int .u64 x_5], .pointer r_6] w R :=
  Old.calls_of_eq (ann := fun _ => []) (fn := Tryz.f145) (c := bodyOf Tryz.f145) (args := #[.pointer s_1, .pointer l_2, .agg #[.int .i64 x_3, .int .i64 x_4, .int .u64 x_5], .pointer r_6]) 400 follows_mixed Tryz.func145 (by kernel_rfl) (by kernel_rfl)
set_option maxRecDepth 100000 in
/-- joinery/cut.Join2 -/
def sh146 (s_1 : Option Addr) (l_2 : Option Addr) (r_3 : Option Addr) (R : Ending → World → Prop) (w : World) : Prop :=
 doCall Tryz.prog (.func (.func 226) #[] #[]) #[.pointer s_1, .pointer l_2] w (retS (fun v9 w10 => ∃ (x4 : Option Addr), ∃ (x5 : Int), ∃ (x6 : Int), ∃ (x7 : Int), ∃ (x8 : Bool), v9 = (.tuple #[.pointer x4, .agg #[.int .i64 x5, .int .i64 x6, .int .u64 x7], .bool x8] : Value) ∧ (
 doAl (.cells #[.int .i64 0, .int .i64 0, .int .u64 0] 133) w10 (fun b11 w12 =>
 doSt ((blk b11).add 0) (.int .i64 x5) w12 (fun w13 =>
 doSt ((blk b11).add 1) (.int .i64 x6) w13 (fun w14 =>
 doSt ((blk b11).add 2) (.int .u64 x7) w14 (fun w15 =>
 ifB (!x8) (
 doCall Tryz.prog (.func (.func 72) #[] #[]) #[.pointer s_1, .pointer r_3] w15 (retS (fun v17 w18 => ∃ (x16 : Option Addr), v17 = (.pointer x16 : Value) ∧ (
 R (.returned (.pointer x16)) w18)) (fun ch w => Kfn R ch [] w))) (
 ∃ (x19 : Int), World.cell? w15 ((blk b11).add 0) = some (.int .i64 x19) ∧ (
 ∃ (x20 : Int), World.cell? w15 ((blk b11).add 1) = some (.int .i64 x20) ∧ (
 ∃ (x21 : Int), World.cell? w15 ((blk b11).add 2) = some (.int .u64 x21) ∧ (
 doCall Tryz.prog (.func (.func 145) #[] #[]) #[.pointer s_1, .pointer x4, .agg #[.int .i64 x19, .int .i64 x20, .int .u64 x21], .pointer r_3] w15 (retS (fun v23 w24 => ∃ (x22 : Option Addr), v23 = (.pointer x22 : Value) ∧ (
 R (.returned (.pointer x22)) w24)) (fun ch w => Kfn R ch [] w)))))))))))) (fun ch w => Kfn R ch [] w))
set_option maxRecDepth 100000 in
theorem sh146_ok (s_1 : Option Addr) (l_2 : Option Addr) (r_3 : Option Addr) {R : Ending → World → Prop} {w : World} : sh146 s_1 l_2 r_3 R w → Calls Tryz.prog 146 #[.pointer s_1, .pointer l_2, .pointer r_3] w R :=
  Old.calls_of_eq (ann := fun _ => []) (fn := Tryz.f146) (c := bodyOf Tryz.f146) (args := #[.pointer s_1, .pointer l_2, .pointer r_3]) 400 follows_mixed Tryz.func146 (by kernel_rfl) (by kernel_rfl)
set_option maxRecDepth 100000 in
/-- joinery/look.pairs -/
def sh148 (s_f1 : Fn) (s_x2 : Array Value) (s_c3 : Array Value) (R : Ending → World → Prop) (w : World) : Prop :=
 doAl (.cells #[.func s_f1 s_x2 s_c3] 223) w (fun b4 w5 =>
 R (.returned (.func (.func 230) #[] #[.pointer (some (blk b4))])) w5)
set_option maxRecDepth 100000 in
theorem sh148_ok (s_f1 : Fn) (s_x2 : Array Value) (s_c3 : Array Value) {R : Ending → World → Prop} {w : World} : sh148 s_f1 s_x2 s_c3 R w → Calls Tryz.prog 148 #[.func s_f1 s_x2 s_c3] w R :=
  Old.calls_of_eq (ann := fun _ => []) (fn := Tryz.f148) (c := bodyOf Tryz.f148) (args := #[.func s_f1 s_x2 s_c3]) 400 follows_mixed Tryz.func148 (by kernel_rfl) (by kernel_rfl)
set_option maxRecDepth 100000 in
/-- joinery/look.nodes -/
def sh149 (t_1 : Option Addr) (R : Ending → World → Prop) (w : World) : Prop :=
 doCall Tryz.prog (.func (.func 231) #[] #[]) #[.pointer t_1, .func (.func 128) #[] #[], .func (.func 130) #[] #[]] w (retS (fun v5 w6 => ∃ (xf2 : Fn), ∃ (xx3 : Array Value), ∃ (xc4 : Array Value), v5 = (.func xf2 xx3 xc4 : Value) ∧ (
 R (.returned (.func xf2 xx3 xc4)) w6)) (fun ch w => Kfn R ch [] w))
set_option maxRecDepth 100000 in
theorem sh149_ok (t_1 : Option Addr) {R : Ending → World → Prop} {w : World} : sh149 t_1 R w → Calls Tryz.prog 149 #[.pointer t_1] w R :=
  Old.calls_of_eq (ann := fun _ => []) (fn := Tryz.f149) (c := bodyOf Tryz.f149) (args := #[.pointer t_1]) 400 follows_mixed Tryz.func149 (by kernel_rfl) (by kernel_rfl)
set_option maxRecDepth 100000 in
/-- joinery/find.last$1 -/
def sh150 (n_1 : Option Addr) (is_2 : Bool) (x3 : Addr) (R : Ending → World → Prop) (w : World) : Prop :=
 ifB is_2 (
 doSt (x3.add 0) (.pointer n_1) w (fun w4 =>
 R (.returned (.tuple #[])) w4)) (
 R (.returned (.tuple #[])) w)
set_option maxRecDepth 100000 in
theorem sh150_ok (n_1 : Option Addr) (is_2 : Bool) (x3 : Addr) {R : Ending → World → Prop} {w : World} : sh150 n_1 is_2 x3 R w → Calls Tryz.prog 150 #[.pointer n_1, .bool is_2, .pointer (some x3)] w R :=
  Old.calls_of_eq (ann := fun _ => []) (fn := Tryz.f150) (c := bodyOf Tryz.f150) (args := #[.pointer n_1, .bool is_2, .pointer (some x3)]) 400 follows_mixed Tryz.func150 (by kernel_rfl) (by kernel_rfl)
set_option maxRecDepth 100000 in
/-- joinery/find.last$2 -/
def sh151 (x1 : Addr) (R : Ending → World → Prop) (w : World) : Prop :=
 ∃ (x2 : Option Addr), World.cell? w x1 = some (.pointer x2) ∧ (
 R (.returned (.pointer x2)) w)
set_option maxRecDepth 100000 in
theorem sh151_ok (x1 : Addr) {R : Ending → World → Prop} {w : World} : sh151 x1 R w → Calls Tryz.prog 151 #[.pointer (some x1)] w R :=
  Old.calls_of_eq (ann := fun _ => []) (fn := Tryz.f151) (c := bodyOf Tryz.f151) (args := #[.pointer (some x1)]) 400 follows_mixed Tryz.func151 (by kernel_rfl) (by kernel_rfl)
end Go.Proofs.YtlfjaogbehpleaaGreat

