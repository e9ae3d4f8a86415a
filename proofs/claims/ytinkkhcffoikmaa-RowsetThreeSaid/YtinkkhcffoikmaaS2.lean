/-
  Printed by a program (gen.py): what the functions of the program do, as formulas; each with the proof that its call is what the formula says.
-/
import Derived.Test.YtinkkhcffoikmaaCd
import Derived.Test.YtinkkhcffoikmaaProg
import Derived.Test.YtinkkhcffoikmaaS1
namespace Go.Proofs.Ytinkkhcffoikmaa
open Go Go.Sh
set_option maxRecDepth 100000 in
/-- joinery/find.Floor -/
def sh29 (o_1 : Int) (t_2 : Option Addr) (key_3 : Int) (R : Ending → World → Prop) (w : World) : Prop :=
 doAl (.cells #[.int .i64 0, .int .i64 0] 38) w (fun b4 w5 =>
 doCall Try.prog (.func (.func 84) #[] #[]) #[] w5 (retS (fun v12 w13 => ∃ (xf6 : Fn), ∃ (xx7 : Array Value), ∃ (xc8 : Array Value), ∃ (xf9 : Fn), ∃ (xx10 : Array Value), ∃ (xc11 : Array Value), v12 = (.tuple #[.func xf6 xx7 xc8, .func xf9 xx10 xc11] : Value) ∧ (
 doAl (.cells #[.nilFunc] 105) w13 (fun b14 w15 =>
 doSt ((blk b14).add 0) (.func xf6 xx7 xc8) w15 (fun w16 =>
 doCall Try.prog (.func (.func 85) #[] #[]) #[.int .u8 o_1, .pointer t_2, .int .i64 key_3] w16 (retS (fun v20 w21 => ∃ (xf17 : Fn), ∃ (xx18 : Array Value), ∃ (xc19 : Array Value), v20 = (.func xf17 xx18 xc19 : Value) ∧ (
 rfW Try.prog (.func xf17 xx18 xc19) (mkLoop #[.int .u8 o_1, .pointer t_2, .int .i64 key_3, undef, undef, undef, .pointer (some (blk b4)), .bool false, .pointer (some (blk b14)), .func xf9 xx10 xc11, undef, undef, .tuple #[.func xf6 xx7 xc8, .func xf9 xx10 xc11], .tuple #[.func xf6 xx7 xc8, .func xf9 xx10 xc11], .func xf6 xx7 xc8, .func xf9 xx10 xc11, .int .u8 o_1, .pointer t_2, .int .i64 key_3, .func xf17 xx18 xc19, undef, undef, undef, undef, undef, undef, undef, undef, undef, undef, undef, undef] (rfOf Try.f29 0).1 (rfOf Try.f29 0).2.1 (rfOf Try.f29 0).2.2)
 (fun w22 =>
 doCall Try.prog (.func xf9 xx10 xc11) #[] w22 (retS (fun v24 w25 => ∃ (x23 : Option Addr), v24 = (.pointer x23 : Value) ∧ (
 doCall Try.prog (.func (.func 86) #[] #[]) #[.pointer x23] w25 (retS (fun v29 w30 => ∃ (x26 : Int), ∃ (x27 : Int), ∃ (x28 : Bool), v29 = (.tuple #[.agg #[.int .i64 x26, .int .i64 x27], .bool x28] : Value) ∧ (
 doSt ((blk b4).add 0) (.int .i64 x26) w30 (fun w31 =>
 doSt ((blk b4).add 1) (.int .i64 x27) w31 (fun w32 =>
 w32.heap[w21.heap.size]? = some (.deferred (some [])) ∧ (
 let w33 : World := w32.putObj w21.heap.size (.deferred none)
 ∃ (x34 : Int), World.cell? w33 ((blk b4).add 0) = some (.int .i64 x34) ∧ (
 ∃ (x35 : Int), World.cell? w33 ((blk b4).add 1) = some (.int .i64 x35) ∧ (
 R (.returned (.tuple #[.agg #[.int .i64 x34, .int .i64 x35], .bool x28])) w33))))))) (fun ch w => Kfn R ch [{ target := .collected w21.heap.size, args := #[] }] w)))) (fun ch w => Kfn R ch [{ target := .collected w21.heap.size, args := #[] }] w)))
 (fun w36 =>
 w36.heap[w21.heap.size]? = some (.deferred (some [])) ∧ (
 let w37 : World := w36.putObj w21.heap.size (.deferred none)
 ∃ (x38 : Int), World.cell? w37 ((blk b4).add 0) = some (.int .i64 x38) ∧ (
 ∃ (x39 : Int), World.cell? w37 ((blk b4).add 1) = some (.int .i64 x39) ∧ (
 R (.returned (.tuple #[.agg #[.int .i64 x38, .int .i64 x39], .bool false])) w37))))
 [] w21)) (fun ch w => Kfn R ch [] w)))))) (fun ch w => Kfn R ch [] w)))
set_option maxRecDepth 100000 in
theorem sh29_ok (o_1 : Int) (t_2 : Option Addr) (key_3 : Int) {R : Ending → World → Prop} {w : World} : sh29 o_1 t_2 key_3 R w → Calls Try.prog 29 #[.int .u8 o_1, .pointer t_2, .int .i64 key_3] w R :=
  calls_of_eq (ann := fun _ => []) (fn := Try.f29) (c := bodyOf Try.f29) (args := #[.int .u8 o_1, .pointer t_2, .int .i64 key_3]) 400 follows_mixed Try.func29 (by kernel_rfl) (by kernel_rfl)
set_option maxRecDepth 100000 in
/-- joinery/find.Floor, a round of loop 0 -/
def sh29_0 (keep_1 : Addr) (y33 : Option Addr) (y34 : Int) (l : Nat) (R : Ending → World → Prop) (w : World) : Prop :=
 ∃ (r35 : Loop), w.heap[l]? = some (.loop r35) ∧ r35.state = .ready ∧ (
 let w36 : World := w.putObj l (.loop { r35 with state := .busy })
 ∃ (xf37 : Fn), ∃ (xx38 : Array Value), ∃ (xc39 : Array Value), World.cell? w36 keep_1 = some (.func xf37 xx38 xc39) ∧ (
 doCall Try.prog (.func xf37 xx38 xc39) #[.pointer y33, .bool (decide ((y34 : Int) ≥ 0))] w36 (retS (fun v40 w41 => v40 = (.tuple #[] : Value) ∧ (
 ∃ (r42 : Loop), w41.heap[l]? = some (.loop r42) ∧ R (.returned (.bool true)) (w41.putObj l (.loop { r42 with state := .ready, pending := none })))) (fun _ _ => False))))
set_option maxRecDepth 100000 in
theorem sh29_0_ok {dd2 : Value} {dd3 : Value} {dd4 : Value} {dd5 : Value} {dd6 : Value} {dd7 : Value} {dd8 : Value} {dd9 : Value} {dd10 : Value} {dd11 : Value} {dd12 : Value} {dd13 : Value} {dd14 : Value} {dd15 : Value} {dd16 : Value} {dd17 : Value} {dd18 : Value} {dd19 : Value} {dd20 : Value} {dd21 : Value} {dd22 : Value} {dd23 : Value} {dd24 : Value} {dd25 : Value} {dd26 : Value} {dd27 : Value} {dd28 : Value} {dd29 : Value} {dd30 : Value} {dd31 : Value} {dd32 : Value} {keep_1 : Addr} {y33 : Option Addr} {y34 : Int} {l fn D : Nat} {R : Ending → World → Prop} {w : World} (hl : w.heap[l]? = some (.loop (mkLoop #[dd2, dd3, dd4, dd5, dd6, dd7, dd8, dd9, .pointer (some keep_1), dd10, dd11, dd12, dd13, dd14, dd15, dd16, dd17, dd18, dd19, dd20, dd21, dd22, dd23, dd24, dd25, dd26, dd27, dd28, dd29, dd30, dd31, dd32] (rfOf Try.f29 0).1 (rfOf Try.f29 0).2.1 (rfOf Try.f29 0).2.2 fn D))) : sh29_0 keep_1 y33 y34 l R w → doCall Try.prog (.func (.yield l) #[] #[]) #[.pointer y33, .int .i64 y34] w R :=
  fun h => ⟨round_of_eq (ann := fun _ => []) 400 follows_mixed hl (by kernel_rfl) (by kernel_rfl) h⟩
set_option maxRecDepth 100000 in
/-- joinery/row.Floor -/
def sh30 (o_1 : Int) (l_p2 : Option Addr) (l_n3 : Nat) (l_c4 : Nat) (key_5 : Int) (R : Ending → World → Prop) (w : World) : Prop :=
 doAl (.cells #[.int .i64 0, .int .i64 0] 38) w (fun b6 w7 =>
 doCall Try.prog (.func (.func 25) #[] #[]) #[.int .u8 o_1, .slice l_p2 l_n3 l_c4, .int .i64 key_5] w7 (retS (fun v10 w11 => ∃ (x8 : Int), ∃ (x9 : Bool), v10 = (.tuple #[.int .i64 x8, .bool x9] : Value) ∧ (
 ifB x9 (
 doIx l_p2 l_n3 2 (x8) (fun a12 =>
 ∃ (x13 : Int), World.cell? w11 (a12.add 0) = some (.int .i64 x13) ∧ (
 ∃ (x14 : Int), World.cell? w11 (a12.add 1) = some (.int .i64 x14) ∧ (
 doSt ((blk b6).add 0) (.int .i64 x13) w11 (fun w15 =>
 doSt ((blk b6).add 1) (.int .i64 x14) w15 (fun w16 =>
 ∃ (x17 : Int), World.cell? w16 ((blk b6).add 0) = some (.int .i64 x17) ∧ (
 ∃ (x18 : Int), World.cell? w16 ((blk b6).add 1) = some (.int .i64 x18) ∧ (
 R (.returned (.tuple #[.agg #[.int .i64 x17, .int .i64 x18], .bool true])) w16)))))))) (
 ifB (decide ((x8 : Int) > 0)) (
 doIx l_p2 l_n3 2 (IntKind.wrap .i64 (x8 - 1)) (fun a19 =>
 ∃ (x20 : Int), World.cell? w11 (a19.add 0) = some (.int .i64 x20) ∧ (
 ∃ (x21 : Int), World.cell? w11 (a19.add 1) = some (.int .i64 x21) ∧ (
 doSt ((blk b6).add 0) (.int .i64 x20) w11 (fun w22 =>
 doSt ((blk b6).add 1) (.int .i64 x21) w22 (fun w23 =>
 ∃ (x24 : Int), World.cell? w23 ((blk b6).add 0) = some (.int .i64 x24) ∧ (
 ∃ (x25 : Int), World.cell? w23 ((blk b6).add 1) = some (.int .i64 x25) ∧ (
 R (.returned (.tuple #[.agg #[.int .i64 x24, .int .i64 x25], .bool true])) w23)))))))) (
 doSt ((blk b6).add 0) (.int .i64 0) w11 (fun w26 =>
 doSt ((blk b6).add 1) (.int .i64 0) w26 (fun w27 =>
 ∃ (x28 : Int), World.cell? w27 ((blk b6).add 0) = some (.int .i64 x28) ∧ (
 ∃ (x29 : Int), World.cell? w27 ((blk b6).add 1) = some (.int .i64 x29) ∧ (
 R (.returned (.tuple #[.agg #[.int .i64 x28, .int .i64 x29], .bool false])) w27)))))))) (fun ch w => Kfn R ch [] w)))
set_option maxRecDepth 100000 in
theorem sh30_ok (o_1 : Int) (l_p2 : Option Addr) (l_n3 : Nat) (l_c4 : Nat) (key_5 : Int) {R : Ending → World → Prop} {w : World} : sh30 o_1 l_p2 l_n3 l_c4 key_5 R w → Calls Try.prog 30 #[.int .u8 o_1, .slice l_p2 l_n3 l_c4, .int .i64 key_5] w R :=
  calls_of_eq (ann := fun _ => []) (fn := Try.f30) (c := bodyOf Try.f30) (args := #[.int .u8 o_1, .slice l_p2 l_n3 l_c4, .int .i64 key_5]) 400 follows_mixed Try.func30 (by kernel_rfl) (by kernel_rfl)
set_option maxRecDepth 100000 in
/-- joinery/find.Ceil -/
def sh31 (o_1 : Int) (t_2 : Option Addr) (key_3 : Int) (R : Ending → World → Prop) (w : World) : Prop :=
 doAl (.cells #[.int .i64 0, .int .i64 0] 38) w (fun b4 w5 =>
 doCall Try.prog (.func (.func 84) #[] #[]) #[] w5 (retS (fun v12 w13 => ∃ (xf6 : Fn), ∃ (xx7 : Array Value), ∃ (xc8 : Array Value), ∃ (xf9 : Fn), ∃ (xx10 : Array Value), ∃ (xc11 : Array Value), v12 = (.tuple #[.func xf6 xx7 xc8, .func xf9 xx10 xc11] : Value) ∧ (
 doAl (.cells #[.nilFunc] 105) w13 (fun b14 w15 =>
 doSt ((blk b14).add 0) (.func xf6 xx7 xc8) w15 (fun w16 =>
 doCall Try.prog (.func (.func 85) #[] #[]) #[.int .u8 o_1, .pointer t_2, .int .i64 key_3] w16 (retS (fun v20 w21 => ∃ (xf17 : Fn), ∃ (xx18 : Array Value), ∃ (xc19 : Array Value), v20 = (.func xf17 xx18 xc19 : Value) ∧ (
 rfW Try.prog (.func xf17 xx18 xc19) (mkLoop #[.int .u8 o_1, .pointer t_2, .int .i64 key_3, undef, undef, undef, .pointer (some (blk b4)), .bool false, .pointer (some (blk b14)), .func xf9 xx10 xc11, undef, undef, .tuple #[.func xf6 xx7 xc8, .func xf9 xx10 xc11], .tuple #[.func xf6 xx7 xc8, .func xf9 xx10 xc11], .func xf6 xx7 xc8, .func xf9 xx10 xc11, .int .u8 o_1, .pointer t_2, .int .i64 key_3, .func xf17 xx18 xc19, undef, undef, undef, undef, undef, undef, undef, undef, undef, undef, undef, undef] (rfOf Try.f31 0).1 (rfOf Try.f31 0).2.1 (rfOf Try.f31 0).2.2)
 (fun w22 =>
 doCall Try.prog (.func xf9 xx10 xc11) #[] w22 (retS (fun v24 w25 => ∃ (x23 : Option Addr), v24 = (.pointer x23 : Value) ∧ (
 doCall Try.prog (.func (.func 86) #[] #[]) #[.pointer x23] w25 (retS (fun v29 w30 => ∃ (x26 : Int), ∃ (x27 : Int), ∃ (x28 : Bool), v29 = (.tuple #[.agg #[.int .i64 x26, .int .i64 x27], .bool x28] : Value) ∧ (
 doSt ((blk b4).add 0) (.int .i64 x26) w30 (fun w31 =>
 doSt ((blk b4).add 1) (.int .i64 x27) w31 (fun w32 =>
 w32.heap[w21.heap.size]? = some (.deferred (some [])) ∧ (
 let w33 : World := w32.putObj w21.heap.size (.deferred none)
 ∃ (x34 : Int), World.cell? w33 ((blk b4).add 0) = some (.int .i64 x34) ∧ (
 ∃ (x35 : Int), World.cell? w33 ((blk b4).add 1) = some (.int .i64 x35) ∧ (
 R (.returned (.tuple #[.agg #[.int .i64 x34, .int .i64 x35], .bool x28])) w33))))))) (fun ch w => Kfn R ch [{ target := .collected w21.heap.size, args := #[] }] w)))) (fun ch w => Kfn R ch [{ target := .collected w21.heap.size, args := #[] }] w)))
 (fun w36 =>
 w36.heap[w21.heap.size]? = some (.deferred (some [])) ∧ (
 let w37 : World := w36.putObj w21.heap.size (.deferred none)
 ∃ (x38 : Int), World.cell? w37 ((blk b4).add 0) = some (.int .i64 x38) ∧ (
 ∃ (x39 : Int), World.cell? w37 ((blk b4).add 1) = some (.int .i64 x39) ∧ (
 R (.returned (.tuple #[.agg #[.int .i64 x38, .int .i64 x39], .bool false])) w37))))
 [] w21)) (fun ch w => Kfn R ch [] w)))))) (fun ch w => Kfn R ch [] w)))
set_option maxRecDepth 100000 in
theorem sh31_ok (o_1 : Int) (t_2 : Option Addr) (key_3 : Int) {R : Ending → World → Prop} {w : World} : sh31 o_1 t_2 key_3 R w → Calls Try.prog 31 #[.int .u8 o_1, .pointer t_2, .int .i64 key_3] w R :=
  calls_of_eq (ann := fun _ => []) (fn := Try.f31) (c := bodyOf Try.f31) (args := #[.int .u8 o_1, .pointer t_2, .int .i64 key_3]) 400 follows_mixed Try.func31 (by kernel_rfl) (by kernel_rfl)
set_option maxRecDepth 100000 in
/-- joinery/find.Ceil, a round of loop 0 -/
def sh31_0 (keep_1 : Addr) (y33 : Option Addr) (y34 : Int) (l : Nat) (R : Ending → World → Prop) (w : World) : Prop :=
 ∃ (r35 : Loop), w.heap[l]? = some (.loop r35) ∧ r35.state = .ready ∧ (
 let w36 : World := w.putObj l (.loop { r35 with state := .busy })
 ∃ (xf37 : Fn), ∃ (xx38 : Array Value), ∃ (xc39 : Array Value), World.cell? w36 keep_1 = some (.func xf37 xx38 xc39) ∧ (
 doCall Try.prog (.func xf37 xx38 xc39) #[.pointer y33, .bool (decide ((y34 : Int) ≤ 0))] w36 (retS (fun v40 w41 => v40 = (.tuple #[] : Value) ∧ (
 ∃ (r42 : Loop), w41.heap[l]? = some (.loop r42) ∧ R (.returned (.bool true)) (w41.putObj l (.loop { r42 with state := .ready, pending := none })))) (fun _ _ => False))))
set_option maxRecDepth 100000 in
theorem sh31_0_ok {dd2 : Value} {dd3 : Value} {dd4 : Value} {dd5 : Value} {dd6 : Value} {dd7 : Value} {dd8 : Value} {dd9 : Value} {dd10 : Value} {dd11 : Value} {dd12 : Value} {dd13 : Value} {dd14 : Value} {dd15 : Value} {dd16 : Value} {dd17 : Value} {dd18 : Value} {dd19 : Value} {dd20 : Value} {dd21 : Value} {dd22 : Value} {dd23 : Value} {dd24 : Value} {dd25 : Value} {dd26 : Value} {dd27 : Value} {dd28 : Value} {dd29 : Value} {dd30 : Value} {dd31 : Value} {dd32 : Value} {keep_1 : Addr} {y33 : Option Addr} {y34 : Int} {l fn D : Nat} {R : Ending → World → Prop} {w : World} (hl : w.heap[l]? = some (.loop (mkLoop #[dd2, dd3, dd4, dd5, dd6, dd7, dd8, dd9, .pointer (some keep_1), dd10, dd11, dd12, dd13, dd14, dd15, dd16, dd17, dd18, dd19, dd20, dd21, dd22, dd23, dd24, dd25, dd26, dd27, dd28, dd29, dd30, dd31, dd32] (rfOf Try.f31 0).1 (rfOf Try.f31 0).2.1 (rfOf Try.f31 0).2.2 fn D))) : sh31_0 keep_1 y33 y34 l R w → doCall Try.prog (.func (.yield l) #[] #[]) #[.pointer y33, .int .i64 y34] w R :=
  fun h => ⟨round_of_eq (ann := fun _ => []) 400 follows_mixed hl (by kernel_rfl) (by kernel_rfl) h⟩
set_option maxRecDepth 100000 in
/-- joinery/row.Ceil -/
def sh32 (o_1 : Int) (l_p2 : Option Addr) (l_n3 : Nat) (l_c4 : Nat) (key_5 : Int) (R : Ending → World → Prop) (w : World) : Prop :=
 doAl (.cells #[.int .i64 0, .int .i64 0] 38) w (fun b6 w7 =>
 let K9 : World → Prop := fun (w8 : World) => 
 doSt ((blk b6).add 0) (.int .i64 0) w8 (fun w10 =>
 doSt ((blk b6).add 1) (.int .i64 0) w10 (fun w11 =>
 ∃ (x12 : Int), World.cell? w11 ((blk b6).add 0) = some (.int .i64 x12) ∧ (
 ∃ (x13 : Int), World.cell? w11 ((blk b6).add 1) = some (.int .i64 x13) ∧ (
 R (.returned (.tuple #[.agg #[.int .i64 x12, .int .i64 x13], .bool false])) w11))))
 doCall Try.prog (.func (.func 25) #[] #[]) #[.int .u8 o_1, .slice l_p2 l_n3 l_c4, .int .i64 key_5] w7 (retS (fun v16 w17 => ∃ (x14 : Int), ∃ (x15 : Bool), v16 = (.tuple #[.int .i64 x14, .bool x15] : Value) ∧ (
 let K20 : Bool → World → Prop := fun (x18 : Bool) (w19 : World) => 
 ifB x18 (
 doIx l_p2 l_n3 2 (x14) (fun a21 =>
 ∃ (x22 : Int), World.cell? w19 (a21.add 0) = some (.int .i64 x22) ∧ (
 ∃ (x23 : Int), World.cell? w19 (a21.add 1) = some (.int .i64 x23) ∧ (
 doSt ((blk b6).add 0) (.int .i64 x22) w19 (fun w24 =>
 doSt ((blk b6).add 1) (.int .i64 x23) w24 (fun w25 =>
 ∃ (x26 : Int), World.cell? w25 ((blk b6).add 0) = some (.int .i64 x26) ∧ (
 ∃ (x27 : Int), World.cell? w25 ((blk b6).add 1) = some (.int .i64 x27) ∧ (
 R (.returned (.tuple #[.agg #[.int .i64 x26, .int .i64 x27], .bool true])) w25)))))))) (
 K9 w19)
 ifB (decide ((x14 : Int) < ((l_n3 : Nat) : Int))) (
 doCall Try.prog (.func (.func 40) #[] #[]) #[.int .u8 o_1, .slice l_p2 l_n3 l_c4] w17 (retS (fun v29 w30 => ∃ (x28 : Bool), v29 = (.bool x28 : Value) ∧ (
 K20 x28 w30)) (fun ch w => Kfn R ch [] w))) (
 K9 w17))) (fun ch w => Kfn R ch [] w)))
set_option maxRecDepth 100000 in
theorem sh32_ok (o_1 : Int) (l_p2 : Option Addr) (l_n3 : Nat) (l_c4 : Nat) (key_5 : Int) {R : Ending → World → Prop} {w : World} : sh32 o_1 l_p2 l_n3 l_c4 key_5 R w → Calls Try.prog 32 #[.int .u8 o_1, .slice l_p2 l_n3 l_c4, .int .i64 key_5] w R :=
  calls_of_eq (ann := fun _ => []) (fn := Try.f32) (c := bodyOf Try.f32) (args := #[.int .u8 o_1, .slice l_p2 l_n3 l_c4, .int .i64 key_5]) 400 follows_mixed Try.func32 (by kernel_rfl) (by kernel_rfl)
set_option maxRecDepth 100000 in
/-- joinery/find.Min -/
def sh33 (t_1 : Option Addr) (R : Ending → World → Prop) (w : World) : Prop :=
 doAl (.cells #[.int .i64 0, .int .i64 0] 38) w (fun b2 w3 =>
 ∃ (I4 : List Value → World → Prop) (μ5 : List Value → World → Nat), I4 [.pointer t_1] w3 ∧ (∀ (t_8 : Option Addr), ∀ (_j6 : Nat → Value) (w7 : World), I4 [.pointer t_8] w7 → (
 doCall Try.prog (.func (.func 73) #[] #[]) #[.pointer t_8] w7 (retS (fun v10 w11 => ∃ (x9 : Option Addr), v10 = (.pointer x9 : Value) ∧ (
 ifB (!(x9).isNone) (
 doCall Try.prog (.func (.func 73) #[] #[]) #[.pointer t_8] w11 (retS (fun v13 w14 => ∃ (x12 : Option Addr), v13 = (.pointer x12 : Value) ∧ (
 I4 [.pointer x12] w14 ∧ μ5 [.pointer x12] w14 < μ5 [.pointer t_8] w7)) (fun ch w => Kfn R ch [] w))) (
 doCall Try.prog (.func (.func 86) #[] #[]) #[.pointer t_8] w11 (retS (fun v18 w19 => ∃ (x15 : Int), ∃ (x16 : Int), ∃ (x17 : Bool), v18 = (.tuple #[.agg #[.int .i64 x15, .int .i64 x16], .bool x17] : Value) ∧ (
 doSt ((blk b2).add 0) (.int .i64 x15) w19 (fun w20 =>
 doSt ((blk b2).add 1) (.int .i64 x16) w20 (fun w21 =>
 ∃ (x22 : Int), World.cell? w21 ((blk b2).add 0) = some (.int .i64 x22) ∧ (
 ∃ (x23 : Int), World.cell? w21 ((blk b2).add 1) = some (.int .i64 x23) ∧ (
 R (.returned (.tuple #[.agg #[.int .i64 x22, .int .i64 x23], .bool x17])) w21)))))) (fun ch w => Kfn R ch [] w))))) (fun ch w => Kfn R ch [] w)))))
set_option maxRecDepth 100000 in
theorem sh33_ok (t_1 : Option Addr) {R : Ending → World → Prop} {w : World} : sh33 t_1 R w → Calls Try.prog 33 #[.pointer t_1] w R :=
  calls_of_eq (ann := fun i => if i = 0 then [(0, .pointer none)] else []) (fn := Try.f33) (c := bodyOf Try.f33) (args := #[.pointer t_1]) 400 follows_mixed Try.func33 (by kernel_rfl) (by kernel_rfl)
set_option maxRecDepth 100000 in
/-- joinery/find.Max -/
def sh34 (t_1 : Option Addr) (R : Ending → World → Prop) (w : World) : Prop :=
 doAl (.cells #[.int .i64 0, .int .i64 0] 38) w (fun b2 w3 =>
 ∃ (I4 : List Value → World → Prop) (μ5 : List Value → World → Nat), I4 [.pointer t_1] w3 ∧ (∀ (t_8 : Option Addr), ∀ (_j6 : Nat → Value) (w7 : World), I4 [.pointer t_8] w7 → (
 doCall Try.prog (.func (.func 78) #[] #[]) #[.pointer t_8] w7 (retS (fun v10 w11 => ∃ (x9 : Option Addr), v10 = (.pointer x9 : Value) ∧ (
 ifB (!(x9).isNone) (
 doCall Try.prog (.func (.func 78) #[] #[]) #[.pointer t_8] w11 (retS (fun v13 w14 => ∃ (x12 : Option Addr), v13 = (.pointer x12 : Value) ∧ (
 I4 [.pointer x12] w14 ∧ μ5 [.pointer x12] w14 < μ5 [.pointer t_8] w7)) (fun ch w => Kfn R ch [] w))) (
 doCall Try.prog (.func (.func 86) #[] #[]) #[.pointer t_8] w11 (retS (fun v18 w19 => ∃ (x15 : Int), ∃ (x16 : Int), ∃ (x17 : Bool), v18 = (.tuple #[.agg #[.int .i64 x15, .int .i64 x16], .bool x17] : Value) ∧ (
 doSt ((blk b2).add 0) (.int .i64 x15) w19 (fun w20 =>
 doSt ((blk b2).add 1) (.int .i64 x16) w20 (fun w21 =>
 ∃ (x22 : Int), World.cell? w21 ((blk b2).add 0) = some (.int .i64 x22) ∧ (
 ∃ (x23 : Int), World.cell? w21 ((blk b2).add 1) = some (.int .i64 x23) ∧ (
 R (.returned (.tuple #[.agg #[.int .i64 x22, .int .i64 x23], .bool x17])) w21)))))) (fun ch w => Kfn R ch [] w))))) (fun ch w => Kfn R ch [] w)))))
set_option maxRecDepth 100000 in
theorem sh34_ok (t_1 : Option Addr) {R : Ending → World → Prop} {w : World} : sh34 t_1 R w → Calls Try.prog 34 #[.pointer t_1] w R :=
  calls_of_eq (ann := fun i => if i = 0 then [(0, .pointer none)] else []) (fn := Try.f34) (c := bodyOf Try.f34) (args := #[.pointer t_1]) 400 follows_mixed Try.func34 (by kernel_rfl) (by kernel_rfl)
set_option maxRecDepth 100000 in
/-- joinery/find.Path -/
def sh35 (o_1 : Int) (t_2 : Option Addr) (key_3 : Int) (R : Ending → World → Prop) (w : World) : Prop :=
 doAl (.cells #[.slice none 0 0] 23) w (fun b4 w5 =>
 doCall Try.prog (.func (.func 85) #[] #[]) #[.int .u8 o_1, .pointer t_2, .int .i64 key_3] w5 (retS (fun v9 w10 => ∃ (xf6 : Fn), ∃ (xx7 : Array Value), ∃ (xc8 : Array Value), v9 = (.func xf6 xx7 xc8 : Value) ∧ (
 rfW Try.prog (.func xf6 xx7 xc8) (mkLoop #[.int .u8 o_1, .pointer t_2, .int .i64 key_3, undef, undef, undef, .pointer (some (blk b4)), undef, .int .u8 o_1, .pointer t_2, .int .i64 key_3, .func xf6 xx7 xc8, undef, undef, undef, undef, undef, undef, undef, undef] (rfOf Try.f35 0).1 (rfOf Try.f35 0).2.1 (rfOf Try.f35 0).2.2)
 (fun w11 =>
 ∃ (xp12 : Option Addr), ∃ (xn13 : Nat), ∃ (xc14 : Nat), World.cell? w11 (blk b4) = some (.slice xp12 xn13 xc14) ∧ (
 doSt ((blk b4).add 0) (.slice xp12 xn13 xc14) w11 (fun w15 =>
 w15.heap[w10.heap.size]? = some (.deferred (some [])) ∧ (
 let w16 : World := w15.putObj w10.heap.size (.deferred none)
 ∃ (xp17 : Option Addr), ∃ (xn18 : Nat), ∃ (xc19 : Nat), World.cell? w16 (blk b4) = some (.slice xp17 xn18 xc19) ∧ (
 R (.returned (.slice xp17 xn18 xc19)) w16)))))
 (fun w20 =>
 w20.heap[w10.heap.size]? = some (.deferred (some [])) ∧ (
 let w21 : World := w20.putObj w10.heap.size (.deferred none)
 ∃ (xp22 : Option Addr), ∃ (xn23 : Nat), ∃ (xc24 : Nat), World.cell? w21 (blk b4) = some (.slice xp22 xn23 xc24) ∧ (
 R (.returned (.slice xp22 xn23 xc24)) w21)))
 [] w10)) (fun ch w => Kfn R ch [] w)))
set_option maxRecDepth 100000 in
theorem sh35_ok (o_1 : Int) (t_2 : Option Addr) (key_3 : Int) {R : Ending → World → Prop} {w : World} : sh35 o_1 t_2 key_3 R w → Calls Try.prog 35 #[.int .u8 o_1, .pointer t_2, .int .i64 key_3] w R :=
  calls_of_eq (ann := fun _ => []) (fn := Try.f35) (c := bodyOf Try.f35) (args := #[.int .u8 o_1, .pointer t_2, .int .i64 key_3]) 400 follows_mixed Try.func35 (by kernel_rfl) (by kernel_rfl)
set_option maxRecDepth 100000 in
/-- joinery/find.Path, a round of loop 0 -/
def sh35_0 (out_1 : Addr) (y21 : Option Addr) (_y22 : Int) (l : Nat) (R : Ending → World → Prop) (w : World) : Prop :=
 ∃ (r23 : Loop), w.heap[l]? = some (.loop r23) ∧ r23.state = .ready ∧ (
 let w24 : World := w.putObj l (.loop { r23 with state := .busy })
 doDr w24 (fun w26 =>
 ∃ (C25 : World → Prop), C25 w26 ∧ (
 ∃ (xp27 : Option Addr), ∃ (xn28 : Nat), ∃ (xc29 : Nat), (∀ w, C25 w → World.cell? w out_1 = some (.slice xp27 xn28 xc29)) ∧ (
 doCall Try.prog (.func (.func 76) #[] #[]) #[.pointer y21] w26 (retS (fun v31 w32 => ∃ (x30 : Int), v31 = (.int .i64 x30 : Value) ∧ (
 C25 w32 ∧ (
 doAl (.cells #[.int .i64 x30] 2) w32 (fun b33 w34 =>
 C25 w34 ∧ (
 doGo Try.prog (.builtin .append #[23, 23] 23 #[false, false]) #[.slice xp27 xn28 xc29, .slice (some (blk b33)) 1 1] w34 (retS (fun v38 w39 => ∃ (xp35 : Option Addr), ∃ (xn36 : Nat), ∃ (xc37 : Nat), v38 = (.slice xp35 xn36 xc37 : Value) ∧ (
 doSt (out_1.add 0) (.slice xp35 xn36 xc37) w39 (fun w40 =>
 ∃ (r41 : Loop), w40.heap[l]? = some (.loop r41) ∧ R (.returned (.bool true)) (w40.putObj l (.loop { r41 with state := .ready, pending := none }))))) (fun _ _ => False))))))) (fun _ _ => False))))))
set_option maxRecDepth 100000 in
theorem sh35_0_ok {dd2 : Value} {dd3 : Value} {dd4 : Value} {dd5 : Value} {dd6 : Value} {dd7 : Value} {dd8 : Value} {dd9 : Value} {dd10 : Value} {dd11 : Value} {dd12 : Value} {dd13 : Value} {dd14 : Value} {dd15 : Value} {dd16 : Value} {dd17 : Value} {dd18 : Value} {dd19 : Value} {dd20 : Value} {out_1 : Addr} {y21 : Option Addr} {y22 : Int} {l fn D : Nat} {R : Ending → World → Prop} {w : World} (hl : w.heap[l]? = some (.loop (mkLoop #[dd2, dd3, dd4, dd5, dd6, dd7, .pointer (some out_1), dd8, dd9, dd10, dd11, dd12, dd13, dd14, dd15, dd16, dd17, dd18, dd19, dd20] (rfOf Try.f35 0).1 (rfOf Try.f35 0).2.1 (rfOf Try.f35 0).2.2 fn D))) : sh35_0 out_1 y21 y22 l R w → doCall Try.prog (.func (.yield l) #[] #[]) #[.pointer y21, .int .i64 y22] w R :=
  fun h => ⟨round_of_eq (ann := fun _ => []) 400 follows_mixed hl (by kernel_rfl) (by kernel_rfl) h⟩
set_option maxRecDepth 100000 in
/-- joinery/joineryref09.Height -/
def sh36 (l_p1 : Option Addr) (l_n2 : Nat) (l_c3 : Nat) (R : Ending → World → Prop) (w : World) : Prop :=
 ifB ((((l_n2 : Nat) : Int) : Int) == 0) (
 R (.returned (.int .i64 0)) w) (
 doCall Try.prog (.func (.func 70) #[] #[]) #[.slice l_p1 l_n2 l_c3] w (retS (fun v17 w18 => ∃ (x4 : Int), ∃ (x5 : Int), ∃ (x6 : Int), ∃ (x7 : Int), ∃ (x8 : Int), ∃ (x9 : Bool), ∃ (x10 : Bool), ∃ (xp11 : Option Addr), ∃ (xn12 : Nat), ∃ (xc13 : Nat), ∃ (xp14 : Option Addr), ∃ (xn15 : Nat), ∃ (xc16 : Nat), v17 = (.tuple #[.agg #[.int .i64 x4, .int .i64 x5, .int .i64 x6, .int .i64 x7, .int .u64 x8, .bool x9, .bool x10], .slice xp11 xn12 xc13, .slice xp14 xn15 xc16] : Value) ∧ (
 doAl (.cells #[.int .i64 0, .int .i64 0, .int .i64 0, .int .i64 0, .int .u64 0, .bool false, .bool false] 88) w18 (fun b19 w20 =>
 doSt ((blk b19).add 0) (.int .i64 x4) w20 (fun w21 =>
 doSt ((blk b19).add 1) (.int .i64 x5) w21 (fun w22 =>
 doSt ((blk b19).add 2) (.int .i64 x6) w22 (fun w23 =>
 doSt ((blk b19).add 3) (.int .i64 x7) w23 (fun w24 =>
 doSt ((blk b19).add 4) (.int .u64 x8) w24 (fun w25 =>
 doSt ((blk b19).add 5) (.bool x9) w25 (fun w26 =>
 doSt ((blk b19).add 6) (.bool x10) w26 (fun w27 =>
 doCall Try.prog (.func (.func 36) #[] #[]) #[.slice xp11 xn12 xc13] w27 (retS (fun v29 w30 => ∃ (x28 : Int), v29 = (.int .i64 x28 : Value) ∧ (
 doCall Try.prog (.func (.func 36) #[] #[]) #[.slice xp14 xn15 xc16] w30 (retS (fun v32 w33 => ∃ (x31 : Int), v32 = (.int .i64 x31 : Value) ∧ (
 doGo Try.prog (.builtin .max #[3, 3] 3 #[false, false]) #[.int .i64 x28, .int .i64 x31] w33 (retS (fun v35 w36 => ∃ (x34 : Int), v35 = (.int .i64 x34 : Value) ∧ (
 R (.returned (.int .i64 (IntKind.wrap .i64 (1 + x34)))) w36)) (fun ch w => Kfn R ch [] w)))) (fun ch w => Kfn R ch [] w)))) (fun ch w => Kfn R ch [] w)))))))))))) (fun ch w => Kfn R ch [] w)))
set_option maxRecDepth 100000 in
theorem sh36_ok (l_p1 : Option Addr) (l_n2 : Nat) (l_c3 : Nat) {R : Ending → World → Prop} {w : World} : sh36 l_p1 l_n2 l_c3 R w → Calls Try.prog 36 #[.slice l_p1 l_n2 l_c3] w R :=
  calls_of_eq (ann := fun _ => []) (fn := Try.f36) (c := bodyOf Try.f36) (args := #[.slice l_p1 l_n2 l_c3]) 400 follows_mixed Try.func36 (by kernel_rfl) (by kernel_rfl)
set_option maxRecDepth 100000 in
/-- joinery/joinerylaw04.alive -/
def sh37  (R : Ending → World → Prop) (w : World) : Prop :=
 doAl (.cells #[.int .i64 1, .int .i64 10, .int .i64 3, .int .i64 30] 38) w (fun b1 w2 =>
 doCall Try.prog (.func (.func 25) #[] #[]) #[.int .u8 1, .slice (some (blk b1)) 2 2, .int .i64 2] w2 (retS (fun v5 w6 => ∃ (x3 : Int), ∃ (x4 : Bool), v5 = (.tuple #[.int .i64 x3, .bool x4] : Value) ∧ (
 doCall Try.prog (.func (.func 39) #[] #[]) #[.int .u8 1, .int .u8 3, .slice (some (blk b1)) 2 2, .agg #[.int .i64 3, .int .i64 5]] w6 (retS (fun v11 w12 => ∃ (xp7 : Option Addr), ∃ (xn8 : Nat), ∃ (xc9 : Nat), ∃ (x10 : Int), v11 = (.tuple #[.slice xp7 xn8 xc9, .int .i64 x10] : Value) ∧ (
 doCall Try.prog (.func (.func 38) #[] #[]) #[.int .u8 1, .slice (some (blk b1)) 2 2, .int .i64 1] w12 (retS (fun v17 w18 => ∃ (xp13 : Option Addr), ∃ (xn14 : Nat), ∃ (xc15 : Nat), ∃ (x16 : Bool), v17 = (.tuple #[.slice xp13 xn14 xc15, .bool x16] : Value) ∧ (
 doCall Try.prog (.func (.func 30) #[] #[]) #[.int .u8 1, .slice (some (blk b1)) 2 2, .int .i64 2] w18 (retS (fun v22 w23 => ∃ (x19 : Int), ∃ (x20 : Int), ∃ (x21 : Bool), v22 = (.tuple #[.agg #[.int .i64 x19, .int .i64 x20], .bool x21] : Value) ∧ (
 doAl (.cells #[.int .i64 0, .int .i64 0] 38) w23 (fun b24 w25 =>
 doSt ((blk b24).add 0) (.int .i64 x19) w25 (fun w26 =>
 doSt ((blk b24).add 1) (.int .i64 x20) w26 (fun w27 =>
 doCall Try.prog (.func (.func 32) #[] #[]) #[.int .u8 1, .slice (some (blk b1)) 2 2, .int .i64 4] w27 (retS (fun v31 w32 => ∃ (x28 : Int), ∃ (x29 : Int), ∃ (x30 : Bool), v31 = (.tuple #[.agg #[.int .i64 x28, .int .i64 x29], .bool x30] : Value) ∧ (
 doAl (.cells #[.int .i64 0, .int .i64 0] 38) w32 (fun b33 w34 =>
 doSt ((blk b33).add 0) (.int .i64 x28) w34 (fun w35 =>
 doSt ((blk b33).add 1) (.int .i64 x29) w35 (fun w36 =>
 let K39 : Bool → World → Prop := fun (x37 : Bool) (w38 : World) => 
 R (.returned (.bool x37)) w38
 doDr w36 (fun w41 =>
 ∃ (C40 : World → Prop), C40 w41 ∧ (
 ifB ((x3 : Int) == 1) (
 ifB (!x4) (
 doAl (.cells #[.int .i64 1, .int .i64 10, .int .i64 3, .int .i64 35] 38) w41 (fun b42 w43 =>
 C40 w43 ∧ (
 doCall Try.prog (.func (.func 50) #[] #[]) #[.slice xp7 xn8 xc9, .slice (some (blk b42)) 2 2] w43 (retS (fun v45 w46 => ∃ (x44 : Bool), v45 = (.bool x44 : Value) ∧ (
 C40 w46 ∧ (
 ifB x44 (
 ifB ((x10 : Int) == 0) (
 doSl (some (blk b1)) 2 2 (1) (((2 : Nat) : Int)) (fun p47 n48 c49 =>
 doCall Try.prog (.func (.func 50) #[] #[]) #[.slice xp13 xn14 xc15, .slice p47 n48 c49] w46 (retS (fun v51 w52 => ∃ (x50 : Bool), v51 = (.bool x50 : Value) ∧ (
 C40 w52 ∧ (
 ifB x50 (
 ifB x16 (
 ∃ (x53 : Int), (∀ w, C40 w → World.cell? w ((blk b24).add 0) = some (.int .i64 x53)) ∧ (
 ∃ (x54 : Int), (∀ w, C40 w → World.cell? w ((blk b24).add 1) = some (.int .i64 x54)) ∧ (
 doIx (some (blk b1)) 2 2 (0) (fun a55 =>
 ∃ (x56 : Int), (∀ w, C40 w → World.cell? w (a55.add 0) = some (.int .i64 x56)) ∧ (
 ∃ (x57 : Int), (∀ w, C40 w → World.cell? w (a55.add 1) = some (.int .i64 x57)) ∧ (
 ifB (((x53 : Int) == x56) && (((x54 : Int) == x57) && true)) (
 ifB x21 (
 ifB (!x30) (
 doIx (some (blk b1)) 2 2 (1) (fun a58 =>
 ∃ (x59 : Int), (∀ w, C40 w → World.cell? w (a58.add 0) = some (.int .i64 x59)) ∧ (
 ∃ (x60 : Int), (∀ w, C40 w → World.cell? w (a58.add 1) = some (.int .i64 x60)) ∧ (
 doIx (some (blk b1)) 2 2 (0) (fun a61 =>
 ∃ (x62 : Int), (∀ w, C40 w → World.cell? w (a61.add 0) = some (.int .i64 x62)) ∧ (
 ∃ (x63 : Int), (∀ w, C40 w → World.cell? w (a61.add 1) = some (.int .i64 x63)) ∧ (
 doAl (.cells #[.int .i64 x59, .int .i64 x60, .int .i64 x62, .int .i64 x63] 38) w52 (fun b64 w65 =>
 C40 w65 ∧ (
 doCall Try.prog (.func (.func 40) #[] #[]) #[.int .u8 2, .slice (some (blk b64)) 2 2] w65 (retS (fun v67 w68 => ∃ (x66 : Bool), v67 = (.bool x66 : Value) ∧ (
 C40 w68 ∧ (
 ifB x66 (
 doIx (some (blk b1)) 2 2 (1) (fun a69 =>
 ∃ (x70 : Int), (∀ w, C40 w → World.cell? w (a69.add 0) = some (.int .i64 x70)) ∧ (
 ∃ (x71 : Int), (∀ w, C40 w → World.cell? w (a69.add 1) = some (.int .i64 x71)) ∧ (
 doIx (some (blk b1)) 2 2 (0) (fun a72 =>
 ∃ (x73 : Int), (∀ w, C40 w → World.cell? w (a72.add 0) = some (.int .i64 x73)) ∧ (
 ∃ (x74 : Int), (∀ w, C40 w → World.cell? w (a72.add 1) = some (.int .i64 x74)) ∧ (
 doAl (.cells #[.int .i64 x70, .int .i64 x71, .int .i64 x73, .int .i64 x74] 38) w68 (fun b75 w76 =>
 C40 w76 ∧ (
 doCall Try.prog (.func (.func 40) #[] #[]) #[.int .u8 1, .slice (some (blk b75)) 2 2] w76 (retS (fun v78 w79 => ∃ (x77 : Bool), v78 = (.bool x77 : Value) ∧ (
 C40 w79 ∧ (
 K39 (!x77) w79))) (fun ch w => Kfn R ch [] w))))))))))) (
 R (.returned (.bool false)) w68)))) (fun ch w => Kfn R ch [] w))))))))))) (
 R (.returned (.bool false)) w52)) (
 R (.returned (.bool false)) w52)) (
 R (.returned (.bool false)) w52))))))) (
 R (.returned (.bool false)) w52)) (
 R (.returned (.bool false)) w52)))) (fun ch w => Kfn R ch [] w)))) (
 R (.returned (.bool false)) w46)) (
 R (.returned (.bool false)) w46)))) (fun ch w => Kfn R ch [] w))))) (
 R (.returned (.bool false)) w41)) (
 R (.returned (.bool false)) w41)))))))) (fun ch w => Kfn R ch [] w))))))) (fun ch w => Kfn R ch [] w)))) (fun ch w => Kfn R ch [] w)))) (fun ch w => Kfn R ch [] w)))) (fun ch w => Kfn R ch [] w)))
set_option maxRecDepth 100000 in
theorem sh37_ok  {R : Ending → World → Prop} {w : World} : sh37  R w → Calls Try.prog 37 #[] w R :=
  calls_of_eq (ann := fun _ => []) (fn := Try.f37) (c := bodyOf Try.f37) (args := #[]) 400 follows_mixed Try.func37 (by kernel_rfl) (by kernel_rfl)
set_option maxRecDepth 100000 in
/-- joinery/row.Drop -/
def sh38 (o_1 : Int) (l_p2 : Option Addr) (l_n3 : Nat) (l_c4 : Nat) (key_5 : Int) (R : Ending → World → Prop) (w : World) : Prop :=
 doCall Try.prog (.func (.func 40) #[] #[]) #[.int .u8 o_1, .slice l_p2 l_n3 l_c4] w (retS (fun v7 w8 => ∃ (x6 : Bool), v7 = (.bool x6 : Value) ∧ (
 ifB (!x6) (
 R (.returned (.tuple #[.slice none 0 0, .bool false])) w8) (
 doCall Try.prog (.func (.func 87) #[] #[]) #[.slice l_p2 l_n3 l_c4] w8 (retS (fun v12 w13 => ∃ (xp9 : Option Addr), ∃ (xn10 : Nat), ∃ (xc11 : Nat), v12 = (.slice xp9 xn10 xc11 : Value) ∧ (
 doCall Try.prog (.func (.func 25) #[] #[]) #[.int .u8 o_1, .slice l_p2 l_n3 l_c4, .int .i64 key_5] w13 (retS (fun v16 w17 => ∃ (x14 : Int), ∃ (x15 : Bool), v16 = (.tuple #[.int .i64 x14, .bool x15] : Value) ∧ (
 ifB (!x15) (
 R (.returned (.tuple #[.slice xp9 xn10 xc11, .bool false])) w17) (
 doCall Try.prog (.func (.func 88) #[] #[]) #[.slice xp9 xn10 xc11, .int .i64 x14, .int .i64 (IntKind.wrap .i64 (x14 + 1))] w17 (retS (fun v21 w22 => ∃ (xp18 : Option Addr), ∃ (xn19 : Nat), ∃ (xc20 : Nat), v21 = (.slice xp18 xn19 xc20 : Value) ∧ (
 R (.returned (.tuple #[.slice xp18 xn19 xc20, .bool true])) w22)) (fun ch w => Kfn R ch [] w))))) (fun ch w => Kfn R ch [] w)))) (fun ch w => Kfn R ch [] w))))) (fun ch w => Kfn R ch [] w))
set_option maxRecDepth 100000 in
theorem sh38_ok (o_1 : Int) (l_p2 : Option Addr) (l_n3 : Nat) (l_c4 : Nat) (key_5 : Int) {R : Ending → World → Prop} {w : World} : sh38 o_1 l_p2 l_n3 l_c4 key_5 R w → Calls Try.prog 38 #[.int .u8 o_1, .slice l_p2 l_n3 l_c4, .int .i64 key_5] w R :=
  calls_of_eq (ann := fun _ => []) (fn := Try.f38) (c := bodyOf Try.f38) (args := #[.int .u8 o_1, .slice l_p2 l_n3 l_c4, .int .i64 key_5]) 400 follows_mixed Try.func38 (by kernel_rfl) (by kernel_rfl)
set_option maxRecDepth 100000 in
/-- joinery/row.Put -/
def sh39 (o_1 : Int) (p_2 : Int) (l_p3 : Option Addr) (l_n4 : Nat) (l_c5 : Nat) (x_6 : Int) (x_7 : Int) (R : Ending → World → Prop) (w : World) : Prop :=
 doAl (.cells #[.int .i64 x_6, .int .i64 x_7] 38) w (fun b8 w9 =>
 let K12 : Bool → World → Prop := fun (x10 : Bool) (w11 : World) => 
 ifB x10 (
 R (.returned (.tuple #[.slice none 0 0, .int .i64 2])) w11) (
 doCall Try.prog (.func (.func 87) #[] #[]) #[.slice l_p3 l_n4 l_c5] w11 (retS (fun v16 w17 => ∃ (xp13 : Option Addr), ∃ (xn14 : Nat), ∃ (xc15 : Nat), v16 = (.slice xp13 xn14 xc15 : Value) ∧ (
 ∃ (x18 : Int), World.cell? w17 ((blk b8).add 0) = some (.int .i64 x18) ∧ (
 doCall Try.prog (.func (.func 25) #[] #[]) #[.int .u8 o_1, .slice l_p3 l_n4 l_c5, .int .i64 x18] w17 (retS (fun v21 w22 => ∃ (x19 : Int), ∃ (x20 : Bool), v21 = (.tuple #[.int .i64 x19, .bool x20] : Value) ∧ (
 ifB (!x20) (
 ∃ (x23 : Int), World.cell? w22 ((blk b8).add 0) = some (.int .i64 x23) ∧ (
 ∃ (x24 : Int), World.cell? w22 ((blk b8).add 1) = some (.int .i64 x24) ∧ (
 doAl (.cells #[.int .i64 x23, .int .i64 x24] 38) w22 (fun b25 w26 =>
 doCall Try.prog (.func (.func 90) #[] #[]) #[.slice xp13 xn14 xc15, .int .i64 x19, .slice (some (blk b25)) 1 1] w26 (retS (fun v30 w31 => ∃ (xp27 : Option Addr), ∃ (xn28 : Nat), ∃ (xc29 : Nat), v30 = (.slice xp27 xn28 xc29 : Value) ∧ (
 R (.returned (.tuple #[.slice xp27 xn28 xc29, .int .i64 0])) w31)) (fun ch w => Kfn R ch [] w)))))) (
 doDr w22 (fun w33 =>
 ∃ (C32 : World → Prop), C32 w33 ∧ (
 doIx l_p3 l_n4 2 (x19) (fun a34 =>
 ∃ (x35 : Int), (∀ w, C32 w → World.cell? w (a34.add 1) = some (.int .i64 x35)) ∧ (
 ∃ (x36 : Int), (∀ w, C32 w → World.cell? w ((blk b8).add 1) = some (.int .i64 x36)) ∧ (
 doCall Try.prog (.func (.func 91) #[] #[]) #[.int .u8 p_2, .int .i64 x35, .int .i64 x36] w33 (retS (fun v39 w40 => ∃ (x37 : Int), ∃ (x38 : Int), v39 = (.tuple #[.int .i64 x37, .int .i64 x38] : Value) ∧ (
 doIx xp13 xn14 2 (x19) (fun a41 =>
 doSt ((a41.add 1).add 0) (.int .i64 x37) w40 (fun w42 =>
 R (.returned (.tuple #[.slice xp13 xn14 xc15, .int .i64 0])) w42)))) (fun ch w => Kfn R ch [] w)))))))))) (fun ch w => Kfn R ch [] w))))) (fun ch w => Kfn R ch [] w)))
 doCall Try.prog (.func (.func 40) #[] #[]) #[.int .u8 o_1, .slice l_p3 l_n4 l_c5] w9 (retS (fun v44 w45 => ∃ (x43 : Bool), v44 = (.bool x43 : Value) ∧ (
 ifB (!x43) (
 R (.returned (.tuple #[.slice none 0 0, .int .i64 2])) w45) (
 doCall Try.prog (.func (.func 89) #[] #[]) #[.int .u8 p_2] w45 (retS (fun v47 w48 => ∃ (x46 : Bool), v47 = (.bool x46 : Value) ∧ (
 K12 (!x46) w48)) (fun ch w => Kfn R ch [] w))))) (fun ch w => Kfn R ch [] w)))
set_option maxRecDepth 100000 in
theorem sh39_ok (o_1 : Int) (p_2 : Int) (l_p3 : Option Addr) (l_n4 : Nat) (l_c5 : Nat) (x_6 : Int) (x_7 : Int) {R : Ending → World → Prop} {w : World} : sh39 o_1 p_2 l_p3 l_n4 l_c5 x_6 x_7 R w → Calls Try.prog 39 #[.int .u8 o_1, .int .u8 p_2, .slice l_p3 l_n4 l_c5, .agg #[.int .i64 x_6, .int .i64 x_7]] w R :=
  calls_of_eq (ann := fun _ => []) (fn := Try.f39) (c := bodyOf Try.f39) (args := #[.int .u8 o_1, .int .u8 p_2, .slice l_p3 l_n4 l_c5, .agg #[.int .i64 x_6, .int .i64 x_7]]) 400 follows_mixed Try.func39 (by kernel_rfl) (by kernel_rfl)
set_option maxRecDepth 100000 in
/-- joinery/row.May -/
def sh40 (o_1 : Int) (l_p2 : Option Addr) (l_n3 : Nat) (l_c4 : Nat) (R : Ending → World → Prop) (w : World) : Prop :=
 doAl (.cells #[.int .u8 o_1] 5) w (fun b5 w6 =>
 doAl (.cells #[.bool false] 4) w6 (fun b7 w8 =>
 doCall Try.prog (.func (.func 92) #[] #[]) #[.slice l_p2 l_n3 l_c4] w8 (retS (fun v12 w13 => ∃ (xf9 : Fn), ∃ (xx10 : Array Value), ∃ (xc11 : Array Value), v12 = (.func xf9 xx10 xc11 : Value) ∧ (
 rfW Try.prog (.func xf9 xx10 xc11) (mkLoop #[.int .u8 o_1, .slice l_p2 l_n3 l_c4, .pointer (some (blk b5)), undef, .pointer (some (blk b7)), undef, undef, .slice l_p2 l_n3 l_c4, .func xf9 xx10 xc11, undef, undef, undef, undef, undef, undef, undef, undef, undef, undef, undef, undef] (rfOf Try.f40 0).1 (rfOf Try.f40 0).2.1 (rfOf Try.f40 0).2.2)
 (fun w14 =>
 ∃ (x15 : Int), World.cell? w14 (blk b5) = some (.int .u8 x15) ∧ (
 doCall Try.prog (.func (.func 94) #[] #[]) #[.int .u8 x15] w14 (retS (fun v17 w18 => ∃ (x16 : ByteArray), v17 = (.string x16 : Value) ∧ (
 doSt ((blk b7).add 0) (.bool (!(x16.toList == (⟨#[]⟩ : ByteArray).toList))) w18 (fun w19 =>
 w19.heap[w13.heap.size]? = some (.deferred (some [])) ∧ (
 let w20 : World := w19.putObj w13.heap.size (.deferred none)
 ∃ (x21 : Bool), World.cell? w20 (blk b7) = some (.bool x21) ∧ (
 R (.returned (.bool x21)) w20))))) (fun ch w => Kfn R ch [{ target := .collected w13.heap.size, args := #[] }] w))))
 (fun w22 =>
 w22.heap[w13.heap.size]? = some (.deferred (some [])) ∧ (
 let w23 : World := w22.putObj w13.heap.size (.deferred none)
 ∃ (x24 : Bool), World.cell? w23 (blk b7) = some (.bool x24) ∧ (
 R (.returned (.bool x24)) w23)))
 [] w13)) (fun ch w => Kfn R ch [] w))))
set_option maxRecDepth 100000 in
theorem sh40_ok (o_1 : Int) (l_p2 : Option Addr) (l_n3 : Nat) (l_c4 : Nat) {R : Ending → World → Prop} {w : World} : sh40 o_1 l_p2 l_n3 l_c4 R w → Calls Try.prog 40 #[.int .u8 o_1, .slice l_p2 l_n3 l_c4] w R :=
  calls_of_eq (ann := fun _ => []) (fn := Try.f40) (c := bodyOf Try.f40) (args := #[.int .u8 o_1, .slice l_p2 l_n3 l_c4]) 400 follows_mixed Try.func40 (by kernel_rfl) (by kernel_rfl)
set_option maxRecDepth 100000 in
/-- joinery/row.May, a round of loop 0 -/
def sh40_0 (o_1 : Addr) (x2 : Addr) (y22 : Int) (y23 : Int) (y24 : Int) (y25 : Int) (l : Nat) (R : Ending → World → Prop) (w : World) : Prop :=
 doAl (.cells #[.int .i64 0, .int .i64 0] 38) w (fun b26 w27 =>
 doSt ((blk b26).add 0) (.int .i64 y22) w27 (fun w28 =>
 doSt ((blk b26).add 1) (.int .i64 y23) w28 (fun w29 =>
 doAl (.cells #[.int .i64 0, .int .i64 0] 38) w29 (fun b30 w31 =>
 doSt ((blk b30).add 0) (.int .i64 y24) w31 (fun w32 =>
 doSt ((blk b30).add 1) (.int .i64 y25) w32 (fun w33 =>
 ∃ (r34 : Loop), w33.heap[l]? = some (.loop r34) ∧ r34.state = .ready ∧ (
 let w35 : World := w33.putObj l (.loop { r34 with state := .busy })
 ∃ (x36 : Int), World.cell? w35 o_1 = some (.int .u8 x36) ∧ (
 ∃ (x37 : Int), World.cell? w35 ((blk b26).add 0) = some (.int .i64 x37) ∧ (
 ∃ (x38 : Int), World.cell? w35 ((blk b30).add 0) = some (.int .i64 x38) ∧ (
 doCall Try.prog (.func (.func 93) #[] #[]) #[.int .u8 x36, .int .i64 x37, .int .i64 x38] w35 (retS (fun v40 w41 => ∃ (x39 : Int), v40 = (.int .i64 x39 : Value) ∧ (
 ifB (decide ((x39 : Int) ≥ 0)) (
 doSt (x2.add 0) (.bool false) w41 (fun w42 =>
 ∃ (r43 : Loop), w42.heap[l]? = some (.loop r43) ∧ R (.returned (.bool false)) (w42.putObj l (.loop { r43 with state := .done, pending := some .ret })))) (
 ∃ (r44 : Loop), w41.heap[l]? = some (.loop r44) ∧ R (.returned (.bool true)) (w41.putObj l (.loop { r44 with state := .ready, pending := none }))))) (fun _ _ => False))))))))))))
set_option maxRecDepth 100000 in
theorem sh40_0_ok {dd3 : Value} {dd4 : Value} {dd5 : Value} {dd6 : Value} {dd7 : Value} {dd8 : Value} {dd9 : Value} {dd10 : Value} {dd11 : Value} {dd12 : Value} {dd13 : Value} {dd14 : Value} {dd15 : Value} {dd16 : Value} {dd17 : Value} {dd18 : Value} {dd19 : Value} {dd20 : Value} {dd21 : Value} {o_1 : Addr} {x2 : Addr} {y22 : Int} {y23 : Int} {y24 : Int} {y25 : Int} {l fn D : Nat} {R : Ending → World → Prop} {w : World} (hl : w.heap[l]? = some (.loop (mkLoop #[dd3, dd4, .pointer (some o_1), dd5, .pointer (some x2), dd6, dd7, dd8, dd9, dd10, dd11, dd12, dd13, dd14, dd15, dd16, dd17, dd18, dd19, dd20, dd21] (rfOf Try.f40 0).1 (rfOf Try.f40 0).2.1 (rfOf Try.f40 0).2.2 fn D))) : sh40_0 o_1 x2 y22 y23 y24 y25 l R w → doCall Try.prog (.func (.yield l) #[] #[]) #[.agg #[.int .i64 y22, .int .i64 y23], .agg #[.int .i64 y24, .int .i64 y25]] w R :=
  fun h => ⟨round_of_eq (ann := fun _ => []) 400 follows_mixed hl (by kernel_rfl) (by kernel_rfl) h⟩
set_option maxRecDepth 100000 in
/-- joinery/joineryref02.Compare -/
def sh41 (o_1 : Int) (a_2 : Int) (b_3 : Int) (R : Ending → World → Prop) (w : World) : Prop :=
 let K6 : Bool → World → Prop := fun (x4 : Bool) (w5 : World) => 
 ifB x4 (
 R (.returned (.int .i64 0)) w5) (
 doCall Try.prog (.func (.func 95) #[] #[]) #[.int .u8 o_1, .int .i64 a_2] w5 (retS (fun v8 w9 => ∃ (x7 : Int), v8 = (.int .u64 x7 : Value) ∧ (
 doCall Try.prog (.func (.func 95) #[] #[]) #[.int .u8 o_1, .int .i64 b_3] w9 (retS (fun v11 w12 => ∃ (x10 : Int), v11 = (.int .u64 x10 : Value) ∧ (
 ifB (decide ((x7 : Int) < x10)) (
 R (.returned (.int .i64 (-1))) w12) (
 R (.returned (.int .i64 1)) w12))) (fun ch w => Kfn R ch [] w)))) (fun ch w => Kfn R ch [] w)))
 doCall Try.prog (.func (.func 75) #[] #[]) #[.int .u8 o_1] w (retS (fun v14 w15 => ∃ (x13 : Bool), v14 = (.bool x13 : Value) ∧ (
 ifB (!x13) (
 R (.returned (.int .i64 0)) w15) (
 doCall Try.prog (.func (.func 95) #[] #[]) #[.int .u8 o_1, .int .i64 a_2] w15 (retS (fun v17 w18 => ∃ (x16 : Int), v17 = (.int .u64 x16 : Value) ∧ (
 doCall Try.prog (.func (.func 95) #[] #[]) #[.int .u8 o_1, .int .i64 b_3] w18 (retS (fun v20 w21 => ∃ (x19 : Int), v20 = (.int .u64 x19 : Value) ∧ (
 K6 ((x16 : Int) == x19) w21)) (fun ch w => Kfn R ch [] w)))) (fun ch w => Kfn R ch [] w))))) (fun ch w => Kfn R ch [] w))
set_option maxRecDepth 100000 in
theorem sh41_ok (o_1 : Int) (a_2 : Int) (b_3 : Int) {R : Ending → World → Prop} {w : World} : sh41 o_1 a_2 b_3 R w → Calls Try.prog 41 #[.int .u8 o_1, .int .i64 a_2, .int .i64 b_3] w R :=
  calls_of_eq (ann := fun _ => []) (fn := Try.f41) (c := bodyOf Try.f41) (args := #[.int .u8 o_1, .int .i64 a_2, .int .i64 b_3]) 400 follows_mixed Try.func41 (by kernel_rfl) (by kernel_rfl)
set_option maxRecDepth 100000 in
/-- joinery/joinerylaw04.Own -/
def sh42 (l_p1 : Option Addr) (l_n2 : Nat) (l_c3 : Nat) (R : Ending → World → Prop) (w : World) : Prop :=
 doGo Try.prog (.builtin .append #[33, 33] 33 #[true, false]) #[.slice none 0 0, .slice l_p1 l_n2 l_c3] w (retS (fun v7 w8 => ∃ (xp4 : Option Addr), ∃ (xn5 : Nat), ∃ (xc6 : Nat), v7 = (.slice xp4 xn5 xc6 : Value) ∧ (
 R (.returned (.slice xp4 xn5 xc6)) w8)) (fun ch w => Kfn R ch [] w))
set_option maxRecDepth 100000 in
theorem sh42_ok (l_p1 : Option Addr) (l_n2 : Nat) (l_c3 : Nat) {R : Ending → World → Prop} {w : World} : sh42 l_p1 l_n2 l_c3 R w → Calls Try.prog 42 #[.slice l_p1 l_n2 l_c3] w R :=
  calls_of_eq (ann := fun _ => []) (fn := Try.f42) (c := bodyOf Try.f42) (args := #[.slice l_p1 l_n2 l_c3]) 400 follows_mixed Try.func42 (by kernel_rfl) (by kernel_rfl)
set_option maxRecDepth 100000 in
/-- joinery/joineryref04.Find -/
def sh43 (o_1 : Int) (l_p2 : Option Addr) (l_n3 : Nat) (l_c4 : Nat) (key_5 : Int) (R : Ending → World → Prop) (w : World) : Prop :=
 doCall Try.prog (.func (.func 49) #[] #[]) #[.int .u8 o_1, .slice l_p2 l_n3 l_c4] w (retS (fun v7 w8 => ∃ (x6 : Bool), v7 = (.bool x6 : Value) ∧ (
 ifB (!x6) (
 R (.returned (.tuple #[.int .i64 0, .bool false])) w8) (
 ∃ (I9 : List Value → World → Prop) (μ10 : List Value → World → Nat), I9 [.int .i64 0] w8 ∧ (∀ (i_13 : Int), ∀ (_j11 : Nat → Value) (w12 : World), I9 [.int .i64 i_13] w12 → (
 ifB (decide ((i_13 : Int) < ((l_n3 : Nat) : Int))) (
 doIx l_p2 l_n3 2 (i_13) (fun a14 =>
 ∃ (x15 : Int), World.cell? w12 (a14.add 0) = some (.int .i64 x15) ∧ (
 doCall Try.prog (.func (.func 96) #[] #[]) #[.int .u8 o_1, .int .i64 x15, .int .i64 key_5] w12 (retS (fun v17 w18 => ∃ (x16 : Bool), v17 = (.bool x16 : Value) ∧ (
 ifB (!x16) (
 doDr w18 (fun w20 =>
 ∃ (C19 : World → Prop), C19 w20 ∧ (
 doIx l_p2 l_n3 2 (i_13) (fun a21 =>
 ∃ (x22 : Int), (∀ w, C19 w → World.cell? w (a21.add 0) = some (.int .i64 x22)) ∧ (
 R (.returned (.tuple #[.int .i64 i_13, .bool ((x22 : Int) == key_5)])) w20))))) (
 I9 [.int .i64 (IntKind.wrap .i64 (i_13 + 1))] w18 ∧ μ10 [.int .i64 (IntKind.wrap .i64 (i_13 + 1))] w18 < μ10 [.int .i64 i_13] w12))) (fun ch w => Kfn R ch [] w))))) (
 R (.returned (.tuple #[.int .i64 ((l_n3 : Nat) : Int), .bool false])) w12)))))) (fun ch w => Kfn R ch [] w))
set_option maxRecDepth 100000 in
theorem sh43_ok (o_1 : Int) (l_p2 : Option Addr) (l_n3 : Nat) (l_c4 : Nat) (key_5 : Int) {R : Ending → World → Prop} {w : World} : sh43 o_1 l_p2 l_n3 l_c4 key_5 R w → Calls Try.prog 43 #[.int .u8 o_1, .slice l_p2 l_n3 l_c4, .int .i64 key_5] w R :=
  calls_of_eq (ann := fun i => if i = 0 then [(8, .int .i64 0)] else []) (fn := Try.f43) (c := bodyOf Try.f43) (args := #[.int .u8 o_1, .slice l_p2 l_n3 l_c4, .int .i64 key_5]) 400 follows_mixed Try.func43 (by kernel_rfl) (by kernel_rfl)
set_option maxRecDepth 100000 in
/-- joinery/joineryref04.Get -/
def sh44 (o_1 : Int) (l_p2 : Option Addr) (l_n3 : Nat) (l_c4 : Nat) (key_5 : Int) (R : Ending → World → Prop) (w : World) : Prop :=
 doCall Try.prog (.func (.func 43) #[] #[]) #[.int .u8 o_1, .slice l_p2 l_n3 l_c4, .int .i64 key_5] w (retS (fun v8 w9 => ∃ (x6 : Int), ∃ (x7 : Bool), v8 = (.tuple #[.int .i64 x6, .bool x7] : Value) ∧ (
 ifB (!x7) (
 R (.returned (.tuple #[.int .i64 0, .bool false])) w9) (
 doIx l_p2 l_n3 2 (x6) (fun a10 =>
 ∃ (x11 : Int), World.cell? w9 (a10.add 1) = some (.int .i64 x11) ∧ (
 R (.returned (.tuple #[.int .i64 x11, .bool true])) w9))))) (fun ch w => Kfn R ch [] w))
set_option maxRecDepth 100000 in
theorem sh44_ok (o_1 : Int) (l_p2 : Option Addr) (l_n3 : Nat) (l_c4 : Nat) (key_5 : Int) {R : Ending → World → Prop} {w : World} : sh44 o_1 l_p2 l_n3 l_c4 key_5 R w → Calls Try.prog 44 #[.int .u8 o_1, .slice l_p2 l_n3 l_c4, .int .i64 key_5] w R :=
  calls_of_eq (ann := fun _ => []) (fn := Try.f44) (c := bodyOf Try.f44) (args := #[.int .u8 o_1, .slice l_p2 l_n3 l_c4, .int .i64 key_5]) 400 follows_mixed Try.func44 (by kernel_rfl) (by kernel_rfl)
end Go.Proofs.Ytinkkhcffoikmaa
