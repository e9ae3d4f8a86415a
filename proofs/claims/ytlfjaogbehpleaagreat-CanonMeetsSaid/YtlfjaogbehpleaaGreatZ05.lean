/-
  Printed by a program (gen.py): what the functions of the program do, as formulas; each with the proof that its call is what the formula says.
-/
/-
  Printed by a program (gen.py): what the functions of the program do, as formulas; each with the proof that its call is what the formula says.
-/
/-
  Printed by a program (gen.py): what the functions of the program do, as formulas; each with the proof that its call is what the formula says.
-/
import Derived.Test.YtlfjaogbehpleaaGreatZ04
import Derived.Test.YtlfjaogbehpleaaGreatProg

namespace Go.Proofs.YtlfjaogbehpleaaGreat
open Go Go.Sh
theorem follows_mixed : Tryz.prog.follows .mixedOrders = true := by kernel_rfl
set_option maxRecDepth 100000 in
/-- joinery/joineryref02.Compare -/
def sh10 (o_1 : Int) (a_2 : Int) (b_3 : Int) (R : Ending → World → Prop) (w : World) : Prop :=
 let K6 : Bool → World → Prop := fun (x4 : Bool) (w5 : World) => 
 ifB x4 (
 R (.returned (.int .i64 0)) w5) (
 doCall Tryz.prog (.func (.func 35) #[] #[]) #[.int .u8 o_1, .int .i64 a_2] w5 (retS (fun v8 w9 => ∃ (x7 : Int), v8 = (.int .u64 x7 : Value) ∧ (
 doCall Tryz.prog (.func (.func 35) #[] #[]) #[.int .u8 o_1, .int .i64 b_3] w9 (retS (fun v11 w12 => ∃ (x10 : Int), v11 = (.int .u64 x10 : Value) ∧ (
 ifB (decide ((x7 : Int) < x10)) (
 R (.returned (.int .i64 (-1))) w12) (
 R (.returned (.int .i64 1)) w12))) (fun ch w => Kfn R ch [] w)))) (fun ch w => Kfn R ch [] w)))
 doCall Tryz.prog (.func (.func 20) #[] #[]) #[.int .u8 o_1] w (retS (fun v14 w15 => ∃ (x13 : Bool), v14 = (.bool x13 : Value) ∧ (
 ifB (!x13) (
 R (.returned (.int .i64 0)) w15) (
 doCall Tryz.prog (.func (.func 35) #[] #[]) #[.int .u8 o_1, .int .i64 a_2] w15 (retS (fun v17 w18 => ∃ (x16 : Int), v17 = (.int .u64 x16 : Value) ∧ (
 doCall Tryz.prog (.func (.func 35) #[] #[]) #[.int .u8 o_1, .int .i64 b_3] w18 (retS (fun v20 w21 => ∃ (x19 : Int), v20 = (.int .u64 x19 : Value) ∧ (
 K6 ((x16 : Int) == x19) w21)) (fun ch w => Kfn R ch [] w)))) (fun ch w => Kfn R ch [] w))))) (fun ch w => Kfn R ch [] w))
set_option maxRecDepth 100000 in
theorem sh10_ok (o_1 : Int) (a_2 : Int) (b_3 : Int) {R : Ending → World → Prop} {w : World} : sh10 o_1 a_2 b_3 R w → Calls Tryz.prog 10 #[.int .u8 o_1, .int .i64 a_2, .int .i64 b_3] w R :=
  Old.calls_of_eq (ann := fun _ => []) (fn := Tryz.f10) (c := bodyOf Tryz.f10) (args := #[.int .u8 o_1, .int .i64 a_2, .int .i64 b_3]) 400 follows_mixed Tryz.func10 (by kernel_rfl) (by kernel_rfl)
set_option maxRecDepth 100000 in
/-- joinery/joineryref02.Is -/
def sh20 (o_1 : Int) (R : Ending → World → Prop) (w : World) : Prop :=
 let K4 : Bool → World → Prop := fun (x2 : Bool) (w3 : World) => 
 R (.returned (.bool x2)) w3
 ifB (decide ((o_1 : Int) ≥ 1)) (
 K4 (decide ((o_1 : Int) ≤ 7)) w) (
 R (.returned (.bool false)) w)
set_option maxRecDepth 100000 in
theorem sh20_ok (o_1 : Int) {R : Ending → World → Prop} {w : World} : sh20 o_1 R w → Calls Tryz.prog 20 #[.int .u8 o_1] w R :=
  Old.calls_of_eq (ann := fun _ => []) (fn := Tryz.f20) (c := bodyOf Tryz.f20) (args := #[.int .u8 o_1]) 400 follows_mixed Tryz.func20 (by kernel_rfl) (by kernel_rfl)
end Go.Proofs.YtlfjaogbehpleaaGreat

namespace Go.Proofs.YtlfjaogbehpleaaGreat
open Go Go.Sh
end Go.Proofs.YtlfjaogbehpleaaGreat

namespace Go.Proofs.YtlfjaogbehpleaaGreat
open Go Go.Sh
set_option maxRecDepth 100000 in
/-- joinery/joinerylaw22.Of -/
def sh26 (code_1 : Int) (R : Ending → World → Prop) (w : World) : Prop :=
 doCall Tryz.prog (.func (.func 65) #[] #[]) #[.int .u8 code_1] w (retS (fun v4 w5 => ∃ (x2 : Option Addr), ∃ (x3 : Int), v4 = (.tuple #[.pointer x2, .int .i64 x3] : Value) ∧ (
 let K8 : Bool → World → Prop := fun (x6 : Bool) (w7 : World) => 
 R (.returned (.tuple #[.pointer x2, .bool x6])) w7
 ifB ((x3 : Int) == 0) (
 K8 (!(x2).isNone) w5) (
 R (.returned (.tuple #[.pointer x2, .bool false])) w5))) (fun ch w => Kfn R ch [] w))
set_option maxRecDepth 100000 in
theorem sh26_ok (code_1 : Int) {R : Ending → World → Prop} {w : World} : sh26 code_1 R w → Calls Tryz.prog 26 #[.int .u8 code_1] w R :=
  Old.calls_of_eq (ann := fun _ => []) (fn := Tryz.f26) (c := bodyOf Tryz.f26) (args := #[.int .u8 code_1]) 400 follows_mixed Tryz.func26 (by kernel_rfl) (by kernel_rfl)
set_option maxRecDepth 100000 in
/-- joinery/joinerylaw41.alive -/
def sh27  (R : Ending → World → Prop) (w : World) : Prop :=
 doAl (.cells #[.int .i64 1, .int .i64 10, .int .i64 2, .int .i64 20] 63) w (fun b1 w2 =>
 doCall Tryz.prog (.func (.func 28) #[] #[]) #[.int .u8 1, .int .u8 3, .slice (some (blk b1)) 2 2] w2 (retS (fun v5 w6 => ∃ (x3 : Option Addr), ∃ (x4 : Int), v5 = (.tuple #[.pointer x3, .int .i64 x4] : Value) ∧ (
 doAl (.cells #[.int .i64 3, .int .i64 30, .int .i64 2, .int .i64 21] 63) w6 (fun b7 w8 =>
 doCall Tryz.prog (.func (.func 28) #[] #[]) #[.int .u8 1, .int .u8 3, .slice (some (blk b7)) 2 2] w8 (retS (fun v11 w12 => ∃ (x9 : Option Addr), ∃ (x10 : Int), v11 = (.tuple #[.pointer x9, .int .i64 x10] : Value) ∧ (
 doCall Tryz.prog (.func (.func 29) #[] #[]) #[.int .u8 1, .pointer x3, .pointer x9] w12 (retS (fun v17 w18 => ∃ (xp13 : Option Addr), ∃ (xn14 : Nat), ∃ (xc15 : Nat), ∃ (x16 : Int), v17 = (.tuple #[.slice xp13 xn14 xc15, .int .i64 x16] : Value) ∧ (
 doCall Tryz.prog (.func (.func 28) #[] #[]) #[.int .u8 1, .int .u8 4, .slice none 0 0] w18 (retS (fun v21 w22 => ∃ (x19 : Option Addr), ∃ (x20 : Int), v21 = (.tuple #[.pointer x19, .int .i64 x20] : Value) ∧ (
 let K25 : Bool → World → Prop := fun (x23 : Bool) (w24 : World) => 
 R (.returned (.bool x23)) w24
 ifB ((x4 : Int) == 0) (
 ifB ((x10 : Int) == 0) (
 ifB ((x16 : Int) == 0) (
 ifB ((x20 : Int) == 2) (
 doAl (.cells #[.int .i64 1, .int .i64 2, .int .i64 3] 2) w22 (fun b26 w27 =>
 doCall Tryz.prog (.func (.func 66) #[] #[]) #[.slice xp13 xn14 xc15, .slice (some (blk b26)) 3 3] w27 (retS (fun v29 w30 => ∃ (x28 : Bool), v29 = (.bool x28 : Value) ∧ (
 ifB x28 (
 doCall Tryz.prog (.func (.func 67) #[] #[]) #[.pointer none] w30 (retS (fun v32 w33 => ∃ (x31 : Int), v32 = (.int .u64 x31 : Value) ∧ (
 ifB ((x31 : Int) == 0) (
 doCall Tryz.prog (.func (.func 68) #[] #[]) #[.int .u8 1, .pointer x3] w33 (retS (fun v35 w36 => ∃ (x34 : Bool), v35 = (.bool x34 : Value) ∧ (
 ifB x34 (
 doCall Tryz.prog (.func (.func 69) #[] #[]) #[.pointer x3, .pointer x9] w36 (retS (fun v38 w39 => ∃ (x37 : Bool), v38 = (.bool x37 : Value) ∧ (
 K25 (!x37) w39)) (fun ch w => Kfn R ch [] w))) (
 R (.returned (.bool false)) w36))) (fun ch w => Kfn R ch [] w))) (
 R (.returned (.bool false)) w33))) (fun ch w => Kfn R ch [] w))) (
 R (.returned (.bool false)) w30))) (fun ch w => Kfn R ch [] w)))) (
 R (.returned (.bool false)) w22)) (
 R (.returned (.bool false)) w22)) (
 R (.returned (.bool false)) w22)) (
 R (.returned (.bool false)) w22))) (fun ch w => Kfn R ch [] w)))) (fun ch w => Kfn R ch [] w)))) (fun ch w => Kfn R ch [] w))))) (fun ch w => Kfn R ch [] w)))
set_option maxRecDepth 100000 in
theorem sh27_ok  {R : Ending → World → Prop} {w : World} : sh27  R w → Calls Tryz.prog 27 #[] w R :=
  Old.calls_of_eq (ann := fun _ => []) (fn := Tryz.f27) (c := bodyOf Tryz.f27) (args := #[]) 400 follows_mixed Tryz.func27 (by kernel_rfl) (by kernel_rfl)
set_option maxRecDepth 100000 in
/-- joinery/canon.Of -/
def sh28 (o_1 : Int) (p_2 : Int) (l_p3 : Option Addr) (l_n4 : Nat) (l_c5 : Nat) (R : Ending → World → Prop) (w : World) : Prop :=
 doCall Tryz.prog (.func (.func 65) #[] #[]) #[.int .u8 4] w (retS (fun v8 w9 => ∃ (x6 : Option Addr), ∃ (x7 : Int), v8 = (.tuple #[.pointer x6, .int .i64 x7] : Value) ∧ (
 ifB ((x7 : Int) != 0) (
 R (.returned (.tuple #[.pointer none, .int .i64 x7])) w9) (
 doCall Tryz.prog (.func (.func 70) #[] #[]) #[.pointer x6, .int .u8 o_1, .int .u8 p_2, .pointer none, .slice l_p3 l_n4 l_c5] w9 (retS (fun v12 w13 => ∃ (x10 : Option Addr), ∃ (x11 : Int), v12 = (.tuple #[.pointer x10, .int .i64 x11] : Value) ∧ (
 R (.returned (.tuple #[.pointer x10, .int .i64 x11])) w13)) (fun ch w => Kfn R ch [] w))))) (fun ch w => Kfn R ch [] w))
set_option maxRecDepth 100000 in
theorem sh28_ok (o_1 : Int) (p_2 : Int) (l_p3 : Option Addr) (l_n4 : Nat) (l_c5 : Nat) {R : Ending → World → Prop} {w : World} : sh28 o_1 p_2 l_p3 l_n4 l_c5 R w → Calls Tryz.prog 28 #[.int .u8 o_1, .int .u8 p_2, .slice l_p3 l_n4 l_c5] w R :=
  Old.calls_of_eq (ann := fun _ => []) (fn := Tryz.f28) (c := bodyOf Tryz.f28) (args := #[.int .u8 o_1, .int .u8 p_2, .slice l_p3 l_n4 l_c5]) 400 follows_mixed Tryz.func28 (by kernel_rfl) (by kernel_rfl)
set_option maxRecDepth 100000 in
/-- joinery/canon.Diff -/
def sh29 (o_1 : Int) (a_2 : Option Addr) (b_3 : Option Addr) (R : Ending → World → Prop) (w : World) : Prop :=
 doAl (.cells #[.slice none 0 0] 28) w (fun b4 w5 =>
 doCall Tryz.prog (.func (.func 65) #[] #[]) #[.int .u8 4] w5 (retS (fun v8 w9 => ∃ (x6 : Option Addr), ∃ (x7 : Int), v8 = (.tuple #[.pointer x6, .int .i64 x7] : Value) ∧ (
 let K22 : Bool → Value → Value → Value → Value → Bool → Bool → Value → Value → Value → Value → World → Prop := fun (x10 : Bool) (d11 : Value) (d12 : Value) (d13 : Value) (d14 : Value) (x15 : Bool) (x16 : Bool) (d17 : Value) (d18 : Value) (d19 : Value) (d20 : Value) (w21 : World) => 
 doCall Tryz.prog (.func (.func 71) #[] #[]) #[.pointer x6, .int .u8 o_1, .pointer a_2, .pointer b_3] w21 (retS (fun v26 w27 => ∃ (xf23 : Fn), ∃ (xx24 : Array Value), ∃ (xc25 : Array Value), v26 = (.func xf23 xx24 xc25 : Value) ∧ (
 rfW Tryz.prog (.func xf23 xx24 xc25) (mkLoop #[.int .u8 o_1, .pointer a_2, .pointer b_3, undef, undef, undef, .pointer (some (blk b4)), .int .i64 x7, .pointer x6, undef, .tuple #[.pointer x6, .int .i64 x7], .tuple #[.pointer x6, .int .i64 x7], .pointer x6, .int .i64 x7, .int .i64 x7, .bool ((x7 : Int) != 0), .bool x10, d11, d12, d13, d14, .bool x15, .bool x16, d17, d18, d19, d20, .bool false, .pointer x6, .int .u8 o_1, .pointer a_2, .pointer b_3, .func xf23 xx24 xc25, undef, undef, undef, undef, undef, undef] (rfOf Tryz.f29 0).1 (rfOf Tryz.f29 0).2.1 (rfOf Tryz.f29 0).2.2)
 (fun w28 =>
 ∃ (xp29 : Option Addr), ∃ (xn30 : Nat), ∃ (xc31 : Nat), World.cell? w28 (blk b4) = some (.slice xp29 xn30 xc31) ∧ (
 doSt ((blk b4).add 0) (.slice xp29 xn30 xc31) w28 (fun w32 =>
 w32.heap[w27.heap.size]? = some (.deferred (some [])) ∧ (
 let w33 : World := w32.putObj w27.heap.size (.deferred none)
 ∃ (xp34 : Option Addr), ∃ (xn35 : Nat), ∃ (xc36 : Nat), World.cell? w33 (blk b4) = some (.slice xp34 xn35 xc36) ∧ (
 R (.returned (.tuple #[.slice xp34 xn35 xc36, .int .i64 0])) w33)))))
 (fun w37 =>
 w37.heap[w27.heap.size]? = some (.deferred (some [])) ∧ (
 let w38 : World := w37.putObj w27.heap.size (.deferred none)
 ∃ (xp39 : Option Addr), ∃ (xn40 : Nat), ∃ (xc41 : Nat), World.cell? w38 (blk b4) = some (.slice xp39 xn40 xc41) ∧ (
 R (.returned (.tuple #[.slice xp39 xn40 xc41, .int .i64 x7])) w38)))
 [] w27)) (fun ch w => Kfn R ch [] w))
 let K55 : Bool → Value → Value → Value → Value → Bool → Bool → Value → Value → Value → Value → Bool → World → Prop := fun (x42 : Bool) (d43 : Value) (d44 : Value) (d45 : Value) (d46 : Value) (x47 : Bool) (x48 : Bool) (d49 : Value) (d50 : Value) (d51 : Value) (d52 : Value) (x53 : Bool) (w54 : World) => 
 ifB x53 (
 doSt ((blk b4).add 0) (.slice none 0 0) w54 (fun w56 =>
 ∃ (xp57 : Option Addr), ∃ (xn58 : Nat), ∃ (xc59 : Nat), World.cell? w56 (blk b4) = some (.slice xp57 xn58 xc59) ∧ (
 R (.returned (.tuple #[.slice xp57 xn58 xc59, .int .i64 2])) w56))) (
 K22 x42 (d43 : Value) (d44 : Value) (d45 : Value) (d46 : Value) x47 x48 (d49 : Value) (d50 : Value) (d51 : Value) (d52 : Value) w54)
 ifB ((x7 : Int) != 0) (
 doSt ((blk b4).add 0) (.slice none 0 0) w9 (fun w60 =>
 ∃ (xp61 : Option Addr), ∃ (xn62 : Nat), ∃ (xc63 : Nat), World.cell? w60 (blk b4) = some (.slice xp61 xn62 xc63) ∧ (
 R (.returned (.tuple #[.slice xp61 xn62 xc63, .int .i64 2])) w60))) (
 doCall Tryz.prog (.func (.func 68) #[] #[]) #[.int .u8 o_1, .pointer a_2] w9 (retS (fun v65 w66 => ∃ (x64 : Bool), v65 = (.bool x64 : Value) ∧ (
 ifB (!x64) (
 doSt ((blk b4).add 0) (.slice none 0 0) w66 (fun w67 =>
 ∃ (xp68 : Option Addr), ∃ (xn69 : Nat), ∃ (xc70 : Nat), World.cell? w67 (blk b4) = some (.slice xp68 xn69 xc70) ∧ (
 R (.returned (.tuple #[.slice xp68 xn69 xc70, .int .i64 2])) w67))) (
 doCall Tryz.prog (.func (.func 68) #[] #[]) #[.int .u8 o_1, .pointer b_3] w66 (retS (fun v72 w73 => ∃ (x71 : Bool), v72 = (.bool x71 : Value) ∧ (
 K55 false (.int .u8 o_1 : Value) (.pointer a_2 : Value) (.bool x64 : Value) (.bool (!x64) : Value) (!x64) false (.int .u8 o_1 : Value) (.pointer b_3 : Value) (.bool x71 : Value) (.bool (!x71) : Value) (!x71) w73)) (fun ch w => Kfn R ch [] w))))) (fun ch w => Kfn R ch [] w))))) (fun ch w => Kfn R ch [] w)))
set_option maxRecDepth 100000 in
theorem sh29_ok (o_1 : Int) (a_2 : Option Addr) (b_3 : Option Addr) {R : Ending → World → Prop} {w : World} : sh29 o_1 a_2 b_3 R w → Calls Tryz.prog 29 #[.int .u8 o_1, .pointer a_2, .pointer b_3] w R :=
  Old.calls_of_eq (ann := fun _ => []) (fn := Tryz.f29) (c := bodyOf Tryz.f29) (args := #[.int .u8 o_1, .pointer a_2, .pointer b_3]) 400 follows_mixed Tryz.func29 (by kernel_rfl) (by kernel_rfl)
set_option maxRecDepth 100000 in
/-- joinery/canon.Diff, a round of loop 0 -/
def sh29_0 (l_1 : Addr) (y40 : Int) (l : Nat) (R : Ending → World → Prop) (w : World) : Prop :=
 ∃ (r41 : Loop), w.heap[l]? = some (.loop r41) ∧ r41.state = .ready ∧ (
 let w42 : World := w.putObj l (.loop { r41 with state := .busy })
 ∃ (xp43 : Option Addr), ∃ (xn44 : Nat), ∃ (xc45 : Nat), World.cell? w42 l_1 = some (.slice xp43 xn44 xc45) ∧ (
 doAl (.cells #[.int .i64 y40] 2) w42 (fun b46 w47 =>
 doGo Tryz.prog (.builtin .append #[28, 28] 28 #[false, false]) #[.slice xp43 xn44 xc45, .slice (some (blk b46)) 1 1] w47 (retS (fun v51 w52 => ∃ (xp48 : Option Addr), ∃ (xn49 : Nat), ∃ (xc50 : Nat), v51 = (.slice xp48 xn49 xc50 : Value) ∧ (
 doSt (l_1.add 0) (.slice xp48 xn49 xc50) w52 (fun w53 =>
 ∃ (r54 : Loop), w53.heap[l]? = some (.loop r54) ∧ R (.returned (.bool true)) (w53.putObj l (.loop { r54 with state := .ready, pending := none }))))) (fun _ _ => False)))))
set_option maxRecDepth 100000 in
theorem sh29_0_ok {dd2 : Value} {dd3 : Value} {dd4 : Value} {dd5 : Value} {dd6 : Value} {dd7 : Value} {dd8 : Value} {dd9 : Value} {dd10 : Value} {dd11 : Value} {dd12 : Value} {dd13 : Value} {dd14 : Value} {dd15 : Value} {dd16 : Value} {dd17 : Value} {dd18 : Value} {dd19 : Value} {dd20 : Value} {dd21 : Value} {dd22 : Value} {dd23 : Value} {dd24 : Value} {dd25 : Value} {dd26 : Value} {dd27 : Value} {dd28 : Value} {dd29 : Value} {dd30 : Value} {dd31 : Value} {dd32 : Value} {dd33 : Value} {dd34 : Value} {dd35 : Value} {dd36 : Value} {dd37 : Value} {dd38 : Value} {dd39 : Value} {l_1 : Addr} {y40 : Int} {l fn D : Nat} {R : Ending → World → Prop} {w : World} (hl : w.heap[l]? = some (.loop (mkLoop #[dd2, dd3, dd4, dd5, dd6, dd7, .pointer (some l_1), dd8, dd9, dd10, dd11, dd12, dd13, dd14, dd15, dd16, dd17, dd18, dd19, dd20, dd21, dd22, dd23, dd24, dd25, dd26, dd27, dd28, dd29, dd30, dd31, dd32, dd33, dd34, dd35, dd36, dd37, dd38, dd39] (rfOf Tryz.f29 0).1 (rfOf Tryz.f29 0).2.1 (rfOf Tryz.f29 0).2.2 fn D))) : sh29_0 l_1 y40 l R w → doCall Tryz.prog (.func (.yield l) #[] #[]) #[.int .i64 y40] w R :=
  fun h => ⟨Old.round_of_eq (ann := fun _ => []) 400 follows_mixed hl (by kernel_rfl) (by kernel_rfl) h⟩
set_option maxRecDepth 100000 in
/-- joinery/meet.Apart -/
def sh30 (s_1 : Option Addr) (o_2 : Int) (a_3 : Option Addr) (b_4 : Option Addr) (R : Ending → World → Prop) (w : World) : Prop :=
 doCall Tryz.prog (.func (.func 74) #[] #[]) #[.agg #[.func (.func 72) #[.pointer s_1] #[], .func (.func 72) #[.pointer s_1] #[], .func (.func 73) #[] #[]], .pointer s_1, .int .u8 o_2, .pointer a_3, .pointer b_4] w (retS (fun v7 w8 => ∃ (x5 : Option Addr), ∃ (x6 : Int), v7 = (.tuple #[.pointer x5, .int .i64 x6] : Value) ∧ (
 R (.returned (.tuple #[.pointer x5, .int .i64 x6])) w8)) (fun ch w => Kfn R ch [] w))
set_option maxRecDepth 100000 in
theorem sh30_ok (s_1 : Option Addr) (o_2 : Int) (a_3 : Option Addr) (b_4 : Option Addr) {R : Ending → World → Prop} {w : World} : sh30 s_1 o_2 a_3 b_4 R w → Calls Tryz.prog 30 #[.pointer s_1, .int .u8 o_2, .pointer a_3, .pointer b_4] w R :=
  Old.calls_of_eq (ann := fun _ => []) (fn := Tryz.f30) (c := bodyOf Tryz.f30) (args := #[.pointer s_1, .int .u8 o_2, .pointer a_3, .pointer b_4]) 400 follows_mixed Tryz.func30 (by kernel_rfl) (by kernel_rfl)
set_option maxRecDepth 100000 in
/-- joinery/meet.Meet -/
def sh31 (s_1 : Option Addr) (o_2 : Int) (p_3 : Int) (a_4 : Option Addr) (b_5 : Option Addr) (R : Ending → World → Prop) (w : World) : Prop :=
 doAl (.cells #[.int .u8 p_3] 5) w (fun b6 w7 =>
 ∃ (x8 : Int), World.cell? w7 (blk b6) = some (.int .u8 x8) ∧ (
 doCall Tryz.prog (.func (.func 75) #[] #[]) #[.int .u8 x8] w7 (retS (fun v10 w11 => ∃ (x9 : Bool), v10 = (.bool x9 : Value) ∧ (
 ifB (!x9) (
 R (.returned (.tuple #[.pointer none, .int .i64 2])) w11) (
 doCall Tryz.prog (.func (.func 74) #[] #[]) #[.agg #[.func (.func 76) #[] #[], .func (.func 76) #[] #[], .func (.func 77) #[] #[.pointer (some (blk b6))]], .pointer s_1, .int .u8 o_2, .pointer a_4, .pointer b_5] w11 (retS (fun v14 w15 => ∃ (x12 : Option Addr), ∃ (x13 : Int), v14 = (.tuple #[.pointer x12, .int .i64 x13] : Value) ∧ (
 R (.returned (.tuple #[.pointer x12, .int .i64 x13])) w15)) (fun ch w => Kfn R ch [] w))))) (fun ch w => Kfn R ch [] w))))
set_option maxRecDepth 100000 in
theorem sh31_ok (s_1 : Option Addr) (o_2 : Int) (p_3 : Int) (a_4 : Option Addr) (b_5 : Option Addr) {R : Ending → World → Prop} {w : World} : sh31 s_1 o_2 p_3 a_4 b_5 R w → Calls Tryz.prog 31 #[.pointer s_1, .int .u8 o_2, .int .u8 p_3, .pointer a_4, .pointer b_5] w R :=
  Old.calls_of_eq (ann := fun _ => []) (fn := Tryz.f31) (c := bodyOf Tryz.f31) (args := #[.pointer s_1, .int .u8 o_2, .int .u8 p_3, .pointer a_4, .pointer b_5]) 400 follows_mixed Tryz.func31 (by kernel_rfl) (by kernel_rfl)
set_option maxRecDepth 100000 in
/-- joinery/look.Keys -/
def sh33 (t_1 : Option Addr) (R : Ending → World → Prop) (w : World) : Prop :=
 doAl (.cells #[.slice none 0 0] 28) w (fun b2 w3 =>
 doCall Tryz.prog (.func (.func 80) #[] #[]) #[.pointer t_1] w3 (retS (fun v7 w8 => ∃ (xf4 : Fn), ∃ (xx5 : Array Value), ∃ (xc6 : Array Value), v7 = (.func xf4 xx5 xc6 : Value) ∧ (
 rfW Tryz.prog (.func xf4 xx5 xc6) (mkLoop #[.pointer t_1, undef, .pointer (some (blk b2)), undef, .pointer t_1, .func xf4 xx5 xc6, undef, undef, undef, undef, undef, undef, undef] (rfOf Tryz.f33 0).1 (rfOf Tryz.f33 0).2.1 (rfOf Tryz.f33 0).2.2)
 (fun w9 =>
 ∃ (xp10 : Option Addr), ∃ (xn11 : Nat), ∃ (xc12 : Nat), World.cell? w9 (blk b2) = some (.slice xp10 xn11 xc12) ∧ (
 doSt ((blk b2).add 0) (.slice xp10 xn11 xc12) w9 (fun w13 =>
 w13.heap[w8.heap.size]? = some (.deferred (some [])) ∧ (
 let w14 : World := w13.putObj w8.heap.size (.deferred none)
 ∃ (xp15 : Option Addr), ∃ (xn16 : Nat), ∃ (xc17 : Nat), World.cell? w14 (blk b2) = some (.slice xp15 xn16 xc17) ∧ (
 R (.returned (.slice xp15 xn16 xc17)) w14)))))
 (fun w18 =>
 w18.heap[w8.heap.size]? = some (.deferred (some [])) ∧ (
 let w19 : World := w18.putObj w8.heap.size (.deferred none)
 ∃ (xp20 : Option Addr), ∃ (xn21 : Nat), ∃ (xc22 : Nat), World.cell? w19 (blk b2) = some (.slice xp20 xn21 xc22) ∧ (
 R (.returned (.slice xp20 xn21 xc22)) w19)))
 [] w8)) (fun ch w => Kfn R ch [] w)))
set_option maxRecDepth 100000 in
theorem sh33_ok (t_1 : Option Addr) {R : Ending → World → Prop} {w : World} : sh33 t_1 R w → Calls Tryz.prog 33 #[.pointer t_1] w R :=
  Old.calls_of_eq (ann := fun _ => []) (fn := Tryz.f33) (c := bodyOf Tryz.f33) (args := #[.pointer t_1]) 400 follows_mixed Tryz.func33 (by kernel_rfl) (by kernel_rfl)
set_option maxRecDepth 100000 in
/-- joinery/look.Keys, a round of loop 0 -/
def sh33_0 (l_1 : Addr) (y14 : Int) (_y15 : Int) (l : Nat) (R : Ending → World → Prop) (w : World) : Prop :=
 ∃ (r16 : Loop), w.heap[l]? = some (.loop r16) ∧ r16.state = .ready ∧ (
 let w17 : World := w.putObj l (.loop { r16 with state := .busy })
 ∃ (xp18 : Option Addr), ∃ (xn19 : Nat), ∃ (xc20 : Nat), World.cell? w17 l_1 = some (.slice xp18 xn19 xc20) ∧ (
 doAl (.cells #[.int .i64 y14] 2) w17 (fun b21 w22 =>
 doGo Tryz.prog (.builtin .append #[28, 28] 28 #[false, false]) #[.slice xp18 xn19 xc20, .slice (some (blk b21)) 1 1] w22 (retS (fun v26 w27 => ∃ (xp23 : Option Addr), ∃ (xn24 : Nat), ∃ (xc25 : Nat), v26 = (.slice xp23 xn24 xc25 : Value) ∧ (
 doSt (l_1.add 0) (.slice xp23 xn24 xc25) w27 (fun w28 =>
 ∃ (r29 : Loop), w28.heap[l]? = some (.loop r29) ∧ R (.returned (.bool true)) (w28.putObj l (.loop { r29 with state := .ready, pending := none }))))) (fun _ _ => False)))))
set_option maxRecDepth 100000 in
theorem sh33_0_ok {dd2 : Value} {dd3 : Value} {dd4 : Value} {dd5 : Value} {dd6 : Value} {dd7 : Value} {dd8 : Value} {dd9 : Value} {dd10 : Value} {dd11 : Value} {dd12 : Value} {dd13 : Value} {l_1 : Addr} {y14 : Int} {y15 : Int} {l fn D : Nat} {R : Ending → World → Prop} {w : World} (hl : w.heap[l]? = some (.loop (mkLoop #[dd2, dd3, .pointer (some l_1), dd4, dd5, dd6, dd7, dd8, dd9, dd10, dd11, dd12, dd13] (rfOf Tryz.f33 0).1 (rfOf Tryz.f33 0).2.1 (rfOf Tryz.f33 0).2.2 fn D))) : sh33_0 l_1 y14 y15 l R w → doCall Tryz.prog (.func (.yield l) #[] #[]) #[.int .i64 y14, .int .i64 y15] w R :=
  fun h => ⟨Old.round_of_eq (ann := fun _ => []) 400 follows_mixed hl (by kernel_rfl) (by kernel_rfl) h⟩
set_option maxRecDepth 100000 in
/-- joinery/find.Get -/
def sh34 (o_1 : Int) (t_2 : Option Addr) (key_3 : Int) (R : Ending → World → Prop) (w : World) : Prop :=
 let K11 : Addr → Value → Value → Value → Value → Value → World → Prop := fun (keep_4 : Addr) (d5 : Value) (d6 : Value) (d7 : Value) (d8 : Value) (d9 : Value) (w10 : World) => 
 doCall Tryz.prog (.func (.func 82) #[] #[]) #[.int .u8 o_1, .pointer t_2, .int .i64 key_3] w10 (retS (fun v15 w16 => ∃ (xf12 : Fn), ∃ (xx13 : Array Value), ∃ (xc14 : Array Value), v15 = (.func xf12 xx13 xc14 : Value) ∧ (
 rfW Tryz.prog (.func xf12 xx13 xc14) (mkLoop #[.int .u8 o_1, .pointer t_2, .int .i64 key_3, undef, undef, undef, .int .i64 0, .bool false, .pointer (some keep_4), d5, undef, undef, undef, undef, d6, d7, d8, d9, .int .u8 o_1, .pointer t_2, .int .i64 key_3, .func xf12 xx13 xc14, undef, undef, undef, undef, undef, undef, undef, undef, undef, undef, undef, undef, undef, undef, undef, undef] (rfOf Tryz.f34 0).1 (rfOf Tryz.f34 0).2.1 (rfOf Tryz.f34 0).2.2)
 (fun w17 =>
 doCall Tryz.prog (d5) #[] w17 (retS (fun v19 w20 => ∃ (x18 : Option Addr), v19 = (.pointer x18 : Value) ∧ (
 doCall Tryz.prog (.func (.func 83) #[] #[]) #[.pointer x18] w20 (retS (fun v24 w25 => ∃ (x21 : Int), ∃ (x22 : Int), ∃ (x23 : Bool), v24 = (.tuple #[.agg #[.int .i64 x21, .int .i64 x22], .bool x23] : Value) ∧ (
 doAl (.cells #[.int .i64 0, .int .i64 0] 63) w25 (fun b26 w27 =>
 doSt ((blk b26).add 0) (.int .i64 x21) w27 (fun w28 =>
 doSt ((blk b26).add 1) (.int .i64 x22) w28 (fun w29 =>
 ∃ (x30 : Int), World.cell? w29 ((blk b26).add 1) = some (.int .i64 x30) ∧ (
 w29.heap[w16.heap.size]? = some (.deferred (some [])) ∧ (
 let w31 : World := w29.putObj w16.heap.size (.deferred none)
 R (.returned (.tuple #[.int .i64 x30, .bool x23])) w31))))))) (fun ch w => Kfn R ch [{ target := .collected w16.heap.size, args := #[] }] w)))) (fun ch w => Kfn R ch [{ target := .collected w16.heap.size, args := #[] }] w)))
 (fun w32 =>
 w32.heap[w16.heap.size]? = some (.deferred (some [])) ∧ (
 let w33 : World := w32.putObj w16.heap.size (.deferred none)
 R (.returned (.tuple #[.int .i64 0, .bool false])) w33))
 [] w16)) (fun ch w => Kfn R ch [] w))
 doCall Tryz.prog (.func (.func 81) #[] #[]) #[] w (retS (fun v40 w41 => (∃ (xf34 : Fn), ∃ (xx35 : Array Value), ∃ (xc36 : Array Value), ∃ (xf37 : Fn), ∃ (xx38 : Array Value), ∃ (xc39 : Array Value), v40 = (.tuple #[.func xf34 xx35 xc36, .func xf37 xx38 xc39] : Value) ∧ (
 doAl (.cells #[.nilFunc] 142) w41 (fun b42 w43 =>
 doSt ((blk b42).add 0) (.func xf34 xx35 xc36) w43 (fun w44 =>
 K11 (blk b42) (.func xf37 xx38 xc39 : Value) (.tuple #[.func xf34 xx35 xc36, .func xf37 xx38 xc39] : Value) (.tuple #[.func xf34 xx35 xc36, .func xf37 xx38 xc39] : Value) (.func xf34 xx35 xc36 : Value) (.func xf37 xx38 xc39 : Value) w44)))) ∨ (v40 = (.tuple #[.nilFunc, .nilFunc] : Value) ∧ (
 doAl (.cells #[.nilFunc] 142) w41 (fun b45 w46 =>
 doSt ((blk b45).add 0) (.nilFunc) w46 (fun w47 =>
 K11 (blk b45) (.nilFunc : Value) (.tuple #[.nilFunc, .nilFunc] : Value) (.tuple #[.nilFunc, .nilFunc] : Value) (.nilFunc : Value) (.nilFunc : Value) w47))))) (fun ch w => Kfn R ch [] w))
set_option maxRecDepth 100000 in
theorem sh34_ok (o_1 : Int) (t_2 : Option Addr) (key_3 : Int) {R : Ending → World → Prop} {w : World} : sh34 o_1 t_2 key_3 R w → Calls Tryz.prog 34 #[.int .u8 o_1, .pointer t_2, .int .i64 key_3] w R :=
  Old.calls_of_eq (ann := fun _ => []) (fn := Tryz.f34) (c := bodyOf Tryz.f34) (args := #[.int .u8 o_1, .pointer t_2, .int .i64 key_3]) 400 follows_mixed Tryz.func34 (by kernel_rfl) (by kernel_rfl)
set_option maxRecDepth 100000 in
/-- joinery/find.Get, a round of loop 0 -/
def sh34_0 (keep_1 : Addr) (y39 : Option Addr) (y40 : Int) (l : Nat) (R : Ending → World → Prop) (w : World) : Prop :=
 ∃ (r41 : Loop), w.heap[l]? = some (.loop r41) ∧ r41.state = .ready ∧ (
 let w42 : World := w.putObj l (.loop { r41 with state := .busy })
 ∃ (xf43 : Fn), ∃ (xx44 : Array Value), ∃ (xc45 : Array Value), World.cell? w42 keep_1 = some (.func xf43 xx44 xc45) ∧ (
 doCall Tryz.prog (.func xf43 xx44 xc45) #[.pointer y39, .bool ((y40 : Int) == 0)] w42 (retS (fun v46 w47 => v46 = (.tuple #[] : Value) ∧ (
 ∃ (r48 : Loop), w47.heap[l]? = some (.loop r48) ∧ R (.returned (.bool true)) (w47.putObj l (.loop { r48 with state := .ready, pending := none })))) (fun _ _ => False))))
set_option maxRecDepth 100000 in
theorem sh34_0_ok {dd2 : Value} {dd3 : Value} {dd4 : Value} {dd5 : Value} {dd6 : Value} {dd7 : Value} {dd8 : Value} {dd9 : Value} {dd10 : Value} {dd11 : Value} {dd12 : Value} {dd13 : Value} {dd14 : Value} {dd15 : Value} {dd16 : Value} {dd17 : Value} {dd18 : Value} {dd19 : Value} {dd20 : Value} {dd21 : Value} {dd22 : Value} {dd23 : Value} {dd24 : Value} {dd25 : Value} {dd26 : Value} {dd27 : Value} {dd28 : Value} {dd29 : Value} {dd30 : Value} {dd31 : Value} {dd32 : Value} {dd33 : Value} {dd34 : Value} {dd35 : Value} {dd36 : Value} {dd37 : Value} {dd38 : Value} {keep_1 : Addr} {y39 : Option Addr} {y40 : Int} {l fn D : Nat} {R : Ending → World → Prop} {w : World} (hl : w.heap[l]? = some (.loop (mkLoop #[dd2, dd3, dd4, dd5, dd6, dd7, dd8, dd9, .pointer (some keep_1), dd10, dd11, dd12, dd13, dd14, dd15, dd16, dd17, dd18, dd19, dd20, dd21, dd22, dd23, dd24, dd25, dd26, dd27, dd28, dd29, dd30, dd31, dd32, dd33, dd34, dd35, dd36, dd37, dd38] (rfOf Tryz.f34 0).1 (rfOf Tryz.f34 0).2.1 (rfOf Tryz.f34 0).2.2 fn D))) : sh34_0 keep_1 y39 y40 l R w → doCall Tryz.prog (.func (.yield l) #[] #[]) #[.pointer y39, .int .i64 y40] w R :=
  fun h => ⟨Old.round_of_eq (ann := fun _ => []) 400 follows_mixed hl (by kernel_rfl) (by kernel_rfl) h⟩
set_option maxRecDepth 100000 in
/-- joinery/scheme.Of -/
def sh65 (code_1 : Int) (R : Ending → World → Prop) (w : World) : Prop :=
 doCall Tryz.prog (.func (.func 126) #[] #[]) #[.int .u8 code_1] w (retS (fun v3 w4 => ∃ (x2 : Value), v3 = (x2 : Value) ∧ (
 doEqN Tryz.prog .eql 173 (.tmp 5) (.const (.nilIface)) (x2) (fun b5 =>
 ifB b5 (
 R (.returned (.tuple #[.pointer none, .int .i64 2])) w4) (
 doAl (.cells #[.int .u8 code_1, .int .u32 0, .int .i32 0, .int .u32 0, .string (⟨#[]⟩ : ByteArray), .nilFunc, .nilFunc, .nilFunc, .nilFunc, .nilFunc, .nilFunc, .bool false, .int .u64 0] 198) w4 (fun b6 w7 =>
 R (.returned (.tuple #[.pointer (some (blk b6)), .int .i64 0])) w7))))) (fun ch w => Kfn R ch [] w))
set_option maxRecDepth 100000 in
theorem sh65_ok (code_1 : Int) {R : Ending → World → Prop} {w : World} : sh65 code_1 R w → Calls Tryz.prog 65 #[.int .u8 code_1] w R :=
  Old.calls_of_eq (ann := fun _ => []) (fn := Tryz.f65) (c := bodyOf Tryz.f65) (args := #[.int .u8 code_1]) 400 follows_mixed Tryz.func65 (by kernel_rfl) (by kernel_rfl)
set_option maxRecDepth 100000 in
/-- joinery/joineryref10.SameKeys -/
def sh66 (a_p1 : Option Addr) (a_n2 : Nat) (_a_c3 : Nat) (b_p4 : Option Addr) (b_n5 : Nat) (_b_c6 : Nat) (R : Ending → World → Prop) (w : World) : Prop :=
 ifB ((((a_n2 : Nat) : Int) : Int) != ((b_n5 : Nat) : Int)) (
 R (.returned (.bool false)) w) (
 ∃ (I7 : List Value → World → Prop) (μ8 : List Value → World → Nat), I7 [.int .i64 0] w ∧ (∀ (i_11 : Int), ∀ (_j9 : Nat → Value) (w10 : World), I7 [.int .i64 i_11] w10 → (
 ifB (decide ((i_11 : Int) < ((a_n2 : Nat) : Int))) (
 doDr w10 (fun w13 =>
 ∃ (C12 : World → Prop), C12 w13 ∧ (
 doIx a_p1 a_n2 1 (i_11) (fun a14 =>
 ∃ (x15 : Int), (∀ w, C12 w → World.cell? w a14 = some (.int .i64 x15)) ∧ (
 doIx b_p4 b_n5 1 (i_11) (fun a16 =>
 ∃ (x17 : Int), (∀ w, C12 w → World.cell? w a16 = some (.int .i64 x17)) ∧ (
 ifB ((x15 : Int) != x17) (
 R (.returned (.bool false)) w13) (
 I7 [.int .i64 (IntKind.wrap .i64 (i_11 + 1))] w13 ∧ μ8 [.int .i64 (IntKind.wrap .i64 (i_11 + 1))] w13 < μ8 [.int .i64 i_11] w10)))))))) (
 R (.returned (.bool true)) w10))))
set_option maxRecDepth 100000 in
theorem sh66_ok (a_p1 : Option Addr) (a_n2 : Nat) (a_c3 : Nat) (b_p4 : Option Addr) (b_n5 : Nat) (b_c6 : Nat) {R : Ending → World → Prop} {w : World} : sh66 a_p1 a_n2 a_c3 b_p4 b_n5 b_c6 R w → Calls Tryz.prog 66 #[.slice a_p1 a_n2 a_c3, .slice b_p4 b_n5 b_c6] w R :=
  Old.calls_of_eq (ann := fun i => if i = 0 then [(5, .int .i64 0)] else []) (fn := Tryz.f66) (c := bodyOf Tryz.f66) (args := #[.slice a_p1 a_n2 a_c3, .slice b_p4 b_n5 b_c6]) 400 follows_mixed Tryz.func66 (by kernel_rfl) (by kernel_rfl)
set_option maxRecDepth 100000 in
/-- joinery/canon.Digest -/
def sh67 (t_1 : Option Addr) (R : Ending → World → Prop) (w : World) : Prop :=
 ifB ((t_1).isNone) (
 R (.returned (.int .u64 0)) w) (
 doCall Tryz.prog (.func (.func 128) #[] #[]) #[.pointer t_1] w (retS (fun v3 w4 => ∃ (x2 : Option Addr), v3 = (.pointer x2 : Value) ∧ (
 doCall Tryz.prog (.func (.func 67) #[] #[]) #[.pointer x2] w4 (retS (fun v6 w7 => ∃ (x5 : Int), v6 = (.int .u64 x5 : Value) ∧ (
 doCall Tryz.prog (.func (.func 130) #[] #[]) #[.pointer t_1] w7 (retS (fun v9 w10 => ∃ (x8 : Option Addr), v9 = (.pointer x8 : Value) ∧ (
 doCall Tryz.prog (.func (.func 67) #[] #[]) #[.pointer x8] w10 (retS (fun v12 w13 => ∃ (x11 : Int), v12 = (.int .u64 x11 : Value) ∧ (
 doCall Tryz.prog (.func (.func 129) #[] #[]) #[.int .u64 x11, .int .i64 17] w13 (retS (fun v15 w16 => ∃ (x14 : Int), v15 = (.int .u64 x14 : Value) ∧ (
 doCall Tryz.prog (.func (.func 131) #[] #[]) #[.pointer t_1] w16 (retS (fun v18 w19 => ∃ (x17 : Int), v18 = (.int .i64 x17 : Value) ∧ (
 doCall Tryz.prog (.func (.func 127) #[] #[]) #[.int .u64 (IntKind.wrap .u64 x17)] w19 (retS (fun v21 w22 => ∃ (x20 : Int), v21 = (.int .u64 x20 : Value) ∧ (
 doCall Tryz.prog (.func (.func 132) #[] #[]) #[.pointer t_1] w22 (retS (fun v24 w25 => ∃ (x23 : Int), v24 = (.int .i64 x23 : Value) ∧ (
 doCall Tryz.prog (.func (.func 127) #[] #[]) #[.int .u64 (IntKind.wrap .u64 x23)] w25 (retS (fun v27 w28 => ∃ (x26 : Int), v27 = (.int .u64 x26 : Value) ∧ (
 doCall Tryz.prog (.func (.func 129) #[] #[]) #[.int .u64 x26, .int .i64 31] w28 (retS (fun v30 w31 => ∃ (x29 : Int), v30 = (.int .u64 x29 : Value) ∧ (
 doCall Tryz.prog (.func (.func 127) #[] #[]) #[.int .u64 (IntKind.wrap .u64 ((IntKind.wrap .u64 ((IntKind.wrap .u64 ((IntKind.wrap .u64 (1 + x5)) + x14)) + x20)) + x29))] w31 (retS (fun v33 w34 => ∃ (x32 : Int), v33 = (.int .u64 x32 : Value) ∧ (
 R (.returned (.int .u64 x32)) w34)) (fun ch w => Kfn R ch [] w)))) (fun ch w => Kfn R ch [] w)))) (fun ch w => Kfn R ch [] w)))) (fun ch w => Kfn R ch [] w)))) (fun ch w => Kfn R ch [] w)))) (fun ch w => Kfn R ch [] w)))) (fun ch w => Kfn R ch [] w)))) (fun ch w => Kfn R ch [] w)))) (fun ch w => Kfn R ch [] w)))) (fun ch w => Kfn R ch [] w)))) (fun ch w => Kfn R ch [] w)))
set_option maxRecDepth 100000 in
theorem sh67_ok (t_1 : Option Addr) {R : Ending → World → Prop} {w : World} : sh67 t_1 R w → Calls Tryz.prog 67 #[.pointer t_1] w R :=
  Old.calls_of_eq (ann := fun _ => []) (fn := Tryz.f67) (c := bodyOf Tryz.f67) (args := #[.pointer t_1]) 400 follows_mixed Tryz.func67 (by kernel_rfl) (by kernel_rfl)
set_option maxRecDepth 100000 in
/-- joinery/canon.Is -/
def sh68 (o_1 : Int) (t_2 : Option Addr) (R : Ending → World → Prop) (w : World) : Prop :=
 doCall Tryz.prog (.func (.func 133) #[] #[]) #[.int .u8 o_1, .pointer t_2] w (retS (fun v5 w6 => ∃ (x3 : Int), ∃ (x4 : Int), v5 = (.tuple #[.int .i64 x3, .int .i64 x4] : Value) ∧ (
 let K9 : Bool → World → Prop := fun (x7 : Bool) (w8 : World) => 
 R (.returned (.bool x7)) w8
 ifB ((x4 : Int) == 0) (
 doCall Tryz.prog (.func (.func 134) #[] #[]) #[.pointer t_2] w6 (retS (fun v11 w12 => ∃ (x10 : Bool), v11 = (.bool x10 : Value) ∧ (
 ifB x10 (
 doCall Tryz.prog (.func (.func 135) #[] #[]) #[.pointer t_2] w12 (retS (fun v14 w15 => ∃ (x13 : Bool), v14 = (.bool x13 : Value) ∧ (
 K9 x13 w15)) (fun ch w => Kfn R ch [] w))) (
 R (.returned (.bool false)) w12))) (fun ch w => Kfn R ch [] w))) (
 R (.returned (.bool false)) w6))) (fun ch w => Kfn R ch [] w))
set_option maxRecDepth 100000 in
theorem sh68_ok (o_1 : Int) (t_2 : Option Addr) {R : Ending → World → Prop} {w : World} : sh68 o_1 t_2 R w → Calls Tryz.prog 68 #[.int .u8 o_1, .pointer t_2] w R :=
  Old.calls_of_eq (ann := fun _ => []) (fn := Tryz.f68) (c := bodyOf Tryz.f68) (args := #[.int .u8 o_1, .pointer t_2]) 400 follows_mixed Tryz.func68 (by kernel_rfl) (by kernel_rfl)
set_option maxRecDepth 100000 in
/-- joinery/canon.Same -/
def sh69 (a_1 : Option Addr) (b_2 : Option Addr) (R : Ending → World → Prop) (w : World) : Prop :=
 doCall Tryz.prog (.func (.func 136) #[] #[]) #[.pointer a_1, .pointer b_2] w (retS (fun v4 w5 => ∃ (x3 : Bool), v4 = (.bool x3 : Value) ∧ (
 R (.returned (.bool x3)) w5)) (fun ch w => Kfn R ch [] w))
set_option maxRecDepth 100000 in
theorem sh69_ok (a_1 : Option Addr) (b_2 : Option Addr) {R : Ending → World → Prop} {w : World} : sh69 a_1 b_2 R w → Calls Tryz.prog 69 #[.pointer a_1, .pointer b_2] w R :=
  Old.calls_of_eq (ann := fun _ => []) (fn := Tryz.f69) (c := bodyOf Tryz.f69) (args := #[.pointer a_1, .pointer b_2]) 400 follows_mixed Tryz.func69 (by kernel_rfl) (by kernel_rfl)
set_option maxRecDepth 100000 in
/-- joinery/build.Of -/
def sh70 (s_1 : Option Addr) (o_2 : Int) (p_3 : Int) (d_4 : Option Addr) (l_p5 : Option Addr) (l_n6 : Nat) (l_c7 : Nat) (R : Ending → World → Prop) (w : World) : Prop :=
 doCall Tryz.prog (.func (.func 137) #[] #[]) #[.int .u8 o_2, .int .u8 p_3, .slice l_p5 l_n6 l_c7] w (retS (fun v12 w13 => ∃ (xp8 : Option Addr), ∃ (xn9 : Nat), ∃ (xc10 : Nat), ∃ (x11 : Int), v12 = (.tuple #[.slice xp8 xn9 xc10, .int .i64 x11] : Value) ∧ (
 ifB ((x11 : Int) != 0) (
 R (.returned (.tuple #[.pointer none, .int .i64 x11])) w13) (
 doCall Tryz.prog (.func (.func 138) #[] #[]) #[.pointer s_1, .int .u8 o_2, .pointer d_4, .slice xp8 xn9 xc10] w13 (retS (fun v16 w17 => ∃ (x14 : Option Addr), ∃ (x15 : Int), v16 = (.tuple #[.pointer x14, .int .i64 x15] : Value) ∧ (
 R (.returned (.tuple #[.pointer x14, .int .i64 x15])) w17)) (fun ch w => Kfn R ch [] w))))) (fun ch w => Kfn R ch [] w))
set_option maxRecDepth 100000 in
theorem sh70_ok (s_1 : Option Addr) (o_2 : Int) (p_3 : Int) (d_4 : Option Addr) (l_p5 : Option Addr) (l_n6 : Nat) (l_c7 : Nat) {R : Ending → World → Prop} {w : World} : sh70 s_1 o_2 p_3 d_4 l_p5 l_n6 l_c7 R w → Calls Tryz.prog 70 #[.pointer s_1, .int .u8 o_2, .int .u8 p_3, .pointer d_4, .slice l_p5 l_n6 l_c7] w R :=
  Old.calls_of_eq (ann := fun _ => []) (fn := Tryz.f70) (c := bodyOf Tryz.f70) (args := #[.pointer s_1, .int .u8 o_2, .int .u8 p_3, .pointer d_4, .slice l_p5 l_n6 l_c7]) 400 follows_mixed Tryz.func70 (by kernel_rfl) (by kernel_rfl)
end Go.Proofs.YtlfjaogbehpleaaGreat

