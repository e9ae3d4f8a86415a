/-
  Printed by a program (gen.py): what the functions of the program do, as formulas; each with the proof that its call is what the formula says.
-/
/-
  Printed by a program (gen.py): what the functions of the program do, as formulas; each with the proof that its call is what the formula says.
-/
/-
  Printed by a program (gen.py): what the functions of the program do, as formulas; each with the proof that its call is what the formula says.
-/
import Derived.Test.YtlddfgfmkapoiaaGreatZ02
import Derived.Test.YtlddfgfmkapoiaaGreatProg

namespace Go.Proofs.YtlddfgfmkapoiaaGreat
open Go Go.Sh
theorem follows_mixed : Tryz.prog.follows .mixedOrders = true := by kernel_rfl
set_option maxRecDepth 100000 in
/-- joinery/joinerylaw22.Of -/
def sh15 (code_1 : Int) (R : Ending → World → Prop) (w : World) : Prop :=
 doCall Tryz.prog (.func (.func 92) #[] #[]) #[.int .u8 code_1] w (retS (fun v4 w5 => ∃ (x2 : Option Addr), ∃ (x3 : Int), v4 = (.tuple #[.pointer x2, .int .i64 x3] : Value) ∧ (
 let K8 : Bool → World → Prop := fun (x6 : Bool) (w7 : World) => 
 R (.returned (.tuple #[.pointer x2, .bool x6])) w7
 ifB ((x3 : Int) == 0) (
 K8 (!(x2).isNone) w5) (
 R (.returned (.tuple #[.pointer x2, .bool false])) w5))) (fun ch w => Kfn R ch [] w))
set_option maxRecDepth 100000 in
theorem sh15_ok (code_1 : Int) {R : Ending → World → Prop} {w : World} : sh15 code_1 R w → Calls Tryz.prog 15 #[.int .u8 code_1] w R :=
  calls_of_eq (ann := fun _ => []) (fn := Tryz.f15) (c := bodyOf Tryz.f15) (args := #[.int .u8 code_1]) 400 follows_mixed Tryz.func15 (by kernel_rfl) (by kernel_rfl)
set_option maxRecDepth 100000 in
/-- joinery/joineryref02.Is -/
def sh16 (o_1 : Int) (R : Ending → World → Prop) (w : World) : Prop :=
 let K4 : Bool → World → Prop := fun (x2 : Bool) (w3 : World) => 
 R (.returned (.bool x2)) w3
 ifB (decide ((o_1 : Int) ≥ 1)) (
 K4 (decide ((o_1 : Int) ≤ 7)) w) (
 R (.returned (.bool false)) w)
set_option maxRecDepth 100000 in
theorem sh16_ok (o_1 : Int) {R : Ending → World → Prop} {w : World} : sh16 o_1 R w → Calls Tryz.prog 16 #[.int .u8 o_1] w R :=
  calls_of_eq (ann := fun _ => []) (fn := Tryz.f16) (c := bodyOf Tryz.f16) (args := #[.int .u8 o_1]) 400 follows_mixed Tryz.func16 (by kernel_rfl) (by kernel_rfl)
set_option maxRecDepth 100000 in
/-- joinery/joineryref03.May -/
def sh17 (p_1 : Int) (R : Ending → World → Prop) (w : World) : Prop :=
 let K4 : Bool → World → Prop := fun (x2 : Bool) (w3 : World) => 
 R (.returned (.bool x2)) w3
 ifB ((p_1 : Int) == 1) (
 R (.returned (.bool true)) w) (
 ifB ((p_1 : Int) == 2) (
 R (.returned (.bool true)) w) (
 K4 ((p_1 : Int) == 3) w))
set_option maxRecDepth 100000 in
theorem sh17_ok (p_1 : Int) {R : Ending → World → Prop} {w : World} : sh17 p_1 R w → Calls Tryz.prog 17 #[.int .u8 p_1] w R :=
  calls_of_eq (ann := fun _ => []) (fn := Tryz.f17) (c := bodyOf Tryz.f17) (args := #[.int .u8 p_1]) 400 follows_mixed Tryz.func17 (by kernel_rfl) (by kernel_rfl)
set_option maxRecDepth 100000 in
/-- joinery/joineryref22.Is -/
def sh18 (code_1 : Int) (R : Ending → World → Prop) (w : World) : Prop :=
 let K4 : Bool → World → Prop := fun (x2 : Bool) (w3 : World) => 
 R (.returned (.bool x2)) w3
 ifB (decide ((code_1 : Int) ≥ 1)) (
 K4 (decide ((code_1 : Int) ≤ 4)) w) (
 R (.returned (.bool false)) w)
set_option maxRecDepth 100000 in
theorem sh18_ok (code_1 : Int) {R : Ending → World → Prop} {w : World} : sh18 code_1 R w → Calls Tryz.prog 18 #[.int .u8 code_1] w R :=
  calls_of_eq (ann := fun _ => []) (fn := Tryz.f18) (c := bodyOf Tryz.f18) (args := #[.int .u8 code_1]) 400 follows_mixed Tryz.func18 (by kernel_rfl) (by kernel_rfl)
set_option maxRecDepth 100000 in
/-- joinery/joinerylaw27.alive -/
def sh20  (R : Ending → World → Prop) (w : World) : Prop :=
 doCall Tryz.prog (.func (.func 15) #[] #[]) #[.int .u8 3] w (retS (fun v3 w4 => ∃ (x1 : Option Addr), ∃ (x2 : Bool), v3 = (.tuple #[.pointer x1, .bool x2] : Value) ∧ (
 ifB (!x2) (
 R (.returned (.bool false)) w4) (
 doAl (.cells #[.int .i64 2, .int .i64 20, .int .i64 1, .int .i64 10, .int .i64 2, .int .i64 5] 46) w4 (fun b5 w6 =>
 doCall Tryz.prog (.func (.func 23) #[] #[]) #[.pointer x1, .int .u8 1, .int .u8 3, .pointer none, .slice (some (blk b5)) 3 3] w6 (retS (fun v9 w10 => ∃ (x7 : Option Addr), ∃ (x8 : Int), v9 = (.tuple #[.pointer x7, .int .i64 x8] : Value) ∧ (
 doAl (.cells #[.int .i64 2, .int .i64 0, .int .i64 1, .int .i64 0] 46) w10 (fun b11 w12 =>
 doCall Tryz.prog (.func (.func 32) #[] #[]) #[.pointer x1, .int .u8 1, .pointer none, .slice (some (blk b11)) 2 2] w12 (retS (fun v15 w16 => ∃ (x13 : Option Addr), ∃ (x14 : Int), v15 = (.tuple #[.pointer x13, .int .i64 x14] : Value) ∧ (
 let K19 : Bool → World → Prop := fun (x17 : Bool) (w18 : World) => 
 R (.returned (.bool x17)) w18
 ifB ((x8 : Int) == 0) (
 ifB ((x14 : Int) == 2) (
 doAl (.cells #[.int .i64 1, .int .i64 10, .int .u64 0, .int .i64 2, .int .i64 25, .int .u64 0] 114) w16 (fun b20 w21 =>
 doCall Tryz.prog (.func (.func 27) #[] #[]) #[.int .u8 3, .pointer x7, .slice (some (blk b20)) 2 2] w21 (retS (fun v23 w24 => ∃ (x22 : Bool), v23 = (.bool x22 : Value) ∧ (
 K19 x22 w24)) (fun ch w => Kfn R ch [] w)))) (
 R (.returned (.bool false)) w16)) (
 R (.returned (.bool false)) w16))) (fun ch w => Kfn R ch [] w))))) (fun ch w => Kfn R ch [] w)))))) (fun ch w => Kfn R ch [] w))
set_option maxRecDepth 100000 in
theorem sh20_ok  {R : Ending → World → Prop} {w : World} : sh20  R w → Calls Tryz.prog 20 #[] w R :=
  calls_of_eq (ann := fun _ => []) (fn := Tryz.f20) (c := bodyOf Tryz.f20) (args := #[]) 400 follows_mixed Tryz.func20 (by kernel_rfl) (by kernel_rfl)
set_option maxRecDepth 100000 in
/-- joinery/joineryref08.New -/
def sh22 (l_p1 : Option Addr) (l_n2 : Nat) (l_c3 : Nat) (R : Ending → World → Prop) (w : World) : Prop :=
 doGo Tryz.prog (.builtin .append #[23, 23] 23 #[true, false]) #[.slice none 0 0, .slice l_p1 l_n2 l_c3] w (retS (fun v7 w8 => ∃ (xp4 : Option Addr), ∃ (xn5 : Nat), ∃ (xc6 : Nat), v7 = (.slice xp4 xn5 xc6 : Value) ∧ (
 doAl (.cells #[.slice xp4 xn5 xc6] 128) w8 (fun b9 w10 =>
 R (.returned (.pointer (some (blk b9)))) w10))) (fun ch w => Kfn R ch [] w))
set_option maxRecDepth 100000 in
theorem sh22_ok (l_p1 : Option Addr) (l_n2 : Nat) (l_c3 : Nat) {R : Ending → World → Prop} {w : World} : sh22 l_p1 l_n2 l_c3 R w → Calls Tryz.prog 22 #[.slice l_p1 l_n2 l_c3] w R :=
  calls_of_eq (ann := fun _ => []) (fn := Tryz.f22) (c := bodyOf Tryz.f22) (args := #[.slice l_p1 l_n2 l_c3]) 400 follows_mixed Tryz.func22 (by kernel_rfl) (by kernel_rfl)
set_option maxRecDepth 100000 in
/-- joinery/build.Of -/
def sh23 (s_1 : Option Addr) (o_2 : Int) (p_3 : Int) (d_4 : Option Addr) (l_p5 : Option Addr) (l_n6 : Nat) (l_c7 : Nat) (R : Ending → World → Prop) (w : World) : Prop :=
 doCall Tryz.prog (.func (.func 95) #[] #[]) #[.int .u8 o_2, .int .u8 p_3, .slice l_p5 l_n6 l_c7] w (retS (fun v12 w13 => ∃ (xp8 : Option Addr), ∃ (xn9 : Nat), ∃ (xc10 : Nat), ∃ (x11 : Int), v12 = (.tuple #[.slice xp8 xn9 xc10, .int .i64 x11] : Value) ∧ (
 ifB ((x11 : Int) != 0) (
 R (.returned (.tuple #[.pointer none, .int .i64 x11])) w13) (
 doCall Tryz.prog (.func (.func 32) #[] #[]) #[.pointer s_1, .int .u8 o_2, .pointer d_4, .slice xp8 xn9 xc10] w13 (retS (fun v16 w17 => ∃ (x14 : Option Addr), ∃ (x15 : Int), v16 = (.tuple #[.pointer x14, .int .i64 x15] : Value) ∧ (
 R (.returned (.tuple #[.pointer x14, .int .i64 x15])) w17)) (fun ch w => Kfn R ch [] w))))) (fun ch w => Kfn R ch [] w))
set_option maxRecDepth 100000 in
theorem sh23_ok (s_1 : Option Addr) (o_2 : Int) (p_3 : Int) (d_4 : Option Addr) (l_p5 : Option Addr) (l_n6 : Nat) (l_c7 : Nat) {R : Ending → World → Prop} {w : World} : sh23 s_1 o_2 p_3 d_4 l_p5 l_n6 l_c7 R w → Calls Tryz.prog 23 #[.pointer s_1, .int .u8 o_2, .int .u8 p_3, .pointer d_4, .slice l_p5 l_n6 l_c7] w R :=
  calls_of_eq (ann := fun _ => []) (fn := Tryz.f23) (c := bodyOf Tryz.f23) (args := #[.pointer s_1, .int .u8 o_2, .int .u8 p_3, .pointer d_4, .slice l_p5 l_n6 l_c7]) 400 follows_mixed Tryz.func23 (by kernel_rfl) (by kernel_rfl)
set_option maxRecDepth 100000 in
/-- joinery/joinerylaw23.Has -/
def sh27 (code_1 : Int) (t_2 : Option Addr) (l_p3 : Option Addr) (l_n4 : Nat) (l_c5 : Nat) (R : Ending → World → Prop) (w : World) : Prop :=
 doCall Tryz.prog (.func (.func 97) #[] #[]) #[.pointer t_2] w (retS (fun v10 w11 => ∃ (xp6 : Option Addr), ∃ (xn7 : Nat), ∃ (xc8 : Nat), ∃ (x9 : Bool), v10 = (.tuple #[.slice xp6 xn7 xc8, .bool x9] : Value) ∧ (
 let K14 : Bool → World → Prop := fun (x12 : Bool) (w13 : World) => 
 R (.returned (.bool x12)) w13
 ifB x9 (
 doCall Tryz.prog (.func (.func 98) #[] #[]) #[.int .u8 code_1, .slice xp6 xn7 xc8, .slice l_p3 l_n4 l_c5] w11 (retS (fun v16 w17 => ∃ (x15 : Bool), v16 = (.bool x15 : Value) ∧ (
 K14 x15 w17)) (fun ch w => Kfn R ch [] w))) (
 R (.returned (.bool false)) w11))) (fun ch w => Kfn R ch [] w))
set_option maxRecDepth 100000 in
theorem sh27_ok (code_1 : Int) (t_2 : Option Addr) (l_p3 : Option Addr) (l_n4 : Nat) (l_c5 : Nat) {R : Ending → World → Prop} {w : World} : sh27 code_1 t_2 l_p3 l_n4 l_c5 R w → Calls Tryz.prog 27 #[.int .u8 code_1, .pointer t_2, .slice l_p3 l_n4 l_c5] w R :=
  calls_of_eq (ann := fun _ => []) (fn := Tryz.f27) (c := bodyOf Tryz.f27) (args := #[.int .u8 code_1, .pointer t_2, .slice l_p3 l_n4 l_c5]) 400 follows_mixed Tryz.func27 (by kernel_rfl) (by kernel_rfl)
set_option maxRecDepth 100000 in
/-- joinery/joineryref10.Turned -/
def sh28 (l_p1 : Option Addr) (l_n2 : Nat) (_l_c3 : Nat) (R : Ending → World → Prop) (w : World) : Prop :=
 ∃ (I4 : List Value → World → Prop) (μ5 : List Value → World → Nat), I4 [.slice none 0 0, .int .i64 (IntKind.wrap .i64 (((l_n2 : Nat) : Int) - 1))] w ∧ (∀ (out_p8 : Option Addr), ∀ (out_n9 : Nat), ∀ (out_c10 : Nat), ∀ (i_11 : Int), ∀ (_j6 : Nat → Value) (w7 : World), I4 [.slice out_p8 out_n9 out_c10, .int .i64 i_11] w7 → (
 ifB (decide ((i_11 : Int) ≥ 0)) (
 doIx l_p1 l_n2 2 (i_11) (fun a12 =>
 ∃ (x13 : Int), World.cell? w7 (a12.add 0) = some (.int .i64 x13) ∧ (
 ∃ (x14 : Int), World.cell? w7 (a12.add 1) = some (.int .i64 x14) ∧ (
 doAl (.cells #[.int .i64 x13, .int .i64 x14] 46) w7 (fun b15 w16 =>
 doGo Tryz.prog (.builtin .append #[22, 22] 22 #[false, false]) #[.slice out_p8 out_n9 out_c10, .slice (some (blk b15)) 1 1] w16 (retS (fun v20 w21 => ∃ (xp17 : Option Addr), ∃ (xn18 : Nat), ∃ (xc19 : Nat), v20 = (.slice xp17 xn18 xc19 : Value) ∧ (
 I4 [.slice xp17 xn18 xc19, .int .i64 (IntKind.wrap .i64 (i_11 - 1))] w21 ∧ μ5 [.slice xp17 xn18 xc19, .int .i64 (IntKind.wrap .i64 (i_11 - 1))] w21 < μ5 [.slice out_p8 out_n9 out_c10, .int .i64 i_11] w7)) (fun ch w => Kfn R ch [] w))))))) (
 R (.returned (.slice out_p8 out_n9 out_c10)) w7)))
set_option maxRecDepth 100000 in
theorem sh28_ok (l_p1 : Option Addr) (l_n2 : Nat) (l_c3 : Nat) {R : Ending → World → Prop} {w : World} : sh28 l_p1 l_n2 l_c3 R w → Calls Tryz.prog 28 #[.slice l_p1 l_n2 l_c3] w R :=
  calls_of_eq (ann := fun i => if i = 0 then [(3, .slice none 0 0), (4, .int .i64 0)] else []) (fn := Tryz.f28) (c := bodyOf Tryz.f28) (args := #[.slice l_p1 l_n2 l_c3]) 400 follows_mixed Tryz.func28 (by kernel_rfl) (by kernel_rfl)
set_option maxRecDepth 100000 in
/-- joinery/look.Pairs -/
def sh29 (t_1 : Option Addr) (R : Ending → World → Prop) (w : World) : Prop :=
 doAl (.cells #[.slice none 0 0] 22) w (fun b2 w3 =>
 doCall Tryz.prog (.func (.func 99) #[] #[]) #[.pointer t_1] w3 (retS (fun v7 w8 => ∃ (xf4 : Fn), ∃ (xx5 : Array Value), ∃ (xc6 : Array Value), v7 = (.func xf4 xx5 xc6 : Value) ∧ (
 rfW Tryz.prog (.func xf4 xx5 xc6) (mkLoop #[.pointer t_1, undef, .pointer (some (blk b2)), undef, undef, .pointer t_1, .func xf4 xx5 xc6, undef, undef, undef, undef, undef, undef, undef, undef, undef] (rfOf Tryz.f29 0).1 (rfOf Tryz.f29 0).2.1 (rfOf Tryz.f29 0).2.2)
 (fun w9 =>
 ∃ (xp10 : Option Addr), ∃ (xn11 : Nat), ∃ (xc12 : Nat), World.cell? w9 (blk b2) = some (.slice xp10 xn11 xc12) ∧ (
 doSt ((blk b2).add 0) (.slice xp10 xn11 xc12) w9 (fun w13 =>
 w13.heap[w8.heap.size]? = some (.deferred (some [])) ∧ (
 let w14 : World := w13.putObj w8.heap.size (.deferred none)
 ∃ (xp15 : Option Addr), ∃ (xn16 : Nat), ∃ (xc17 : Nat), World.cell? w14 (blk b2) = some (.slice xp15 xn16 xc17) ∧ (
 R (.returned (.slice xp15 xn16 xc17)) w14)))))
 (fun w18 =>
 w18.heap[w8.heap.size]? = some (.deferred (some [])) ∧ (
 let w19 : World := w18.putObj w8.heap.size (.deferred none)
 ∃ (xp20 : Option Addr), ∃ (xn21 : Nat), ∃ (xc22 : Nat), World.cell? w19 (blk b2) = some (.slice xp20 xn21 xc22) ∧ (
 R (.returned (.slice xp20 xn21 xc22)) w19)))
 [] w8)) (fun ch w => Kfn R ch [] w)))
set_option maxRecDepth 100000 in
theorem sh29_ok (t_1 : Option Addr) {R : Ending → World → Prop} {w : World} : sh29 t_1 R w → Calls Tryz.prog 29 #[.pointer t_1] w R :=
  calls_of_eq (ann := fun _ => []) (fn := Tryz.f29) (c := bodyOf Tryz.f29) (args := #[.pointer t_1]) 400 follows_mixed Tryz.func29 (by kernel_rfl) (by kernel_rfl)
set_option maxRecDepth 100000 in
/-- joinery/look.Pairs, a round of loop 0 -/
def sh29_0 (l_1 : Addr) (y17 : Int) (y18 : Int) (l : Nat) (R : Ending → World → Prop) (w : World) : Prop :=
 ∃ (r19 : Loop), w.heap[l]? = some (.loop r19) ∧ r19.state = .ready ∧ (
 let w20 : World := w.putObj l (.loop { r19 with state := .busy })
 ∃ (xp21 : Option Addr), ∃ (xn22 : Nat), ∃ (xc23 : Nat), World.cell? w20 l_1 = some (.slice xp21 xn22 xc23) ∧ (
 doAl (.cells #[.int .i64 y17, .int .i64 y18] 46) w20 (fun b24 w25 =>
 doGo Tryz.prog (.builtin .append #[22, 22] 22 #[false, false]) #[.slice xp21 xn22 xc23, .slice (some (blk b24)) 1 1] w25 (retS (fun v29 w30 => ∃ (xp26 : Option Addr), ∃ (xn27 : Nat), ∃ (xc28 : Nat), v29 = (.slice xp26 xn27 xc28 : Value) ∧ (
 doSt (l_1.add 0) (.slice xp26 xn27 xc28) w30 (fun w31 =>
 ∃ (r32 : Loop), w31.heap[l]? = some (.loop r32) ∧ R (.returned (.bool true)) (w31.putObj l (.loop { r32 with state := .ready, pending := none }))))) (fun _ _ => False)))))
set_option maxRecDepth 100000 in
theorem sh29_0_ok {dd2 : Value} {dd3 : Value} {dd4 : Value} {dd5 : Value} {dd6 : Value} {dd7 : Value} {dd8 : Value} {dd9 : Value} {dd10 : Value} {dd11 : Value} {dd12 : Value} {dd13 : Value} {dd14 : Value} {dd15 : Value} {dd16 : Value} {l_1 : Addr} {y17 : Int} {y18 : Int} {l fn D : Nat} {R : Ending → World → Prop} {w : World} (hl : w.heap[l]? = some (.loop (mkLoop #[dd2, dd3, .pointer (some l_1), dd4, dd5, dd6, dd7, dd8, dd9, dd10, dd11, dd12, dd13, dd14, dd15, dd16] (rfOf Tryz.f29 0).1 (rfOf Tryz.f29 0).2.1 (rfOf Tryz.f29 0).2.2 fn D))) : sh29_0 l_1 y17 y18 l R w → doCall Tryz.prog (.func (.yield l) #[] #[]) #[.int .i64 y17, .int .i64 y18] w R :=
  fun h => ⟨round_of_eq (ann := fun _ => []) 400 follows_mixed hl (by kernel_rfl) (by kernel_rfl) h⟩
set_option maxRecDepth 100000 in
/-- joinery/joineryref04.May -/
def sh30 (o_1 : Int) (l_p2 : Option Addr) (l_n3 : Nat) (_l_c4 : Nat) (R : Ending → World → Prop) (w : World) : Prop :=
 ∃ (I5 : List Value → World → Prop) (μ6 : List Value → World → Nat), I5 [.int .i64 1] w ∧ (∀ (i_9 : Int), ∀ (_j7 : Nat → Value) (w8 : World), I5 [.int .i64 i_9] w8 → (
 ifB (decide ((i_9 : Int) < ((l_n3 : Nat) : Int))) (
 doDr w8 (fun w11 =>
 ∃ (C10 : World → Prop), C10 w11 ∧ (
 doIx l_p2 l_n3 2 (IntKind.wrap .i64 (i_9 - 1)) (fun a12 =>
 ∃ (x13 : Int), (∀ w, C10 w → World.cell? w (a12.add 0) = some (.int .i64 x13)) ∧ (
 doIx l_p2 l_n3 2 (i_9) (fun a14 =>
 ∃ (x15 : Int), (∀ w, C10 w → World.cell? w (a14.add 0) = some (.int .i64 x15)) ∧ (
 doCall Tryz.prog (.func (.func 100) #[] #[]) #[.int .u8 o_1, .int .i64 x13, .int .i64 x15] w11 (retS (fun v17 w18 => ∃ (x16 : Bool), v17 = (.bool x16 : Value) ∧ (
 ifB (!x16) (
 R (.returned (.bool false)) w18) (
 I5 [.int .i64 (IntKind.wrap .i64 (i_9 + 1))] w18 ∧ μ6 [.int .i64 (IntKind.wrap .i64 (i_9 + 1))] w18 < μ6 [.int .i64 i_9] w8))) (fun ch w => Kfn R ch [] w))))))))) (
 doCall Tryz.prog (.func (.func 16) #[] #[]) #[.int .u8 o_1] w8 (retS (fun v20 w21 => ∃ (x19 : Bool), v20 = (.bool x19 : Value) ∧ (
 R (.returned (.bool x19)) w21)) (fun ch w => Kfn R ch [] w)))))
set_option maxRecDepth 100000 in
theorem sh30_ok (o_1 : Int) (l_p2 : Option Addr) (l_n3 : Nat) (l_c4 : Nat) {R : Ending → World → Prop} {w : World} : sh30 o_1 l_p2 l_n3 l_c4 R w → Calls Tryz.prog 30 #[.int .u8 o_1, .slice l_p2 l_n3 l_c4] w R :=
  calls_of_eq (ann := fun i => if i = 0 then [(5, .int .i64 0)] else []) (fn := Tryz.f30) (c := bodyOf Tryz.f30) (args := #[.int .u8 o_1, .slice l_p2 l_n3 l_c4]) 400 follows_mixed Tryz.func30 (by kernel_rfl) (by kernel_rfl)
set_option maxRecDepth 100000 in
/-- joinery/joineryref09.SamePairs -/
def sh31 (a_p1 : Option Addr) (a_n2 : Nat) (_a_c3 : Nat) (b_p4 : Option Addr) (b_n5 : Nat) (_b_c6 : Nat) (R : Ending → World → Prop) (w : World) : Prop :=
 ifB ((((a_n2 : Nat) : Int) : Int) != ((b_n5 : Nat) : Int)) (
 R (.returned (.bool false)) w) (
 ∃ (I7 : List Value → World → Prop) (μ8 : List Value → World → Nat), I7 [.int .i64 0] w ∧ (∀ (i_11 : Int), ∀ (_j9 : Nat → Value) (w10 : World), I7 [.int .i64 i_11] w10 → (
 ifB (decide ((i_11 : Int) < ((a_n2 : Nat) : Int))) (
 doDr w10 (fun w13 =>
 ∃ (C12 : World → Prop), C12 w13 ∧ (
 doIx a_p1 a_n2 2 (i_11) (fun a14 =>
 ∃ (x15 : Int), (∀ w, C12 w → World.cell? w (a14.add 0) = some (.int .i64 x15)) ∧ (
 ∃ (x16 : Int), (∀ w, C12 w → World.cell? w (a14.add 1) = some (.int .i64 x16)) ∧ (
 doIx b_p4 b_n5 2 (i_11) (fun a17 =>
 ∃ (x18 : Int), (∀ w, C12 w → World.cell? w (a17.add 0) = some (.int .i64 x18)) ∧ (
 ∃ (x19 : Int), (∀ w, C12 w → World.cell? w (a17.add 1) = some (.int .i64 x19)) ∧ (
 ifB (!(((x15 : Int) == x18) && (((x16 : Int) == x19) && true))) (
 R (.returned (.bool false)) w13) (
 I7 [.int .i64 (IntKind.wrap .i64 (i_11 + 1))] w13 ∧ μ8 [.int .i64 (IntKind.wrap .i64 (i_11 + 1))] w13 < μ8 [.int .i64 i_11] w10)))))))))) (
 R (.returned (.bool true)) w10))))
set_option maxRecDepth 100000 in
theorem sh31_ok (a_p1 : Option Addr) (a_n2 : Nat) (a_c3 : Nat) (b_p4 : Option Addr) (b_n5 : Nat) (b_c6 : Nat) {R : Ending → World → Prop} {w : World} : sh31 a_p1 a_n2 a_c3 b_p4 b_n5 b_c6 R w → Calls Tryz.prog 31 #[.slice a_p1 a_n2 a_c3, .slice b_p4 b_n5 b_c6] w R :=
  calls_of_eq (ann := fun i => if i = 0 then [(5, .int .i64 0)] else []) (fn := Tryz.f31) (c := bodyOf Tryz.f31) (args := #[.slice a_p1 a_n2 a_c3, .slice b_p4 b_n5 b_c6]) 400 follows_mixed Tryz.func31 (by kernel_rfl) (by kernel_rfl)
set_option maxRecDepth 100000 in
/-- joinery/build.Row -/
def sh32 (s_1 : Option Addr) (o_2 : Int) (d_3 : Option Addr) (l_p4 : Option Addr) (l_n5 : Nat) (l_c6 : Nat) (R : Ending → World → Prop) (w : World) : Prop :=
 let K13 : Bool → Value → Value → Value → Value → World → Prop := fun (x7 : Bool) (d8 : Value) (d9 : Value) (d10 : Value) (d11 : Value) (w12 : World) => 
 doAl (.cells #[.slice none 0 0] 40) w12 (fun b14 w15 =>
 doCall Tryz.prog (.func (.func 102) #[] #[]) #[.pointer s_1, .pointer d_3, .slice l_p4 l_n5 l_c6] w15 (retS (fun v19 w20 => ∃ (xf16 : Fn), ∃ (xx17 : Array Value), ∃ (xc18 : Array Value), v19 = (.func xf16 xx17 xc18 : Value) ∧ (
 rfW Tryz.prog (.func xf16 xx17 xc18) (mkLoop #[.pointer s_1, .int .u8 o_2, .pointer d_3, .slice l_p4 l_n5 l_c6, undef, undef, undef, undef, .pointer none, .int .i64 0, .pointer (some (blk b14)), undef, .pointer s_1, .bool ((s_1).isNone), .bool x7, d8, d9, d10, d11, .bool false, .pointer s_1, .pointer d_3, .slice l_p4 l_n5 l_c6, .func xf16 xx17 xc18, undef, undef, undef, undef, undef, undef, undef, undef] (rfOf Tryz.f32 0).1 (rfOf Tryz.f32 0).2.1 (rfOf Tryz.f32 0).2.2)
 (fun w21 =>
 ∃ (xp22 : Option Addr), ∃ (xn23 : Nat), ∃ (xc24 : Nat), World.cell? w21 (blk b14) = some (.slice xp22 xn23 xc24) ∧ (
 doCall Tryz.prog (.func (.func 93) #[] #[]) #[.pointer s_1, .slice xp22 xn23 xc24] w21 (retS (fun v26 w27 => ∃ (x25 : Option Addr), v26 = (.pointer x25 : Value) ∧ (
 w27.heap[w20.heap.size]? = some (.deferred (some [])) ∧ (
 let w28 : World := w27.putObj w20.heap.size (.deferred none)
 R (.returned (.tuple #[.pointer x25, .int .i64 0])) w28))) (fun ch w => Kfn R ch [{ target := .collected w20.heap.size, args := #[] }] w))))
 (fun w29 =>
 w29.heap[w20.heap.size]? = some (.deferred (some [])) ∧ (
 let w30 : World := w29.putObj w20.heap.size (.deferred none)
 R (.returned (.tuple #[.pointer none, .int .i64 0])) w30))
 [] w20)) (fun ch w => Kfn R ch [] w)))
 let _K38 : Bool → Value → Value → Value → Value → Bool → World → Prop := fun (x31 : Bool) (d32 : Value) (d33 : Value) (d34 : Value) (d35 : Value) (x36 : Bool) (w37 : World) => 
 ifB x36 (
 R (.returned (.tuple #[.pointer none, .int .i64 2])) w37) (
 K13 x31 (d32 : Value) (d33 : Value) (d34 : Value) (d35 : Value) w37)
 ifB ((s_1).isNone) (
 R (.returned (.tuple #[.pointer none, .int .i64 2])) w) (
 doCall Tryz.prog (.func (.func 101) #[] #[]) #[.int .u8 o_2, .slice l_p4 l_n5 l_c6] w (retS (fun v40 w41 => ∃ (x39 : Bool), v40 = (.bool x39 : Value) ∧ (
 ifB (!x39) (
 R (.returned (.tuple #[.pointer none, .int .i64 2])) w41) (
 K13 false (.int .u8 o_2 : Value) (.slice l_p4 l_n5 l_c6 : Value) (.bool x39 : Value) (.bool (!x39) : Value) w41))) (fun ch w => Kfn R ch [] w)))
set_option maxRecDepth 100000 in
theorem sh32_ok (s_1 : Option Addr) (o_2 : Int) (d_3 : Option Addr) (l_p4 : Option Addr) (l_n5 : Nat) (l_c6 : Nat) {R : Ending → World → Prop} {w : World} : sh32 s_1 o_2 d_3 l_p4 l_n5 l_c6 R w → Calls Tryz.prog 32 #[.pointer s_1, .int .u8 o_2, .pointer d_3, .slice l_p4 l_n5 l_c6] w R :=
  calls_of_eq (ann := fun _ => []) (fn := Tryz.f32) (c := bodyOf Tryz.f32) (args := #[.pointer s_1, .int .u8 o_2, .pointer d_3, .slice l_p4 l_n5 l_c6]) 400 follows_mixed Tryz.func32 (by kernel_rfl) (by kernel_rfl)
set_option maxRecDepth 100000 in
/-- joinery/build.Row, a round of loop 0 -/
def sh32_0 (all_1 : Addr) (y33 : Int) (y34 : Int) (y35 : Int) (l : Nat) (R : Ending → World → Prop) (w : World) : Prop :=
 doAl (.cells #[.int .i64 0, .int .i64 0, .int .u64 0] 114) w (fun b36 w37 =>
 doSt ((blk b36).add 0) (.int .i64 y33) w37 (fun w38 =>
 doSt ((blk b36).add 1) (.int .i64 y34) w38 (fun w39 =>
 doSt ((blk b36).add 2) (.int .u64 y35) w39 (fun w40 =>
 ∃ (r41 : Loop), w40.heap[l]? = some (.loop r41) ∧ r41.state = .ready ∧ (
 let w42 : World := w40.putObj l (.loop { r41 with state := .busy })
 ∃ (xp43 : Option Addr), ∃ (xn44 : Nat), ∃ (xc45 : Nat), World.cell? w42 all_1 = some (.slice xp43 xn44 xc45) ∧ (
 ∃ (x46 : Int), World.cell? w42 ((blk b36).add 0) = some (.int .i64 x46) ∧ (
 ∃ (x47 : Int), World.cell? w42 ((blk b36).add 1) = some (.int .i64 x47) ∧ (
 ∃ (x48 : Int), World.cell? w42 ((blk b36).add 2) = some (.int .u64 x48) ∧ (
 doAl (.cells #[.int .i64 x46, .int .i64 x47, .int .u64 x48] 114) w42 (fun b49 w50 =>
 doGo Tryz.prog (.builtin .append #[40, 40] 40 #[false, false]) #[.slice xp43 xn44 xc45, .slice (some (blk b49)) 1 1] w50 (retS (fun v54 w55 => ∃ (xp51 : Option Addr), ∃ (xn52 : Nat), ∃ (xc53 : Nat), v54 = (.slice xp51 xn52 xc53 : Value) ∧ (
 doSt (all_1.add 0) (.slice xp51 xn52 xc53) w55 (fun w56 =>
 ∃ (r57 : Loop), w56.heap[l]? = some (.loop r57) ∧ R (.returned (.bool true)) (w56.putObj l (.loop { r57 with state := .ready, pending := none }))))) (fun _ _ => False))))))))))))
set_option maxRecDepth 100000 in
theorem sh32_0_ok {dd2 : Value} {dd3 : Value} {dd4 : Value} {dd5 : Value} {dd6 : Value} {dd7 : Value} {dd8 : Value} {dd9 : Value} {dd10 : Value} {dd11 : Value} {dd12 : Value} {dd13 : Value} {dd14 : Value} {dd15 : Value} {dd16 : Value} {dd17 : Value} {dd18 : Value} {dd19 : Value} {dd20 : Value} {dd21 : Value} {dd22 : Value} {dd23 : Value} {dd24 : Value} {dd25 : Value} {dd26 : Value} {dd27 : Value} {dd28 : Value} {dd29 : Value} {dd30 : Value} {dd31 : Value} {dd32 : Value} {all_1 : Addr} {y33 : Int} {y34 : Int} {y35 : Int} {l fn D : Nat} {R : Ending → World → Prop} {w : World} (hl : w.heap[l]? = some (.loop (mkLoop #[dd2, dd3, dd4, dd5, dd6, dd7, dd8, dd9, dd10, dd11, .pointer (some all_1), dd12, dd13, dd14, dd15, dd16, dd17, dd18, dd19, dd20, dd21, dd22, dd23, dd24, dd25, dd26, dd27, dd28, dd29, dd30, dd31, dd32] (rfOf Tryz.f32 0).1 (rfOf Tryz.f32 0).2.1 (rfOf Tryz.f32 0).2.2 fn D))) : sh32_0 all_1 y33 y34 y35 l R w → doCall Tryz.prog (.func (.yield l) #[] #[]) #[.agg #[.int .i64 y33, .int .i64 y34, .int .u64 y35]] w R :=
  fun h => ⟨round_of_eq (ann := fun _ => []) 400 follows_mixed hl (by kernel_rfl) (by kernel_rfl) h⟩
end Go.Proofs.YtlddfgfmkapoiaaGreat

namespace Go.Proofs.YtlddfgfmkapoiaaGreat
open Go Go.Sh
set_option maxRecDepth 100000 in
/-- joinery/joineryref27.Items -/
def sh35 (code_1 : Int) (d_2 : Option Addr) (l_p3 : Option Addr) (l_n4 : Nat) (_l_c5 : Nat) (R : Ending → World → Prop) (w : World) : Prop :=
 ∃ (I6 : List Value → World → Prop) (μ7 : List Value → World → Nat), I6 [.slice none 0 0, .int .i64 0] w ∧ (∀ (out_p10 : Option Addr), ∀ (out_n11 : Nat), ∀ (out_c12 : Nat), ∀ (i_13 : Int), ∀ (_j8 : Nat → Value) (w9 : World), I6 [.slice out_p10 out_n11 out_c12, .int .i64 i_13] w9 → (
 ifB (decide ((i_13 : Int) < ((l_n4 : Nat) : Int))) (
 doDr w9 (fun w15 =>
 ∃ (C14 : World → Prop), C14 w15 ∧ (
 doIx l_p3 l_n4 2 (i_13) (fun a16 =>
 ∃ (x17 : Int), (∀ w, C14 w → World.cell? w (a16.add 0) = some (.int .i64 x17)) ∧ (
 doIx l_p3 l_n4 2 (i_13) (fun a18 =>
 ∃ (x19 : Int), (∀ w, C14 w → World.cell? w (a18.add 1) = some (.int .i64 x19)) ∧ (
 doAl (.cells #[.int .i64 0, .int .i64 0, .int .u64 0] 114) w15 (fun b20 w21 =>
 C14 w21 ∧ (
 doSt ((blk b20).add 0) (.int .i64 x17) w21 (fun w22 =>
 doSt ((blk b20).add 1) (.int .i64 x19) w22 (fun w23 =>
 doSt ((blk b20).add 2) (.int .u64 0) w23 (fun w24 =>
 let K26 : World → Prop := fun (w25 : World) => 
 ∃ (x27 : Int), World.cell? w25 ((blk b20).add 0) = some (.int .i64 x27) ∧ (
 ∃ (x28 : Int), World.cell? w25 ((blk b20).add 1) = some (.int .i64 x28) ∧ (
 ∃ (x29 : Int), World.cell? w25 ((blk b20).add 2) = some (.int .u64 x29) ∧ (
 doAl (.cells #[.int .i64 x27, .int .i64 x28, .int .u64 x29] 114) w25 (fun b30 w31 =>
 doGo Tryz.prog (.builtin .append #[40, 40] 40 #[false, false]) #[.slice out_p10 out_n11 out_c12, .slice (some (blk b30)) 1 1] w31 (retS (fun v35 w36 => ∃ (xp32 : Option Addr), ∃ (xn33 : Nat), ∃ (xc34 : Nat), v35 = (.slice xp32 xn33 xc34 : Value) ∧ (
 I6 [.slice xp32 xn33 xc34, .int .i64 (IntKind.wrap .i64 (i_13 + 1))] w36 ∧ μ7 [.slice xp32 xn33 xc34, .int .i64 (IntKind.wrap .i64 (i_13 + 1))] w36 < μ7 [.slice out_p10 out_n11 out_c12, .int .i64 i_13] w9)) (fun ch w => Kfn R ch [] w))))))
 ifB ((code_1 : Int) == 4) (
 doIx l_p3 l_n4 2 (i_13) (fun a37 =>
 ∃ (x38 : Int), World.cell? w24 (a37.add 0) = some (.int .i64 x38) ∧ (
 doCall Tryz.prog (.func (.func 103) #[] #[]) #[.pointer d_2, .int .i64 x38] w24 (retS (fun v40 w41 => ∃ (x39 : Int), v40 = (.int .u64 x39 : Value) ∧ (
 doSt (((blk b20).add 2).add 0) (.int .u64 x39) w41 (fun w42 =>
 K26 w42))) (fun ch w => Kfn R ch [] w))))) (
 K26 w24))))))))))))) (
 R (.returned (.slice out_p10 out_n11 out_c12)) w9)))
set_option maxRecDepth 100000 in
theorem sh35_ok (code_1 : Int) (d_2 : Option Addr) (l_p3 : Option Addr) (l_n4 : Nat) (l_c5 : Nat) {R : Ending → World → Prop} {w : World} : sh35 code_1 d_2 l_p3 l_n4 l_c5 R w → Calls Tryz.prog 35 #[.int .u8 code_1, .pointer d_2, .slice l_p3 l_n4 l_c5] w R :=
  calls_of_eq (ann := fun i => if i = 0 then [(7, .slice none 0 0), (8, .int .i64 0)] else []) (fn := Tryz.f35) (c := bodyOf Tryz.f35) (args := #[.int .u8 code_1, .pointer d_2, .slice l_p3 l_n4 l_c5]) 400 follows_mixed Tryz.func35 (by kernel_rfl) (by kernel_rfl)
set_option maxRecDepth 100000 in
/-- joinery/joineryref22.Items -/
def sh40 (code_1 : Int) (l_p2 : Option Addr) (l_n3 : Nat) (l_c4 : Nat) (R : Ending → World → Prop) (w : World) : Prop :=
 doCall Tryz.prog (.func (.func 110) #[] #[]) #[.slice l_p2 l_n3 l_c4] w (retS (fun v8 w9 => ∃ (xp5 : Option Addr), ∃ (xn6 : Nat), ∃ (xc7 : Nat), v8 = (.slice xp5 xn6 xc7 : Value) ∧ (
 let K11 : World → Prop := fun (w10 : World) => 
 R (.returned (.slice xp5 xn6 xc7)) w10
 ifB ((code_1 : Int) != 4) (
 ∃ (I12 : List Value → World → Prop) (μ13 : List Value → World → Nat), I12 [.int .i64 0] w9 ∧ (∀ (i_16 : Int), ∀ (_j14 : Nat → Value) (w15 : World), I12 [.int .i64 i_16] w15 → (
 ifB (decide ((i_16 : Int) < ((xn6 : Nat) : Int))) (
 doIx xp5 xn6 3 (i_16) (fun a17 =>
 doSt ((a17.add 2).add 0) (.int .u64 0) w15 (fun w18 =>
 I12 [.int .i64 (IntKind.wrap .i64 (i_16 + 1))] w18 ∧ μ13 [.int .i64 (IntKind.wrap .i64 (i_16 + 1))] w18 < μ13 [.int .i64 i_16] w15))) (
 K11 w15)))) (
 K11 w9))) (fun ch w => Kfn R ch [] w))
set_option maxRecDepth 100000 in
theorem sh40_ok (code_1 : Int) (l_p2 : Option Addr) (l_n3 : Nat) (l_c4 : Nat) {R : Ending → World → Prop} {w : World} : sh40 code_1 l_p2 l_n3 l_c4 R w → Calls Tryz.prog 40 #[.int .u8 code_1, .slice l_p2 l_n3 l_c4] w R :=
  calls_of_eq (ann := fun i => if i = 0 then [(6, .int .i64 0)] else []) (fn := Tryz.f40) (c := bodyOf Tryz.f40) (args := #[.int .u8 code_1, .slice l_p2 l_n3 l_c4]) 400 follows_mixed Tryz.func40 (by kernel_rfl) (by kernel_rfl)
set_option maxRecDepth 100000 in
/-- joinery/joinerylaw09.Is -/
def sh46 (t_1 : Option Addr) (l_p2 : Option Addr) (l_n3 : Nat) (l_c4 : Nat) (R : Ending → World → Prop) (w : World) : Prop :=
 doCall Tryz.prog (.func (.func 97) #[] #[]) #[.pointer t_1] w (retS (fun v9 w10 => ∃ (xp5 : Option Addr), ∃ (xn6 : Nat), ∃ (xc7 : Nat), ∃ (x8 : Bool), v9 = (.tuple #[.slice xp5 xn6 xc7, .bool x8] : Value) ∧ (
 let K13 : Bool → World → Prop := fun (x11 : Bool) (w12 : World) => 
 R (.returned (.bool x11)) w12
 ifB x8 (
 doCall Tryz.prog (.func (.func 53) #[] #[]) #[.slice xp5 xn6 xc7, .slice l_p2 l_n3 l_c4] w10 (retS (fun v15 w16 => ∃ (x14 : Bool), v15 = (.bool x14 : Value) ∧ (
 K13 x14 w16)) (fun ch w => Kfn R ch [] w))) (
 R (.returned (.bool false)) w10))) (fun ch w => Kfn R ch [] w))
set_option maxRecDepth 100000 in
theorem sh46_ok (t_1 : Option Addr) (l_p2 : Option Addr) (l_n3 : Nat) (l_c4 : Nat) {R : Ending → World → Prop} {w : World} : sh46 t_1 l_p2 l_n3 l_c4 R w → Calls Tryz.prog 46 #[.pointer t_1, .slice l_p2 l_n3 l_c4] w R :=
  calls_of_eq (ann := fun _ => []) (fn := Tryz.f46) (c := bodyOf Tryz.f46) (args := #[.pointer t_1, .slice l_p2 l_n3 l_c4]) 400 follows_mixed Tryz.func46 (by kernel_rfl) (by kernel_rfl)
set_option maxRecDepth 100000 in
/-- joinery/joineryref09.Of -/
def sh47 (l_p1 : Option Addr) (l_n2 : Nat) (l_c3 : Nat) (R : Ending → World → Prop) (w : World) : Prop :=
 ifB ((((l_n2 : Nat) : Int) : Int) == 0) (
 R (.returned (.slice none 0 0)) w) (
 doCall Tryz.prog (.func (.func 109) #[] #[]) #[.slice l_p1 l_n2 l_c3] w (retS (fun v17 w18 => ∃ (x4 : Int), ∃ (x5 : Int), ∃ (x6 : Int), ∃ (x7 : Int), ∃ (x8 : Int), ∃ (x9 : Bool), ∃ (x10 : Bool), ∃ (xp11 : Option Addr), ∃ (xn12 : Nat), ∃ (xc13 : Nat), ∃ (xp14 : Option Addr), ∃ (xn15 : Nat), ∃ (xc16 : Nat), v17 = (.tuple #[.agg #[.int .i64 x4, .int .i64 x5, .int .i64 x6, .int .i64 x7, .int .u64 x8, .bool x9, .bool x10], .slice xp11 xn12 xc13, .slice xp14 xn15 xc16] : Value) ∧ (
 doAl (.cells #[.int .i64 0, .int .i64 0, .int .i64 0, .int .i64 0, .int .u64 0, .bool false, .bool false] 150) w18 (fun b19 w20 =>
 doSt ((blk b19).add 0) (.int .i64 x4) w20 (fun w21 =>
 doSt ((blk b19).add 1) (.int .i64 x5) w21 (fun w22 =>
 doSt ((blk b19).add 2) (.int .i64 x6) w22 (fun w23 =>
 doSt ((blk b19).add 3) (.int .i64 x7) w23 (fun w24 =>
 doSt ((blk b19).add 4) (.int .u64 x8) w24 (fun w25 =>
 doSt ((blk b19).add 5) (.bool x9) w25 (fun w26 =>
 doSt ((blk b19).add 6) (.bool x10) w26 (fun w27 =>
 doSt (((blk b19).add 3).add 0) (.int .i64 ((l_n2 : Nat) : Int)) w27 (fun w28 =>
 doCall Tryz.prog (.func (.func 115) #[] #[]) #[.slice l_p1 l_n2 l_c3] w28 (retS (fun v30 w31 => ∃ (x29 : Int), v30 = (.int .i64 x29 : Value) ∧ (
 doSt (((blk b19).add 2).add 0) (.int .i64 x29) w31 (fun w32 =>
 let K37 : (Option Addr) → Nat → Nat → World → Prop := fun (out_p33 : Option Addr) (out_n34 : Nat) (out_c35 : Nat) (w36 : World) => 
 doCall Tryz.prog (.func (.func 47) #[] #[]) #[.slice xp14 xn15 xc16] w36 (retS (fun v41 w42 => ∃ (xp38 : Option Addr), ∃ (xn39 : Nat), ∃ (xc40 : Nat), v41 = (.slice xp38 xn39 xc40 : Value) ∧ (
 doGo Tryz.prog (.builtin .append #[57, 57] 57 #[false, false]) #[.slice out_p33 out_n34 out_c35, .slice xp38 xn39 xc40] w42 (retS (fun v46 w47 => ∃ (xp43 : Option Addr), ∃ (xn44 : Nat), ∃ (xc45 : Nat), v46 = (.slice xp43 xn44 xc45 : Value) ∧ (
 R (.returned (.slice xp43 xn44 xc45)) w47)) (fun ch w => Kfn R ch [] w)))) (fun ch w => Kfn R ch [] w))
 doDr w32 (fun w49 =>
 ∃ (C48 : World → Prop), C48 w49 ∧ (
 ∃ (x50 : Int), (∀ w, C48 w → World.cell? w ((blk b19).add 0) = some (.int .i64 x50)) ∧ (
 ∃ (x51 : Int), (∀ w, C48 w → World.cell? w ((blk b19).add 1) = some (.int .i64 x51)) ∧ (
 ∃ (x52 : Int), (∀ w, C48 w → World.cell? w ((blk b19).add 2) = some (.int .i64 x52)) ∧ (
 ∃ (x53 : Int), (∀ w, C48 w → World.cell? w ((blk b19).add 3) = some (.int .i64 x53)) ∧ (
 ∃ (x54 : Int), (∀ w, C48 w → World.cell? w ((blk b19).add 4) = some (.int .u64 x54)) ∧ (
 ∃ (x55 : Bool), (∀ w, C48 w → World.cell? w ((blk b19).add 5) = some (.bool x55)) ∧ (
 ∃ (x56 : Bool), (∀ w, C48 w → World.cell? w ((blk b19).add 6) = some (.bool x56)) ∧ (
 (doAl (.cells #[.int .i64 x50, .int .i64 x51, .int .i64 x52, .int .i64 x53, .int .u64 x54, .bool x55, .bool x56] 150) w49 (fun b57 w58 =>
 doCall Tryz.prog (.func (.func 47) #[] #[]) #[.slice xp11 xn12 xc13] w58 (retS (fun v62 w63 => ∃ (xp59 : Option Addr), ∃ (xn60 : Nat), ∃ (xc61 : Nat), v62 = (.slice xp59 xn60 xc61 : Value) ∧ (
 C48 w63 ∧ (
 doGo Tryz.prog (.builtin .append #[57, 57] 57 #[false, false]) #[.slice (some (blk b57)) 1 1, .slice xp59 xn60 xc61] w63 (retS (fun v67 w68 => ∃ (xp64 : Option Addr), ∃ (xn65 : Nat), ∃ (xc66 : Nat), v67 = (.slice xp64 xn65 xc66 : Value) ∧ (
 C48 w68 ∧ (
 K37 xp64 xn65 xc66 w68))) (fun ch w => Kfn R ch [] w))))) (fun ch w => Kfn R ch [] w)))) ∧ (doCall Tryz.prog (.func (.func 47) #[] #[]) #[.slice xp11 xn12 xc13] w49 (retS (fun v72 w73 => ∃ (xp69 : Option Addr), ∃ (xn70 : Nat), ∃ (xc71 : Nat), v72 = (.slice xp69 xn70 xc71 : Value) ∧ (
 C48 w73 ∧ (
 doAl (.cells #[.int .i64 x50, .int .i64 x51, .int .i64 x52, .int .i64 x53, .int .u64 x54, .bool x55, .bool x56] 150) w73 (fun b74 w75 =>
 doGo Tryz.prog (.builtin .append #[57, 57] 57 #[false, false]) #[.slice (some (blk b74)) 1 1, .slice xp69 xn70 xc71] w75 (retS (fun v79 w80 => ∃ (xp76 : Option Addr), ∃ (xn77 : Nat), ∃ (xc78 : Nat), v79 = (.slice xp76 xn77 xc78 : Value) ∧ (
 C48 w80 ∧ (
 K37 xp76 xn77 xc78 w80))) (fun ch w => Kfn R ch [] w)))))) (fun ch w => Kfn R ch [] w))))))))))))))) (fun ch w => Kfn R ch [] w))))))))))))) (fun ch w => Kfn R ch [] w)))
set_option maxRecDepth 100000 in
theorem sh47_ok (l_p1 : Option Addr) (l_n2 : Nat) (l_c3 : Nat) {R : Ending → World → Prop} {w : World} : sh47 l_p1 l_n2 l_c3 R w → Calls Tryz.prog 47 #[.slice l_p1 l_n2 l_c3] w R :=
  calls_of_eq (ann := fun _ => []) (fn := Tryz.f47) (c := bodyOf Tryz.f47) (args := #[.slice l_p1 l_n2 l_c3]) 400 follows_mixed Tryz.func47 (by kernel_rfl) (by kernel_rfl)
set_option maxRecDepth 100000 in
/-- joinery/joinerylaw41.alive -/
def sh48  (R : Ending → World → Prop) (w : World) : Prop :=
 doAl (.cells #[.int .i64 1, .int .i64 10, .int .i64 2, .int .i64 20] 46) w (fun b1 w2 =>
 doCall Tryz.prog (.func (.func 49) #[] #[]) #[.int .u8 1, .int .u8 3, .slice (some (blk b1)) 2 2] w2 (retS (fun v5 w6 => ∃ (x3 : Option Addr), ∃ (x4 : Int), v5 = (.tuple #[.pointer x3, .int .i64 x4] : Value) ∧ (
 doAl (.cells #[.int .i64 3, .int .i64 30, .int .i64 2, .int .i64 21] 46) w6 (fun b7 w8 =>
 doCall Tryz.prog (.func (.func 49) #[] #[]) #[.int .u8 1, .int .u8 3, .slice (some (blk b7)) 2 2] w8 (retS (fun v11 w12 => ∃ (x9 : Option Addr), ∃ (x10 : Int), v11 = (.tuple #[.pointer x9, .int .i64 x10] : Value) ∧ (
 doCall Tryz.prog (.func (.func 58) #[] #[]) #[.int .u8 1, .pointer x3, .pointer x9] w12 (retS (fun v17 w18 => ∃ (xp13 : Option Addr), ∃ (xn14 : Nat), ∃ (xc15 : Nat), ∃ (x16 : Int), v17 = (.tuple #[.slice xp13 xn14 xc15, .int .i64 x16] : Value) ∧ (
 doCall Tryz.prog (.func (.func 49) #[] #[]) #[.int .u8 1, .int .u8 4, .slice none 0 0] w18 (retS (fun v21 w22 => ∃ (x19 : Option Addr), ∃ (x20 : Int), v21 = (.tuple #[.pointer x19, .int .i64 x20] : Value) ∧ (
 let K25 : Bool → World → Prop := fun (x23 : Bool) (w24 : World) => 
 R (.returned (.bool x23)) w24
 ifB ((x4 : Int) == 0) (
 ifB ((x10 : Int) == 0) (
 ifB ((x16 : Int) == 0) (
 ifB ((x20 : Int) == 2) (
 doAl (.cells #[.int .i64 1, .int .i64 2, .int .i64 3] 2) w22 (fun b26 w27 =>
 doCall Tryz.prog (.func (.func 61) #[] #[]) #[.slice xp13 xn14 xc15, .slice (some (blk b26)) 3 3] w27 (retS (fun v29 w30 => ∃ (x28 : Bool), v29 = (.bool x28 : Value) ∧ (
 ifB x28 (
 doCall Tryz.prog (.func (.func 55) #[] #[]) #[.pointer none] w30 (retS (fun v32 w33 => ∃ (x31 : Int), v32 = (.int .u64 x31 : Value) ∧ (
 ifB ((x31 : Int) == 0) (
 doCall Tryz.prog (.func (.func 51) #[] #[]) #[.int .u8 1, .pointer x3] w33 (retS (fun v35 w36 => ∃ (x34 : Bool), v35 = (.bool x34 : Value) ∧ (
 ifB x34 (
 doCall Tryz.prog (.func (.func 54) #[] #[]) #[.pointer x3, .pointer x9] w36 (retS (fun v38 w39 => ∃ (x37 : Bool), v38 = (.bool x37 : Value) ∧ (
 K25 (!x37) w39)) (fun ch w => Kfn R ch [] w))) (
 R (.returned (.bool false)) w36))) (fun ch w => Kfn R ch [] w))) (
 R (.returned (.bool false)) w33))) (fun ch w => Kfn R ch [] w))) (
 R (.returned (.bool false)) w30))) (fun ch w => Kfn R ch [] w)))) (
 R (.returned (.bool false)) w22)) (
 R (.returned (.bool false)) w22)) (
 R (.returned (.bool false)) w22)) (
 R (.returned (.bool false)) w22))) (fun ch w => Kfn R ch [] w)))) (fun ch w => Kfn R ch [] w)))) (fun ch w => Kfn R ch [] w))))) (fun ch w => Kfn R ch [] w)))
set_option maxRecDepth 100000 in
theorem sh48_ok  {R : Ending → World → Prop} {w : World} : sh48  R w → Calls Tryz.prog 48 #[] w R :=
  calls_of_eq (ann := fun _ => []) (fn := Tryz.f48) (c := bodyOf Tryz.f48) (args := #[]) 400 follows_mixed Tryz.func48 (by kernel_rfl) (by kernel_rfl)
set_option maxRecDepth 100000 in
/-- joinery/canon.Of -/
def sh49 (o_1 : Int) (p_2 : Int) (l_p3 : Option Addr) (l_n4 : Nat) (l_c5 : Nat) (R : Ending → World → Prop) (w : World) : Prop :=
 doCall Tryz.prog (.func (.func 92) #[] #[]) #[.int .u8 4] w (retS (fun v8 w9 => ∃ (x6 : Option Addr), ∃ (x7 : Int), v8 = (.tuple #[.pointer x6, .int .i64 x7] : Value) ∧ (
 ifB ((x7 : Int) != 0) (
 R (.returned (.tuple #[.pointer none, .int .i64 x7])) w9) (
 doCall Tryz.prog (.func (.func 23) #[] #[]) #[.pointer x6, .int .u8 o_1, .int .u8 p_2, .pointer none, .slice l_p3 l_n4 l_c5] w9 (retS (fun v12 w13 => ∃ (x10 : Option Addr), ∃ (x11 : Int), v12 = (.tuple #[.pointer x10, .int .i64 x11] : Value) ∧ (
 R (.returned (.tuple #[.pointer x10, .int .i64 x11])) w13)) (fun ch w => Kfn R ch [] w))))) (fun ch w => Kfn R ch [] w))
set_option maxRecDepth 100000 in
theorem sh49_ok (o_1 : Int) (p_2 : Int) (l_p3 : Option Addr) (l_n4 : Nat) (l_c5 : Nat) {R : Ending → World → Prop} {w : World} : sh49 o_1 p_2 l_p3 l_n4 l_c5 R w → Calls Tryz.prog 49 #[.int .u8 o_1, .int .u8 p_2, .slice l_p3 l_n4 l_c5] w R :=
  calls_of_eq (ann := fun _ => []) (fn := Tryz.f49) (c := bodyOf Tryz.f49) (args := #[.int .u8 o_1, .int .u8 p_2, .slice l_p3 l_n4 l_c5]) 400 follows_mixed Tryz.func49 (by kernel_rfl) (by kernel_rfl)
set_option maxRecDepth 100000 in
/-- joinery/joineryref41.Of -/
def sh50 (o_1 : Int) (p_2 : Int) (l_p3 : Option Addr) (l_n4 : Nat) (l_c5 : Nat) (R : Ending → World → Prop) (w : World) : Prop :=
 doCall Tryz.prog (.func (.func 96) #[] #[]) #[.int .u8 o_1, .int .u8 p_2, .slice l_p3 l_n4 l_c5] w (retS (fun v10 w11 => ∃ (xp6 : Option Addr), ∃ (xn7 : Nat), ∃ (xc8 : Nat), ∃ (x9 : Int), v10 = (.tuple #[.slice xp6 xn7 xc8, .int .i64 x9] : Value) ∧ (
 doCall Tryz.prog (.func (.func 22) #[] #[]) #[.slice none 0 0] w11 (retS (fun v13 w14 => ∃ (x12 : Option Addr), v13 = (.pointer x12 : Value) ∧ (
 doCall Tryz.prog (.func (.func 35) #[] #[]) #[.int .u8 4, .pointer x12, .slice xp6 xn7 xc8] w14 (retS (fun v18 w19 => ∃ (xp15 : Option Addr), ∃ (xn16 : Nat), ∃ (xc17 : Nat), v18 = (.slice xp15 xn16 xc17 : Value) ∧ (
 doCall Tryz.prog (.func (.func 116) #[] #[]) #[.slice xp15 xn16 xc17] w19 (retS (fun v23 w24 => ∃ (xp20 : Option Addr), ∃ (xn21 : Nat), ∃ (xc22 : Nat), v23 = (.slice xp20 xn21 xc22 : Value) ∧ (
 R (.returned (.slice xp20 xn21 xc22)) w24)) (fun ch w => Kfn R ch [] w)))) (fun ch w => Kfn R ch [] w)))) (fun ch w => Kfn R ch [] w)))) (fun ch w => Kfn R ch [] w))
set_option maxRecDepth 100000 in
theorem sh50_ok (o_1 : Int) (p_2 : Int) (l_p3 : Option Addr) (l_n4 : Nat) (l_c5 : Nat) {R : Ending → World → Prop} {w : World} : sh50 o_1 p_2 l_p3 l_n4 l_c5 R w → Calls Tryz.prog 50 #[.int .u8 o_1, .int .u8 p_2, .slice l_p3 l_n4 l_c5] w R :=
  calls_of_eq (ann := fun _ => []) (fn := Tryz.f50) (c := bodyOf Tryz.f50) (args := #[.int .u8 o_1, .int .u8 p_2, .slice l_p3 l_n4 l_c5]) 400 follows_mixed Tryz.func50 (by kernel_rfl) (by kernel_rfl)
end Go.Proofs.YtlddfgfmkapoiaaGreat

namespace Go.Proofs.YtlddfgfmkapoiaaGreat
open Go Go.Sh
set_option maxRecDepth 100000 in
/-- joinery/canon.Is -/
def sh51 (o_1 : Int) (t_2 : Option Addr) (R : Ending → World → Prop) (w : World) : Prop :=
 doCall Tryz.prog (.func (.func 117) #[] #[]) #[.int .u8 o_1, .pointer t_2] w (retS (fun v5 w6 => ∃ (x3 : Int), ∃ (x4 : Int), v5 = (.tuple #[.int .i64 x3, .int .i64 x4] : Value) ∧ (
 let K9 : Bool → World → Prop := fun (x7 : Bool) (w8 : World) => 
 R (.returned (.bool x7)) w8
 ifB ((x4 : Int) == 0) (
 doCall Tryz.prog (.func (.func 118) #[] #[]) #[.pointer t_2] w6 (retS (fun v11 w12 => ∃ (x10 : Bool), v11 = (.bool x10 : Value) ∧ (
 ifB x10 (
 doCall Tryz.prog (.func (.func 119) #[] #[]) #[.pointer t_2] w12 (retS (fun v14 w15 => ∃ (x13 : Bool), v14 = (.bool x13 : Value) ∧ (
 K9 x13 w15)) (fun ch w => Kfn R ch [] w))) (
 R (.returned (.bool false)) w12))) (fun ch w => Kfn R ch [] w))) (
 R (.returned (.bool false)) w6))) (fun ch w => Kfn R ch [] w))
set_option maxRecDepth 100000 in
theorem sh51_ok (o_1 : Int) (t_2 : Option Addr) {R : Ending → World → Prop} {w : World} : sh51 o_1 t_2 R w → Calls Tryz.prog 51 #[.int .u8 o_1, .pointer t_2] w R :=
  calls_of_eq (ann := fun _ => []) (fn := Tryz.f51) (c := bodyOf Tryz.f51) (args := #[.int .u8 o_1, .pointer t_2]) 400 follows_mixed Tryz.func51 (by kernel_rfl) (by kernel_rfl)
set_option maxRecDepth 100000 in
/-- joinery/joineryref09.Same -/
def sh53 (a_p1 : Option Addr) (a_n2 : Nat) (_a_c3 : Nat) (b_p4 : Option Addr) (b_n5 : Nat) (_b_c6 : Nat) (R : Ending → World → Prop) (w : World) : Prop :=
 ifB ((((a_n2 : Nat) : Int) : Int) != ((b_n5 : Nat) : Int)) (
 R (.returned (.bool false)) w) (
 ∃ (I7 : List Value → World → Prop) (μ8 : List Value → World → Nat), I7 [.int .i64 0] w ∧ (∀ (i_11 : Int), ∀ (_j9 : Nat → Value) (w10 : World), I7 [.int .i64 i_11] w10 → (
 ifB (decide ((i_11 : Int) < ((a_n2 : Nat) : Int))) (
 doDr w10 (fun w13 =>
 ∃ (C12 : World → Prop), C12 w13 ∧ (
 doIx a_p1 a_n2 7 (i_11) (fun a14 =>
 ∃ (x15 : Int), (∀ w, C12 w → World.cell? w (a14.add 0) = some (.int .i64 x15)) ∧ (
 ∃ (x16 : Int), (∀ w, C12 w → World.cell? w (a14.add 1) = some (.int .i64 x16)) ∧ (
 ∃ (x17 : Int), (∀ w, C12 w → World.cell? w (a14.add 2) = some (.int .i64 x17)) ∧ (
 ∃ (x18 : Int), (∀ w, C12 w → World.cell? w (a14.add 3) = some (.int .i64 x18)) ∧ (
 ∃ (x19 : Int), (∀ w, C12 w → World.cell? w (a14.add 4) = some (.int .u64 x19)) ∧ (
 ∃ (x20 : Bool), (∀ w, C12 w → World.cell? w (a14.add 5) = some (.bool x20)) ∧ (
 ∃ (x21 : Bool), (∀ w, C12 w → World.cell? w (a14.add 6) = some (.bool x21)) ∧ (
 doIx b_p4 b_n5 7 (i_11) (fun a22 =>
 ∃ (x23 : Int), (∀ w, C12 w → World.cell? w (a22.add 0) = some (.int .i64 x23)) ∧ (
 ∃ (x24 : Int), (∀ w, C12 w → World.cell? w (a22.add 1) = some (.int .i64 x24)) ∧ (
 ∃ (x25 : Int), (∀ w, C12 w → World.cell? w (a22.add 2) = some (.int .i64 x25)) ∧ (
 ∃ (x26 : Int), (∀ w, C12 w → World.cell? w (a22.add 3) = some (.int .i64 x26)) ∧ (
 ∃ (x27 : Int), (∀ w, C12 w → World.cell? w (a22.add 4) = some (.int .u64 x27)) ∧ (
 ∃ (x28 : Bool), (∀ w, C12 w → World.cell? w (a22.add 5) = some (.bool x28)) ∧ (
 ∃ (x29 : Bool), (∀ w, C12 w → World.cell? w (a22.add 6) = some (.bool x29)) ∧ (
 ifB (!(((x15 : Int) == x23) && (((x16 : Int) == x24) && (((x17 : Int) == x25) && (((x18 : Int) == x26) && (((x19 : Int) == x27) && ((x20 == x28) && ((x21 == x29) && true)))))))) (
 R (.returned (.bool false)) w13) (
 I7 [.int .i64 (IntKind.wrap .i64 (i_11 + 1))] w13 ∧ μ8 [.int .i64 (IntKind.wrap .i64 (i_11 + 1))] w13 < μ8 [.int .i64 i_11] w10)))))))))))))))))))) (
 R (.returned (.bool true)) w10))))
set_option maxRecDepth 100000 in
theorem sh53_ok (a_p1 : Option Addr) (a_n2 : Nat) (a_c3 : Nat) (b_p4 : Option Addr) (b_n5 : Nat) (b_c6 : Nat) {R : Ending → World → Prop} {w : World} : sh53 a_p1 a_n2 a_c3 b_p4 b_n5 b_c6 R w → Calls Tryz.prog 53 #[.slice a_p1 a_n2 a_c3, .slice b_p4 b_n5 b_c6] w R :=
  calls_of_eq (ann := fun i => if i = 0 then [(5, .int .i64 0)] else []) (fn := Tryz.f53) (c := bodyOf Tryz.f53) (args := #[.slice a_p1 a_n2 a_c3, .slice b_p4 b_n5 b_c6]) 400 follows_mixed Tryz.func53 (by kernel_rfl) (by kernel_rfl)
set_option maxRecDepth 100000 in
/-- joinery/canon.Same -/
def sh54 (a_1 : Option Addr) (b_2 : Option Addr) (R : Ending → World → Prop) (w : World) : Prop :=
 doCall Tryz.prog (.func (.func 121) #[] #[]) #[.pointer a_1, .pointer b_2] w (retS (fun v4 w5 => ∃ (x3 : Bool), v4 = (.bool x3 : Value) ∧ (
 R (.returned (.bool x3)) w5)) (fun ch w => Kfn R ch [] w))
set_option maxRecDepth 100000 in
theorem sh54_ok (a_1 : Option Addr) (b_2 : Option Addr) {R : Ending → World → Prop} {w : World} : sh54 a_1 b_2 R w → Calls Tryz.prog 54 #[.pointer a_1, .pointer b_2] w R :=
  calls_of_eq (ann := fun _ => []) (fn := Tryz.f54) (c := bodyOf Tryz.f54) (args := #[.pointer a_1, .pointer b_2]) 400 follows_mixed Tryz.func54 (by kernel_rfl) (by kernel_rfl)
set_option maxRecDepth 100000 in
/-- joinery/canon.Digest -/
def sh55 (t_1 : Option Addr) (R : Ending → World → Prop) (w : World) : Prop :=
 ifB ((t_1).isNone) (
 R (.returned (.int .u64 0)) w) (
 doCall Tryz.prog (.func (.func 123) #[] #[]) #[.pointer t_1] w (retS (fun v3 w4 => ∃ (x2 : Option Addr), v3 = (.pointer x2 : Value) ∧ (
 doCall Tryz.prog (.func (.func 55) #[] #[]) #[.pointer x2] w4 (retS (fun v6 w7 => ∃ (x5 : Int), v6 = (.int .u64 x5 : Value) ∧ (
 doCall Tryz.prog (.func (.func 125) #[] #[]) #[.pointer t_1] w7 (retS (fun v9 w10 => ∃ (x8 : Option Addr), v9 = (.pointer x8 : Value) ∧ (
 doCall Tryz.prog (.func (.func 55) #[] #[]) #[.pointer x8] w10 (retS (fun v12 w13 => ∃ (x11 : Int), v12 = (.int .u64 x11 : Value) ∧ (
 doCall Tryz.prog (.func (.func 124) #[] #[]) #[.int .u64 x11, .int .i64 17] w13 (retS (fun v15 w16 => ∃ (x14 : Int), v15 = (.int .u64 x14 : Value) ∧ (
 doCall Tryz.prog (.func (.func 108) #[] #[]) #[.pointer t_1] w16 (retS (fun v18 w19 => ∃ (x17 : Int), v18 = (.int .i64 x17 : Value) ∧ (
 doCall Tryz.prog (.func (.func 122) #[] #[]) #[.int .u64 (IntKind.wrap .u64 x17)] w19 (retS (fun v21 w22 => ∃ (x20 : Int), v21 = (.int .u64 x20 : Value) ∧ (
 doCall Tryz.prog (.func (.func 126) #[] #[]) #[.pointer t_1] w22 (retS (fun v24 w25 => ∃ (x23 : Int), v24 = (.int .i64 x23 : Value) ∧ (
 doCall Tryz.prog (.func (.func 122) #[] #[]) #[.int .u64 (IntKind.wrap .u64 x23)] w25 (retS (fun v27 w28 => ∃ (x26 : Int), v27 = (.int .u64 x26 : Value) ∧ (
 doCall Tryz.prog (.func (.func 124) #[] #[]) #[.int .u64 x26, .int .i64 31] w28 (retS (fun v30 w31 => ∃ (x29 : Int), v30 = (.int .u64 x29 : Value) ∧ (
 doCall Tryz.prog (.func (.func 122) #[] #[]) #[.int .u64 (IntKind.wrap .u64 ((IntKind.wrap .u64 ((IntKind.wrap .u64 ((IntKind.wrap .u64 (1 + x5)) + x14)) + x20)) + x29))] w31 (retS (fun v33 w34 => ∃ (x32 : Int), v33 = (.int .u64 x32 : Value) ∧ (
 R (.returned (.int .u64 x32)) w34)) (fun ch w => Kfn R ch [] w)))) (fun ch w => Kfn R ch [] w)))) (fun ch w => Kfn R ch [] w)))) (fun ch w => Kfn R ch [] w)))) (fun ch w => Kfn R ch [] w)))) (fun ch w => Kfn R ch [] w)))) (fun ch w => Kfn R ch [] w)))) (fun ch w => Kfn R ch [] w)))) (fun ch w => Kfn R ch [] w)))) (fun ch w => Kfn R ch [] w)))) (fun ch w => Kfn R ch [] w)))
set_option maxRecDepth 100000 in
theorem sh55_ok (t_1 : Option Addr) {R : Ending → World → Prop} {w : World} : sh55 t_1 R w → Calls Tryz.prog 55 #[.pointer t_1] w R :=
  calls_of_eq (ann := fun _ => []) (fn := Tryz.f55) (c := bodyOf Tryz.f55) (args := #[.pointer t_1]) 400 follows_mixed Tryz.func55 (by kernel_rfl) (by kernel_rfl)
set_option maxRecDepth 100000 in
/-- joinery/canon.Diff -/
def sh58 (o_1 : Int) (a_2 : Option Addr) (b_3 : Option Addr) (R : Ending → World → Prop) (w : World) : Prop :=
 doAl (.cells #[.slice none 0 0] 24) w (fun b4 w5 =>
 doCall Tryz.prog (.func (.func 92) #[] #[]) #[.int .u8 4] w5 (retS (fun v8 w9 => ∃ (x6 : Option Addr), ∃ (x7 : Int), v8 = (.tuple #[.pointer x6, .int .i64 x7] : Value) ∧ (
 let K22 : Bool → Value → Value → Value → Value → Bool → Bool → Value → Value → Value → Value → World → Prop := fun (x10 : Bool) (d11 : Value) (d12 : Value) (d13 : Value) (d14 : Value) (x15 : Bool) (x16 : Bool) (d17 : Value) (d18 : Value) (d19 : Value) (d20 : Value) (w21 : World) => 
 doCall Tryz.prog (.func (.func 133) #[] #[]) #[.pointer x6, .int .u8 o_1, .pointer a_2, .pointer b_3] w21 (retS (fun v26 w27 => ∃ (xf23 : Fn), ∃ (xx24 : Array Value), ∃ (xc25 : Array Value), v26 = (.func xf23 xx24 xc25 : Value) ∧ (
 rfW Tryz.prog (.func xf23 xx24 xc25) (mkLoop #[.int .u8 o_1, .pointer a_2, .pointer b_3, undef, undef, undef, .pointer (some (blk b4)), .int .i64 x7, .pointer x6, undef, .tuple #[.pointer x6, .int .i64 x7], .tuple #[.pointer x6, .int .i64 x7], .pointer x6, .int .i64 x7, .int .i64 x7, .bool ((x7 : Int) != 0), .bool x10, d11, d12, d13, d14, .bool x15, .bool x16, d17, d18, d19, d20, .bool false, .pointer x6, .int .u8 o_1, .pointer a_2, .pointer b_3, .func xf23 xx24 xc25, undef, undef, undef, undef, undef, undef] (rfOf Tryz.f58 0).1 (rfOf Tryz.f58 0).2.1 (rfOf Tryz.f58 0).2.2)
 (fun w28 =>
 ∃ (xp29 : Option Addr), ∃ (xn30 : Nat), ∃ (xc31 : Nat), World.cell? w28 (blk b4) = some (.slice xp29 xn30 xc31) ∧ (
 doSt ((blk b4).add 0) (.slice xp29 xn30 xc31) w28 (fun w32 =>
 w32.heap[w27.heap.size]? = some (.deferred (some [])) ∧ (
 let w33 : World := w32.putObj w27.heap.size (.deferred none)
 ∃ (xp34 : Option Addr), ∃ (xn35 : Nat), ∃ (xc36 : Nat), World.cell? w33 (blk b4) = some (.slice xp34 xn35 xc36) ∧ (
 R (.returned (.tuple #[.slice xp34 xn35 xc36, .int .i64 0])) w33)))))
 (fun w37 =>
 w37.heap[w27.heap.size]? = some (.deferred (some [])) ∧ (
 let w38 : World := w37.putObj w27.heap.size (.deferred none)
 ∃ (xp39 : Option Addr), ∃ (xn40 : Nat), ∃ (xc41 : Nat), World.cell? w38 (blk b4) = some (.slice xp39 xn40 xc41) ∧ (
 R (.returned (.tuple #[.slice xp39 xn40 xc41, .int .i64 x7])) w38)))
 [] w27)) (fun ch w => Kfn R ch [] w))
 let K55 : Bool → Value → Value → Value → Value → Bool → Bool → Value → Value → Value → Value → Bool → World → Prop := fun (x42 : Bool) (d43 : Value) (d44 : Value) (d45 : Value) (d46 : Value) (x47 : Bool) (x48 : Bool) (d49 : Value) (d50 : Value) (d51 : Value) (d52 : Value) (x53 : Bool) (w54 : World) => 
 ifB x53 (
 doSt ((blk b4).add 0) (.slice none 0 0) w54 (fun w56 =>
 ∃ (xp57 : Option Addr), ∃ (xn58 : Nat), ∃ (xc59 : Nat), World.cell? w56 (blk b4) = some (.slice xp57 xn58 xc59) ∧ (
 R (.returned (.tuple #[.slice xp57 xn58 xc59, .int .i64 2])) w56))) (
 K22 x42 (d43 : Value) (d44 : Value) (d45 : Value) (d46 : Value) x47 x48 (d49 : Value) (d50 : Value) (d51 : Value) (d52 : Value) w54)
 ifB ((x7 : Int) != 0) (
 doSt ((blk b4).add 0) (.slice none 0 0) w9 (fun w60 =>
 ∃ (xp61 : Option Addr), ∃ (xn62 : Nat), ∃ (xc63 : Nat), World.cell? w60 (blk b4) = some (.slice xp61 xn62 xc63) ∧ (
 R (.returned (.tuple #[.slice xp61 xn62 xc63, .int .i64 2])) w60))) (
 doCall Tryz.prog (.func (.func 51) #[] #[]) #[.int .u8 o_1, .pointer a_2] w9 (retS (fun v65 w66 => ∃ (x64 : Bool), v65 = (.bool x64 : Value) ∧ (
 ifB (!x64) (
 doSt ((blk b4).add 0) (.slice none 0 0) w66 (fun w67 =>
 ∃ (xp68 : Option Addr), ∃ (xn69 : Nat), ∃ (xc70 : Nat), World.cell? w67 (blk b4) = some (.slice xp68 xn69 xc70) ∧ (
 R (.returned (.tuple #[.slice xp68 xn69 xc70, .int .i64 2])) w67))) (
 doCall Tryz.prog (.func (.func 51) #[] #[]) #[.int .u8 o_1, .pointer b_3] w66 (retS (fun v72 w73 => ∃ (x71 : Bool), v72 = (.bool x71 : Value) ∧ (
 K55 false (.int .u8 o_1 : Value) (.pointer a_2 : Value) (.bool x64 : Value) (.bool (!x64) : Value) (!x64) false (.int .u8 o_1 : Value) (.pointer b_3 : Value) (.bool x71 : Value) (.bool (!x71) : Value) (!x71) w73)) (fun ch w => Kfn R ch [] w))))) (fun ch w => Kfn R ch [] w))))) (fun ch w => Kfn R ch [] w)))
set_option maxRecDepth 100000 in
theorem sh58_ok (o_1 : Int) (a_2 : Option Addr) (b_3 : Option Addr) {R : Ending → World → Prop} {w : World} : sh58 o_1 a_2 b_3 R w → Calls Tryz.prog 58 #[.int .u8 o_1, .pointer a_2, .pointer b_3] w R :=
  calls_of_eq (ann := fun _ => []) (fn := Tryz.f58) (c := bodyOf Tryz.f58) (args := #[.int .u8 o_1, .pointer a_2, .pointer b_3]) 400 follows_mixed Tryz.func58 (by kernel_rfl) (by kernel_rfl)
set_option maxRecDepth 100000 in
/-- joinery/canon.Diff, a round of loop 0 -/
def sh58_0 (l_1 : Addr) (y40 : Int) (l : Nat) (R : Ending → World → Prop) (w : World) : Prop :=
 ∃ (r41 : Loop), w.heap[l]? = some (.loop r41) ∧ r41.state = .ready ∧ (
 let w42 : World := w.putObj l (.loop { r41 with state := .busy })
 ∃ (xp43 : Option Addr), ∃ (xn44 : Nat), ∃ (xc45 : Nat), World.cell? w42 l_1 = some (.slice xp43 xn44 xc45) ∧ (
 doAl (.cells #[.int .i64 y40] 2) w42 (fun b46 w47 =>
 doGo Tryz.prog (.builtin .append #[24, 24] 24 #[false, false]) #[.slice xp43 xn44 xc45, .slice (some (blk b46)) 1 1] w47 (retS (fun v51 w52 => ∃ (xp48 : Option Addr), ∃ (xn49 : Nat), ∃ (xc50 : Nat), v51 = (.slice xp48 xn49 xc50 : Value) ∧ (
 doSt (l_1.add 0) (.slice xp48 xn49 xc50) w52 (fun w53 =>
 ∃ (r54 : Loop), w53.heap[l]? = some (.loop r54) ∧ R (.returned (.bool true)) (w53.putObj l (.loop { r54 with state := .ready, pending := none }))))) (fun _ _ => False)))))
set_option maxRecDepth 100000 in
theorem sh58_0_ok {dd2 : Value} {dd3 : Value} {dd4 : Value} {dd5 : Value} {dd6 : Value} {dd7 : Value} {dd8 : Value} {dd9 : Value} {dd10 : Value} {dd11 : Value} {dd12 : Value} {dd13 : Value} {dd14 : Value} {dd15 : Value} {dd16 : Value} {dd17 : Value} {dd18 : Value} {dd19 : Value} {dd20 : Value} {dd21 : Value} {dd22 : Value} {dd23 : Value} {dd24 : Value} {dd25 : Value} {dd26 : Value} {dd27 : Value} {dd28 : Value} {dd29 : Value} {dd30 : Value} {dd31 : Value} {dd32 : Value} {dd33 : Value} {dd34 : Value} {dd35 : Value} {dd36 : Value} {dd37 : Value} {dd38 : Value} {dd39 : Value} {l_1 : Addr} {y40 : Int} {l fn D : Nat} {R : Ending → World → Prop} {w : World} (hl : w.heap[l]? = some (.loop (mkLoop #[dd2, dd3, dd4, dd5, dd6, dd7, .pointer (some l_1), dd8, dd9, dd10, dd11, dd12, dd13, dd14, dd15, dd16, dd17, dd18, dd19, dd20, dd21, dd22, dd23, dd24, dd25, dd26, dd27, dd28, dd29, dd30, dd31, dd32, dd33, dd34, dd35, dd36, dd37, dd38, dd39] (rfOf Tryz.f58 0).1 (rfOf Tryz.f58 0).2.1 (rfOf Tryz.f58 0).2.2 fn D))) : sh58_0 l_1 y40 l R w → doCall Tryz.prog (.func (.yield l) #[] #[]) #[.int .i64 y40] w R :=
  fun h => ⟨round_of_eq (ann := fun _ => []) 400 follows_mixed hl (by kernel_rfl) (by kernel_rfl) h⟩
set_option maxRecDepth 100000 in
/-- joinery/joineryref10.SameKeys -/
def sh61 (a_p1 : Option Addr) (a_n2 : Nat) (_a_c3 : Nat) (b_p4 : Option Addr) (b_n5 : Nat) (_b_c6 : Nat) (R : Ending → World → Prop) (w : World) : Prop :=
 ifB ((((a_n2 : Nat) : Int) : Int) != ((b_n5 : Nat) : Int)) (
 R (.returned (.bool false)) w) (
 ∃ (I7 : List Value → World → Prop) (μ8 : List Value → World → Nat), I7 [.int .i64 0] w ∧ (∀ (i_11 : Int), ∀ (_j9 : Nat → Value) (w10 : World), I7 [.int .i64 i_11] w10 → (
 ifB (decide ((i_11 : Int) < ((a_n2 : Nat) : Int))) (
 doDr w10 (fun w13 =>
 ∃ (C12 : World → Prop), C12 w13 ∧ (
 doIx a_p1 a_n2 1 (i_11) (fun a14 =>
 ∃ (x15 : Int), (∀ w, C12 w → World.cell? w a14 = some (.int .i64 x15)) ∧ (
 doIx b_p4 b_n5 1 (i_11) (fun a16 =>
 ∃ (x17 : Int), (∀ w, C12 w → World.cell? w a16 = some (.int .i64 x17)) ∧ (
 ifB ((x15 : Int) != x17) (
 R (.returned (.bool false)) w13) (
 I7 [.int .i64 (IntKind.wrap .i64 (i_11 + 1))] w13 ∧ μ8 [.int .i64 (IntKind.wrap .i64 (i_11 + 1))] w13 < μ8 [.int .i64 i_11] w10)))))))) (
 R (.returned (.bool true)) w10))))
set_option maxRecDepth 100000 in
theorem sh61_ok (a_p1 : Option Addr) (a_n2 : Nat) (a_c3 : Nat) (b_p4 : Option Addr) (b_n5 : Nat) (b_c6 : Nat) {R : Ending → World → Prop} {w : World} : sh61 a_p1 a_n2 a_c3 b_p4 b_n5 b_c6 R w → Calls Tryz.prog 61 #[.slice a_p1 a_n2 a_c3, .slice b_p4 b_n5 b_c6] w R :=
  calls_of_eq (ann := fun i => if i = 0 then [(5, .int .i64 0)] else []) (fn := Tryz.f61) (c := bodyOf Tryz.f61) (args := #[.slice a_p1 a_n2 a_c3, .slice b_p4 b_n5 b_c6]) 400 follows_mixed Tryz.func61 (by kernel_rfl) (by kernel_rfl)
end Go.Proofs.YtlddfgfmkapoiaaGreat

