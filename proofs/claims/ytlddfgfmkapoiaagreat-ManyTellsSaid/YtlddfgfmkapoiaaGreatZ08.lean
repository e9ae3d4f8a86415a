/-
  Printed by a program (gen.py): what the functions of the program do, as formulas; each with the proof that its call is what the formula says.
-/
/-
  Printed by a program (gen.py): what the functions of the program do, as formulas; each with the proof that its call is what the formula says.
-/
import Derived.Test.YtlddfgfmkapoiaaGreatZ02
import Derived.Test.YtlddfgfmkapoiaaGreatProg
import Derived.Test.YtlddfgfmkapoiaaGreatZ05

namespace Go.Proofs.YtlddfgfmkapoiaaGreat
open Go Go.Sh
set_option maxRecDepth 100000 in
/-- joinery/joineryref28.Union -/
def sh113 (o_1 : Int) (p_2 : Int) (a_p3 : Option Addr) (a_n4 : Nat) (a_c5 : Nat) (b_p6 : Option Addr) (b_n7 : Nat) (_b_c8 : Nat) (R : Ending → World → Prop) (w : World) : Prop :=
 doGo Tryz.prog (.builtin .append #[40, 40] 40 #[true, false]) #[.slice none 0 0, .slice a_p3 a_n4 a_c5] w (retS (fun v12 w13 => ∃ (xp9 : Option Addr), ∃ (xn10 : Nat), ∃ (xc11 : Nat), v12 = (.slice xp9 xn10 xc11 : Value) ∧ (
 ∃ (I14 : List Value → World → Prop) (μ15 : List Value → World → Nat), I14 [.slice xp9 xn10 xc11, .int .i64 0] w13 ∧ (∀ (out_p18 : Option Addr), ∀ (out_n19 : Nat), ∀ (out_c20 : Nat), ∀ (i_21 : Int), ∀ (_j16 : Nat → Value) (w17 : World), I14 [.slice out_p18 out_n19 out_c20, .int .i64 i_21] w17 → (
 ifB (decide ((i_21 : Int) < ((b_n7 : Nat) : Int))) (
 doIx b_p6 b_n7 3 (i_21) (fun a22 =>
 ∃ (x23 : Int), World.cell? w17 (a22.add 0) = some (.int .i64 x23) ∧ (
 ∃ (x24 : Int), World.cell? w17 (a22.add 1) = some (.int .i64 x24) ∧ (
 ∃ (x25 : Int), World.cell? w17 (a22.add 2) = some (.int .u64 x25) ∧ (
 doCall Tryz.prog (.func (.func 191) #[] #[]) #[.int .u8 o_1, .int .u8 p_2, .slice out_p18 out_n19 out_c20, .agg #[.int .i64 x23, .int .i64 x24, .int .u64 x25]] w17 (retS (fun v31 w32 => ∃ (xp26 : Option Addr), ∃ (xn27 : Nat), ∃ (xc28 : Nat), ∃ (x29 : Int), ∃ (x30 : Bool), v31 = (.tuple #[.slice xp26 xn27 xc28, .int .i64 x29, .bool x30] : Value) ∧ (
 I14 [.slice xp26 xn27 xc28, .int .i64 (IntKind.wrap .i64 (i_21 + 1))] w32 ∧ μ15 [.slice xp26 xn27 xc28, .int .i64 (IntKind.wrap .i64 (i_21 + 1))] w32 < μ15 [.slice out_p18 out_n19 out_c20, .int .i64 i_21] w17)) (fun ch w => Kfn R ch [] w))))))) (
 R (.returned (.slice out_p18 out_n19 out_c20)) w17))))) (fun ch w => Kfn R ch [] w))
set_option maxRecDepth 100000 in
theorem sh113_ok (o_1 : Int) (p_2 : Int) (a_p3 : Option Addr) (a_n4 : Nat) (a_c5 : Nat) (b_p6 : Option Addr) (b_n7 : Nat) (b_c8 : Nat) {R : Ending → World → Prop} {w : World} : sh113 o_1 p_2 a_p3 a_n4 a_c5 b_p6 b_n7 b_c8 R w → Calls Tryz.prog 113 #[.int .u8 o_1, .int .u8 p_2, .slice a_p3 a_n4 a_c5, .slice b_p6 b_n7 b_c8] w R :=
  calls_of_eq (ann := fun i => if i = 0 then [(9, .slice none 0 0), (10, .int .i64 0)] else []) (fn := Tryz.f113) (c := bodyOf Tryz.f113) (args := #[.int .u8 o_1, .int .u8 p_2, .slice a_p3 a_n4 a_c5, .slice b_p6 b_n7 b_c8]) 400 follows_mixed Tryz.func113 (by kernel_rfl) (by kernel_rfl)
set_option maxRecDepth 100000 in
/-- joinery/joineryref09.Sum -/
def sh115 (l_p1 : Option Addr) (l_n2 : Nat) (_l_c3 : Nat) (R : Ending → World → Prop) (w : World) : Prop :=
 ∃ (I4 : List Value → World → Prop) (μ5 : List Value → World → Nat), I4 [.int .i64 0, .int .i64 0] w ∧ (∀ (n_8 : Int), ∀ (i_9 : Int), ∀ (_j6 : Nat → Value) (w7 : World), I4 [.int .i64 n_8, .int .i64 i_9] w7 → (
 ifB (decide ((i_9 : Int) < ((l_n2 : Nat) : Int))) (
 doIx l_p1 l_n2 7 (i_9) (fun a10 =>
 ∃ (x11 : Int), World.cell? w7 (a10.add 1) = some (.int .i64 x11) ∧ (
 I4 [.int .i64 (IntKind.wrap .i64 (n_8 + x11)), .int .i64 (IntKind.wrap .i64 (i_9 + 1))] w7 ∧ μ5 [.int .i64 (IntKind.wrap .i64 (n_8 + x11)), .int .i64 (IntKind.wrap .i64 (i_9 + 1))] w7 < μ5 [.int .i64 n_8, .int .i64 i_9] w7))) (
 R (.returned (.int .i64 n_8)) w7)))
set_option maxRecDepth 100000 in
theorem sh115_ok (l_p1 : Option Addr) (l_n2 : Nat) (l_c3 : Nat) {R : Ending → World → Prop} {w : World} : sh115 l_p1 l_n2 l_c3 R w → Calls Tryz.prog 115 #[.slice l_p1 l_n2 l_c3] w R :=
  calls_of_eq (ann := fun i => if i = 0 then [(3, .int .i64 0), (4, .int .i64 0)] else []) (fn := Tryz.f115) (c := bodyOf Tryz.f115) (args := #[.slice l_p1 l_n2 l_c3]) 400 follows_mixed Tryz.func115 (by kernel_rfl) (by kernel_rfl)
set_option maxRecDepth 100000 in
/-- joinery/joineryref09.May -/
def sh120 (l_p1 : Option Addr) (l_n2 : Nat) (l_c3 : Nat) (R : Ending → World → Prop) (w : World) : Prop :=
 let K6 : Bool → World → Prop := fun (x4 : Bool) (w5 : World) => 
 R (.returned (.bool x4)) w5
 ifB ((((l_n2 : Nat) : Int) : Int) == 0) (
 R (.returned (.bool true)) w) (
 doCall Tryz.prog (.func (.func 189) #[] #[]) #[.slice l_p1 l_n2 l_c3, .int .i64 0, .int .i64 0] w (retS (fun v8 w9 => ∃ (x7 : Int), v8 = (.int .i64 x7 : Value) ∧ (
 K6 ((x7 : Int) == ((l_n2 : Nat) : Int)) w9)) (fun ch w => Kfn R ch [] w)))
set_option maxRecDepth 100000 in
theorem sh120_ok (l_p1 : Option Addr) (l_n2 : Nat) (l_c3 : Nat) {R : Ending → World → Prop} {w : World} : sh120 l_p1 l_n2 l_c3 R w → Calls Tryz.prog 120 #[.slice l_p1 l_n2 l_c3] w R :=
  calls_of_eq (ann := fun _ => []) (fn := Tryz.f120) (c := bodyOf Tryz.f120) (args := #[.slice l_p1 l_n2 l_c3]) 400 follows_mixed Tryz.func120 (by kernel_rfl) (by kernel_rfl)
set_option maxRecDepth 100000 in
/-- joinery/mix.Mix -/
def sh122 (x_1 : Int) (R : Ending → World → Prop) (w : World) : Prop :=
 doAl (.cells #[.int .u64 x_1] 75) w (fun b2 w3 =>
 doCall Tryz.prog (.func (.func 197) #[] #[]) #[.bool false] w3 (retS (fun v7 w8 => ∃ (xf4 : Fn), ∃ (xx5 : Array Value), ∃ (xc6 : Array Value), v7 = (.func xf4 xx5 xc6 : Value) ∧ (
 rfW Tryz.prog (.func xf4 xx5 xc6) (mkLoop #[.int .u64 x_1, .pointer (some (blk b2)), .int .u64 0, undef, .func xf4 xx5 xc6, undef, undef, undef, undef, undef, undef, undef, undef, undef, undef, undef] (rfOf Tryz.f122 0).1 (rfOf Tryz.f122 0).2.1 (rfOf Tryz.f122 0).2.2)
 (fun w9 =>
 ∃ (x10 : Int), World.cell? w9 (blk b2) = some (.int .u64 x10) ∧ (
 w9.heap[w8.heap.size]? = some (.deferred (some [])) ∧ (
 let w11 : World := w9.putObj w8.heap.size (.deferred none)
 R (.returned (.int .u64 x10)) w11)))
 (fun w12 =>
 w12.heap[w8.heap.size]? = some (.deferred (some [])) ∧ (
 let w13 : World := w12.putObj w8.heap.size (.deferred none)
 R (.returned (.int .u64 0)) w13))
 [] w8)) (fun ch w => Kfn R ch [] w)))
set_option maxRecDepth 100000 in
theorem sh122_ok (x_1 : Int) {R : Ending → World → Prop} {w : World} : sh122 x_1 R w → Calls Tryz.prog 122 #[.int .u64 x_1] w R :=
  calls_of_eq (ann := fun _ => []) (fn := Tryz.f122) (c := bodyOf Tryz.f122) (args := #[.int .u64 x_1]) 400 follows_mixed Tryz.func122 (by kernel_rfl) (by kernel_rfl)
set_option maxRecDepth 100000 in
/-- joinery/mix.Mix, a round of loop 0 -/
def sh122_0 (x_1 : Addr) (y17 : Int) (y18 : Int) (l : Nat) (R : Ending → World → Prop) (w : World) : Prop :=
 doAl (.cells #[.int .i64 0, .int .u64 0] 265) w (fun b19 w20 =>
 doSt ((blk b19).add 0) (.int .i64 y17) w20 (fun w21 =>
 doSt ((blk b19).add 1) (.int .u64 y18) w21 (fun w22 =>
 ∃ (r23 : Loop), w22.heap[l]? = some (.loop r23) ∧ r23.state = .ready ∧ (
 let w24 : World := w22.putObj l (.loop { r23 with state := .busy })
 doDr w24 (fun w26 =>
 ∃ (C25 : World → Prop), C25 w26 ∧ (
 ∃ (x27 : Int), (∀ w, C25 w → World.cell? w x_1 = some (.int .u64 x27)) ∧ (
 ∃ (x28 : Int), (∀ w, C25 w → World.cell? w x_1 = some (.int .u64 x28)) ∧ (
 ∃ (x29 : Int), (∀ w, C25 w → World.cell? w ((blk b19).add 0) = some (.int .i64 x29)) ∧ (
 (0 : Int) ≤ x29 ∧ (
 ∃ (x30 : Int), (∀ w, C25 w → World.cell? w ((blk b19).add 1) = some (.int .u64 x30)) ∧ (
 doSt (x_1.add 0) (.int .u64 (IntKind.wrap .u64 ((bXor .u64 x27 (Int.fdiv x28 (2 ^ (min (x29 : Int).toNat (IntKind.bits .u64))))) * x30))) w26 (fun w31 =>
 ∃ (r32 : Loop), w31.heap[l]? = some (.loop r32) ∧ R (.returned (.bool true)) (w31.putObj l (.loop { r32 with state := .ready, pending := none }))))))))))))))
set_option maxRecDepth 100000 in
theorem sh122_0_ok {dd2 : Value} {dd3 : Value} {dd4 : Value} {dd5 : Value} {dd6 : Value} {dd7 : Value} {dd8 : Value} {dd9 : Value} {dd10 : Value} {dd11 : Value} {dd12 : Value} {dd13 : Value} {dd14 : Value} {dd15 : Value} {dd16 : Value} {x_1 : Addr} {y17 : Int} {y18 : Int} {l fn D : Nat} {R : Ending → World → Prop} {w : World} (hl : w.heap[l]? = some (.loop (mkLoop #[dd2, .pointer (some x_1), dd3, dd4, dd5, dd6, dd7, dd8, dd9, dd10, dd11, dd12, dd13, dd14, dd15, dd16] (rfOf Tryz.f122 0).1 (rfOf Tryz.f122 0).2.1 (rfOf Tryz.f122 0).2.2 fn D))) : sh122_0 x_1 y17 y18 l R w → doCall Tryz.prog (.func (.yield l) #[] #[]) #[.agg #[.int .i64 y17, .int .u64 y18]] w R :=
  fun h => ⟨round_of_eq (ann := fun _ => []) 400 follows_mixed hl (by kernel_rfl) (by kernel_rfl) h⟩
set_option maxRecDepth 100000 in
/-- (*joinery/node.Node).Left -/
def sh123 (n_1 : Option Addr) (R : Ending → World → Prop) (w : World) : Prop :=
 ifB ((n_1).isNone) (
 R (.returned (.pointer none)) w) (
 ∃ (q2 : Addr), n_1 = some q2 ∧ (
 ∃ (x3 : Option Addr), World.cell? w (q2.add 5) = some (.pointer x3) ∧ (
 R (.returned (.pointer x3)) w)))
set_option maxRecDepth 100000 in
theorem sh123_ok (n_1 : Option Addr) {R : Ending → World → Prop} {w : World} : sh123 n_1 R w → Calls Tryz.prog 123 #[.pointer n_1] w R :=
  calls_of_eq (ann := fun _ => []) (fn := Tryz.f123) (c := bodyOf Tryz.f123) (args := #[.pointer n_1]) 400 follows_mixed Tryz.func123 (by kernel_rfl) (by kernel_rfl)
set_option maxRecDepth 100000 in
/-- joinery/mix.Turn -/
def sh124 (x_1 : Int) (n_2 : Int) (R : Ending → World → Prop) (w : World) : Prop :=
 64 ≠ (0 : Int) ∧ (
 doCall Tryz.prog (.func (.func 198) #[] #[]) #[.int .u64 x_1, .int .i64 (Int.tmod n_2 64)] w (retS (fun v4 w5 => ∃ (x3 : Int), v4 = (.int .u64 x3 : Value) ∧ (
 R (.returned (.int .u64 x3)) w5)) (fun ch w => Kfn R ch [] w)))
set_option maxRecDepth 100000 in
theorem sh124_ok (x_1 : Int) (n_2 : Int) {R : Ending → World → Prop} {w : World} : sh124 x_1 n_2 R w → Calls Tryz.prog 124 #[.int .u64 x_1, .int .i64 n_2] w R :=
  calls_of_eq (ann := fun _ => []) (fn := Tryz.f124) (c := bodyOf Tryz.f124) (args := #[.int .u64 x_1, .int .i64 n_2]) 400 follows_mixed Tryz.func124 (by kernel_rfl) (by kernel_rfl)
set_option maxRecDepth 100000 in
/-- (*joinery/node.Node).Right -/
def sh125 (n_1 : Option Addr) (R : Ending → World → Prop) (w : World) : Prop :=
 ifB ((n_1).isNone) (
 R (.returned (.pointer none)) w) (
 ∃ (q2 : Addr), n_1 = some q2 ∧ (
 ∃ (x3 : Option Addr), World.cell? w (q2.add 6) = some (.pointer x3) ∧ (
 R (.returned (.pointer x3)) w)))
set_option maxRecDepth 100000 in
theorem sh125_ok (n_1 : Option Addr) {R : Ending → World → Prop} {w : World} : sh125 n_1 R w → Calls Tryz.prog 125 #[.pointer n_1] w R :=
  calls_of_eq (ann := fun _ => []) (fn := Tryz.f125) (c := bodyOf Tryz.f125) (args := #[.pointer n_1]) 400 follows_mixed Tryz.func125 (by kernel_rfl) (by kernel_rfl)
set_option maxRecDepth 100000 in
/-- (*joinery/node.Node).Val -/
def sh126 (n_1 : Option Addr) (R : Ending → World → Prop) (w : World) : Prop :=
 doCall Tryz.prog (.func (.func 166) #[] #[]) #[.pointer n_1] w (retS (fun v7 w8 => ∃ (x2 : Int), ∃ (x3 : Int), ∃ (x4 : Int), ∃ (x5 : Int), ∃ (x6 : Int), v7 = (.agg #[.int .i64 x2, .int .i64 x3, .int .i64 x4, .int .u64 x5, .int .i64 x6] : Value) ∧ (
 R (.returned (.int .i64 x3)) w8)) (fun ch w => Kfn R ch [] w))
set_option maxRecDepth 100000 in
theorem sh126_ok (n_1 : Option Addr) {R : Ending → World → Prop} {w : World} : sh126 n_1 R w → Calls Tryz.prog 126 #[.pointer n_1] w R :=
  calls_of_eq (ann := fun _ => []) (fn := Tryz.f126) (c := bodyOf Tryz.f126) (args := #[.pointer n_1]) 400 follows_mixed Tryz.func126 (by kernel_rfl) (by kernel_rfl)
set_option maxRecDepth 100000 in
/-- joinery/joineryref02.May -/
def sh127 (o_1 : Int) (R : Ending → World → Prop) (w : World) : Prop :=
 doCall Tryz.prog (.func (.func 16) #[] #[]) #[.int .u8 o_1] w (retS (fun v3 w4 => ∃ (x2 : Bool), v3 = (.bool x2 : Value) ∧ (
 R (.returned (.bool x2)) w4)) (fun ch w => Kfn R ch [] w))
set_option maxRecDepth 100000 in
theorem sh127_ok (o_1 : Int) {R : Ending → World → Prop} {w : World} : sh127 o_1 R w → Calls Tryz.prog 127 #[.int .u8 o_1] w R :=
  calls_of_eq (ann := fun _ => []) (fn := Tryz.f127) (c := bodyOf Tryz.f127) (args := #[.int .u8 o_1]) 400 follows_mixed Tryz.func127 (by kernel_rfl) (by kernel_rfl)
set_option maxRecDepth 100000 in
/-- joinery/joineryref12.Sound -/
def sh128 (o_1 : Int) (l_p2 : Option Addr) (l_n3 : Nat) (l_c4 : Nat) (R : Ending → World → Prop) (w : World) : Prop :=
 doCall Tryz.prog (.func (.func 60) #[] #[]) #[.slice l_p2 l_n3 l_c4] w (retS (fun v8 w9 => ∃ (xp5 : Option Addr), ∃ (xn6 : Nat), ∃ (xc7 : Nat), v8 = (.slice xp5 xn6 xc7 : Value) ∧ (
 doCall Tryz.prog (.func (.func 199) #[] #[]) #[.int .u8 o_1, .slice xp5 xn6 xc7] w9 (retS (fun v11 w12 => ∃ (x10 : Bool), v11 = (.bool x10 : Value) ∧ (
 R (.returned (.bool x10)) w12)) (fun ch w => Kfn R ch [] w)))) (fun ch w => Kfn R ch [] w))
set_option maxRecDepth 100000 in
theorem sh128_ok (o_1 : Int) (l_p2 : Option Addr) (l_n3 : Nat) (l_c4 : Nat) {R : Ending → World → Prop} {w : World} : sh128 o_1 l_p2 l_n3 l_c4 R w → Calls Tryz.prog 128 #[.int .u8 o_1, .slice l_p2 l_n3 l_c4] w R :=
  calls_of_eq (ann := fun _ => []) (fn := Tryz.f128) (c := bodyOf Tryz.f128) (args := #[.int .u8 o_1, .slice l_p2 l_n3 l_c4]) 400 follows_mixed Tryz.func128 (by kernel_rfl) (by kernel_rfl)
set_option maxRecDepth 100000 in
/-- joinery/joineryref01.Mix -/
def sh131 (x_1 : Int) (R : Ending → World → Prop) (w : World) : Prop :=
 1073741824 ≠ (0 : Int) ∧ (
 134217728 ≠ (0 : Int) ∧ (
 2147483648 ≠ (0 : Int) ∧ (
 R (.returned (.int .u64 (bXor .u64 (IntKind.wrap .u64 ((bXor .u64 (IntKind.wrap .u64 ((bXor .u64 x_1 (IntKind.wrap .u64 (Int.tdiv x_1 1073741824))) * 13787848793156543929)) (IntKind.wrap .u64 (Int.tdiv (IntKind.wrap .u64 ((bXor .u64 x_1 (IntKind.wrap .u64 (Int.tdiv x_1 1073741824))) * 13787848793156543929)) 134217728))) * 10723151780598845931)) (IntKind.wrap .u64 (Int.tdiv (IntKind.wrap .u64 ((bXor .u64 (IntKind.wrap .u64 ((bXor .u64 x_1 (IntKind.wrap .u64 (Int.tdiv x_1 1073741824))) * 13787848793156543929)) (IntKind.wrap .u64 (Int.tdiv (IntKind.wrap .u64 ((bXor .u64 x_1 (IntKind.wrap .u64 (Int.tdiv x_1 1073741824))) * 13787848793156543929)) 134217728))) * 10723151780598845931)) 2147483648))))) w)))
set_option maxRecDepth 100000 in
theorem sh131_ok (x_1 : Int) {R : Ending → World → Prop} {w : World} : sh131 x_1 R w → Calls Tryz.prog 131 #[.int .u64 x_1] w R :=
  calls_of_eq (ann := fun _ => []) (fn := Tryz.f131) (c := bodyOf Tryz.f131) (args := #[.int .u64 x_1]) 400 follows_mixed Tryz.func131 (by kernel_rfl) (by kernel_rfl)
set_option maxRecDepth 100000 in
/-- joinery/joineryref01.Turn -/
def sh132 (x_1 : Int) (n_2 : Int) (R : Ending → World → Prop) (w : World) : Prop :=
 64 ≠ (0 : Int) ∧ (
 64 ≠ (0 : Int) ∧ (
 ∃ (I3 : List Value → World → Prop) (μ4 : List Value → World → Nat), I3 [.int .u64 0, .int .i64 0] w ∧ (∀ (y_7 : Int), ∀ (i_8 : Int), ∀ (_j5 : Nat → Value) (w6 : World), I3 [.int .u64 y_7, .int .i64 i_8] w6 → (
 ifB (decide ((i_8 : Int) < 64)) (
 (0 : Int) ≤ (IntKind.wrap .u64 i_8) ∧ (
 2 ≠ (0 : Int) ∧ (
 64 ≠ (0 : Int) ∧ (
 (0 : Int) ≤ (IntKind.wrap .u64 (Int.tmod (IntKind.wrap .i64 (i_8 + (Int.tmod (IntKind.wrap .i64 ((Int.tmod n_2 64) + 64)) 64))) 64)) ∧ (
 I3 [.int .u64 (IntKind.wrap .u64 (y_7 + (IntKind.wrap .u64 ((Int.tmod (Int.fdiv x_1 (2 ^ (min ((IntKind.wrap .u64 i_8) : Int).toNat (IntKind.bits .u64)))) 2) * 2 ^ (min ((IntKind.wrap .u64 (Int.tmod (IntKind.wrap .i64 (i_8 + (Int.tmod (IntKind.wrap .i64 ((Int.tmod n_2 64) + 64)) 64))) 64)) : Int).toNat (IntKind.bits .u64)))))), .int .i64 (IntKind.wrap .i64 (i_8 + 1))] w6 ∧ μ4 [.int .u64 (IntKind.wrap .u64 (y_7 + (IntKind.wrap .u64 ((Int.tmod (Int.fdiv x_1 (2 ^ (min ((IntKind.wrap .u64 i_8) : Int).toNat (IntKind.bits .u64)))) 2) * 2 ^ (min ((IntKind.wrap .u64 (Int.tmod (IntKind.wrap .i64 (i_8 + (Int.tmod (IntKind.wrap .i64 ((Int.tmod n_2 64) + 64)) 64))) 64)) : Int).toNat (IntKind.bits .u64)))))), .int .i64 (IntKind.wrap .i64 (i_8 + 1))] w6 < μ4 [.int .u64 y_7, .int .i64 i_8] w6))))) (
 R (.returned (.int .u64 y_7)) w6)))))
set_option maxRecDepth 100000 in
theorem sh132_ok (x_1 : Int) (n_2 : Int) {R : Ending → World → Prop} {w : World} : sh132 x_1 n_2 R w → Calls Tryz.prog 132 #[.int .u64 x_1, .int .i64 n_2] w R :=
  calls_of_eq (ann := fun i => if i = 0 then [(5, .int .u64 0), (6, .int .i64 0)] else []) (fn := Tryz.f132) (c := bodyOf Tryz.f132) (args := #[.int .u64 x_1, .int .i64 n_2]) 400 follows_mixed Tryz.func132 (by kernel_rfl) (by kernel_rfl)
set_option maxRecDepth 100000 in
/-- joinery/joineryref02.Code -/
def sh150 (o_1 : Int) (k_2 : Int) (R : Ending → World → Prop) (w : World) : Prop :=
 ifB ((o_1 : Int) == 1) (
 doCall Tryz.prog (.func (.func 208) #[] #[]) #[.int .i64 k_2] w (retS (fun v4 w5 => ∃ (x3 : Int), v4 = (.int .u64 x3 : Value) ∧ (
 R (.returned (.int .u64 x3)) w5)) (fun ch w => Kfn R ch [] w))) (
 ifB ((o_1 : Int) == 2) (
 doCall Tryz.prog (.func (.func 208) #[] #[]) #[.int .i64 k_2] w (retS (fun v7 w8 => ∃ (x6 : Int), v7 = (.int .u64 x6 : Value) ∧ (
 R (.returned (.int .u64 (IntKind.wrap .u64 (18446744073709551615 - x6)))) w8)) (fun ch w => Kfn R ch [] w))) (
 ifB ((o_1 : Int) == 3) (
 ifB (decide ((k_2 : Int) < 0)) (
 R (.returned (.int .u64 (IntKind.wrap .u64 ((IntKind.wrap .u64 ((IntKind.wrap .u64 (IntKind.wrap .i64 (0 - (IntKind.wrap .i64 (k_2 + 1))))) * 2)) + 1)))) w) (
 R (.returned (.int .u64 (IntKind.wrap .u64 ((IntKind.wrap .u64 k_2) * 2)))) w)) (
 ifB ((o_1 : Int) == 4) (
 doCall Tryz.prog (.func (.func 209) #[] #[]) #[.int .u64 (IntKind.wrap .u64 k_2)] w (retS (fun v10 w11 => ∃ (x9 : Int), v10 = (.int .u64 x9 : Value) ∧ (
 R (.returned (.int .u64 x9)) w11)) (fun ch w => Kfn R ch [] w))) (
 ifB ((o_1 : Int) == 5) (
 doCall Tryz.prog (.func (.func 208) #[] #[]) #[.int .i64 k_2] w (retS (fun v13 w14 => ∃ (x12 : Int), v13 = (.int .u64 x12 : Value) ∧ (
 2 ≠ (0 : Int) ∧ (
 let K17 : Int → World → Prop := fun (half_15 : Int) (w16 : World) => 
 R (.returned (.int .u64 half_15)) w16
 2 ≠ (0 : Int) ∧ (
 ifB (((Int.tmod (IntKind.wrap .u64 k_2) 2) : Int) == 1) (
 K17 (IntKind.wrap .u64 ((IntKind.wrap .u64 (Int.tdiv x12 2)) + 9223372036854775808)) w14) (
 K17 (IntKind.wrap .u64 (Int.tdiv x12 2)) w14))))) (fun ch w => Kfn R ch [] w))) (
 ifB ((o_1 : Int) == 6) (
 doCall Tryz.prog (.func (.func 208) #[] #[]) #[.int .i64 k_2] w (retS (fun v19 w20 => ∃ (x18 : Int), v19 = (.int .u64 x18 : Value) ∧ (
 doCall Tryz.prog (.func (.func 132) #[] #[]) #[.int .u64 x18, .int .i64 32] w20 (retS (fun v22 w23 => ∃ (x21 : Int), v22 = (.int .u64 x21 : Value) ∧ (
 R (.returned (.int .u64 x21)) w23)) (fun ch w => Kfn R ch [] w)))) (fun ch w => Kfn R ch [] w))) (
 doCall Tryz.prog (.func (.func 131) #[] #[]) #[.int .u64 (IntKind.wrap .u64 k_2)] w (retS (fun v25 w26 => ∃ (x24 : Int), v25 = (.int .u64 x24 : Value) ∧ (
 R (.returned (.int .u64 x24)) w26)) (fun ch w => Kfn R ch [] w))))))))
set_option maxRecDepth 100000 in
theorem sh150_ok (o_1 : Int) (k_2 : Int) {R : Ending → World → Prop} {w : World} : sh150 o_1 k_2 R w → Calls Tryz.prog 150 #[.int .u8 o_1, .int .i64 k_2] w R :=
  calls_of_eq (ann := fun _ => []) (fn := Tryz.f150) (c := bodyOf Tryz.f150) (args := #[.int .u8 o_1, .int .i64 k_2]) 400 follows_mixed Tryz.func150 (by kernel_rfl) (by kernel_rfl)
set_option maxRecDepth 100000 in
/-- joinery/fold.May -/
def sh151 (p_1 : Int) (R : Ending → World → Prop) (w : World) : Prop :=
 let K4 : Bool → World → Prop := fun (is_2 : Bool) (w3 : World) => 
 R (.returned (.bool is_2)) w3
 doCall Tryz.prog (.func (.func 210) #[] #[]) #[] w (retS (fun v6 w7 => ∃ (x5 : Option Nat), v6 = (.map x5 : Value) ∧ (
 doLk Tryz.prog 282 (.map x5) (.int .u8 p_1) true w7 (fun v12 => (∃ (xf8 : Fn), ∃ (xx9 : Array Value), ∃ (xc10 : Array Value), ∃ (x11 : Bool), v12 = (.tuple #[.agg #[.func xf8 xx9 xc10], .bool x11] : Value) ∧ (
 doAl (.cells #[.nilFunc] 280) w7 (fun b13 w14 =>
 doSt ((blk b13).add 0) (.func xf8 xx9 xc10) w14 (fun w15 =>
 K4 x11 w15)))) ∨ (v12 = (.tuple #[.agg #[.nilFunc], .bool false] : Value) ∧ (
 doAl (.cells #[.nilFunc] 280) w7 (fun b16 w17 =>
 doSt ((blk b16).add 0) (.nilFunc) w17 (fun w18 =>
 R (.returned (.bool false)) w18))))))) (fun ch w => Kfn R ch [] w))
set_option maxRecDepth 100000 in
theorem sh151_ok (p_1 : Int) {R : Ending → World → Prop} {w : World} : sh151 p_1 R w → Calls Tryz.prog 151 #[.int .u8 p_1] w R :=
  calls_of_eq (ann := fun _ => []) (fn := Tryz.f151) (c := bodyOf Tryz.f151) (args := #[.int .u8 p_1]) 400 follows_mixed Tryz.func151 (by kernel_rfl) (by kernel_rfl)
end Go.Proofs.YtlddfgfmkapoiaaGreat

namespace Go.Proofs.YtlddfgfmkapoiaaGreat
open Go Go.Sh
set_option maxRecDepth 100000 in
/-- joinery/fold.Combine -/
def sh154 (p_1 : Int) (a_2 : Int) (b_3 : Int) (R : Ending → World → Prop) (w : World) : Prop :=
 let K7 : Addr → Bool → World → Prop := fun (k_4 : Addr) (is_5 : Bool) (w6 : World) => 
 ifB (!is_5) (
 R (.returned (.tuple #[.int .i64 0, .int .i64 2])) w6) (
 ∃ (xf8 : Fn), ∃ (xx9 : Array Value), ∃ (xc10 : Array Value), World.cell? w6 (k_4.add 0) = some (.func xf8 xx9 xc10) ∧ (
 doCall Tryz.prog (.func xf8 xx9 xc10) #[.int .i64 a_2, .int .i64 b_3] w6 (retS (fun v12 w13 => ∃ (x11 : Int), v12 = (.int .i64 x11 : Value) ∧ (
 R (.returned (.tuple #[.int .i64 x11, .int .i64 0])) w13)) (fun ch w => Kfn R ch [] w))))
 doCall Tryz.prog (.func (.func 210) #[] #[]) #[] w (retS (fun v15 w16 => ∃ (x14 : Option Nat), v15 = (.map x14 : Value) ∧ (
 doLk Tryz.prog 282 (.map x14) (.int .u8 p_1) true w16 (fun v21 => (∃ (xf17 : Fn), ∃ (xx18 : Array Value), ∃ (xc19 : Array Value), ∃ (x20 : Bool), v21 = (.tuple #[.agg #[.func xf17 xx18 xc19], .bool x20] : Value) ∧ (
 doAl (.cells #[.nilFunc] 280) w16 (fun b22 w23 =>
 doSt ((blk b22).add 0) (.func xf17 xx18 xc19) w23 (fun w24 =>
 K7 (blk b22) x20 w24)))) ∨ (v21 = (.tuple #[.agg #[.nilFunc], .bool false] : Value) ∧ (
 doAl (.cells #[.nilFunc] 280) w16 (fun b25 w26 =>
 doSt ((blk b25).add 0) (.nilFunc) w26 (fun w27 =>
 K7 (blk b25) false w27))))))) (fun ch w => Kfn R ch [] w))
set_option maxRecDepth 100000 in
theorem sh154_ok (p_1 : Int) (a_2 : Int) (b_3 : Int) {R : Ending → World → Prop} {w : World} : sh154 p_1 a_2 b_3 R w → Calls Tryz.prog 154 #[.int .u8 p_1, .int .i64 a_2, .int .i64 b_3] w R :=
  calls_of_eq (ann := fun _ => []) (fn := Tryz.f154) (c := bodyOf Tryz.f154) (args := #[.int .u8 p_1, .int .i64 a_2, .int .i64 b_3]) 400 follows_mixed Tryz.func154 (by kernel_rfl) (by kernel_rfl)
set_option maxRecDepth 100000 in
/-- joinery/union.may -/
def sh156 (s_1 : Option Addr) (o_2 : Int) (p_3 : Int) (R : Ending → World → Prop) (w : World) : Prop :=
 doCall Tryz.prog (.func (.func 89) #[] #[]) #[.pointer s_1, .int .u8 o_2, .pointer none, .int .i64 0] w (retS (fun v11 w12 => ∃ (x4 : Option Addr), ∃ (x5 : Int), ∃ (x6 : Int), ∃ (x7 : Int), ∃ (x8 : Bool), ∃ (x9 : Option Addr), ∃ (x10 : Int), v11 = (.tuple #[.pointer x4, .agg #[.int .i64 x5, .int .i64 x6, .int .u64 x7], .bool x8, .pointer x9, .int .i64 x10] : Value) ∧ (
 doAl (.cells #[.int .i64 0, .int .i64 0, .int .u64 0] 114) w12 (fun b13 w14 =>
 doSt ((blk b13).add 0) (.int .i64 x5) w14 (fun w15 =>
 doSt ((blk b13).add 1) (.int .i64 x6) w15 (fun w16 =>
 doSt ((blk b13).add 2) (.int .u64 x7) w16 (fun w17 =>
 let K20 : Bool → World → Prop := fun (x18 : Bool) (w19 : World) => 
 R (.returned (.bool x18)) w19
 ifB ((x10 : Int) == 0) (
 doCall Tryz.prog (.func (.func 151) #[] #[]) #[.int .u8 p_3] w17 (retS (fun v22 w23 => ∃ (x21 : Bool), v22 = (.bool x21 : Value) ∧ (
 K20 x21 w23)) (fun ch w => Kfn R ch [] w))) (
 R (.returned (.bool false)) w17))))))) (fun ch w => Kfn R ch [] w))
set_option maxRecDepth 100000 in
theorem sh156_ok (s_1 : Option Addr) (o_2 : Int) (p_3 : Int) {R : Ending → World → Prop} {w : World} : sh156 s_1 o_2 p_3 R w → Calls Tryz.prog 156 #[.pointer s_1, .int .u8 o_2, .int .u8 p_3] w R :=
  calls_of_eq (ann := fun _ => []) (fn := Tryz.f156) (c := bodyOf Tryz.f156) (args := #[.pointer s_1, .int .u8 o_2, .int .u8 p_3]) 400 follows_mixed Tryz.func156 (by kernel_rfl) (by kernel_rfl)
set_option maxRecDepth 100000 in
/-- joinery/union.both -/
def sh157 (s_1 : Option Addr) (o_2 : Int) (come_f3 : Fn) (come_x4 : Array Value) (come_c5 : Array Value) (a_6 : Option Addr) (b_7 : Option Addr) (R : Ending → World → Prop) (w : World) : Prop :=
 doAl (.cells #[.pointer s_1] 25) w (fun b8 w9 =>
 doAl (.cells #[.int .u8 o_2] 5) w9 (fun b10 w11 =>
 doAl (.cells #[.func come_f3 come_x4 come_c5] 193) w11 (fun b12 w13 =>
 doAl (.cells #[.nilFunc] 286) w13 (fun b14 w15 =>
 doSt ((blk b14).add 0) (.func (.func 212) #[] #[.pointer (some (blk b8)), .pointer (some (blk b10)), .pointer (some (blk b14)), .pointer (some (blk b12))]) w15 (fun w16 =>
 ∃ (xf17 : Fn), ∃ (xx18 : Array Value), ∃ (xc19 : Array Value), World.cell? w16 (blk b14) = some (.func xf17 xx18 xc19) ∧ (
 doCall Tryz.prog (.func xf17 xx18 xc19) #[.pointer a_6, .pointer b_7] w16 (retS (fun v21 w22 => ∃ (x20 : Option Addr), v21 = (.pointer x20 : Value) ∧ (
 R (.returned (.pointer x20)) w22)) (fun ch w => Kfn R ch [] w))))))))
set_option maxRecDepth 100000 in
theorem sh157_ok (s_1 : Option Addr) (o_2 : Int) (come_f3 : Fn) (come_x4 : Array Value) (come_c5 : Array Value) (a_6 : Option Addr) (b_7 : Option Addr) {R : Ending → World → Prop} {w : World} : sh157 s_1 o_2 come_f3 come_x4 come_c5 a_6 b_7 R w → Calls Tryz.prog 157 #[.pointer s_1, .int .u8 o_2, .func come_f3 come_x4 come_c5, .pointer a_6, .pointer b_7] w R :=
  calls_of_eq (ann := fun _ => []) (fn := Tryz.f157) (c := bodyOf Tryz.f157) (args := #[.pointer s_1, .int .u8 o_2, .func come_f3 come_x4 come_c5, .pointer a_6, .pointer b_7]) 400 follows_mixed Tryz.func157 (by kernel_rfl) (by kernel_rfl)
set_option maxRecDepth 100000 in
/-- (joinery/union.policy).of -/
def sh158 (p_1 : Int) (x_2 : Int) (x_3 : Int) (x_4 : Int) (y_5 : Int) (y_6 : Int) (y_7 : Int) (is_8 : Bool) (R : Ending → World → Prop) (w : World) : Prop :=
 doAl (.cells #[.int .i64 x_2, .int .i64 x_3, .int .u64 x_4] 114) w (fun b9 w10 =>
 doAl (.cells #[.int .i64 y_5, .int .i64 y_6, .int .u64 y_7] 114) w10 (fun b11 w12 =>
 doAl (.cells #[.int .i64 0, .int .i64 0, .int .u64 0] 114) w12 (fun b13 w14 =>
 let K16 : World → Prop := fun (w15 : World) => 
 ∃ (x17 : Int), World.cell? w15 ((blk b9).add 0) = some (.int .i64 x17) ∧ (
 ∃ (x18 : Int), World.cell? w15 ((blk b9).add 1) = some (.int .i64 x18) ∧ (
 ∃ (x19 : Int), World.cell? w15 ((blk b9).add 2) = some (.int .u64 x19) ∧ (
 doSt ((blk b13).add 0) (.int .i64 x17) w15 (fun w20 =>
 doSt ((blk b13).add 1) (.int .i64 x18) w20 (fun w21 =>
 doSt ((blk b13).add 2) (.int .u64 x19) w21 (fun w22 =>
 ∃ (x23 : Int), World.cell? w22 ((blk b13).add 0) = some (.int .i64 x23) ∧ (
 ∃ (x24 : Int), World.cell? w22 ((blk b13).add 1) = some (.int .i64 x24) ∧ (
 ∃ (x25 : Int), World.cell? w22 ((blk b13).add 2) = some (.int .u64 x25) ∧ (
 R (.returned (.agg #[.int .i64 x23, .int .i64 x24, .int .u64 x25])) w22)))))))))
 ifB is_8 (
 ∃ (x26 : Int), World.cell? w14 ((blk b9).add 1) = some (.int .i64 x26) ∧ (
 ∃ (x27 : Int), World.cell? w14 ((blk b11).add 1) = some (.int .i64 x27) ∧ (
 doCall Tryz.prog (.func (.func 154) #[] #[]) #[.int .u8 p_1, .int .i64 x26, .int .i64 x27] w14 (retS (fun v30 w31 => ∃ (x28 : Int), ∃ (x29 : Int), v30 = (.tuple #[.int .i64 x28, .int .i64 x29] : Value) ∧ (
 doSt (((blk b9).add 1).add 0) (.int .i64 x28) w31 (fun w32 =>
 K16 w32))) (fun ch w => Kfn R ch [] w))))) (
 K16 w14))))
set_option maxRecDepth 100000 in
theorem sh158_ok (p_1 : Int) (x_2 : Int) (x_3 : Int) (x_4 : Int) (y_5 : Int) (y_6 : Int) (y_7 : Int) (is_8 : Bool) {R : Ending → World → Prop} {w : World} : sh158 p_1 x_2 x_3 x_4 y_5 y_6 y_7 is_8 R w → Calls Tryz.prog 158 #[.int .u8 p_1, .agg #[.int .i64 x_2, .int .i64 x_3, .int .u64 x_4], .agg #[.int .i64 y_5, .int .i64 y_6, .int .u64 y_7], .bool is_8] w R :=
  calls_of_eq (ann := fun _ => []) (fn := Tryz.f158) (c := bodyOf Tryz.f158) (args := #[.int .u8 p_1, .agg #[.int .i64 x_2, .int .i64 x_3, .int .u64 x_4], .agg #[.int .i64 y_5, .int .i64 y_6, .int .u64 y_7], .bool is_8]) 400 follows_mixed Tryz.func158 (by kernel_rfl) (by kernel_rfl)
set_option maxRecDepth 100000 in
/-- joinery/meet.none -/
def sh159 (_x1 : Option Addr) (R : Ending → World → Prop) (w : World) : Prop :=
 R (.returned (.pointer none)) w
set_option maxRecDepth 100000 in
theorem sh159_ok (x1 : Option Addr) {R : Ending → World → Prop} {w : World} : sh159 x1 R w → Calls Tryz.prog 159 #[.pointer x1] w R :=
  calls_of_eq (ann := fun _ => []) (fn := Tryz.f159) (c := bodyOf Tryz.f159) (args := #[.pointer x1]) 400 follows_mixed Tryz.func159 (by kernel_rfl) (by kernel_rfl)
set_option maxRecDepth 100000 in
/-- joinery/meet.Meet$1 -/
def sh160 (x_1 : Int) (x_2 : Int) (x_3 : Int) (y_4 : Int) (y_5 : Int) (y_6 : Int) (is_7 : Bool) (x8 : Addr) (R : Ending → World → Prop) (w : World) : Prop :=
 doAl (.cells #[.int .i64 x_1, .int .i64 x_2, .int .u64 x_3] 114) w (fun b9 w10 =>
 doAl (.cells #[.int .i64 y_4, .int .i64 y_5, .int .u64 y_6] 114) w10 (fun b11 w12 =>
 doAl (.cells #[.int .i64 0, .int .i64 0, .int .u64 0] 114) w12 (fun b13 w14 =>
 ∃ (x15 : Int), World.cell? w14 x8 = some (.int .u8 x15) ∧ (
 ∃ (x16 : Int), World.cell? w14 ((blk b9).add 1) = some (.int .i64 x16) ∧ (
 ∃ (x17 : Int), World.cell? w14 ((blk b11).add 1) = some (.int .i64 x17) ∧ (
 doCall Tryz.prog (.func (.func 154) #[] #[]) #[.int .u8 x15, .int .i64 x16, .int .i64 x17] w14 (retS (fun v20 w21 => ∃ (x18 : Int), ∃ (x19 : Int), v20 = (.tuple #[.int .i64 x18, .int .i64 x19] : Value) ∧ (
 doSt (((blk b9).add 1).add 0) (.int .i64 x18) w21 (fun w22 =>
 ∃ (x23 : Int), World.cell? w22 ((blk b9).add 0) = some (.int .i64 x23) ∧ (
 ∃ (x24 : Int), World.cell? w22 ((blk b9).add 1) = some (.int .i64 x24) ∧ (
 ∃ (x25 : Int), World.cell? w22 ((blk b9).add 2) = some (.int .u64 x25) ∧ (
 doSt ((blk b13).add 0) (.int .i64 x23) w22 (fun w26 =>
 doSt ((blk b13).add 1) (.int .i64 x24) w26 (fun w27 =>
 doSt ((blk b13).add 2) (.int .u64 x25) w27 (fun w28 =>
 ∃ (x29 : Int), World.cell? w28 ((blk b13).add 0) = some (.int .i64 x29) ∧ (
 ∃ (x30 : Int), World.cell? w28 ((blk b13).add 1) = some (.int .i64 x30) ∧ (
 ∃ (x31 : Int), World.cell? w28 ((blk b13).add 2) = some (.int .u64 x31) ∧ (
 R (.returned (.tuple #[.agg #[.int .i64 x29, .int .i64 x30, .int .u64 x31], .bool is_7])) w28)))))))))))) (fun ch w => Kfn R ch [] w))))))))
set_option maxRecDepth 100000 in
theorem sh160_ok (x_1 : Int) (x_2 : Int) (x_3 : Int) (y_4 : Int) (y_5 : Int) (y_6 : Int) (is_7 : Bool) (x8 : Addr) {R : Ending → World → Prop} {w : World} : sh160 x_1 x_2 x_3 y_4 y_5 y_6 is_7 x8 R w → Calls Tryz.prog 160 #[.agg #[.int .i64 x_1, .int .i64 x_2, .int .u64 x_3], .agg #[.int .i64 y_4, .int .i64 y_5, .int .u64 y_6], .bool is_7, .pointer (some x8)] w R :=
  calls_of_eq (ann := fun _ => []) (fn := Tryz.f160) (c := bodyOf Tryz.f160) (args := #[.agg #[.int .i64 x_1, .int .i64 x_2, .int .u64 x_3], .agg #[.int .i64 y_4, .int .i64 y_5, .int .u64 y_6], .bool is_7, .pointer (some x8)]) 400 follows_mixed Tryz.func160 (by kernel_rfl) (by kernel_rfl)
set_option maxRecDepth 100000 in
/-- (joinery/meet.way).goes -/
def sh161 (w_f1 : Fn) (w_x2 : Array Value) (w_c3 : Array Value) (w_f4 : Fn) (w_x5 : Array Value) (w_c6 : Array Value) (w_f7 : Fn) (w_x8 : Array Value) (w_c9 : Array Value) (s_10 : Option Addr) (o_11 : Int) (a_12 : Option Addr) (b_13 : Option Addr) (R : Ending → World → Prop) (w : World) : Prop :=
 doAl (.cells #[.func w_f1 w_x2 w_c3, .func w_f4 w_x5 w_c6, .func w_f7 w_x8 w_c9] 198) w (fun b14 w15 =>
 doAl (.cells #[.pointer s_10] 25) w15 (fun b16 w17 =>
 doAl (.cells #[.int .u8 o_11] 5) w17 (fun b18 w19 =>
 ∃ (x20 : Option Addr), World.cell? w19 (blk b16) = some (.pointer x20) ∧ (
 ∃ (x21 : Int), World.cell? w19 (blk b18) = some (.int .u8 x21) ∧ (
 doCall Tryz.prog (.func (.func 89) #[] #[]) #[.pointer x20, .int .u8 x21, .pointer none, .int .i64 0] w19 (retS (fun v29 w30 => ∃ (x22 : Option Addr), ∃ (x23 : Int), ∃ (x24 : Int), ∃ (x25 : Int), ∃ (x26 : Bool), ∃ (x27 : Option Addr), ∃ (x28 : Int), v29 = (.tuple #[.pointer x22, .agg #[.int .i64 x23, .int .i64 x24, .int .u64 x25], .bool x26, .pointer x27, .int .i64 x28] : Value) ∧ (
 doAl (.cells #[.int .i64 0, .int .i64 0, .int .u64 0] 114) w30 (fun b31 w32 =>
 doSt ((blk b31).add 0) (.int .i64 x23) w32 (fun w33 =>
 doSt ((blk b31).add 1) (.int .i64 x24) w33 (fun w34 =>
 doSt ((blk b31).add 2) (.int .u64 x25) w34 (fun w35 =>
 ifB ((x28 : Int) != 0) (
 R (.returned (.tuple #[.pointer none, .int .i64 2])) w35) (
 doAl (.cells #[.nilFunc] 286) w35 (fun b36 w37 =>
 doSt ((blk b36).add 0) (.func (.func 214) #[] #[.pointer (some (blk b14)), .pointer (some (blk b16)), .pointer (some (blk b18)), .pointer (some (blk b36))]) w37 (fun w38 =>
 ∃ (xf39 : Fn), ∃ (xx40 : Array Value), ∃ (xc41 : Array Value), World.cell? w38 (blk b36) = some (.func xf39 xx40 xc41) ∧ (
 doCall Tryz.prog (.func xf39 xx40 xc41) #[.pointer a_12, .pointer b_13] w38 (retS (fun v43 w44 => ∃ (x42 : Option Addr), v43 = (.pointer x42 : Value) ∧ (
 R (.returned (.tuple #[.pointer x42, .int .i64 0])) w44)) (fun ch w => Kfn R ch [] w)))))))))))) (fun ch w => Kfn R ch [] w)))))))
set_option maxRecDepth 100000 in
theorem sh161_ok (w_f1 : Fn) (w_x2 : Array Value) (w_c3 : Array Value) (w_f4 : Fn) (w_x5 : Array Value) (w_c6 : Array Value) (w_f7 : Fn) (w_x8 : Array Value) (w_c9 : Array Value) (s_10 : Option Addr) (o_11 : Int) (a_12 : Option Addr) (b_13 : Option Addr) {R : Ending → World → Prop} {w : World} : sh161 w_f1 w_x2 w_c3 w_f4 w_x5 w_c6 w_f7 w_x8 w_c9 s_10 o_11 a_12 b_13 R w → Calls Tryz.prog 161 #[.agg #[.func w_f1 w_x2 w_c3, .func w_f4 w_x5 w_c6, .func w_f7 w_x8 w_c9], .pointer s_10, .int .u8 o_11, .pointer a_12, .pointer b_13] w R :=
  calls_of_eq (ann := fun _ => []) (fn := Tryz.f161) (c := bodyOf Tryz.f161) (args := #[.agg #[.func w_f1 w_x2 w_c3, .func w_f4 w_x5 w_c6, .func w_f7 w_x8 w_c9], .pointer s_10, .int .u8 o_11, .pointer a_12, .pointer b_13]) 400 follows_mixed Tryz.func161 (by kernel_rfl) (by kernel_rfl)
set_option maxRecDepth 100000 in
/-- (*joinery/scheme.Scheme).Whole -/
def sh162 (s_1 : Option Addr) (t_2 : Option Addr) (R : Ending → World → Prop) (w : World) : Prop :=
 ifB ((s_1).isNone) (
 R (.returned (.pointer none)) w) (
 doCall Tryz.prog (.func (.func 188) #[] #[]) #[.pointer s_1] w (retS (fun v23 w24 => ∃ (x3 : ByteArray), ∃ (xf4 : Fn), ∃ (xx5 : Array Value), ∃ (xc6 : Array Value), ∃ (xf7 : Fn), ∃ (xx8 : Array Value), ∃ (xc9 : Array Value), ∃ (xf10 : Fn), ∃ (xx11 : Array Value), ∃ (xc12 : Array Value), ∃ (xf13 : Fn), ∃ (xx14 : Array Value), ∃ (xc15 : Array Value), ∃ (xf16 : Fn), ∃ (xx17 : Array Value), ∃ (xc18 : Array Value), ∃ (xf19 : Fn), ∃ (xx20 : Array Value), ∃ (xc21 : Array Value), ∃ (x22 : Bool), v23 = (.agg #[.string x3, .func xf4 xx5 xc6, .func xf7 xx8 xc9, .func xf10 xx11 xc12, .func xf13 xx14 xc15, .func xf16 xx17 xc18, .func xf19 xx20 xc21, .bool x22] : Value) ∧ (
 doCall Tryz.prog (.func xf7 xx8 xc9) #[.pointer t_2] w24 (retS (fun v26 w27 => ∃ (x25 : Option Addr), v26 = (.pointer x25 : Value) ∧ (
 R (.returned (.pointer x25)) w27)) (fun ch w => Kfn R ch [] w)))) (fun ch w => Kfn R ch [] w)))
set_option maxRecDepth 100000 in
theorem sh162_ok (s_1 : Option Addr) (t_2 : Option Addr) {R : Ending → World → Prop} {w : World} : sh162 s_1 t_2 R w → Calls Tryz.prog 162 #[.pointer s_1, .pointer t_2] w R :=
  calls_of_eq (ann := fun _ => []) (fn := Tryz.f162) (c := bodyOf Tryz.f162) (args := #[.pointer s_1, .pointer t_2]) 400 follows_mixed Tryz.func162 (by kernel_rfl) (by kernel_rfl)
set_option maxRecDepth 100000 in
/-- joinery/meet.alone -/
def sh163 (x_1 : Int) (x_2 : Int) (x_3 : Int) (x4 : Int) (x5 : Int) (x6 : Int) (is_7 : Bool) (R : Ending → World → Prop) (w : World) : Prop :=
 doAl (.cells #[.int .i64 x_1, .int .i64 x_2, .int .u64 x_3] 114) w (fun b8 w9 =>
 doAl (.cells #[.int .i64 x4, .int .i64 x5, .int .u64 x6] 114) w9 (fun _b10 w11 =>
 doAl (.cells #[.int .i64 0, .int .i64 0, .int .u64 0] 114) w11 (fun b12 w13 =>
 ∃ (x14 : Int), World.cell? w13 ((blk b8).add 0) = some (.int .i64 x14) ∧ (
 ∃ (x15 : Int), World.cell? w13 ((blk b8).add 1) = some (.int .i64 x15) ∧ (
 ∃ (x16 : Int), World.cell? w13 ((blk b8).add 2) = some (.int .u64 x16) ∧ (
 doSt ((blk b12).add 0) (.int .i64 x14) w13 (fun w17 =>
 doSt ((blk b12).add 1) (.int .i64 x15) w17 (fun w18 =>
 doSt ((blk b12).add 2) (.int .u64 x16) w18 (fun w19 =>
 ∃ (x20 : Int), World.cell? w19 ((blk b12).add 0) = some (.int .i64 x20) ∧ (
 ∃ (x21 : Int), World.cell? w19 ((blk b12).add 1) = some (.int .i64 x21) ∧ (
 ∃ (x22 : Int), World.cell? w19 ((blk b12).add 2) = some (.int .u64 x22) ∧ (
 R (.returned (.tuple #[.agg #[.int .i64 x20, .int .i64 x21, .int .u64 x22], .bool (!is_7)])) w19))))))))))))
set_option maxRecDepth 100000 in
theorem sh163_ok (x_1 : Int) (x_2 : Int) (x_3 : Int) (x4 : Int) (x5 : Int) (x6 : Int) (is_7 : Bool) {R : Ending → World → Prop} {w : World} : sh163 x_1 x_2 x_3 x4 x5 x6 is_7 R w → Calls Tryz.prog 163 #[.agg #[.int .i64 x_1, .int .i64 x_2, .int .u64 x_3], .agg #[.int .i64 x4, .int .i64 x5, .int .u64 x6], .bool is_7] w R :=
  calls_of_eq (ann := fun _ => []) (fn := Tryz.f163) (c := bodyOf Tryz.f163) (args := #[.agg #[.int .i64 x_1, .int .i64 x_2, .int .u64 x_3], .agg #[.int .i64 x4, .int .i64 x5, .int .u64 x6], .bool is_7]) 400 follows_mixed Tryz.func163 (by kernel_rfl) (by kernel_rfl)
set_option maxRecDepth 100000 in
/-- joinery/split.where -/
def sh164 (o_1 : Int) (key_2 : Int) (R : Ending → World → Prop) (w : World) : Prop :=
 doAl (.cells #[.int .u8 o_1] 5) w (fun b3 w4 =>
 ∃ (x5 : Int), World.cell? w4 (blk b3) = some (.int .u8 x5) ∧ (
 doCall Tryz.prog (.func (.func 215) #[] #[]) #[.int .u8 x5, .int .i64 key_2] w4 (retS (fun v8 w9 => ∃ (x6 : Int), ∃ (x7 : Int), v8 = (.tuple #[.int .u64 x6, .int .i64 x7] : Value) ∧ (
 doAl (.cells #[.int .u64 0] 75) w9 (fun b10 w11 =>
 doSt ((blk b10).add 0) (.int .u64 x6) w11 (fun w12 =>
 ifB ((x7 : Int) != 0) (
 R (.returned (.tuple #[.nilFunc, .int .i64 2])) w12) (
 R (.returned (.tuple #[.func (.func 216) #[] #[.pointer (some (blk b3)), .pointer (some (blk b10))], .int .i64 0])) w12))))) (fun ch w => Kfn R ch [] w))))
set_option maxRecDepth 100000 in
theorem sh164_ok (o_1 : Int) (key_2 : Int) {R : Ending → World → Prop} {w : World} : sh164 o_1 key_2 R w → Calls Tryz.prog 164 #[.int .u8 o_1, .int .i64 key_2] w R :=
  calls_of_eq (ann := fun _ => []) (fn := Tryz.f164) (c := bodyOf Tryz.f164) (args := #[.int .u8 o_1, .int .i64 key_2]) 400 follows_mixed Tryz.func164 (by kernel_rfl) (by kernel_rfl)
set_option maxRecDepth 100000 in
/-- (*joinery/node.Node).of -/
def sh166 (n_1 : Option Addr) (R : Ending → World → Prop) (w : World) : Prop :=
 doAl (.cells #[.int .i64 0, .int .i64 0, .int .i64 0, .int .u64 0, .int .i64 0] 205) w (fun b2 w3 =>
 ifB ((n_1).isNone) (
 doSt ((blk b2).add 0) (.int .i64 0) w3 (fun w4 =>
 doSt ((blk b2).add 1) (.int .i64 0) w4 (fun w5 =>
 doSt ((blk b2).add 2) (.int .i64 0) w5 (fun w6 =>
 doSt ((blk b2).add 3) (.int .u64 0) w6 (fun w7 =>
 doSt ((blk b2).add 4) (.int .i64 0) w7 (fun w8 =>
 ∃ (x9 : Int), World.cell? w8 ((blk b2).add 0) = some (.int .i64 x9) ∧ (
 ∃ (x10 : Int), World.cell? w8 ((blk b2).add 1) = some (.int .i64 x10) ∧ (
 ∃ (x11 : Int), World.cell? w8 ((blk b2).add 2) = some (.int .i64 x11) ∧ (
 ∃ (x12 : Int), World.cell? w8 ((blk b2).add 3) = some (.int .u64 x12) ∧ (
 ∃ (x13 : Int), World.cell? w8 ((blk b2).add 4) = some (.int .i64 x13) ∧ (
 R (.returned (.agg #[.int .i64 x9, .int .i64 x10, .int .i64 x11, .int .u64 x12, .int .i64 x13])) w8))))))))))) (
 ∃ (q14 : Addr), n_1 = some q14 ∧ (
 ∃ (x15 : Int), World.cell? w3 ((q14.add 0).add 0) = some (.int .i64 x15) ∧ (
 ∃ (x16 : Int), World.cell? w3 ((q14.add 0).add 1) = some (.int .i64 x16) ∧ (
 ∃ (x17 : Int), World.cell? w3 ((q14.add 0).add 2) = some (.int .i64 x17) ∧ (
 ∃ (x18 : Int), World.cell? w3 ((q14.add 0).add 3) = some (.int .u64 x18) ∧ (
 ∃ (x19 : Int), World.cell? w3 ((q14.add 0).add 4) = some (.int .i64 x19) ∧ (
 doSt ((blk b2).add 0) (.int .i64 x15) w3 (fun w20 =>
 doSt ((blk b2).add 1) (.int .i64 x16) w20 (fun w21 =>
 doSt ((blk b2).add 2) (.int .i64 x17) w21 (fun w22 =>
 doSt ((blk b2).add 3) (.int .u64 x18) w22 (fun w23 =>
 doSt ((blk b2).add 4) (.int .i64 x19) w23 (fun w24 =>
 ∃ (x25 : Int), World.cell? w24 ((blk b2).add 0) = some (.int .i64 x25) ∧ (
 ∃ (x26 : Int), World.cell? w24 ((blk b2).add 1) = some (.int .i64 x26) ∧ (
 ∃ (x27 : Int), World.cell? w24 ((blk b2).add 2) = some (.int .i64 x27) ∧ (
 ∃ (x28 : Int), World.cell? w24 ((blk b2).add 3) = some (.int .u64 x28) ∧ (
 ∃ (x29 : Int), World.cell? w24 ((blk b2).add 4) = some (.int .i64 x29) ∧ (
 R (.returned (.agg #[.int .i64 x25, .int .i64 x26, .int .i64 x27, .int .u64 x28, .int .i64 x29])) w24))))))))))))))))))
set_option maxRecDepth 100000 in
theorem sh166_ok (n_1 : Option Addr) {R : Ending → World → Prop} {w : World} : sh166 n_1 R w → Calls Tryz.prog 166 #[.pointer n_1] w R :=
  calls_of_eq (ann := fun _ => []) (fn := Tryz.f166) (c := bodyOf Tryz.f166) (args := #[.pointer n_1]) 400 follows_mixed Tryz.func166 (by kernel_rfl) (by kernel_rfl)
set_option maxRecDepth 100000 in
/-- joinery/scheme.of -/
def sh167 (code_1 : Int) (R : Ending → World → Prop) (w : World) : Prop :=
 ifB ((code_1 : Int) == 1) (
 R (.returned (.iface 295 (.agg #[.string (⟨#[97, 118, 108]⟩ : ByteArray), .func (.func 218) #[] #[], .func (.func 219) #[] #[], .func (.func 220) #[] #[], .func (.func 221) #[] #[], .func (.func 222) #[] #[], .func (.func 223) #[] #[]]))) w) (
 ifB ((code_1 : Int) == 2) (
 R (.returned (.iface 295 (.agg #[.string (⟨#[114, 101, 100, 98, 108, 97, 99, 107]⟩ : ByteArray), .func (.func 224) #[] #[], .func (.func 225) #[] #[], .func (.func 226) #[] #[], .func (.func 227) #[] #[], .func (.func 228) #[] #[], .func (.func 229) #[] #[]]))) w) (
 ifB ((code_1 : Int) == 3) (
 R (.returned (.iface 295 (.agg #[.string (⟨#[119, 101, 105, 103, 104, 116]⟩ : ByteArray), .func (.func 230) #[] #[], .func (.func 231) #[] #[], .func (.func 232) #[] #[], .func (.func 233) #[] #[], .func (.func 234) #[] #[], .func (.func 223) #[] #[]]))) w) (
 ifB ((code_1 : Int) == 4) (
 R (.returned (.iface 296 (.agg #[]))) w) (
 R (.returned (.nilIface)) w))))
set_option maxRecDepth 100000 in
theorem sh167_ok (code_1 : Int) {R : Ending → World → Prop} {w : World} : sh167 code_1 R w → Calls Tryz.prog 167 #[.int .u8 code_1] w R :=
  calls_of_eq (ann := fun _ => []) (fn := Tryz.f167) (c := bodyOf Tryz.f167) (args := #[.int .u8 code_1]) 400 follows_mixed Tryz.func167 (by kernel_rfl) (by kernel_rfl)
set_option maxRecDepth 100000 in
/-- joinery/order.Name -/
def sh172 (o_1 : Int) (R : Ending → World → Prop) (w : World) : Prop :=
 let K4 : ByteArray → World → Prop := fun (x2 : ByteArray) (w3 : World) => 
 R (.returned (.string x2)) w3
 doCall Tryz.prog (.func (.func 235) #[] #[]) #[] w (retS (fun v6 w7 => ∃ (x5 : Option Nat), v6 = (.map x5 : Value) ∧ (
 doLk Tryz.prog 300 (.map x5) (.int .u8 o_1) false w7 (fun v15 => (∃ (x8 : ByteArray), ∃ (xf9 : Fn), ∃ (xx10 : Array Value), ∃ (xc11 : Array Value), ∃ (xf12 : Fn), ∃ (xx13 : Array Value), ∃ (xc14 : Array Value), v15 = (.agg #[.string x8, .func xf9 xx10 xc11, .func xf12 xx13 xc14] : Value) ∧ (
 K4 x8 w7)) ∨ (v15 = (.agg #[.string (⟨#[]⟩ : ByteArray), .nilFunc, .nilFunc] : Value) ∧ (
 K4 (⟨#[]⟩ : ByteArray) w7))))) (fun ch w => Kfn R ch [] w))
set_option maxRecDepth 100000 in
theorem sh172_ok (o_1 : Int) {R : Ending → World → Prop} {w : World} : sh172 o_1 R w → Calls Tryz.prog 172 #[.int .u8 o_1] w R :=
  calls_of_eq (ann := fun _ => []) (fn := Tryz.f172) (c := bodyOf Tryz.f172) (args := #[.int .u8 o_1]) 400 follows_mixed Tryz.func172 (by kernel_rfl) (by kernel_rfl)
set_option maxRecDepth 100000 in
/-- slices.Clone[[]joinery/api.Pair,joinery/api.Pair] -/
def sh173 (s_p1 : Option Addr) (s_n2 : Nat) (s_c3 : Nat) (R : Ending → World → Prop) (w : World) : Prop :=
 ifB ((s_p1 : Option Addr).isNone) (
 R (.returned (.slice none 0 0)) w) (
 doAl (.cells #[] 46) w (fun b4 w5 =>
 doGo Tryz.prog (.builtin .append #[22, 22] 22 #[false, false]) #[.slice (some (blk b4)) 0 0, .slice s_p1 s_n2 s_c3] w5 (retS (fun v9 w10 => ∃ (xp6 : Option Addr), ∃ (xn7 : Nat), ∃ (xc8 : Nat), v9 = (.slice xp6 xn7 xc8 : Value) ∧ (
 R (.returned (.slice xp6 xn7 xc8)) w10)) (fun ch w => Kfn R ch [] w))))
set_option maxRecDepth 100000 in
theorem sh173_ok (s_p1 : Option Addr) (s_n2 : Nat) (s_c3 : Nat) {R : Ending → World → Prop} {w : World} : sh173 s_p1 s_n2 s_c3 R w → Calls Tryz.prog 173 #[.slice s_p1 s_n2 s_c3] w R :=
  calls_of_eq (ann := fun _ => []) (fn := Tryz.f173) (c := bodyOf Tryz.f173) (args := #[.slice s_p1 s_n2 s_c3]) 400 follows_mixed Tryz.func173 (by kernel_rfl) (by kernel_rfl)
set_option maxRecDepth 100000 in
/-- slices.SortStableFunc[[]joinery/api.Pair,joinery/api.Pair] -/
def sh174 (x_p1 : Option Addr) (x_n2 : Nat) (x_c3 : Nat) (cmp_f4 : Fn) (cmp_x5 : Array Value) (cmp_c6 : Array Value) (R : Ending → World → Prop) (w : World) : Prop :=
 doCall Tryz.prog (.func (.func 236) #[] #[]) #[.slice x_p1 x_n2 x_c3, .int .i64 ((x_n2 : Nat) : Int), .func cmp_f4 cmp_x5 cmp_c6] w (retS (fun v7 w8 => v7 = (.tuple #[] : Value) ∧ (
 R (.returned (.tuple #[])) w8)) (fun ch w => Kfn R ch [] w))
set_option maxRecDepth 100000 in
theorem sh174_ok (x_p1 : Option Addr) (x_n2 : Nat) (x_c3 : Nat) (cmp_f4 : Fn) (cmp_x5 : Array Value) (cmp_c6 : Array Value) {R : Ending → World → Prop} {w : World} : sh174 x_p1 x_n2 x_c3 cmp_f4 cmp_x5 cmp_c6 R w → Calls Tryz.prog 174 #[.slice x_p1 x_n2 x_c3, .func cmp_f4 cmp_x5 cmp_c6] w R :=
  calls_of_eq (ann := fun _ => []) (fn := Tryz.f174) (c := bodyOf Tryz.f174) (args := #[.slice x_p1 x_n2 x_c3, .func cmp_f4 cmp_x5 cmp_c6]) 400 follows_mixed Tryz.func174 (by kernel_rfl) (by kernel_rfl)
end Go.Proofs.YtlddfgfmkapoiaaGreat

