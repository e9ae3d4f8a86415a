/-
  Printed by a program (gen.py): what the functions of the program do, as formulas; each with the proof that its call is what the formula says.
-/
/-
  Printed by a program (gen.py): what the functions of the program do, as formulas; each with the proof that its call is what the formula says.
-/
/-
  Printed by a program (gen.py): what the functions of the program do, as formulas; each with the proof that its call is what the formula says.
-/
/-
  Printed by a program (gen.py): what the functions of the program do, as formulas; each with the proof that its call is what the formula says.
-/
/-
  Printed by a program (gen.py): what the functions of the program do, as formulas; each with the proof that its call is what the formula says.
-/
/-
  Printed by a program (gen.py): what the functions of the program do, as formulas; each with the proof that its call is what the formula says.
-/
/-
  Printed by a program (gen.py): what the functions of the program do, as formulas; each with the proof that its call is what the formula says.
-/
import Derived.Test.YtlfjaogbehpleaaGreatZ04
import Derived.Test.YtlfjaogbehpleaaGreatProg
import Derived.Test.YtlfjaogbehpleaaGreatZ05

namespace Go.Proofs.YtlfjaogbehpleaaGreat
open Go Go.Sh
set_option maxRecDepth 100000 in
/-- joinery/joineryref01.Flip -/
def sh85 (x_1 : Int) (R : Ending → World → Prop) (w : World) : Prop :=
 ∃ (I2 : List Value → World → Prop) (μ3 : List Value → World → Nat), I2 [.int .u64 x_1, .int .u64 0, .int .i64 0] w ∧ (∀ (x_6 : Int), ∀ (y_7 : Int), ∀ (i_8 : Int), ∀ (_j4 : Nat → Value) (w5 : World), I2 [.int .u64 x_6, .int .u64 y_7, .int .i64 i_8] w5 → (
 ifB (decide ((i_8 : Int) < 64)) (
 2 ≠ (0 : Int) ∧ (
 2 ≠ (0 : Int) ∧ (
 I2 [.int .u64 (IntKind.wrap .u64 (Int.tdiv x_6 2)), .int .u64 (IntKind.wrap .u64 ((IntKind.wrap .u64 (y_7 * 2)) + (Int.tmod x_6 2))), .int .i64 (IntKind.wrap .i64 (i_8 + 1))] w5 ∧ μ3 [.int .u64 (IntKind.wrap .u64 (Int.tdiv x_6 2)), .int .u64 (IntKind.wrap .u64 ((IntKind.wrap .u64 (y_7 * 2)) + (Int.tmod x_6 2))), .int .i64 (IntKind.wrap .i64 (i_8 + 1))] w5 < μ3 [.int .u64 x_6, .int .u64 y_7, .int .i64 i_8] w5))) (
 R (.returned (.int .u64 y_7)) w5)))
set_option maxRecDepth 100000 in
theorem sh85_ok (x_1 : Int) {R : Ending → World → Prop} {w : World} : sh85 x_1 R w → Calls Tryz.prog 85 #[.int .u64 x_1] w R :=
  Old.calls_of_eq (ann := fun i => if i = 0 then [(0, .int .u64 0), (3, .int .u64 0), (4, .int .i64 0)] else []) (fn := Tryz.f85) (c := bodyOf Tryz.f85) (args := #[.int .u64 x_1]) 400 follows_mixed Tryz.func85 (by kernel_rfl) (by kernel_rfl)
set_option maxRecDepth 100000 in
/-- joinery/joineryref01.Turn -/
def sh86 (x_1 : Int) (n_2 : Int) (R : Ending → World → Prop) (w : World) : Prop :=
 64 ≠ (0 : Int) ∧ (
 64 ≠ (0 : Int) ∧ (
 ∃ (I3 : List Value → World → Prop) (μ4 : List Value → World → Nat), I3 [.int .u64 0, .int .i64 0] w ∧ (∀ (y_7 : Int), ∀ (i_8 : Int), ∀ (_j5 : Nat → Value) (w6 : World), I3 [.int .u64 y_7, .int .i64 i_8] w6 → (
 ifB (decide ((i_8 : Int) < 64)) (
 (0 : Int) ≤ (IntKind.wrap .u64 i_8) ∧ (
 2 ≠ (0 : Int) ∧ (
 64 ≠ (0 : Int) ∧ (
 (0 : Int) ≤ (IntKind.wrap .u64 (Int.tmod (IntKind.wrap .i64 (i_8 + (Int.tmod (IntKind.wrap .i64 ((Int.tmod n_2 64) + 64)) 64))) 64)) ∧ (
 I3 [.int .u64 (IntKind.wrap .u64 (y_7 + (IntKind.wrap .u64 ((Int.tmod (Int.fdiv x_1 (2 ^ (min ((IntKind.wrap .u64 i_8) : Int).toNat (IntKind.bits .u64)))) 2) * 2 ^ (min ((IntKind.wrap .u64 (Int.tmod (IntKind.wrap .i64 (i_8 + (Int.tmod (IntKind.wrap .i64 ((Int.tmod n_2 64) + 64)) 64))) 64)) : Int).toNat (IntKind.bits .u64)))))), .int .i64 (IntKind.wrap .i64 (i_8 + 1))] w6 ∧ μ4 [.int .u64 (IntKind.wrap .u64 (y_7 + (IntKind.wrap .u64 ((Int.tmod (Int.fdiv x_1 (2 ^ (min ((IntKind.wrap .u64 i_8) : Int).toNat (IntKind.bits .u64)))) 2) * 2 ^ (min ((IntKind.wrap .u64 (Int.tmod (IntKind.wrap .i64 (i_8 + (Int.tmod (IntKind.wrap .i64 ((Int.tmod n_2 64) + 64)) 64))) 64)) : Int).toNat (IntKind.bits .u64)))))), .int .i64 (IntKind.wrap .i64 (i_8 + 1))] w6 < μ4 [.int .u64 y_7, .int .i64 i_8] w6))))) (
 R (.returned (.int .u64 y_7)) w6)))))
set_option maxRecDepth 100000 in
theorem sh86_ok (x_1 : Int) (n_2 : Int) {R : Ending → World → Prop} {w : World} : sh86 x_1 n_2 R w → Calls Tryz.prog 86 #[.int .u64 x_1, .int .i64 n_2] w R :=
  Old.calls_of_eq (ann := fun i => if i = 0 then [(5, .int .u64 0), (6, .int .i64 0)] else []) (fn := Tryz.f86) (c := bodyOf Tryz.f86) (args := #[.int .u64 x_1, .int .i64 n_2]) 400 follows_mixed Tryz.func86 (by kernel_rfl) (by kernel_rfl)
set_option maxRecDepth 100000 in
/-- joinery/joineryref01.Mix -/
def sh87 (x_1 : Int) (R : Ending → World → Prop) (w : World) : Prop :=
 1073741824 ≠ (0 : Int) ∧ (
 134217728 ≠ (0 : Int) ∧ (
 2147483648 ≠ (0 : Int) ∧ (
 R (.returned (.int .u64 (bXor .u64 (IntKind.wrap .u64 ((bXor .u64 (IntKind.wrap .u64 ((bXor .u64 x_1 (IntKind.wrap .u64 (Int.tdiv x_1 1073741824))) * 13787848793156543929)) (IntKind.wrap .u64 (Int.tdiv (IntKind.wrap .u64 ((bXor .u64 x_1 (IntKind.wrap .u64 (Int.tdiv x_1 1073741824))) * 13787848793156543929)) 134217728))) * 10723151780598845931)) (IntKind.wrap .u64 (Int.tdiv (IntKind.wrap .u64 ((bXor .u64 (IntKind.wrap .u64 ((bXor .u64 x_1 (IntKind.wrap .u64 (Int.tdiv x_1 1073741824))) * 13787848793156543929)) (IntKind.wrap .u64 (Int.tdiv (IntKind.wrap .u64 ((bXor .u64 x_1 (IntKind.wrap .u64 (Int.tdiv x_1 1073741824))) * 13787848793156543929)) 134217728))) * 10723151780598845931)) 2147483648))))) w)))
set_option maxRecDepth 100000 in
theorem sh87_ok (x_1 : Int) {R : Ending → World → Prop} {w : World} : sh87 x_1 R w → Calls Tryz.prog 87 #[.int .u64 x_1] w R :=
  Old.calls_of_eq (ann := fun _ => []) (fn := Tryz.f87) (c := bodyOf Tryz.f87) (args := #[.int .u64 x_1]) 400 follows_mixed Tryz.func87 (by kernel_rfl) (by kernel_rfl)
end Go.Proofs.YtlfjaogbehpleaaGreat

namespace Go.Proofs.YtlfjaogbehpleaaGreat
open Go Go.Sh
set_option maxRecDepth 100000 in
/-- joinery/order.kinds -/
def sh111  (R : Ending → World → Prop) (w : World) : Prop :=
 doAl (.map #[] 0) w (fun b1 w2 =>
 doMu Tryz.prog 156 (.map (some b1)) (.int .u8 1) (.agg #[.string (⟨#[117, 112]⟩ : ByteArray), .func (.func 174) #[] #[], .func (.func 175) #[] #[]]) w2 (fun w3 =>
 doMu Tryz.prog 156 (.map (some b1)) (.int .u8 2) (.agg #[.string (⟨#[100, 111, 119, 110]⟩ : ByteArray), .func (.func 176) #[] #[], .func (.func 177) #[] #[]]) w3 (fun w4 =>
 doMu Tryz.prog 156 (.map (some b1)) (.int .u8 3) (.agg #[.string (⟨#[115, 105, 122, 101]⟩ : ByteArray), .func (.func 178) #[] #[], .func (.func 179) #[] #[]]) w4 (fun w5 =>
 doMu Tryz.prog 156 (.map (some b1)) (.int .u8 4) (.agg #[.string (⟨#[98, 105, 116, 115]⟩ : ByteArray), .func (.func 180) #[] #[], .func (.func 182) #[] #[]]) w5 (fun w6 =>
 doMu Tryz.prog 156 (.map (some b1)) (.int .u8 5) (.agg #[.string (⟨#[101, 118, 101, 110]⟩ : ByteArray), .func (.func 183) #[] #[], .func (.func 184) #[] #[]]) w6 (fun w7 =>
 doMu Tryz.prog 156 (.map (some b1)) (.int .u8 6) (.agg #[.string (⟨#[108, 111, 119]⟩ : ByteArray), .func (.func 185) #[] #[], .func (.func 186) #[] #[]]) w7 (fun w8 =>
 doMu Tryz.prog 156 (.map (some b1)) (.int .u8 7) (.agg #[.string (⟨#[109, 105, 120]⟩ : ByteArray), .func (.func 187) #[] #[], .func (.func 188) #[] #[]]) w8 (fun w9 =>
 R (.returned (.map (some b1))) w9))))))))
set_option maxRecDepth 100000 in
theorem sh111_ok  {R : Ending → World → Prop} {w : World} : sh111  R w → Calls Tryz.prog 111 #[] w R :=
  Old.calls_of_eq (ann := fun _ => []) (fn := Tryz.f111) (c := bodyOf Tryz.f111) (args := #[]) 400 follows_mixed Tryz.func111 (by kernel_rfl) (by kernel_rfl)
end Go.Proofs.YtlfjaogbehpleaaGreat

namespace Go.Proofs.YtlfjaogbehpleaaGreat
open Go Go.Sh
set_option maxRecDepth 100000 in
/-- joinery/row.two$1 -/
def sh123 (yield_f1 : Fn) (yield_x2 : Array Value) (yield_c3 : Array Value) (x4 : Addr) (R : Ending → World → Prop) (w : World) : Prop :=
 ∃ (xp5 : Option Addr), ∃ (xn6 : Nat), ∃ (xc7 : Nat), World.cell? w x4 = some (.slice xp5 xn6 xc7) ∧ (
 ∃ (I8 : List Value → World → Prop) (μ9 : List Value → World → Nat), I8 [.int .i64 0] w ∧ (∀ (x12 : Int), ∀ (_j10 : Nat → Value) (w11 : World), I8 [.int .i64 x12] w11 → (
 ifB (decide ((x12 : Int) < ((xn6 : Nat) : Int))) (
 let K14 : World → Prop := fun (w13 : World) => 
 I8 [.int .i64 (IntKind.wrap .i64 (x12 + 1))] w13 ∧ μ9 [.int .i64 (IntKind.wrap .i64 (x12 + 1))] w13 < μ9 [.int .i64 x12] w11
 let K17 : Bool → World → Prop := fun (x15 : Bool) (w16 : World) => 
 ifB x15 (
 R (.returned (.tuple #[])) w16) (
 K14 w16)
 doDr w11 (fun w19 =>
 ∃ (C18 : World → Prop), C18 w19 ∧ (
 ifB (decide ((x12 : Int) > 0)) (
 ∃ (xp20 : Option Addr), ∃ (xn21 : Nat), ∃ (xc22 : Nat), (∀ w, C18 w → World.cell? w x4 = some (.slice xp20 xn21 xc22)) ∧ (
 doIx xp20 xn21 2 (IntKind.wrap .i64 (x12 - 1)) (fun a23 =>
 ∃ (x24 : Int), (∀ w, C18 w → World.cell? w (a23.add 0) = some (.int .i64 x24)) ∧ (
 ∃ (x25 : Int), (∀ w, C18 w → World.cell? w (a23.add 1) = some (.int .i64 x25)) ∧ (
 ∃ (xp26 : Option Addr), ∃ (xn27 : Nat), ∃ (xc28 : Nat), (∀ w, C18 w → World.cell? w x4 = some (.slice xp26 xn27 xc28)) ∧ (
 doIx xp26 xn27 2 (x12) (fun a29 =>
 ∃ (x30 : Int), (∀ w, C18 w → World.cell? w (a29.add 0) = some (.int .i64 x30)) ∧ (
 ∃ (x31 : Int), (∀ w, C18 w → World.cell? w (a29.add 1) = some (.int .i64 x31)) ∧ (
 doCall Tryz.prog (.func yield_f1 yield_x2 yield_c3) #[.agg #[.int .i64 x24, .int .i64 x25], .agg #[.int .i64 x30, .int .i64 x31]] w19 (retS (fun v33 w34 => ∃ (x32 : Bool), v33 = (.bool x32 : Value) ∧ (
 C18 w34 ∧ (
 K17 (!x32) w34))) (fun ch w => Kfn R ch [] w))))))))))) (
 K14 w19)))) (
 R (.returned (.tuple #[])) w11))))
set_option maxRecDepth 100000 in
theorem sh123_ok (yield_f1 : Fn) (yield_x2 : Array Value) (yield_c3 : Array Value) (x4 : Addr) {R : Ending → World → Prop} {w : World} : sh123 yield_f1 yield_x2 yield_c3 x4 R w → Calls Tryz.prog 123 #[.func yield_f1 yield_x2 yield_c3, .pointer (some x4)] w R :=
  Old.calls_of_eq (ann := fun i => if i = 0 then [(6, .int .i64 0)] else []) (fn := Tryz.f123) (c := bodyOf Tryz.f123) (args := #[.func yield_f1 yield_x2 yield_c3, .pointer (some x4)]) 400 follows_mixed Tryz.func123 (by kernel_rfl) (by kernel_rfl)
set_option maxRecDepth 100000 in
/-- joinery/order.Code -/
def sh124 (o_1 : Int) (key_2 : Int) (R : Ending → World → Prop) (w : World) : Prop :=
 let K6 : Addr → Bool → World → Prop := fun (k_3 : Addr) (is_4 : Bool) (w5 : World) => 
 ifB (!is_4) (
 R (.returned (.tuple #[.int .u64 0, .int .i64 2])) w5) (
 ∃ (xf7 : Fn), ∃ (xx8 : Array Value), ∃ (xc9 : Array Value), World.cell? w5 (k_3.add 1) = some (.func xf7 xx8 xc9) ∧ (
 doCall Tryz.prog (.func xf7 xx8 xc9) #[.int .i64 key_2] w5 (retS (fun v11 w12 => ∃ (x10 : Int), v11 = (.int .u64 x10 : Value) ∧ (
 R (.returned (.tuple #[.int .u64 x10, .int .i64 0])) w12)) (fun ch w => Kfn R ch [] w))))
 doCall Tryz.prog (.func (.func 111) #[] #[]) #[] w (retS (fun v14 w15 => ∃ (x13 : Option Nat), v14 = (.map x13 : Value) ∧ (
 doLk Tryz.prog 156 (.map x13) (.int .u8 o_1) true w15 (fun v24 => (∃ (x16 : ByteArray), ∃ (xf17 : Fn), ∃ (xx18 : Array Value), ∃ (xc19 : Array Value), ∃ (xf20 : Fn), ∃ (xx21 : Array Value), ∃ (xc22 : Array Value), ∃ (x23 : Bool), v24 = (.tuple #[.agg #[.string x16, .func xf17 xx18 xc19, .func xf20 xx21 xc22], .bool x23] : Value) ∧ (
 doAl (.cells #[.string (⟨#[]⟩ : ByteArray), .nilFunc, .nilFunc] 155) w15 (fun b25 w26 =>
 doSt ((blk b25).add 0) (.string x16) w26 (fun w27 =>
 doSt ((blk b25).add 1) (.func xf17 xx18 xc19) w27 (fun w28 =>
 doSt ((blk b25).add 2) (.func xf20 xx21 xc22) w28 (fun w29 =>
 K6 (blk b25) x23 w29)))))) ∨ (v24 = (.tuple #[.agg #[.string (⟨#[]⟩ : ByteArray), .nilFunc, .nilFunc], .bool false] : Value) ∧ (
 doAl (.cells #[.string (⟨#[]⟩ : ByteArray), .nilFunc, .nilFunc] 155) w15 (fun b30 w31 =>
 doSt ((blk b30).add 0) (.string (⟨#[]⟩ : ByteArray)) w31 (fun w32 =>
 doSt ((blk b30).add 1) (.nilFunc) w32 (fun w33 =>
 doSt ((blk b30).add 2) (.nilFunc) w33 (fun w34 =>
 K6 (blk b30) false w34))))))))) (fun ch w => Kfn R ch [] w))
set_option maxRecDepth 100000 in
theorem sh124_ok (o_1 : Int) (key_2 : Int) {R : Ending → World → Prop} {w : World} : sh124 o_1 key_2 R w → Calls Tryz.prog 124 #[.int .u8 o_1, .int .i64 key_2] w R :=
  Old.calls_of_eq (ann := fun _ => []) (fn := Tryz.f124) (c := bodyOf Tryz.f124) (args := #[.int .u8 o_1, .int .i64 key_2]) 400 follows_mixed Tryz.func124 (by kernel_rfl) (by kernel_rfl)
set_option maxRecDepth 100000 in
/-- cmp.Compare[uint64] -/
def sh125 (x_1 : Int) (y_2 : Int) (R : Ending → World → Prop) (w : World) : Prop :=
 doCall Tryz.prog (.func (.func 192) #[] #[]) #[.int .u64 x_1] w (retS (fun v4 w5 => ∃ (x3 : Bool), v4 = (.bool x3 : Value) ∧ (
 doCall Tryz.prog (.func (.func 192) #[] #[]) #[.int .u64 y_2] w5 (retS (fun v7 w8 => ∃ (x6 : Bool), v7 = (.bool x6 : Value) ∧ (
 ifB x3 (
 ifB x6 (
 R (.returned (.int .i64 0)) w8) (
 R (.returned (.int .i64 (-1))) w8)) (
 ifB x6 (
 R (.returned (.int .i64 1)) w8) (
 ifB (decide ((x_1 : Int) < y_2)) (
 R (.returned (.int .i64 (-1))) w8) (
 ifB (decide ((x_1 : Int) > y_2)) (
 R (.returned (.int .i64 1)) w8) (
 R (.returned (.int .i64 0)) w8)))))) (fun ch w => Kfn R ch [] w)))) (fun ch w => Kfn R ch [] w))
set_option maxRecDepth 100000 in
theorem sh125_ok (x_1 : Int) (y_2 : Int) {R : Ending → World → Prop} {w : World} : sh125 x_1 y_2 R w → Calls Tryz.prog 125 #[.int .u64 x_1, .int .u64 y_2] w R :=
  Old.calls_of_eq (ann := fun _ => []) (fn := Tryz.f125) (c := bodyOf Tryz.f125) (args := #[.int .u64 x_1, .int .u64 y_2]) 400 follows_mixed Tryz.func125 (by kernel_rfl) (by kernel_rfl)
set_option maxRecDepth 100000 in
/-- joinery/mix.Mix -/
def sh127 (x_1 : Int) (R : Ending → World → Prop) (w : World) : Prop :=
 doAl (.cells #[.int .u64 x_1] 79) w (fun b2 w3 =>
 doCall Tryz.prog (.func (.func 210) #[] #[]) #[.bool false] w3 (retS (fun v7 w8 => ∃ (xf4 : Fn), ∃ (xx5 : Array Value), ∃ (xc6 : Array Value), v7 = (.func xf4 xx5 xc6 : Value) ∧ (
 rfW Tryz.prog (.func xf4 xx5 xc6) (mkLoop #[.int .u64 x_1, .pointer (some (blk b2)), .int .u64 0, undef, .func xf4 xx5 xc6, undef, undef, undef, undef, undef, undef, undef, undef, undef, undef, undef] (rfOf Tryz.f127 0).1 (rfOf Tryz.f127 0).2.1 (rfOf Tryz.f127 0).2.2)
 (fun w9 =>
 ∃ (x10 : Int), World.cell? w9 (blk b2) = some (.int .u64 x10) ∧ (
 w9.heap[w8.heap.size]? = some (.deferred (some [])) ∧ (
 let w11 : World := w9.putObj w8.heap.size (.deferred none)
 R (.returned (.int .u64 x10)) w11)))
 (fun w12 =>
 w12.heap[w8.heap.size]? = some (.deferred (some [])) ∧ (
 let w13 : World := w12.putObj w8.heap.size (.deferred none)
 R (.returned (.int .u64 0)) w13))
 [] w8)) (fun ch w => Kfn R ch [] w)))
set_option maxRecDepth 100000 in
theorem sh127_ok (x_1 : Int) {R : Ending → World → Prop} {w : World} : sh127 x_1 R w → Calls Tryz.prog 127 #[.int .u64 x_1] w R :=
  Old.calls_of_eq (ann := fun _ => []) (fn := Tryz.f127) (c := bodyOf Tryz.f127) (args := #[.int .u64 x_1]) 400 follows_mixed Tryz.func127 (by kernel_rfl) (by kernel_rfl)
set_option maxRecDepth 100000 in
/-- joinery/mix.Mix, a round of loop 0 -/
def sh127_0 (x_1 : Addr) (y17 : Int) (y18 : Int) (l : Nat) (R : Ending → World → Prop) (w : World) : Prop :=
 doAl (.cells #[.int .i64 0, .int .u64 0] 247) w (fun b19 w20 =>
 doSt ((blk b19).add 0) (.int .i64 y17) w20 (fun w21 =>
 doSt ((blk b19).add 1) (.int .u64 y18) w21 (fun w22 =>
 ∃ (r23 : Loop), w22.heap[l]? = some (.loop r23) ∧ r23.state = .ready ∧ (
 let w24 : World := w22.putObj l (.loop { r23 with state := .busy })
 doDr w24 (fun w26 =>
 ∃ (C25 : World → Prop), C25 w26 ∧ (
 ∃ (x27 : Int), (∀ w, C25 w → World.cell? w x_1 = some (.int .u64 x27)) ∧ (
 ∃ (x28 : Int), (∀ w, C25 w → World.cell? w x_1 = some (.int .u64 x28)) ∧ (
 ∃ (x29 : Int), (∀ w, C25 w → World.cell? w ((blk b19).add 0) = some (.int .i64 x29)) ∧ (
 (0 : Int) ≤ x29 ∧ (
 ∃ (x30 : Int), (∀ w, C25 w → World.cell? w ((blk b19).add 1) = some (.int .u64 x30)) ∧ (
 doSt (x_1.add 0) (.int .u64 (IntKind.wrap .u64 ((bXor .u64 x27 (Int.fdiv x28 (2 ^ (min (x29 : Int).toNat (IntKind.bits .u64))))) * x30))) w26 (fun w31 =>
 ∃ (r32 : Loop), w31.heap[l]? = some (.loop r32) ∧ R (.returned (.bool true)) (w31.putObj l (.loop { r32 with state := .ready, pending := none }))))))))))))))
set_option maxRecDepth 100000 in
theorem sh127_0_ok {dd2 : Value} {dd3 : Value} {dd4 : Value} {dd5 : Value} {dd6 : Value} {dd7 : Value} {dd8 : Value} {dd9 : Value} {dd10 : Value} {dd11 : Value} {dd12 : Value} {dd13 : Value} {dd14 : Value} {dd15 : Value} {dd16 : Value} {x_1 : Addr} {y17 : Int} {y18 : Int} {l fn D : Nat} {R : Ending → World → Prop} {w : World} (hl : w.heap[l]? = some (.loop (mkLoop #[dd2, .pointer (some x_1), dd3, dd4, dd5, dd6, dd7, dd8, dd9, dd10, dd11, dd12, dd13, dd14, dd15, dd16] (rfOf Tryz.f127 0).1 (rfOf Tryz.f127 0).2.1 (rfOf Tryz.f127 0).2.2 fn D))) : sh127_0 x_1 y17 y18 l R w → doCall Tryz.prog (.func (.yield l) #[] #[]) #[.agg #[.int .i64 y17, .int .u64 y18]] w R :=
  fun h => ⟨Old.round_of_eq (ann := fun _ => []) 400 follows_mixed hl (by kernel_rfl) (by kernel_rfl) h⟩
set_option maxRecDepth 100000 in
/-- (*joinery/node.Node).Left -/
def sh128 (n_1 : Option Addr) (R : Ending → World → Prop) (w : World) : Prop :=
 ifB ((n_1).isNone) (
 R (.returned (.pointer none)) w) (
 ∃ (q2 : Addr), n_1 = some q2 ∧ (
 ∃ (x3 : Option Addr), World.cell? w (q2.add 5) = some (.pointer x3) ∧ (
 R (.returned (.pointer x3)) w)))
set_option maxRecDepth 100000 in
theorem sh128_ok (n_1 : Option Addr) {R : Ending → World → Prop} {w : World} : sh128 n_1 R w → Calls Tryz.prog 128 #[.pointer n_1] w R :=
  Old.calls_of_eq (ann := fun _ => []) (fn := Tryz.f128) (c := bodyOf Tryz.f128) (args := #[.pointer n_1]) 400 follows_mixed Tryz.func128 (by kernel_rfl) (by kernel_rfl)
set_option maxRecDepth 100000 in
/-- joinery/mix.Turn -/
def sh129 (x_1 : Int) (n_2 : Int) (R : Ending → World → Prop) (w : World) : Prop :=
 64 ≠ (0 : Int) ∧ (
 doCall Tryz.prog (.func (.func 211) #[] #[]) #[.int .u64 x_1, .int .i64 (Int.tmod n_2 64)] w (retS (fun v4 w5 => ∃ (x3 : Int), v4 = (.int .u64 x3 : Value) ∧ (
 R (.returned (.int .u64 x3)) w5)) (fun ch w => Kfn R ch [] w)))
set_option maxRecDepth 100000 in
theorem sh129_ok (x_1 : Int) (n_2 : Int) {R : Ending → World → Prop} {w : World} : sh129 x_1 n_2 R w → Calls Tryz.prog 129 #[.int .u64 x_1, .int .i64 n_2] w R :=
  Old.calls_of_eq (ann := fun _ => []) (fn := Tryz.f129) (c := bodyOf Tryz.f129) (args := #[.int .u64 x_1, .int .i64 n_2]) 400 follows_mixed Tryz.func129 (by kernel_rfl) (by kernel_rfl)
set_option maxRecDepth 100000 in
/-- (*joinery/node.Node).Right -/
def sh130 (n_1 : Option Addr) (R : Ending → World → Prop) (w : World) : Prop :=
 ifB ((n_1).isNone) (
 R (.returned (.pointer none)) w) (
 ∃ (q2 : Addr), n_1 = some q2 ∧ (
 ∃ (x3 : Option Addr), World.cell? w (q2.add 6) = some (.pointer x3) ∧ (
 R (.returned (.pointer x3)) w)))
set_option maxRecDepth 100000 in
theorem sh130_ok (n_1 : Option Addr) {R : Ending → World → Prop} {w : World} : sh130 n_1 R w → Calls Tryz.prog 130 #[.pointer n_1] w R :=
  Old.calls_of_eq (ann := fun _ => []) (fn := Tryz.f130) (c := bodyOf Tryz.f130) (args := #[.pointer n_1]) 400 follows_mixed Tryz.func130 (by kernel_rfl) (by kernel_rfl)
set_option maxRecDepth 100000 in
/-- (*joinery/node.Node).Key -/
def sh131 (n_1 : Option Addr) (R : Ending → World → Prop) (w : World) : Prop :=
 doCall Tryz.prog (.func (.func 79) #[] #[]) #[.pointer n_1] w (retS (fun v7 w8 => ∃ (x2 : Int), ∃ (x3 : Int), ∃ (x4 : Int), ∃ (x5 : Int), ∃ (x6 : Int), v7 = (.agg #[.int .i64 x2, .int .i64 x3, .int .i64 x4, .int .u64 x5, .int .i64 x6] : Value) ∧ (
 R (.returned (.int .i64 x2)) w8)) (fun ch w => Kfn R ch [] w))
set_option maxRecDepth 100000 in
theorem sh131_ok (n_1 : Option Addr) {R : Ending → World → Prop} {w : World} : sh131 n_1 R w → Calls Tryz.prog 131 #[.pointer n_1] w R :=
  Old.calls_of_eq (ann := fun _ => []) (fn := Tryz.f131) (c := bodyOf Tryz.f131) (args := #[.pointer n_1]) 400 follows_mixed Tryz.func131 (by kernel_rfl) (by kernel_rfl)
set_option maxRecDepth 100000 in
/-- (*joinery/node.Node).Val -/
def sh132 (n_1 : Option Addr) (R : Ending → World → Prop) (w : World) : Prop :=
 doCall Tryz.prog (.func (.func 79) #[] #[]) #[.pointer n_1] w (retS (fun v7 w8 => ∃ (x2 : Int), ∃ (x3 : Int), ∃ (x4 : Int), ∃ (x5 : Int), ∃ (x6 : Int), v7 = (.agg #[.int .i64 x2, .int .i64 x3, .int .i64 x4, .int .u64 x5, .int .i64 x6] : Value) ∧ (
 R (.returned (.int .i64 x3)) w8)) (fun ch w => Kfn R ch [] w))
set_option maxRecDepth 100000 in
theorem sh132_ok (n_1 : Option Addr) {R : Ending → World → Prop} {w : World} : sh132 n_1 R w → Calls Tryz.prog 132 #[.pointer n_1] w R :=
  Old.calls_of_eq (ann := fun _ => []) (fn := Tryz.f132) (c := bodyOf Tryz.f132) (args := #[.pointer n_1]) 400 follows_mixed Tryz.func132 (by kernel_rfl) (by kernel_rfl)
set_option maxRecDepth 100000 in
/-- joinery/rowset.Sort -/
def sh137 (o_1 : Int) (p_2 : Int) (l_p3 : Option Addr) (l_n4 : Nat) (l_c5 : Nat) (R : Ending → World → Prop) (w : World) : Prop :=
 doAl (.cells #[.int .u8 o_1] 5) w (fun b6 w7 =>
 let K10 : Bool → World → Prop := fun (x8 : Bool) (w9 : World) => 
 ifB x8 (
 R (.returned (.tuple #[.slice none 0 0, .int .i64 2])) w9) (
 doCall Tryz.prog (.func (.func 37) #[] #[]) #[.slice l_p3 l_n4 l_c5] w9 (retS (fun v14 w15 => ∃ (xp11 : Option Addr), ∃ (xn12 : Nat), ∃ (xc13 : Nat), v14 = (.slice xp11 xn12 xc13 : Value) ∧ (
 doCall Tryz.prog (.func (.func 217) #[] #[]) #[.slice xp11 xn12 xc13, .func (.func 218) #[] #[.pointer (some (blk b6))]] w15 (retS (fun v16 w17 => v16 = (.tuple #[] : Value) ∧ (
 ∃ (I18 : List Value → World → Prop) (μ19 : List Value → World → Nat), I18 [.slice none 0 0, .int .i64 0] w17 ∧ (∀ (out_p22 : Option Addr), ∀ (out_n23 : Nat), ∀ (out_c24 : Nat), ∀ (x25 : Int), ∀ (_j20 : Nat → Value) (w21 : World), I18 [.slice out_p22 out_n23 out_c24, .int .i64 x25] w21 → (
 ifB (decide ((x25 : Int) < ((xn12 : Nat) : Int))) (
 let K30 : (Option Addr) → Nat → Nat → World → Prop := fun (out_p26 : Option Addr) (out_n27 : Nat) (out_c28 : Nat) (w29 : World) => 
 I18 [.slice out_p26 out_n27 out_c28, .int .i64 (IntKind.wrap .i64 (x25 + 1))] w29 ∧ μ19 [.slice out_p26 out_n27 out_c28, .int .i64 (IntKind.wrap .i64 (x25 + 1))] w29 < μ19 [.slice out_p22 out_n23 out_c24, .int .i64 x25] w21
 doIx xp11 xn12 2 (x25) (fun a31 =>
 ∃ (x32 : Int), World.cell? w21 (a31.add 0) = some (.int .i64 x32) ∧ (
 ∃ (x33 : Int), World.cell? w21 (a31.add 1) = some (.int .i64 x33) ∧ (
 doAl (.cells #[.int .i64 0, .int .i64 0] 63) w21 (fun b34 w35 =>
 doSt ((blk b34).add 0) (.int .i64 x32) w35 (fun w36 =>
 doSt ((blk b34).add 1) (.int .i64 x33) w36 (fun w37 =>
 let K40 : Bool → World → Prop := fun (x38 : Bool) (w39 : World) => 
 ifB x38 (
 ∃ (x41 : Int), World.cell? w39 ((blk b34).add 0) = some (.int .i64 x41) ∧ (
 ∃ (x42 : Int), World.cell? w39 ((blk b34).add 1) = some (.int .i64 x42) ∧ (
 doAl (.cells #[.int .i64 x41, .int .i64 x42] 63) w39 (fun b43 w44 =>
 doGo Tryz.prog (.builtin .append #[22, 22] 22 #[false, false]) #[.slice out_p22 out_n23 out_c24, .slice (some (blk b43)) 1 1] w44 (retS (fun v48 w49 => ∃ (xp45 : Option Addr), ∃ (xn46 : Nat), ∃ (xc47 : Nat), v48 = (.slice xp45 xn46 xc47 : Value) ∧ (
 K30 xp45 xn46 xc47 w49)) (fun ch w => Kfn R ch [] w)))))) (
 doDr w39 (fun w51 =>
 ∃ (C50 : World → Prop), C50 w51 ∧ (
 doIx out_p22 out_n23 2 (IntKind.wrap .i64 (((out_n23 : Nat) : Int) - 1)) (fun a52 =>
 ∃ (x53 : Int), (∀ w, C50 w → World.cell? w (a52.add 1) = some (.int .i64 x53)) ∧ (
 ∃ (x54 : Int), (∀ w, C50 w → World.cell? w ((blk b34).add 1) = some (.int .i64 x54)) ∧ (
 doCall Tryz.prog (.func (.func 78) #[] #[]) #[.int .u8 p_2, .int .i64 x53, .int .i64 x54] w51 (retS (fun v57 w58 => ∃ (x55 : Int), ∃ (x56 : Int), v57 = (.tuple #[.int .i64 x55, .int .i64 x56] : Value) ∧ (
 doIx out_p22 out_n23 2 (IntKind.wrap .i64 (((out_n23 : Nat) : Int) - 1)) (fun a59 =>
 doSt ((a59.add 1).add 0) (.int .i64 x55) w58 (fun w60 =>
 K30 out_p22 out_n23 out_c24 w60)))) (fun ch w => Kfn R ch [] w))))))))
 doDr w37 (fun w62 =>
 ∃ (C61 : World → Prop), C61 w62 ∧ (
 ifB ((((out_n23 : Nat) : Int) : Int) == 0) (
 K40 true w62) (
 doIx out_p22 out_n23 2 (IntKind.wrap .i64 (((out_n23 : Nat) : Int) - 1)) (fun a63 =>
 ∃ (x64 : Int), (∀ w, C61 w → World.cell? w (a63.add 0) = some (.int .i64 x64)) ∧ (
 ∃ (x65 : Int), (∀ w, C61 w → World.cell? w ((blk b34).add 0) = some (.int .i64 x65)) ∧ (
 K40 ((x64 : Int) != x65) w62))))))))))))) (
 R (.returned (.tuple #[.slice out_p22 out_n23 out_c24, .int .i64 0])) w21))))) (fun ch w => Kfn R ch [] w)))) (fun ch w => Kfn R ch [] w)))
 ∃ (x66 : Int), World.cell? w7 (blk b6) = some (.int .u8 x66) ∧ (
 doCall Tryz.prog (.func (.func 40) #[] #[]) #[.int .u8 x66] w7 (retS (fun v68 w69 => ∃ (x67 : ByteArray), v68 = (.string x67 : Value) ∧ (
 ifB (x67.toList == (⟨#[]⟩ : ByteArray).toList) (
 R (.returned (.tuple #[.slice none 0 0, .int .i64 2])) w69) (
 doCall Tryz.prog (.func (.func 75) #[] #[]) #[.int .u8 p_2] w69 (retS (fun v71 w72 => ∃ (x70 : Bool), v71 = (.bool x70 : Value) ∧ (
 K10 (!x70) w72)) (fun ch w => Kfn R ch [] w))))) (fun ch w => Kfn R ch [] w))))
set_option maxRecDepth 100000 in
theorem sh137_ok (o_1 : Int) (p_2 : Int) (l_p3 : Option Addr) (l_n4 : Nat) (l_c5 : Nat) {R : Ending → World → Prop} {w : World} : sh137 o_1 p_2 l_p3 l_n4 l_c5 R w → Calls Tryz.prog 137 #[.int .u8 o_1, .int .u8 p_2, .slice l_p3 l_n4 l_c5] w R :=
  Old.calls_of_eq (ann := fun i => if i = 0 then [(6, .slice none 0 0), (26, .int .i64 0)] else []) (fn := Tryz.f137) (c := bodyOf Tryz.f137) (args := #[.int .u8 o_1, .int .u8 p_2, .slice l_p3 l_n4 l_c5]) 400 follows_mixed Tryz.func137 (by kernel_rfl) (by kernel_rfl)
set_option maxRecDepth 100000 in
/-- joinery/fold.kinds -/
def sh147  (R : Ending → World → Prop) (w : World) : Prop :=
 doAl (.map #[] 0) w (fun b1 w2 =>
 doMu Tryz.prog 217 (.map (some b1)) (.int .u8 1) (.agg #[.func (.func 227) #[] #[]]) w2 (fun w3 =>
 doMu Tryz.prog 217 (.map (some b1)) (.int .u8 2) (.agg #[.func (.func 228) #[] #[]]) w3 (fun w4 =>
 doMu Tryz.prog 217 (.map (some b1)) (.int .u8 3) (.agg #[.func (.func 229) #[] #[]]) w4 (fun w5 =>
 R (.returned (.map (some b1))) w5))))
set_option maxRecDepth 100000 in
theorem sh147_ok  {R : Ending → World → Prop} {w : World} : sh147  R w → Calls Tryz.prog 147 #[] w R :=
  Old.calls_of_eq (ann := fun _ => []) (fn := Tryz.f147) (c := bodyOf Tryz.f147) (args := #[]) 400 follows_mixed Tryz.func147 (by kernel_rfl) (by kernel_rfl)
end Go.Proofs.YtlfjaogbehpleaaGreat

namespace Go.Proofs.YtlfjaogbehpleaaGreat
open Go Go.Sh
set_option maxRecDepth 100000 in
/-- joinery/order.up -/
def sh174 (k_1 : Int) (R : Ending → World → Prop) (w : World) : Prop :=
 R (.returned (.int .u64 (bXor .u64 (IntKind.wrap .u64 k_1) 9223372036854775808))) w
set_option maxRecDepth 100000 in
theorem sh174_ok (k_1 : Int) {R : Ending → World → Prop} {w : World} : sh174 k_1 R w → Calls Tryz.prog 174 #[.int .i64 k_1] w R :=
  Old.calls_of_eq (ann := fun _ => []) (fn := Tryz.f174) (c := bodyOf Tryz.f174) (args := #[.int .i64 k_1]) 400 follows_mixed Tryz.func174 (by kernel_rfl) (by kernel_rfl)
set_option maxRecDepth 100000 in
/-- joinery/order.kinds$1 -/
def sh176 (k_1 : Int) (R : Ending → World → Prop) (w : World) : Prop :=
 doCall Tryz.prog (.func (.func 174) #[] #[]) #[.int .i64 k_1] w (retS (fun v3 w4 => ∃ (x2 : Int), v3 = (.int .u64 x2 : Value) ∧ (
 R (.returned (.int .u64 (bXor .u64 (IntKind.max .u64) x2))) w4)) (fun ch w => Kfn R ch [] w))
set_option maxRecDepth 100000 in
theorem sh176_ok (k_1 : Int) {R : Ending → World → Prop} {w : World} : sh176 k_1 R w → Calls Tryz.prog 176 #[.int .i64 k_1] w R :=
  Old.calls_of_eq (ann := fun _ => []) (fn := Tryz.f176) (c := bodyOf Tryz.f176) (args := #[.int .i64 k_1]) 400 follows_mixed Tryz.func176 (by kernel_rfl) (by kernel_rfl)
set_option maxRecDepth 100000 in
/-- joinery/order.kinds$3 -/
def sh178 (k_1 : Int) (R : Ending → World → Prop) (w : World) : Prop :=
 (0 : Int) ≤ 1 ∧ (
 (0 : Int) ≤ 63 ∧ (
 R (.returned (.int .u64 (IntKind.wrap .u64 (bXor .i64 (IntKind.wrap .i64 (k_1 * 2 ^ (min (1 : Int).toNat (IntKind.bits .i64)))) (Int.fdiv k_1 (2 ^ (min (63 : Int).toNat (IntKind.bits .i64)))))))) w))
set_option maxRecDepth 100000 in
theorem sh178_ok (k_1 : Int) {R : Ending → World → Prop} {w : World} : sh178 k_1 R w → Calls Tryz.prog 178 #[.int .i64 k_1] w R :=
  Old.calls_of_eq (ann := fun _ => []) (fn := Tryz.f178) (c := bodyOf Tryz.f178) (args := #[.int .i64 k_1]) 400 follows_mixed Tryz.func178 (by kernel_rfl) (by kernel_rfl)
end Go.Proofs.YtlfjaogbehpleaaGreat

namespace Go.Proofs.YtlfjaogbehpleaaGreat
open Go Go.Sh
set_option maxRecDepth 100000 in
/-- joinery/order.kinds$5 -/
def sh180 (k_1 : Int) (R : Ending → World → Prop) (w : World) : Prop :=
 doCall Tryz.prog (.func (.func 181) #[] #[]) #[.int .u64 (IntKind.wrap .u64 k_1)] w (retS (fun v3 w4 => ∃ (x2 : Int), v3 = (.int .u64 x2 : Value) ∧ (
 R (.returned (.int .u64 x2)) w4)) (fun ch w => Kfn R ch [] w))
set_option maxRecDepth 100000 in
theorem sh180_ok (k_1 : Int) {R : Ending → World → Prop} {w : World} : sh180 k_1 R w → Calls Tryz.prog 180 #[.int .i64 k_1] w R :=
  Old.calls_of_eq (ann := fun _ => []) (fn := Tryz.f180) (c := bodyOf Tryz.f180) (args := #[.int .i64 k_1]) 400 follows_mixed Tryz.func180 (by kernel_rfl) (by kernel_rfl)
set_option maxRecDepth 100000 in
/-- joinery/mix.Flip -/
def sh181 (x_1 : Int) (R : Ending → World → Prop) (w : World) : Prop :=
 doCall Tryz.prog (.func (.func 247) #[] #[]) #[.int .u64 x_1] w (retS (fun v3 w4 => ∃ (x2 : Int), v3 = (.int .u64 x2 : Value) ∧ (
 R (.returned (.int .u64 x2)) w4)) (fun ch w => Kfn R ch [] w))
set_option maxRecDepth 100000 in
theorem sh181_ok (x_1 : Int) {R : Ending → World → Prop} {w : World} : sh181 x_1 R w → Calls Tryz.prog 181 #[.int .u64 x_1] w R :=
  Old.calls_of_eq (ann := fun _ => []) (fn := Tryz.f181) (c := bodyOf Tryz.f181) (args := #[.int .u64 x_1]) 400 follows_mixed Tryz.func181 (by kernel_rfl) (by kernel_rfl)
set_option maxRecDepth 100000 in
/-- joinery/order.kinds$7 -/
def sh183 (k_1 : Int) (R : Ending → World → Prop) (w : World) : Prop :=
 doCall Tryz.prog (.func (.func 174) #[] #[]) #[.int .i64 k_1] w (retS (fun v3 w4 => ∃ (x2 : Int), v3 = (.int .u64 x2 : Value) ∧ (
 doCall Tryz.prog (.func (.func 129) #[] #[]) #[.int .u64 x2, .int .i64 (-1)] w4 (retS (fun v6 w7 => ∃ (x5 : Int), v6 = (.int .u64 x5 : Value) ∧ (
 R (.returned (.int .u64 x5)) w7)) (fun ch w => Kfn R ch [] w)))) (fun ch w => Kfn R ch [] w))
set_option maxRecDepth 100000 in
theorem sh183_ok (k_1 : Int) {R : Ending → World → Prop} {w : World} : sh183 k_1 R w → Calls Tryz.prog 183 #[.int .i64 k_1] w R :=
  Old.calls_of_eq (ann := fun _ => []) (fn := Tryz.f183) (c := bodyOf Tryz.f183) (args := #[.int .i64 k_1]) 400 follows_mixed Tryz.func183 (by kernel_rfl) (by kernel_rfl)
set_option maxRecDepth 100000 in
/-- joinery/order.kinds$9 -/
def sh185 (k_1 : Int) (R : Ending → World → Prop) (w : World) : Prop :=
 doCall Tryz.prog (.func (.func 174) #[] #[]) #[.int .i64 k_1] w (retS (fun v3 w4 => ∃ (x2 : Int), v3 = (.int .u64 x2 : Value) ∧ (
 doCall Tryz.prog (.func (.func 129) #[] #[]) #[.int .u64 x2, .int .i64 32] w4 (retS (fun v6 w7 => ∃ (x5 : Int), v6 = (.int .u64 x5 : Value) ∧ (
 R (.returned (.int .u64 x5)) w7)) (fun ch w => Kfn R ch [] w)))) (fun ch w => Kfn R ch [] w))
set_option maxRecDepth 100000 in
theorem sh185_ok (k_1 : Int) {R : Ending → World → Prop} {w : World} : sh185 k_1 R w → Calls Tryz.prog 185 #[.int .i64 k_1] w R :=
  Old.calls_of_eq (ann := fun _ => []) (fn := Tryz.f185) (c := bodyOf Tryz.f185) (args := #[.int .i64 k_1]) 400 follows_mixed Tryz.func185 (by kernel_rfl) (by kernel_rfl)
set_option maxRecDepth 100000 in
/-- joinery/order.kinds$11 -/
def sh187 (k_1 : Int) (R : Ending → World → Prop) (w : World) : Prop :=
 doCall Tryz.prog (.func (.func 127) #[] #[]) #[.int .u64 (IntKind.wrap .u64 k_1)] w (retS (fun v3 w4 => ∃ (x2 : Int), v3 = (.int .u64 x2 : Value) ∧ (
 R (.returned (.int .u64 x2)) w4)) (fun ch w => Kfn R ch [] w))
set_option maxRecDepth 100000 in
theorem sh187_ok (k_1 : Int) {R : Ending → World → Prop} {w : World} : sh187 k_1 R w → Calls Tryz.prog 187 #[.int .i64 k_1] w R :=
  Old.calls_of_eq (ann := fun _ => []) (fn := Tryz.f187) (c := bodyOf Tryz.f187) (args := #[.int .i64 k_1]) 400 follows_mixed Tryz.func187 (by kernel_rfl) (by kernel_rfl)
set_option maxRecDepth 100000 in
/-- cmp.isNaN[uint64] -/
def sh192 (x_1 : Int) (R : Ending → World → Prop) (w : World) : Prop :=
 R (.returned (.bool ((x_1 : Int) != x_1))) w
set_option maxRecDepth 100000 in
theorem sh192_ok (x_1 : Int) {R : Ending → World → Prop} {w : World} : sh192 x_1 R w → Calls Tryz.prog 192 #[.int .u64 x_1] w R :=
  Old.calls_of_eq (ann := fun _ => []) (fn := Tryz.f192) (c := bodyOf Tryz.f192) (args := #[.int .u64 x_1]) 400 follows_mixed Tryz.func192 (by kernel_rfl) (by kernel_rfl)
set_option maxRecDepth 100000 in
/-- joinery/mix.steps -/
def sh210 (back_1 : Bool) (R : Ending → World → Prop) (w : World) : Prop :=
 doAl (.cells #[.bool back_1] 4) w (fun b2 w3 =>
 doCall Tryz.prog (.func (.func 266) #[] #[]) #[] w3 (retS (fun v10 w11 => ∃ (x4 : Int), ∃ (x5 : Int), ∃ (x6 : Int), ∃ (x7 : Int), ∃ (x8 : Int), ∃ (x9 : Int), v10 = (.agg #[.int .i64 x4, .int .u64 x5, .int .i64 x6, .int .u64 x7, .int .i64 x8, .int .u64 x9] : Value) ∧ (
 doAl (.cells #[.int .i64 0, .int .u64 0, .int .i64 0, .int .u64 0, .int .i64 0, .int .u64 0] 315) w11 (fun b12 w13 =>
 doSt ((blk b12).add 0) (.int .i64 x4) w13 (fun w14 =>
 doSt ((blk b12).add 1) (.int .u64 x5) w14 (fun w15 =>
 doSt ((blk b12).add 2) (.int .i64 x6) w15 (fun w16 =>
 doSt ((blk b12).add 3) (.int .u64 x7) w16 (fun w17 =>
 doSt ((blk b12).add 4) (.int .i64 x8) w17 (fun w18 =>
 doSt ((blk b12).add 5) (.int .u64 x9) w18 (fun w19 =>
 R (.returned (.func (.func 267) #[] #[.pointer (some (blk b2)), .pointer (some (blk b12))])) w19))))))))) (fun ch w => Kfn R ch [] w)))
set_option maxRecDepth 100000 in
theorem sh210_ok (back_1 : Bool) {R : Ending → World → Prop} {w : World} : sh210 back_1 R w → Calls Tryz.prog 210 #[.bool back_1] w R :=
  Old.calls_of_eq (ann := fun _ => []) (fn := Tryz.f210) (c := bodyOf Tryz.f210) (args := #[.bool back_1]) 400 follows_mixed Tryz.func210 (by kernel_rfl) (by kernel_rfl)
set_option maxRecDepth 100000 in
/-- math/bits.RotateLeft64 -/
def sh211 (x_1 : Int) (k_2 : Int) (R : Ending → World → Prop) (w : World) : Prop :=
 (0 : Int) ≤ (bAnd .u64 (IntKind.wrap .u64 k_2) 63) ∧ (
 (0 : Int) ≤ (IntKind.wrap .u64 (64 - (bAnd .u64 (IntKind.wrap .u64 k_2) 63))) ∧ (
 R (.returned (.int .u64 (bOr .u64 (IntKind.wrap .u64 (x_1 * 2 ^ (min ((bAnd .u64 (IntKind.wrap .u64 k_2) 63) : Int).toNat (IntKind.bits .u64)))) (Int.fdiv x_1 (2 ^ (min ((IntKind.wrap .u64 (64 - (bAnd .u64 (IntKind.wrap .u64 k_2) 63))) : Int).toNat (IntKind.bits .u64))))))) w))
set_option maxRecDepth 100000 in
theorem sh211_ok (x_1 : Int) (k_2 : Int) {R : Ending → World → Prop} {w : World} : sh211 x_1 k_2 R w → Calls Tryz.prog 211 #[.int .u64 x_1, .int .i64 k_2] w R :=
  Old.calls_of_eq (ann := fun _ => []) (fn := Tryz.f211) (c := bodyOf Tryz.f211) (args := #[.int .u64 x_1, .int .i64 k_2]) 400 follows_mixed Tryz.func211 (by kernel_rfl) (by kernel_rfl)
set_option maxRecDepth 100000 in
/-- (*joinery/node.Node).Tag -/
def sh214 (n_1 : Option Addr) (R : Ending → World → Prop) (w : World) : Prop :=
 doCall Tryz.prog (.func (.func 79) #[] #[]) #[.pointer n_1] w (retS (fun v7 w8 => ∃ (x2 : Int), ∃ (x3 : Int), ∃ (x4 : Int), ∃ (x5 : Int), ∃ (x6 : Int), v7 = (.agg #[.int .i64 x2, .int .i64 x3, .int .i64 x4, .int .u64 x5, .int .i64 x6] : Value) ∧ (
 R (.returned (.int .u64 x5)) w8)) (fun ch w => Kfn R ch [] w))
set_option maxRecDepth 100000 in
theorem sh214_ok (n_1 : Option Addr) {R : Ending → World → Prop} {w : World} : sh214 n_1 R w → Calls Tryz.prog 214 #[.pointer n_1] w R :=
  Old.calls_of_eq (ann := fun _ => []) (fn := Tryz.f214) (c := bodyOf Tryz.f214) (args := #[.pointer n_1]) 400 follows_mixed Tryz.func214 (by kernel_rfl) (by kernel_rfl)
set_option maxRecDepth 100000 in
/-- (*joinery/node.Node).Sum -/
def sh216 (n_1 : Option Addr) (R : Ending → World → Prop) (w : World) : Prop :=
 doCall Tryz.prog (.func (.func 79) #[] #[]) #[.pointer n_1] w (retS (fun v7 w8 => ∃ (x2 : Int), ∃ (x3 : Int), ∃ (x4 : Int), ∃ (x5 : Int), ∃ (x6 : Int), v7 = (.agg #[.int .i64 x2, .int .i64 x3, .int .i64 x4, .int .u64 x5, .int .i64 x6] : Value) ∧ (
 R (.returned (.int .i64 x4)) w8)) (fun ch w => Kfn R ch [] w))
set_option maxRecDepth 100000 in
theorem sh216_ok (n_1 : Option Addr) {R : Ending → World → Prop} {w : World} : sh216 n_1 R w → Calls Tryz.prog 216 #[.pointer n_1] w R :=
  Old.calls_of_eq (ann := fun _ => []) (fn := Tryz.f216) (c := bodyOf Tryz.f216) (args := #[.pointer n_1]) 400 follows_mixed Tryz.func216 (by kernel_rfl) (by kernel_rfl)
set_option maxRecDepth 100000 in
/-- slices.SortStableFunc[[]joinery/api.Pair,joinery/api.Pair] -/
def sh217 (x_p1 : Option Addr) (x_n2 : Nat) (x_c3 : Nat) (cmp_f4 : Fn) (cmp_x5 : Array Value) (cmp_c6 : Array Value) (R : Ending → World → Prop) (w : World) : Prop :=
 doCall Tryz.prog (.func (.func 275) #[] #[]) #[.slice x_p1 x_n2 x_c3, .int .i64 ((x_n2 : Nat) : Int), .func cmp_f4 cmp_x5 cmp_c6] w (retS (fun v7 w8 => v7 = (.tuple #[] : Value) ∧ (
 R (.returned (.tuple #[])) w8)) (fun ch w => Kfn R ch [] w))
set_option maxRecDepth 100000 in
theorem sh217_ok (x_p1 : Option Addr) (x_n2 : Nat) (x_c3 : Nat) (cmp_f4 : Fn) (cmp_x5 : Array Value) (cmp_c6 : Array Value) {R : Ending → World → Prop} {w : World} : sh217 x_p1 x_n2 x_c3 cmp_f4 cmp_x5 cmp_c6 R w → Calls Tryz.prog 217 #[.slice x_p1 x_n2 x_c3, .func cmp_f4 cmp_x5 cmp_c6] w R :=
  Old.calls_of_eq (ann := fun _ => []) (fn := Tryz.f217) (c := bodyOf Tryz.f217) (args := #[.slice x_p1 x_n2 x_c3, .func cmp_f4 cmp_x5 cmp_c6]) 400 follows_mixed Tryz.func217 (by kernel_rfl) (by kernel_rfl)
set_option maxRecDepth 100000 in
/-- joinery/rowset.Sort$1 -/
def sh218 (a_1 : Int) (a_2 : Int) (b_3 : Int) (b_4 : Int) (x5 : Addr) (R : Ending → World → Prop) (w : World) : Prop :=
 doAl (.cells #[.int .i64 a_1, .int .i64 a_2] 63) w (fun b6 w7 =>
 doAl (.cells #[.int .i64 b_3, .int .i64 b_4] 63) w7 (fun b8 w9 =>
 ∃ (x10 : Int), World.cell? w9 x5 = some (.int .u8 x10) ∧ (
 ∃ (x11 : Int), World.cell? w9 ((blk b6).add 0) = some (.int .i64 x11) ∧ (
 ∃ (x12 : Int), World.cell? w9 ((blk b8).add 0) = some (.int .i64 x12) ∧ (
 doCall Tryz.prog (.func (.func 64) #[] #[]) #[.int .u8 x10, .int .i64 x11, .int .i64 x12] w9 (retS (fun v14 w15 => ∃ (x13 : Int), v14 = (.int .i64 x13 : Value) ∧ (
 R (.returned (.int .i64 x13)) w15)) (fun ch w => Kfn R ch [] w)))))))
set_option maxRecDepth 100000 in
theorem sh218_ok (a_1 : Int) (a_2 : Int) (b_3 : Int) (b_4 : Int) (x5 : Addr) {R : Ending → World → Prop} {w : World} : sh218 a_1 a_2 b_3 b_4 x5 R w → Calls Tryz.prog 218 #[.agg #[.int .i64 a_1, .int .i64 a_2], .agg #[.int .i64 b_3, .int .i64 b_4], .pointer (some x5)] w R :=
  Old.calls_of_eq (ann := fun _ => []) (fn := Tryz.f218) (c := bodyOf Tryz.f218) (args := #[.agg #[.int .i64 a_1, .int .i64 a_2], .agg #[.int .i64 b_3, .int .i64 b_4], .pointer (some x5)]) 400 follows_mixed Tryz.func218 (by kernel_rfl) (by kernel_rfl)
set_option maxRecDepth 100000 in
/-- joinery/fold.kinds$1 -/
def sh227 (a_1 : Int) (_x2 : Int) (R : Ending → World → Prop) (w : World) : Prop :=
 R (.returned (.int .i64 a_1)) w
set_option maxRecDepth 100000 in
theorem sh227_ok (a_1 : Int) (x2 : Int) {R : Ending → World → Prop} {w : World} : sh227 a_1 x2 R w → Calls Tryz.prog 227 #[.int .i64 a_1, .int .i64 x2] w R :=
  Old.calls_of_eq (ann := fun _ => []) (fn := Tryz.f227) (c := bodyOf Tryz.f227) (args := #[.int .i64 a_1, .int .i64 x2]) 400 follows_mixed Tryz.func227 (by kernel_rfl) (by kernel_rfl)
set_option maxRecDepth 100000 in
/-- joinery/fold.kinds$2 -/
def sh228 (_x1 : Int) (b_2 : Int) (R : Ending → World → Prop) (w : World) : Prop :=
 R (.returned (.int .i64 b_2)) w
set_option maxRecDepth 100000 in
theorem sh228_ok (x1 : Int) (b_2 : Int) {R : Ending → World → Prop} {w : World} : sh228 x1 b_2 R w → Calls Tryz.prog 228 #[.int .i64 x1, .int .i64 b_2] w R :=
  Old.calls_of_eq (ann := fun _ => []) (fn := Tryz.f228) (c := bodyOf Tryz.f228) (args := #[.int .i64 x1, .int .i64 b_2]) 400 follows_mixed Tryz.func228 (by kernel_rfl) (by kernel_rfl)
set_option maxRecDepth 100000 in
/-- joinery/fold.kinds$3 -/
def sh229 (a_1 : Int) (b_2 : Int) (R : Ending → World → Prop) (w : World) : Prop :=
 R (.returned (.int .i64 (IntKind.wrap .i64 (a_1 + b_2)))) w
set_option maxRecDepth 100000 in
theorem sh229_ok (a_1 : Int) (b_2 : Int) {R : Ending → World → Prop} {w : World} : sh229 a_1 b_2 R w → Calls Tryz.prog 229 #[.int .i64 a_1, .int .i64 b_2] w R :=
  Old.calls_of_eq (ann := fun _ => []) (fn := Tryz.f229) (c := bodyOf Tryz.f229) (args := #[.int .i64 a_1, .int .i64 b_2]) 400 follows_mixed Tryz.func229 (by kernel_rfl) (by kernel_rfl)
end Go.Proofs.YtlfjaogbehpleaaGreat

namespace Go.Proofs.YtlfjaogbehpleaaGreat
open Go Go.Sh
set_option maxRecDepth 100000 in
/-- math/bits.Reverse64 -/
def sh247 (x_1 : Int) (R : Ending → World → Prop) (w : World) : Prop :=
 (0 : Int) ≤ 1 ∧ (
 (0 : Int) ≤ 1 ∧ (
 (0 : Int) ≤ 2 ∧ (
 (0 : Int) ≤ 2 ∧ (
 (0 : Int) ≤ 4 ∧ (
 (0 : Int) ≤ 4 ∧ (
 doCall Tryz.prog (.func (.func 307) #[] #[]) #[.int .u64 (bOr .u64 (bAnd .u64 (Int.fdiv (bOr .u64 (bAnd .u64 (Int.fdiv (bOr .u64 (bAnd .u64 (Int.fdiv x_1 (2 ^ (min (1 : Int).toNat (IntKind.bits .u64)))) 6148914691236517205) (IntKind.wrap .u64 ((bAnd .u64 x_1 6148914691236517205) * 2 ^ (min (1 : Int).toNat (IntKind.bits .u64))))) (2 ^ (min (2 : Int).toNat (IntKind.bits .u64)))) 3689348814741910323) (IntKind.wrap .u64 ((bAnd .u64 (bOr .u64 (bAnd .u64 (Int.fdiv x_1 (2 ^ (min (1 : Int).toNat (IntKind.bits .u64)))) 6148914691236517205) (IntKind.wrap .u64 ((bAnd .u64 x_1 6148914691236517205) * 2 ^ (min (1 : Int).toNat (IntKind.bits .u64))))) 3689348814741910323) * 2 ^ (min (2 : Int).toNat (IntKind.bits .u64))))) (2 ^ (min (4 : Int).toNat (IntKind.bits .u64)))) 1085102592571150095) (IntKind.wrap .u64 ((bAnd .u64 (bOr .u64 (bAnd .u64 (Int.fdiv (bOr .u64 (bAnd .u64 (Int.fdiv x_1 (2 ^ (min (1 : Int).toNat (IntKind.bits .u64)))) 6148914691236517205) (IntKind.wrap .u64 ((bAnd .u64 x_1 6148914691236517205) * 2 ^ (min (1 : Int).toNat (IntKind.bits .u64))))) (2 ^ (min (2 : Int).toNat (IntKind.bits .u64)))) 3689348814741910323) (IntKind.wrap .u64 ((bAnd .u64 (bOr .u64 (bAnd .u64 (Int.fdiv x_1 (2 ^ (min (1 : Int).toNat (IntKind.bits .u64)))) 6148914691236517205) (IntKind.wrap .u64 ((bAnd .u64 x_1 6148914691236517205) * 2 ^ (min (1 : Int).toNat (IntKind.bits .u64))))) 3689348814741910323) * 2 ^ (min (2 : Int).toNat (IntKind.bits .u64))))) 1085102592571150095) * 2 ^ (min (4 : Int).toNat (IntKind.bits .u64)))))] w (retS (fun v3 w4 => ∃ (x2 : Int), v3 = (.int .u64 x2 : Value) ∧ (
 R (.returned (.int .u64 x2)) w4)) (fun ch w => Kfn R ch [] w))))))))
set_option maxRecDepth 100000 in
theorem sh247_ok (x_1 : Int) {R : Ending → World → Prop} {w : World} : sh247 x_1 R w → Calls Tryz.prog 247 #[.int .u64 x_1] w R :=
  Old.calls_of_eq (ann := fun _ => []) (fn := Tryz.f247) (c := bodyOf Tryz.f247) (args := #[.int .u64 x_1]) 400 follows_mixed Tryz.func247 (by kernel_rfl) (by kernel_rfl)
set_option maxRecDepth 100000 in
/-- joinery/node.New -/
def sh261 (l_1 : Option Addr) (key_2 : Int) (val_3 : Int) (tag_4 : Int) (r_5 : Option Addr) (R : Ending → World → Prop) (w : World) : Prop :=
 doCall Tryz.prog (.func (.func 32) #[] #[]) #[.pointer l_1] w (retS (fun v7 w8 => ∃ (x6 : Int), v7 = (.int .i64 x6 : Value) ∧ (
 doCall Tryz.prog (.func (.func 32) #[] #[]) #[.pointer r_5] w8 (retS (fun v10 w11 => ∃ (x9 : Int), v10 = (.int .i64 x9 : Value) ∧ (
 doCall Tryz.prog (.func (.func 216) #[] #[]) #[.pointer l_1] w11 (retS (fun v13 w14 => ∃ (x12 : Int), v13 = (.int .i64 x12 : Value) ∧ (
 doCall Tryz.prog (.func (.func 216) #[] #[]) #[.pointer r_5] w14 (retS (fun v16 w17 => ∃ (x15 : Int), v16 = (.int .i64 x15 : Value) ∧ (
 doAl (.cells #[.int .i64 key_2, .int .i64 val_3, .int .i64 (IntKind.wrap .i64 ((IntKind.wrap .i64 (x12 + val_3)) + x15)), .int .u64 tag_4, .int .i64 (IntKind.wrap .i64 ((IntKind.wrap .i64 (x6 + 1)) + x9)), .pointer l_1, .pointer r_5] 220) w17 (fun b18 w19 =>
 R (.returned (.pointer (some (blk b18)))) w19))) (fun ch w => Kfn R ch [] w)))) (fun ch w => Kfn R ch [] w)))) (fun ch w => Kfn R ch [] w)))) (fun ch w => Kfn R ch [] w))
set_option maxRecDepth 100000 in
theorem sh261_ok (l_1 : Option Addr) (key_2 : Int) (val_3 : Int) (tag_4 : Int) (r_5 : Option Addr) {R : Ending → World → Prop} {w : World} : sh261 l_1 key_2 val_3 tag_4 r_5 R w → Calls Tryz.prog 261 #[.pointer l_1, .int .i64 key_2, .int .i64 val_3, .int .u64 tag_4, .pointer r_5] w R :=
  Old.calls_of_eq (ann := fun _ => []) (fn := Tryz.f261) (c := bodyOf Tryz.f261) (args := #[.pointer l_1, .int .i64 key_2, .int .i64 val_3, .int .u64 tag_4, .pointer r_5]) 400 follows_mixed Tryz.func261 (by kernel_rfl) (by kernel_rfl)
set_option maxRecDepth 100000 in
/-- joinery/mix.all -/
def sh266  (R : Ending → World → Prop) (w : World) : Prop :=
 doAl (.cells #[.int .i64 0, .int .u64 0, .int .i64 0, .int .u64 0, .int .i64 0, .int .u64 0] 315) w (fun b1 w2 =>
 doSt ((blk b1).add 0) (.int .i64 30) w2 (fun w3 =>
 doSt ((blk b1).add 1) (.int .u64 13787848793156543929) w3 (fun w4 =>
 doSt ((blk b1).add 2) (.int .i64 27) w4 (fun w5 =>
 doSt ((blk b1).add 3) (.int .u64 10723151780598845931) w5 (fun w6 =>
 doSt ((blk b1).add 4) (.int .i64 31) w6 (fun w7 =>
 doSt ((blk b1).add 5) (.int .u64 1) w7 (fun w8 =>
 ∃ (x9 : Int), World.cell? w8 ((blk b1).add 0) = some (.int .i64 x9) ∧ (
 ∃ (x10 : Int), World.cell? w8 ((blk b1).add 1) = some (.int .u64 x10) ∧ (
 ∃ (x11 : Int), World.cell? w8 ((blk b1).add 2) = some (.int .i64 x11) ∧ (
 ∃ (x12 : Int), World.cell? w8 ((blk b1).add 3) = some (.int .u64 x12) ∧ (
 ∃ (x13 : Int), World.cell? w8 ((blk b1).add 4) = some (.int .i64 x13) ∧ (
 ∃ (x14 : Int), World.cell? w8 ((blk b1).add 5) = some (.int .u64 x14) ∧ (
 R (.returned (.agg #[.int .i64 x9, .int .u64 x10, .int .i64 x11, .int .u64 x12, .int .i64 x13, .int .u64 x14])) w8)))))))))))))
set_option maxRecDepth 100000 in
theorem sh266_ok  {R : Ending → World → Prop} {w : World} : sh266  R w → Calls Tryz.prog 266 #[] w R :=
  Old.calls_of_eq (ann := fun _ => []) (fn := Tryz.f266) (c := bodyOf Tryz.f266) (args := #[]) 400 follows_mixed Tryz.func266 (by kernel_rfl) (by kernel_rfl)
set_option maxRecDepth 100000 in
/-- joinery/mix.steps$1 -/
def sh267 (yield_f1 : Fn) (yield_x2 : Array Value) (yield_c3 : Array Value) (x4 : Addr) (x5 : Addr) (R : Ending → World → Prop) (w : World) : Prop :=
 ∃ (I6 : List Value → World → Prop) (μ7 : List Value → World → Nat), I6 [.int .i64 0] w ∧ (∀ (x10 : Int), ∀ (_j8 : Nat → Value) (w9 : World), I6 [.int .i64 x10] w9 → (
 ifB (decide ((x10 : Int) < 3)) (
 let K13 : Int → World → Prop := fun (k_11 : Int) (w12 : World) => 
 doIx (some x5) 3 2 (k_11) (fun a14 =>
 ∃ (x15 : Int), World.cell? w12 (a14.add 0) = some (.int .i64 x15) ∧ (
 ∃ (x16 : Int), World.cell? w12 (a14.add 1) = some (.int .u64 x16) ∧ (
 doCall Tryz.prog (.func yield_f1 yield_x2 yield_c3) #[.agg #[.int .i64 x15, .int .u64 x16]] w12 (retS (fun v18 w19 => ∃ (x17 : Bool), v18 = (.bool x17 : Value) ∧ (
 ifB (!x17) (
 R (.returned (.tuple #[])) w19) (
 I6 [.int .i64 (IntKind.wrap .i64 (x10 + 1))] w19 ∧ μ7 [.int .i64 (IntKind.wrap .i64 (x10 + 1))] w19 < μ7 [.int .i64 x10] w9))) (fun ch w => Kfn R ch [] w)))))
 ∃ (x20 : Bool), World.cell? w9 x4 = some (.bool x20) ∧ (
 ifB x20 (
 K13 (IntKind.wrap .i64 (2 - x10)) w9) (
 K13 x10 w9))) (
 R (.returned (.tuple #[])) w9)))
set_option maxRecDepth 100000 in
theorem sh267_ok (yield_f1 : Fn) (yield_x2 : Array Value) (yield_c3 : Array Value) (x4 : Addr) (x5 : Addr) {R : Ending → World → Prop} {w : World} : sh267 yield_f1 yield_x2 yield_c3 x4 x5 R w → Calls Tryz.prog 267 #[.func yield_f1 yield_x2 yield_c3, .pointer (some x4), .pointer (some x5)] w R :=
  Old.calls_of_eq (ann := fun i => if i = 0 then [(5, .int .i64 0)] else []) (fn := Tryz.f267) (c := bodyOf Tryz.f267) (args := #[.func yield_f1 yield_x2 yield_c3, .pointer (some x4), .pointer (some x5)]) 400 follows_mixed Tryz.func267 (by kernel_rfl) (by kernel_rfl)
end Go.Proofs.YtlfjaogbehpleaaGreat

namespace Go.Proofs.YtlfjaogbehpleaaGreat
open Go Go.Sh
set_option maxRecDepth 100000 in
/-- slices.stableCmpFunc[joinery/api.Pair] -/
def sh275 (data_p1 : Option Addr) (data_n2 : Nat) (data_c3 : Nat) (n_4 : Int) (cmp_f5 : Fn) (cmp_x6 : Array Value) (cmp_c7 : Array Value) (R : Ending → World → Prop) (w : World) : Prop :=
 ∃ (I8 : List Value → World → Prop) (μ9 : List Value → World → Nat), I8 [.int .i64 0, .int .i64 20] w ∧ (∀ (a_12 : Int), ∀ (b_13 : Int), ∀ (_j10 : Nat → Value) (w11 : World), I8 [.int .i64 a_12, .int .i64 b_13] w11 → (
 ifB (decide ((b_13 : Int) ≤ n_4)) (
 doCall Tryz.prog (.func (.func 329) #[] #[]) #[.slice data_p1 data_n2 data_c3, .int .i64 a_12, .int .i64 b_13, .func cmp_f5 cmp_x6 cmp_c7] w11 (retS (fun v14 w15 => v14 = (.tuple #[] : Value) ∧ (
 I8 [.int .i64 b_13, .int .i64 (IntKind.wrap .i64 (b_13 + 20))] w15 ∧ μ9 [.int .i64 b_13, .int .i64 (IntKind.wrap .i64 (b_13 + 20))] w15 < μ9 [.int .i64 a_12, .int .i64 b_13] w11)) (fun ch w => Kfn R ch [] w))) (
 doCall Tryz.prog (.func (.func 329) #[] #[]) #[.slice data_p1 data_n2 data_c3, .int .i64 a_12, .int .i64 n_4, .func cmp_f5 cmp_x6 cmp_c7] w11 (retS (fun v16 w17 => v16 = (.tuple #[] : Value) ∧ (
 ∃ (I18 : List Value → World → Prop) (μ19 : List Value → World → Nat), I18 [.int .i64 20] w17 ∧ (∀ (blockSize_22 : Int), ∀ (_j20 : Nat → Value) (w21 : World), I18 [.int .i64 blockSize_22] w21 → (
 ifB (decide ((blockSize_22 : Int) < n_4)) (
 ∃ (I23 : List Value → World → Prop) (μ24 : List Value → World → Nat), I23 [.int .i64 0, .int .i64 (IntKind.wrap .i64 (2 * blockSize_22))] w21 ∧ (∀ (a_27 : Int), ∀ (b_28 : Int), ∀ (_j25 : Nat → Value) (w26 : World), I23 [.int .i64 a_27, .int .i64 b_28] w26 → (
 ifB (decide ((b_28 : Int) ≤ n_4)) (
 doCall Tryz.prog (.func (.func 330) #[] #[]) #[.slice data_p1 data_n2 data_c3, .int .i64 a_27, .int .i64 (IntKind.wrap .i64 (a_27 + blockSize_22)), .int .i64 b_28, .func cmp_f5 cmp_x6 cmp_c7] w26 (retS (fun v29 w30 => v29 = (.tuple #[] : Value) ∧ (
 I23 [.int .i64 b_28, .int .i64 (IntKind.wrap .i64 (b_28 + (IntKind.wrap .i64 (2 * blockSize_22))))] w30 ∧ μ24 [.int .i64 b_28, .int .i64 (IntKind.wrap .i64 (b_28 + (IntKind.wrap .i64 (2 * blockSize_22))))] w30 < μ24 [.int .i64 a_27, .int .i64 b_28] w26)) (fun ch w => Kfn R ch [] w))) (
 let K32 : World → Prop := fun (w31 : World) => 
 I18 [.int .i64 (IntKind.wrap .i64 (blockSize_22 * 2))] w31 ∧ μ19 [.int .i64 (IntKind.wrap .i64 (blockSize_22 * 2))] w31 < μ19 [.int .i64 blockSize_22] w21
 ifB (decide (((IntKind.wrap .i64 (a_27 + blockSize_22)) : Int) < n_4)) (
 doCall Tryz.prog (.func (.func 330) #[] #[]) #[.slice data_p1 data_n2 data_c3, .int .i64 a_27, .int .i64 (IntKind.wrap .i64 (a_27 + blockSize_22)), .int .i64 n_4, .func cmp_f5 cmp_x6 cmp_c7] w26 (retS (fun v33 w34 => v33 = (.tuple #[] : Value) ∧ (
 K32 w34)) (fun ch w => Kfn R ch [] w))) (
 K32 w26))))) (
 R (.returned (.tuple #[])) w21))))) (fun ch w => Kfn R ch [] w)))))
set_option maxRecDepth 100000 in
theorem sh275_ok (data_p1 : Option Addr) (data_n2 : Nat) (data_c3 : Nat) (n_4 : Int) (cmp_f5 : Fn) (cmp_x6 : Array Value) (cmp_c7 : Array Value) {R : Ending → World → Prop} {w : World} : sh275 data_p1 data_n2 data_c3 n_4 cmp_f5 cmp_x6 cmp_c7 R w → Calls Tryz.prog 275 #[.slice data_p1 data_n2 data_c3, .int .i64 n_4, .func cmp_f5 cmp_x6 cmp_c7] w R :=
  Old.calls_of_eq (ann := fun i => if i = 4 then [(7, .int .i64 0), (8, .int .i64 0)] else if i = 2 then [(6, .int .i64 0)] else if i = 0 then [(7, .int .i64 0), (8, .int .i64 0)] else []) (fn := Tryz.f275) (c := bodyOf Tryz.f275) (args := #[.slice data_p1 data_n2 data_c3, .int .i64 n_4, .func cmp_f5 cmp_x6 cmp_c7]) 400 follows_mixed Tryz.func275 (by kernel_rfl) (by kernel_rfl)
end Go.Proofs.YtlfjaogbehpleaaGreat

