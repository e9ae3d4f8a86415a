/-
  Printed by a program (gen.py): what the functions of the program do, as formulas; each with the proof that its call is what the formula says.
-/
import Derived.Test.YtbaoihmffobneaaGreatPb
import Derived.Test.YtbaoihmffobneaaGreatProg
import Derived.Test.YtbaoihmffobneaaGreatPd
namespace Go.Proofs.YtbaoihmffobneaaGreat
open Go Go.Sh
set_option maxRecDepth 100000 in
/-- joinery/order.Name -/
def sh125 (o_1 : Int) (R : Ending → World → Prop) (w : World) : Prop :=
 let K4 : ByteArray → World → Prop := fun (x2 : ByteArray) (w3 : World) => 
 R (.returned (.string x2)) w3
 doCall Tryz.prog (.func (.func 173) #[] #[]) #[] w (retS (fun v6 w7 => ∃ (x5 : Option Nat), v6 = (.map x5 : Value) ∧ (
 doLk Tryz.prog 239 (.map x5) (.int .u8 o_1) false w7 (fun v15 => (∃ (x8 : ByteArray), ∃ (xf9 : Fn), ∃ (xx10 : Array Value), ∃ (xc11 : Array Value), ∃ (xf12 : Fn), ∃ (xx13 : Array Value), ∃ (xc14 : Array Value), v15 = (.agg #[.string x8, .func xf9 xx10 xc11, .func xf12 xx13 xc14] : Value) ∧ (
 K4 x8 w7)) ∨ (v15 = (.agg #[.string (⟨#[]⟩ : ByteArray), .nilFunc, .nilFunc] : Value) ∧ (
 K4 (⟨#[]⟩ : ByteArray) w7))))) (fun ch w => Kfn R ch [] w))
set_option maxRecDepth 100000 in
theorem sh125_ok (o_1 : Int) {R : Ending → World → Prop} {w : World} : sh125 o_1 R w → Calls Tryz.prog 125 #[.int .u8 o_1] w R :=
  calls_of_eq (ann := fun _ => []) (fn := Tryz.f125) (c := bodyOf Tryz.f125) (args := #[.int .u8 o_1]) 400 follows_mixed Tryz.func125 (by kernel_rfl) (by kernel_rfl)
set_option maxRecDepth 100000 in
/-- joinery/joineryref04.Less -/
def sh95 (o_1 : Int) (a_2 : Int) (b_3 : Int) (R : Ending → World → Prop) (w : World) : Prop :=
 doCall Tryz.prog (.func (.func 82) #[] #[]) #[.int .u8 o_1, .int .i64 a_2, .int .i64 b_3] w (retS (fun v5 w6 => ∃ (x4 : Int), v5 = (.int .i64 x4 : Value) ∧ (
 R (.returned (.bool (decide ((x4 : Int) < 0)))) w6)) (fun ch w => Kfn R ch [] w))
set_option maxRecDepth 100000 in
theorem sh95_ok (o_1 : Int) (a_2 : Int) (b_3 : Int) {R : Ending → World → Prop} {w : World} : sh95 o_1 a_2 b_3 R w → Calls Tryz.prog 95 #[.int .u8 o_1, .int .i64 a_2, .int .i64 b_3] w R :=
  calls_of_eq (ann := fun _ => []) (fn := Tryz.f95) (c := bodyOf Tryz.f95) (args := #[.int .u8 o_1, .int .i64 a_2, .int .i64 b_3]) 400 follows_mixed Tryz.func95 (by kernel_rfl) (by kernel_rfl)
set_option maxRecDepth 100000 in
/-- joinery/row.May -/
def sh96 (o_1 : Int) (l_p2 : Option Addr) (l_n3 : Nat) (l_c4 : Nat) (R : Ending → World → Prop) (w : World) : Prop :=
 doAl (.cells #[.int .u8 o_1] 5) w (fun b5 w6 =>
 doAl (.cells #[.bool false] 4) w6 (fun b7 w8 =>
 doCall Tryz.prog (.func (.func 133) #[] #[]) #[.slice l_p2 l_n3 l_c4] w8 (retS (fun v12 w13 => ∃ (xf9 : Fn), ∃ (xx10 : Array Value), ∃ (xc11 : Array Value), v12 = (.func xf9 xx10 xc11 : Value) ∧ (
 rfW Tryz.prog (.func xf9 xx10 xc11) (mkLoop #[.int .u8 o_1, .slice l_p2 l_n3 l_c4, .pointer (some (blk b5)), undef, .pointer (some (blk b7)), undef, undef, .slice l_p2 l_n3 l_c4, .func xf9 xx10 xc11, undef, undef, undef, undef, undef, undef, undef, undef, undef, undef, undef, undef] (rfOf Tryz.f96 0).1 (rfOf Tryz.f96 0).2.1 (rfOf Tryz.f96 0).2.2)
 (fun w14 =>
 ∃ (x15 : Int), World.cell? w14 (blk b5) = some (.int .u8 x15) ∧ (
 doCall Tryz.prog (.func (.func 125) #[] #[]) #[.int .u8 x15] w14 (retS (fun v17 w18 => ∃ (x16 : ByteArray), v17 = (.string x16 : Value) ∧ (
 doSt ((blk b7).add 0) (.bool (!(x16.toList == (⟨#[]⟩ : ByteArray).toList))) w18 (fun w19 =>
 w19.heap[w13.heap.size]? = some (.deferred (some [])) ∧ (
 let w20 : World := w19.putObj w13.heap.size (.deferred none)
 ∃ (x21 : Bool), World.cell? w20 (blk b7) = some (.bool x21) ∧ (
 R (.returned (.bool x21)) w20))))) (fun ch w => Kfn R ch [{ target := .collected w13.heap.size, args := #[] }] w))))
 (fun w22 =>
 w22.heap[w13.heap.size]? = some (.deferred (some [])) ∧ (
 let w23 : World := w22.putObj w13.heap.size (.deferred none)
 ∃ (x24 : Bool), World.cell? w23 (blk b7) = some (.bool x24) ∧ (
 R (.returned (.bool x24)) w23)))
 [] w13)) (fun ch w => Kfn R ch [] w))))
set_option maxRecDepth 100000 in
theorem sh96_ok (o_1 : Int) (l_p2 : Option Addr) (l_n3 : Nat) (l_c4 : Nat) {R : Ending → World → Prop} {w : World} : sh96 o_1 l_p2 l_n3 l_c4 R w → Calls Tryz.prog 96 #[.int .u8 o_1, .slice l_p2 l_n3 l_c4] w R :=
  calls_of_eq (ann := fun _ => []) (fn := Tryz.f96) (c := bodyOf Tryz.f96) (args := #[.int .u8 o_1, .slice l_p2 l_n3 l_c4]) 400 follows_mixed Tryz.func96 (by kernel_rfl) (by kernel_rfl)
set_option maxRecDepth 100000 in
/-- joinery/row.May, a round of loop 0 -/
def sh96_0 (o_1 : Addr) (x2 : Addr) (y22 : Int) (y23 : Int) (y24 : Int) (y25 : Int) (l : Nat) (R : Ending → World → Prop) (w : World) : Prop :=
 doAl (.cells #[.int .i64 0, .int .i64 0] 76) w (fun b26 w27 =>
 doSt ((blk b26).add 0) (.int .i64 y22) w27 (fun w28 =>
 doSt ((blk b26).add 1) (.int .i64 y23) w28 (fun w29 =>
 doAl (.cells #[.int .i64 0, .int .i64 0] 76) w29 (fun b30 w31 =>
 doSt ((blk b30).add 0) (.int .i64 y24) w31 (fun w32 =>
 doSt ((blk b30).add 1) (.int .i64 y25) w32 (fun w33 =>
 ∃ (r34 : Loop), w33.heap[l]? = some (.loop r34) ∧ r34.state = .ready ∧ (
 let w35 : World := w33.putObj l (.loop { r34 with state := .busy })
 ∃ (x36 : Int), World.cell? w35 o_1 = some (.int .u8 x36) ∧ (
 ∃ (x37 : Int), World.cell? w35 ((blk b26).add 0) = some (.int .i64 x37) ∧ (
 ∃ (x38 : Int), World.cell? w35 ((blk b30).add 0) = some (.int .i64 x38) ∧ (
 doCall Tryz.prog (.func (.func 129) #[] #[]) #[.int .u8 x36, .int .i64 x37, .int .i64 x38] w35 (retS (fun v40 w41 => ∃ (x39 : Int), v40 = (.int .i64 x39 : Value) ∧ (
 ifB (decide ((x39 : Int) ≥ 0)) (
 doSt (x2.add 0) (.bool false) w41 (fun w42 =>
 ∃ (r43 : Loop), w42.heap[l]? = some (.loop r43) ∧ R (.returned (.bool false)) (w42.putObj l (.loop { r43 with state := .done, pending := some .ret })))) (
 ∃ (r44 : Loop), w41.heap[l]? = some (.loop r44) ∧ R (.returned (.bool true)) (w41.putObj l (.loop { r44 with state := .ready, pending := none }))))) (fun _ _ => False))))))))))))
set_option maxRecDepth 100000 in
theorem sh96_0_ok {dd3 : Value} {dd4 : Value} {dd5 : Value} {dd6 : Value} {dd7 : Value} {dd8 : Value} {dd9 : Value} {dd10 : Value} {dd11 : Value} {dd12 : Value} {dd13 : Value} {dd14 : Value} {dd15 : Value} {dd16 : Value} {dd17 : Value} {dd18 : Value} {dd19 : Value} {dd20 : Value} {dd21 : Value} {o_1 : Addr} {x2 : Addr} {y22 : Int} {y23 : Int} {y24 : Int} {y25 : Int} {l fn D : Nat} {R : Ending → World → Prop} {w : World} (hl : w.heap[l]? = some (.loop (mkLoop #[dd3, dd4, .pointer (some o_1), dd5, .pointer (some x2), dd6, dd7, dd8, dd9, dd10, dd11, dd12, dd13, dd14, dd15, dd16, dd17, dd18, dd19, dd20, dd21] (rfOf Tryz.f96 0).1 (rfOf Tryz.f96 0).2.1 (rfOf Tryz.f96 0).2.2 fn D))) : sh96_0 o_1 x2 y22 y23 y24 y25 l R w → doCall Tryz.prog (.func (.yield l) #[] #[]) #[.agg #[.int .i64 y22, .int .i64 y23], .agg #[.int .i64 y24, .int .i64 y25]] w R :=
  fun h => ⟨round_of_eq (ann := fun _ => []) 400 follows_mixed hl (by kernel_rfl) (by kernel_rfl) h⟩
set_option maxRecDepth 100000 in
/-- joinery/row.two -/
def sh133 (l_p1 : Option Addr) (l_n2 : Nat) (l_c3 : Nat) (R : Ending → World → Prop) (w : World) : Prop :=
 doAl (.cells #[.slice l_p1 l_n2 l_c3] 63) w (fun b4 w5 =>
 R (.returned (.func (.func 179) #[] #[.pointer (some (blk b4))])) w5)
set_option maxRecDepth 100000 in
theorem sh133_ok (l_p1 : Option Addr) (l_n2 : Nat) (l_c3 : Nat) {R : Ending → World → Prop} {w : World} : sh133 l_p1 l_n2 l_c3 R w → Calls Tryz.prog 133 #[.slice l_p1 l_n2 l_c3] w R :=
  calls_of_eq (ann := fun _ => []) (fn := Tryz.f133) (c := bodyOf Tryz.f133) (args := #[.slice l_p1 l_n2 l_c3]) 400 follows_mixed Tryz.func133 (by kernel_rfl) (by kernel_rfl)
set_option maxRecDepth 100000 in
/-- joinery/row.two$1 -/
def sh179 (yield_f1 : Fn) (yield_x2 : Array Value) (yield_c3 : Array Value) (x4 : Addr) (R : Ending → World → Prop) (w : World) : Prop :=
 ∃ (xp5 : Option Addr), ∃ (xn6 : Nat), ∃ (xc7 : Nat), World.cell? w x4 = some (.slice xp5 xn6 xc7) ∧ (
 ∃ (I8 : List Value → World → Prop) (μ9 : List Value → World → Nat), I8 [.int .i64 0] w ∧ (∀ (x12 : Int), ∀ (_j10 : Nat → Value) (w11 : World), I8 [.int .i64 x12] w11 → (
 ifB (decide ((x12 : Int) < ((xn6 : Nat) : Int))) (
 let K14 : World → Prop := fun (w13 : World) => 
 I8 [.int .i64 (IntKind.wrap .i64 (x12 + 1))] w13 ∧ μ9 [.int .i64 (IntKind.wrap .i64 (x12 + 1))] w13 < μ9 [.int .i64 x12] w11
 let K17 : Bool → World → Prop := fun (x15 : Bool) (w16 : World) => 
 ifB x15 (
 R (.returned (.tuple #[])) w16) (
 K14 w16)
 doDr w11 (fun w19 =>
 ∃ (C18 : World → Prop), C18 w19 ∧ (
 ifB (decide ((x12 : Int) > 0)) (
 ∃ (xp20 : Option Addr), ∃ (xn21 : Nat), ∃ (xc22 : Nat), (∀ w, C18 w → World.cell? w x4 = some (.slice xp20 xn21 xc22)) ∧ (
 doIx xp20 xn21 2 (IntKind.wrap .i64 (x12 - 1)) (fun a23 =>
 ∃ (x24 : Int), (∀ w, C18 w → World.cell? w (a23.add 0) = some (.int .i64 x24)) ∧ (
 ∃ (x25 : Int), (∀ w, C18 w → World.cell? w (a23.add 1) = some (.int .i64 x25)) ∧ (
 ∃ (xp26 : Option Addr), ∃ (xn27 : Nat), ∃ (xc28 : Nat), (∀ w, C18 w → World.cell? w x4 = some (.slice xp26 xn27 xc28)) ∧ (
 doIx xp26 xn27 2 (x12) (fun a29 =>
 ∃ (x30 : Int), (∀ w, C18 w → World.cell? w (a29.add 0) = some (.int .i64 x30)) ∧ (
 ∃ (x31 : Int), (∀ w, C18 w → World.cell? w (a29.add 1) = some (.int .i64 x31)) ∧ (
 doCall Tryz.prog (.func yield_f1 yield_x2 yield_c3) #[.agg #[.int .i64 x24, .int .i64 x25], .agg #[.int .i64 x30, .int .i64 x31]] w19 (retS (fun v33 w34 => ∃ (x32 : Bool), v33 = (.bool x32 : Value) ∧ (
 C18 w34 ∧ (
 K17 (!x32) w34))) (fun ch w => Kfn R ch [] w))))))))))) (
 K14 w19)))) (
 R (.returned (.tuple #[])) w11))))
set_option maxRecDepth 100000 in
theorem sh179_ok (yield_f1 : Fn) (yield_x2 : Array Value) (yield_c3 : Array Value) (x4 : Addr) {R : Ending → World → Prop} {w : World} : sh179 yield_f1 yield_x2 yield_c3 x4 R w → Calls Tryz.prog 179 #[.func yield_f1 yield_x2 yield_c3, .pointer (some x4)] w R :=
  calls_of_eq (ann := fun i => if i = 0 then [(6, .int .i64 0)] else []) (fn := Tryz.f179) (c := bodyOf Tryz.f179) (args := #[.func yield_f1 yield_x2 yield_c3, .pointer (some x4)]) 400 follows_mixed Tryz.func179 (by kernel_rfl) (by kernel_rfl)
set_option maxRecDepth 100000 in
/-- joinery/joineryref04.May -/
def sh53 (o_1 : Int) (l_p2 : Option Addr) (l_n3 : Nat) (_l_c4 : Nat) (R : Ending → World → Prop) (w : World) : Prop :=
 ∃ (I5 : List Value → World → Prop) (μ6 : List Value → World → Nat), I5 [.int .i64 1] w ∧ (∀ (i_9 : Int), ∀ (_j7 : Nat → Value) (w8 : World), I5 [.int .i64 i_9] w8 → (
 ifB (decide ((i_9 : Int) < ((l_n3 : Nat) : Int))) (
 doDr w8 (fun w11 =>
 ∃ (C10 : World → Prop), C10 w11 ∧ (
 doIx l_p2 l_n3 2 (IntKind.wrap .i64 (i_9 - 1)) (fun a12 =>
 ∃ (x13 : Int), (∀ w, C10 w → World.cell? w (a12.add 0) = some (.int .i64 x13)) ∧ (
 doIx l_p2 l_n3 2 (i_9) (fun a14 =>
 ∃ (x15 : Int), (∀ w, C10 w → World.cell? w (a14.add 0) = some (.int .i64 x15)) ∧ (
 doCall Tryz.prog (.func (.func 95) #[] #[]) #[.int .u8 o_1, .int .i64 x13, .int .i64 x15] w11 (retS (fun v17 w18 => ∃ (x16 : Bool), v17 = (.bool x16 : Value) ∧ (
 ifB (!x16) (
 R (.returned (.bool false)) w18) (
 I5 [.int .i64 (IntKind.wrap .i64 (i_9 + 1))] w18 ∧ μ6 [.int .i64 (IntKind.wrap .i64 (i_9 + 1))] w18 < μ6 [.int .i64 i_9] w8))) (fun ch w => Kfn R ch [] w))))))))) (
 doCall Tryz.prog (.func (.func 42) #[] #[]) #[.int .u8 o_1] w8 (retS (fun v20 w21 => ∃ (x19 : Bool), v20 = (.bool x19 : Value) ∧ (
 R (.returned (.bool x19)) w21)) (fun ch w => Kfn R ch [] w)))))
set_option maxRecDepth 100000 in
theorem sh53_ok (o_1 : Int) (l_p2 : Option Addr) (l_n3 : Nat) (l_c4 : Nat) {R : Ending → World → Prop} {w : World} : sh53 o_1 l_p2 l_n3 l_c4 R w → Calls Tryz.prog 53 #[.int .u8 o_1, .slice l_p2 l_n3 l_c4] w R :=
  calls_of_eq (ann := fun i => if i = 0 then [(5, .int .i64 0)] else []) (fn := Tryz.f53) (c := bodyOf Tryz.f53) (args := #[.int .u8 o_1, .slice l_p2 l_n3 l_c4]) 400 follows_mixed Tryz.func53 (by kernel_rfl) (by kernel_rfl)
set_option maxRecDepth 100000 in
/-- joinery/joineryref04.Put -/
def sh130 (o_1 : Int) (p_2 : Int) (l_p3 : Option Addr) (l_n4 : Nat) (l_c5 : Nat) (x_6 : Int) (x_7 : Int) (R : Ending → World → Prop) (w : World) : Prop :=
 doAl (.cells #[.int .i64 x_6, .int .i64 x_7] 76) w (fun b8 w9 =>
 let K12 : Bool → World → Prop := fun (x10 : Bool) (w11 : World) => 
 ifB x10 (
 R (.returned (.tuple #[.slice none 0 0, .int .i64 2])) w11) (
 ∃ (x13 : Int), World.cell? w11 ((blk b8).add 0) = some (.int .i64 x13) ∧ (
 doCall Tryz.prog (.func (.func 176) #[] #[]) #[.int .u8 o_1, .slice l_p3 l_n4 l_c5, .int .i64 x13] w11 (retS (fun v16 w17 => ∃ (x14 : Int), ∃ (x15 : Bool), v16 = (.tuple #[.int .i64 x14, .bool x15] : Value) ∧ (
 doSl l_p3 l_c5 2 (0) (x14) (fun p18 n19 c20 =>
 doGo Tryz.prog (.builtin .append #[63, 63] 63 #[true, false]) #[.slice none 0 0, .slice p18 n19 c20] w17 (retS (fun v24 w25 => ∃ (xp21 : Option Addr), ∃ (xn22 : Nat), ∃ (xc23 : Nat), v24 = (.slice xp21 xn22 xc23 : Value) ∧ (
 let K28 : Int → World → Prop := fun (i_26 : Int) (w27 : World) => 
 doDr w27 (fun w30 =>
 ∃ (C29 : World → Prop), C29 w30 ∧ (
 ∃ (x31 : Int), (∀ w, C29 w → World.cell? w ((blk b8).add 0) = some (.int .i64 x31)) ∧ (
 ∃ (x32 : Int), (∀ w, C29 w → World.cell? w ((blk b8).add 1) = some (.int .i64 x32)) ∧ (
 doSl l_p3 l_c5 2 (i_26) (((l_n4 : Nat) : Int)) (fun p33 n34 c35 =>
 doAl (.cells #[.int .i64 x31, .int .i64 x32] 76) w30 (fun b36 w37 =>
 doGo Tryz.prog (.builtin .append #[63, 63] 63 #[false, false]) #[.slice xp21 xn22 xc23, .slice (some (blk b36)) 1 1] w37 (retS (fun v41 w42 => ∃ (xp38 : Option Addr), ∃ (xn39 : Nat), ∃ (xc40 : Nat), v41 = (.slice xp38 xn39 xc40 : Value) ∧ (
 C29 w42 ∧ (
 doGo Tryz.prog (.builtin .append #[63, 63] 63 #[false, false]) #[.slice xp38 xn39 xc40, .slice p33 n34 c35] w42 (retS (fun v46 w47 => ∃ (xp43 : Option Addr), ∃ (xn44 : Nat), ∃ (xc45 : Nat), v46 = (.slice xp43 xn44 xc45 : Value) ∧ (
 C29 w47 ∧ (
 R (.returned (.tuple #[.slice xp43 xn44 xc45, .int .i64 0])) w47))) (fun ch w => Kfn R ch [] w))))) (fun ch w => Kfn R ch [] w))))))))
 ifB x15 (
 doDr w25 (fun w49 =>
 ∃ (C48 : World → Prop), C48 w49 ∧ (
 doIx l_p3 l_n4 2 (x14) (fun a50 =>
 ∃ (x51 : Int), (∀ w, C48 w → World.cell? w (a50.add 1) = some (.int .i64 x51)) ∧ (
 ∃ (x52 : Int), (∀ w, C48 w → World.cell? w ((blk b8).add 1) = some (.int .i64 x52)) ∧ (
 doCall Tryz.prog (.func (.func 75) #[] #[]) #[.int .u8 p_2, .int .i64 x51, .int .i64 x52] w49 (retS (fun v54 w55 => ∃ (x53 : Int), v54 = (.int .i64 x53 : Value) ∧ (
 doSt (((blk b8).add 1).add 0) (.int .i64 x53) w55 (fun w56 =>
 K28 (IntKind.wrap .i64 (x14 + 1)) w56))) (fun ch w => Kfn R ch [] w)))))))) (
 K28 x14 w25))) (fun ch w => Kfn R ch [] w))))) (fun ch w => Kfn R ch [] w))))
 doCall Tryz.prog (.func (.func 53) #[] #[]) #[.int .u8 o_1, .slice l_p3 l_n4 l_c5] w9 (retS (fun v58 w59 => ∃ (x57 : Bool), v58 = (.bool x57 : Value) ∧ (
 ifB (!x57) (
 R (.returned (.tuple #[.slice none 0 0, .int .i64 2])) w59) (
 doCall Tryz.prog (.func (.func 11) #[] #[]) #[.int .u8 p_2] w59 (retS (fun v61 w62 => ∃ (x60 : Bool), v61 = (.bool x60 : Value) ∧ (
 K12 (!x60) w62)) (fun ch w => Kfn R ch [] w))))) (fun ch w => Kfn R ch [] w)))
set_option maxRecDepth 100000 in
theorem sh130_ok (o_1 : Int) (p_2 : Int) (l_p3 : Option Addr) (l_n4 : Nat) (l_c5 : Nat) (x_6 : Int) (x_7 : Int) {R : Ending → World → Prop} {w : World} : sh130 o_1 p_2 l_p3 l_n4 l_c5 x_6 x_7 R w → Calls Tryz.prog 130 #[.int .u8 o_1, .int .u8 p_2, .slice l_p3 l_n4 l_c5, .agg #[.int .i64 x_6, .int .i64 x_7]] w R :=
  calls_of_eq (ann := fun _ => []) (fn := Tryz.f130) (c := bodyOf Tryz.f130) (args := #[.int .u8 o_1, .int .u8 p_2, .slice l_p3 l_n4 l_c5, .agg #[.int .i64 x_6, .int .i64 x_7]]) 400 follows_mixed Tryz.func130 (by kernel_rfl) (by kernel_rfl)
set_option maxRecDepth 100000 in
/-- joinery/joineryref04.Find -/
def sh176 (o_1 : Int) (l_p2 : Option Addr) (l_n3 : Nat) (l_c4 : Nat) (key_5 : Int) (R : Ending → World → Prop) (w : World) : Prop :=
 doCall Tryz.prog (.func (.func 53) #[] #[]) #[.int .u8 o_1, .slice l_p2 l_n3 l_c4] w (retS (fun v7 w8 => ∃ (x6 : Bool), v7 = (.bool x6 : Value) ∧ (
 ifB (!x6) (
 R (.returned (.tuple #[.int .i64 0, .bool false])) w8) (
 ∃ (I9 : List Value → World → Prop) (μ10 : List Value → World → Nat), I9 [.int .i64 0] w8 ∧ (∀ (i_13 : Int), ∀ (_j11 : Nat → Value) (w12 : World), I9 [.int .i64 i_13] w12 → (
 ifB (decide ((i_13 : Int) < ((l_n3 : Nat) : Int))) (
 doIx l_p2 l_n3 2 (i_13) (fun a14 =>
 ∃ (x15 : Int), World.cell? w12 (a14.add 0) = some (.int .i64 x15) ∧ (
 doCall Tryz.prog (.func (.func 95) #[] #[]) #[.int .u8 o_1, .int .i64 x15, .int .i64 key_5] w12 (retS (fun v17 w18 => ∃ (x16 : Bool), v17 = (.bool x16 : Value) ∧ (
 ifB (!x16) (
 doDr w18 (fun w20 =>
 ∃ (C19 : World → Prop), C19 w20 ∧ (
 doIx l_p2 l_n3 2 (i_13) (fun a21 =>
 ∃ (x22 : Int), (∀ w, C19 w → World.cell? w (a21.add 0) = some (.int .i64 x22)) ∧ (
 R (.returned (.tuple #[.int .i64 i_13, .bool ((x22 : Int) == key_5)])) w20))))) (
 I9 [.int .i64 (IntKind.wrap .i64 (i_13 + 1))] w18 ∧ μ10 [.int .i64 (IntKind.wrap .i64 (i_13 + 1))] w18 < μ10 [.int .i64 i_13] w12))) (fun ch w => Kfn R ch [] w))))) (
 R (.returned (.tuple #[.int .i64 ((l_n3 : Nat) : Int), .bool false])) w12)))))) (fun ch w => Kfn R ch [] w))
set_option maxRecDepth 100000 in
theorem sh176_ok (o_1 : Int) (l_p2 : Option Addr) (l_n3 : Nat) (l_c4 : Nat) (key_5 : Int) {R : Ending → World → Prop} {w : World} : sh176 o_1 l_p2 l_n3 l_c4 key_5 R w → Calls Tryz.prog 176 #[.int .u8 o_1, .slice l_p2 l_n3 l_c4, .int .i64 key_5] w R :=
  calls_of_eq (ann := fun i => if i = 0 then [(8, .int .i64 0)] else []) (fn := Tryz.f176) (c := bodyOf Tryz.f176) (args := #[.int .u8 o_1, .slice l_p2 l_n3 l_c4, .int .i64 key_5]) 400 follows_mixed Tryz.func176 (by kernel_rfl) (by kernel_rfl)
end Go.Proofs.YtbaoihmffobneaaGreat
