/-
  Printed by a program (gen.py): what the functions of the program do, as formulas; each with the proof that its call is what the formula says.
-/
/-
  Printed by a program (gen.py): what the functions of the program do, as formulas; each with the proof that its call is what the formula says.
-/
/-
  Printed by a program (gen.py): what the functions of the program do, as formulas; each with the proof that its call is what the formula says.
-/
import Derived.Test.YtlddfgfmkapoiaaGreatZ02
import Derived.Test.YtlddfgfmkapoiaaGreatProg
import Derived.Test.YtlddfgfmkapoiaaGreatZ05

namespace Go.Proofs.YtlddfgfmkapoiaaGreat
open Go Go.Sh
set_option maxRecDepth 100000 in
/-- (joinery/set.kind).tree -/
def sh136 (k_1 : Option Addr) (k_2 : Int) (k_3 : Option Addr) (keys_p4 : Option Addr) (keys_n5 : Nat) (keys_c6 : Nat) (R : Ending → World → Prop) (w : World) : Prop :=
 doAl (.cells #[.pointer k_1, .int .u8 k_2, .pointer k_3] 171) w (fun b7 w8 =>
 ∃ (x9 : Option Addr), World.cell? w8 ((blk b7).add 0) = some (.pointer x9) ∧ (
 ∃ (x10 : Int), World.cell? w8 ((blk b7).add 1) = some (.int .u8 x10) ∧ (
 ∃ (x11 : Option Addr), World.cell? w8 ((blk b7).add 2) = some (.pointer x11) ∧ (
 doCall Tryz.prog (.func (.func 24) #[] #[]) #[.pointer x9, .int .u8 x10, .pointer x11, .slice keys_p4 keys_n5 keys_c6] w8 (retS (fun v14 w15 => ∃ (x12 : Option Addr), ∃ (x13 : Int), v14 = (.tuple #[.pointer x12, .int .i64 x13] : Value) ∧ (
 R (.returned (.tuple #[.pointer x12, .int .i64 x13])) w15)) (fun ch w => Kfn R ch [] w))))))
set_option maxRecDepth 100000 in
theorem sh136_ok (k_1 : Option Addr) (k_2 : Int) (k_3 : Option Addr) (keys_p4 : Option Addr) (keys_n5 : Nat) (keys_c6 : Nat) {R : Ending → World → Prop} {w : World} : sh136 k_1 k_2 k_3 keys_p4 keys_n5 keys_c6 R w → Calls Tryz.prog 136 #[.agg #[.pointer k_1, .int .u8 k_2, .pointer k_3], .slice keys_p4 keys_n5 keys_c6] w R :=
  calls_of_eq (ann := fun _ => []) (fn := Tryz.f136) (c := bodyOf Tryz.f136) (args := #[.agg #[.pointer k_1, .int .u8 k_2, .pointer k_3], .slice keys_p4 keys_n5 keys_c6]) 400 follows_mixed Tryz.func136 (by kernel_rfl) (by kernel_rfl)
set_option maxRecDepth 100000 in
/-- (joinery/set.both).set -/
def sh138 (b_f1 : Fn) (b_x2 : Array Value) (b_c3 : Array Value) (x_4 : Option Addr) (y_5 : Option Addr) (R : Ending → World → Prop) (w : World) : Prop :=
 doAl (.cells #[.func b_f1 b_x2 b_c3] 176) w (fun b6 w7 =>
 ∃ (xf8 : Fn), ∃ (xx9 : Array Value), ∃ (xc10 : Array Value), World.cell? w7 ((blk b6).add 0) = some (.func xf8 xx9 xc10) ∧ (
 doCall Tryz.prog (.func (.func 140) #[] #[]) #[.agg #[.func xf8 xx9 xc10], .pointer x_4, .pointer y_5] w7 (retS (fun v13 w14 => ∃ (x11 : Option Addr), ∃ (x12 : Int), v13 = (.tuple #[.pointer x11, .int .i64 x12] : Value) ∧ (
 ifB ((x12 : Int) != 0) (
 R (.returned (.tuple #[.pointer none, .int .i64 x12])) w14) (
 ∃ (q15 : Addr), x_4 = some q15 ∧ (
 ∃ (x16 : Option Addr), World.cell? w14 ((q15.add 0).add 0) = some (.pointer x16) ∧ (
 ∃ (x17 : Int), World.cell? w14 ((q15.add 0).add 1) = some (.int .u8 x17) ∧ (
 ∃ (x18 : Option Addr), World.cell? w14 ((q15.add 0).add 2) = some (.pointer x18) ∧ (
 doAl (.cells #[.pointer x16, .int .u8 x17, .pointer x18, .pointer x11] 174) w14 (fun b19 w20 =>
 R (.returned (.tuple #[.pointer (some (blk b19)), .int .i64 0])) w20)))))))) (fun ch w => Kfn R ch [] w))))
set_option maxRecDepth 100000 in
theorem sh138_ok (b_f1 : Fn) (b_x2 : Array Value) (b_c3 : Array Value) (x_4 : Option Addr) (y_5 : Option Addr) {R : Ending → World → Prop} {w : World} : sh138 b_f1 b_x2 b_c3 x_4 y_5 R w → Calls Tryz.prog 138 #[.agg #[.func b_f1 b_x2 b_c3], .pointer x_4, .pointer y_5] w R :=
  calls_of_eq (ann := fun _ => []) (fn := Tryz.f138) (c := bodyOf Tryz.f138) (args := #[.agg #[.func b_f1 b_x2 b_c3], .pointer x_4, .pointer y_5]) 400 follows_mixed Tryz.func138 (by kernel_rfl) (by kernel_rfl)
set_option maxRecDepth 100000 in
/-- (joinery/set.both).tree -/
def sh140 (b_f1 : Fn) (b_x2 : Array Value) (b_c3 : Array Value) (x_4 : Option Addr) (y_5 : Option Addr) (R : Ending → World → Prop) (w : World) : Prop :=
 doAl (.cells #[.func b_f1 b_x2 b_c3] 176) w (fun b6 w7 =>
 let K10 : Bool → World → Prop := fun (x8 : Bool) (w9 : World) => 
 ifB x8 (
 R (.returned (.tuple #[.pointer none, .int .i64 1])) w9) (
 let K13 : Bool → World → Prop := fun (x11 : Bool) (w12 : World) => 
 ifB x11 (
 R (.returned (.tuple #[.pointer none, .int .i64 2])) w12) (
 doDr w12 (fun w15 =>
 ∃ (C14 : World → Prop), C14 w15 ∧ (
 ∃ (xf16 : Fn), ∃ (xx17 : Array Value), ∃ (xc18 : Array Value), (∀ w, C14 w → World.cell? w ((blk b6).add 0) = some (.func xf16 xx17 xc18)) ∧ (
 ∃ (q19 : Addr), x_4 = some q19 ∧ (
 ∃ (x20 : Option Addr), (∀ w, C14 w → World.cell? w ((q19.add 0).add 0) = some (.pointer x20)) ∧ (
 ∃ (q21 : Addr), x_4 = some q21 ∧ (
 ∃ (x22 : Int), (∀ w, C14 w → World.cell? w ((q21.add 0).add 1) = some (.int .u8 x22)) ∧ (
 ∃ (q23 : Addr), x_4 = some q23 ∧ (
 ∃ (x24 : Option Addr), (∀ w, C14 w → World.cell? w (q23.add 3) = some (.pointer x24)) ∧ (
 ∃ (q25 : Addr), y_5 = some q25 ∧ (
 ∃ (x26 : Option Addr), (∀ w, C14 w → World.cell? w (q25.add 3) = some (.pointer x26)) ∧ (
 doCall Tryz.prog (.func xf16 xx17 xc18) #[.pointer x20, .int .u8 x22, .pointer x24, .pointer x26] w15 (retS (fun v29 w30 => ∃ (x27 : Option Addr), ∃ (x28 : Int), v29 = (.tuple #[.pointer x27, .int .i64 x28] : Value) ∧ (
 R (.returned (.tuple #[.pointer x27, .int .i64 x28])) w30)) (fun ch w => Kfn R ch [] w))))))))))))))
 doDr w9 (fun w32 =>
 ∃ (C31 : World → Prop), C31 w32 ∧ (
 ∃ (q33 : Addr), x_4 = some q33 ∧ (
 ∃ (x34 : Option Addr), (∀ w, C31 w → World.cell? w ((q33.add 0).add 0) = some (.pointer x34)) ∧ (
 ∃ (q35 : Addr), y_5 = some q35 ∧ (
 ∃ (x36 : Option Addr), (∀ w, C31 w → World.cell? w ((q35.add 0).add 0) = some (.pointer x36)) ∧ (
 doCall Tryz.prog (.func (.func 184) #[] #[]) #[.pointer x34] w32 (retS (fun v38 w39 => ∃ (x37 : Int), v38 = (.int .u8 x37 : Value) ∧ (
 C31 w39 ∧ (
 doCall Tryz.prog (.func (.func 184) #[] #[]) #[.pointer x36] w39 (retS (fun v41 w42 => ∃ (x40 : Int), v41 = (.int .u8 x40 : Value) ∧ (
 C31 w42 ∧ (
 ifB ((x37 : Int) != x40) (
 R (.returned (.tuple #[.pointer none, .int .i64 2])) w42) (
 ∃ (q43 : Addr), x_4 = some q43 ∧ (
 ∃ (x44 : Int), (∀ w, C31 w → World.cell? w ((q43.add 0).add 1) = some (.int .u8 x44)) ∧ (
 ∃ (q45 : Addr), y_5 = some q45 ∧ (
 ∃ (x46 : Int), (∀ w, C31 w → World.cell? w ((q45.add 0).add 1) = some (.int .u8 x46)) ∧ (
 K13 ((x44 : Int) != x46) w42)))))))) (fun ch w => Kfn R ch [] w))))) (fun ch w => Kfn R ch [] w)))))))))
 ifB ((x_4).isNone) (
 R (.returned (.tuple #[.pointer none, .int .i64 1])) w7) (
 K10 ((y_5).isNone) w7))
set_option maxRecDepth 100000 in
theorem sh140_ok (b_f1 : Fn) (b_x2 : Array Value) (b_c3 : Array Value) (x_4 : Option Addr) (y_5 : Option Addr) {R : Ending → World → Prop} {w : World} : sh140 b_f1 b_x2 b_c3 x_4 y_5 R w → Calls Tryz.prog 140 #[.agg #[.func b_f1 b_x2 b_c3], .pointer x_4, .pointer y_5] w R :=
  calls_of_eq (ann := fun _ => []) (fn := Tryz.f140) (c := bodyOf Tryz.f140) (args := #[.agg #[.func b_f1 b_x2 b_c3], .pointer x_4, .pointer y_5]) 400 follows_mixed Tryz.func140 (by kernel_rfl) (by kernel_rfl)
set_option maxRecDepth 100000 in
/-- joinery/joineryref40.Put -/
def sh141 (o_1 : Int) (l_p2 : Option Addr) (l_n3 : Nat) (l_c4 : Nat) (key_5 : Int) (R : Ending → World → Prop) (w : World) : Prop :=
 doCall Tryz.prog (.func (.func 82) #[] #[]) #[.slice l_p2 l_n3 l_c4, .int .i64 key_5] w (retS (fun v7 w8 => ∃ (x6 : Bool), v7 = (.bool x6 : Value) ∧ (
 ifB x6 (
 R (.returned (.slice l_p2 l_n3 l_c4)) w8) (
 let K11 : Int → World → Prop := fun (k_9 : Int) (w10 : World) => 
 doSl l_p2 l_c4 1 (0) (k_9) (fun p12 n13 c14 =>
 doGo Tryz.prog (.builtin .append #[24, 24] 24 #[true, false]) #[.slice none 0 0, .slice p12 n13 c14] w10 (retS (fun v18 w19 => ∃ (xp15 : Option Addr), ∃ (xn16 : Nat), ∃ (xc17 : Nat), v18 = (.slice xp15 xn16 xc17 : Value) ∧ (
 doAl (.cells #[.int .i64 key_5] 2) w19 (fun b20 w21 =>
 doGo Tryz.prog (.builtin .append #[24, 24] 24 #[false, false]) #[.slice xp15 xn16 xc17, .slice (some (blk b20)) 1 1] w21 (retS (fun v25 w26 => ∃ (xp22 : Option Addr), ∃ (xn23 : Nat), ∃ (xc24 : Nat), v25 = (.slice xp22 xn23 xc24 : Value) ∧ (
 doSl l_p2 l_c4 1 (k_9) (((l_n3 : Nat) : Int)) (fun p27 n28 c29 =>
 doGo Tryz.prog (.builtin .append #[24, 24] 24 #[false, false]) #[.slice xp22 xn23 xc24, .slice p27 n28 c29] w26 (retS (fun v33 w34 => ∃ (xp30 : Option Addr), ∃ (xn31 : Nat), ∃ (xc32 : Nat), v33 = (.slice xp30 xn31 xc32 : Value) ∧ (
 R (.returned (.slice xp30 xn31 xc32)) w34)) (fun ch w => Kfn R ch [] w))))) (fun ch w => Kfn R ch [] w))))) (fun ch w => Kfn R ch [] w)))
 ∃ (I35 : List Value → World → Prop) (μ36 : List Value → World → Nat), I35 [.int .i64 0] w8 ∧ (∀ (k_39 : Int), ∀ (_j37 : Nat → Value) (w38 : World), I35 [.int .i64 k_39] w38 → (
 let K42 : Bool → World → Prop := fun (x40 : Bool) (w41 : World) => 
 ifB x40 (
 I35 [.int .i64 (IntKind.wrap .i64 (k_39 + 1))] w41 ∧ μ36 [.int .i64 (IntKind.wrap .i64 (k_39 + 1))] w41 < μ36 [.int .i64 k_39] w38) (
 K11 k_39 w41)
 ifB (decide ((k_39 : Int) < ((l_n3 : Nat) : Int))) (
 doIx l_p2 l_n3 1 (k_39) (fun a43 =>
 ∃ (x44 : Int), World.cell? w38 a43 = some (.int .i64 x44) ∧ (
 doCall Tryz.prog (.func (.func 79) #[] #[]) #[.int .u8 o_1, .int .i64 x44, .int .i64 key_5] w38 (retS (fun v46 w47 => ∃ (x45 : Int), v46 = (.int .i64 x45 : Value) ∧ (
 K42 (decide ((x45 : Int) < 0)) w47)) (fun ch w => Kfn R ch [] w))))) (
 K11 k_39 w38)))))) (fun ch w => Kfn R ch [] w))
set_option maxRecDepth 100000 in
theorem sh141_ok (o_1 : Int) (l_p2 : Option Addr) (l_n3 : Nat) (l_c4 : Nat) (key_5 : Int) {R : Ending → World → Prop} {w : World} : sh141 o_1 l_p2 l_n3 l_c4 key_5 R w → Calls Tryz.prog 141 #[.int .u8 o_1, .slice l_p2 l_n3 l_c4, .int .i64 key_5] w R :=
  calls_of_eq (ann := fun i => if i = 0 then [(7, .int .i64 0)] else []) (fn := Tryz.f141) (c := bodyOf Tryz.f141) (args := #[.int .u8 o_1, .slice l_p2 l_n3 l_c4, .int .i64 key_5]) 400 follows_mixed Tryz.func141 (by kernel_rfl) (by kernel_rfl)
set_option maxRecDepth 100000 in
/-- joinery/joinerylaw40.zeros -/
def sh142 (code_1 : Int) (o_2 : Int) (x_3 : Option Addr) (l_p4 : Option Addr) (l_n5 : Nat) (l_c6 : Nat) (R : Ending → World → Prop) (w : World) : Prop :=
 doCall Tryz.prog (.func (.func 143) #[] #[]) #[.pointer x_3] w (retS (fun v8 w9 => ∃ (x7 : Option Addr), v8 = (.pointer x7 : Value) ∧ (
 doCall Tryz.prog (.func (.func 97) #[] #[]) #[.pointer x7] w9 (retS (fun v14 w15 => ∃ (xp10 : Option Addr), ∃ (xn11 : Nat), ∃ (xc12 : Nat), ∃ (x13 : Bool), v14 = (.tuple #[.slice xp10 xn11 xc12, .bool x13] : Value) ∧ (
 let K18 : Bool → World → Prop := fun (x16 : Bool) (w17 : World) => 
 ifB x16 (
 R (.returned (.bool false)) w17) (
 let K21 : Bool → World → Prop := fun (x19 : Bool) (w20 : World) => 
 R (.returned (.bool x19)) w20
 doCall Tryz.prog (.func (.func 115) #[] #[]) #[.slice xp10 xn11 xc12] w17 (retS (fun v23 w24 => ∃ (x22 : Int), v23 = (.int .i64 x22 : Value) ∧ (
 ifB ((x22 : Int) == 0) (
 ifB ((((xn11 : Nat) : Int) : Int) == 0) (
 R (.returned (.bool true)) w24) (
 doIx xp10 xn11 7 (0) (fun a25 =>
 ∃ (x26 : Int), World.cell? w24 (a25.add 3) = some (.int .i64 x26) ∧ (
 K21 ((x26 : Int) == ((l_n5 : Nat) : Int)) w24)))) (
 R (.returned (.bool false)) w24))) (fun ch w => Kfn R ch [] w)))
 ifB (!x13) (
 R (.returned (.bool false)) w15) (
 doCall Tryz.prog (.func (.func 104) #[] #[]) #[.int .u8 code_1, .int .u8 o_2, .slice xp10 xn11 xc12] w15 (retS (fun v28 w29 => ∃ (x27 : Bool), v28 = (.bool x27 : Value) ∧ (
 ifB (!x27) (
 R (.returned (.bool false)) w29) (
 doCall Tryz.prog (.func (.func 204) #[] #[]) #[.slice xp10 xn11 xc12] w29 (retS (fun v33 w34 => ∃ (xp30 : Option Addr), ∃ (xn31 : Nat), ∃ (xc32 : Nat), v33 = (.slice xp30 xn31 xc32 : Value) ∧ (
 doCall Tryz.prog (.func (.func 61) #[] #[]) #[.slice xp30 xn31 xc32, .slice l_p4 l_n5 l_c6] w34 (retS (fun v36 w37 => ∃ (x35 : Bool), v36 = (.bool x35 : Value) ∧ (
 K18 (!x35) w37)) (fun ch w => Kfn R ch [] w)))) (fun ch w => Kfn R ch [] w))))) (fun ch w => Kfn R ch [] w))))) (fun ch w => Kfn R ch [] w)))) (fun ch w => Kfn R ch [] w))
set_option maxRecDepth 100000 in
theorem sh142_ok (code_1 : Int) (o_2 : Int) (x_3 : Option Addr) (l_p4 : Option Addr) (l_n5 : Nat) (l_c6 : Nat) {R : Ending → World → Prop} {w : World} : sh142 code_1 o_2 x_3 l_p4 l_n5 l_c6 R w → Calls Tryz.prog 142 #[.int .u8 code_1, .int .u8 o_2, .pointer x_3, .slice l_p4 l_n5 l_c6] w R :=
  calls_of_eq (ann := fun _ => []) (fn := Tryz.f142) (c := bodyOf Tryz.f142) (args := #[.int .u8 code_1, .int .u8 o_2, .pointer x_3, .slice l_p4 l_n5 l_c6]) 400 follows_mixed Tryz.func142 (by kernel_rfl) (by kernel_rfl)
set_option maxRecDepth 100000 in
/-- (*joinery/set.Set).Tree -/
def sh143 (x_1 : Option Addr) (R : Ending → World → Prop) (w : World) : Prop :=
 ifB ((x_1).isNone) (
 R (.returned (.pointer none)) w) (
 ∃ (q2 : Addr), x_1 = some q2 ∧ (
 ∃ (x3 : Option Addr), World.cell? w (q2.add 3) = some (.pointer x3) ∧ (
 R (.returned (.pointer x3)) w)))
set_option maxRecDepth 100000 in
theorem sh143_ok (x_1 : Option Addr) {R : Ending → World → Prop} {w : World} : sh143 x_1 R w → Calls Tryz.prog 143 #[.pointer x_1] w R :=
  calls_of_eq (ann := fun _ => []) (fn := Tryz.f143) (c := bodyOf Tryz.f143) (args := #[.pointer x_1]) 400 follows_mixed Tryz.func143 (by kernel_rfl) (by kernel_rfl)
set_option maxRecDepth 100000 in
/-- (*joinery/set.Set).with -/
def sh144 (x_1 : Option Addr) (keys_p2 : Option Addr) (keys_n3 : Nat) (keys_c4 : Nat) (of_f5 : Fn) (of_x6 : Array Value) (of_c7 : Array Value) (R : Ending → World → Prop) (w : World) : Prop :=
 ifB ((x_1).isNone) (
 R (.returned (.tuple #[.int .i64 0, .int .i64 1])) w) (
 ∃ (q8 : Addr), x_1 = some q8 ∧ (
 ∃ (x9 : Option Addr), World.cell? w ((q8.add 0).add 0) = some (.pointer x9) ∧ (
 ∃ (x10 : Int), World.cell? w ((q8.add 0).add 1) = some (.int .u8 x10) ∧ (
 ∃ (x11 : Option Addr), World.cell? w ((q8.add 0).add 2) = some (.pointer x11) ∧ (
 doCall Tryz.prog (.func (.func 136) #[] #[]) #[.agg #[.pointer x9, .int .u8 x10, .pointer x11], .slice keys_p2 keys_n3 keys_c4] w (retS (fun v14 w15 => ∃ (x12 : Option Addr), ∃ (x13 : Int), v14 = (.tuple #[.pointer x12, .int .i64 x13] : Value) ∧ (
 ∃ (q16 : Addr), x_1 = some q16 ∧ (
 ∃ (x17 : Option Addr), World.cell? w15 (q16.add 3) = some (.pointer x17) ∧ (
 doCall Tryz.prog (.func of_f5 of_x6 of_c7) #[.pointer x17, .pointer x12] w15 (retS (fun v20 w21 => ∃ (x18 : Option Addr), ∃ (x19 : Int), v20 = (.tuple #[.pointer x18, .int .i64 x19] : Value) ∧ (
 doDr w21 (fun w23 =>
 ∃ (C22 : World → Prop), C22 w23 ∧ (
 ∃ (q24 : Addr), x_1 = some q24 ∧ (
 ∃ (x25 : Option Addr), (∀ w, C22 w → World.cell? w (q24.add 3) = some (.pointer x25)) ∧ (
 doCall Tryz.prog (.func (.func 91) #[] #[]) #[.pointer x18] w23 (retS (fun v27 w28 => ∃ (x26 : Int), v27 = (.int .i64 x26 : Value) ∧ (
 C22 w28 ∧ (
 doCall Tryz.prog (.func (.func 91) #[] #[]) #[.pointer x25] w28 (retS (fun v30 w31 => ∃ (x29 : Int), v30 = (.int .i64 x29 : Value) ∧ (
 ∃ (q32 : Addr), x_1 = some q32 ∧ (
 doSt ((q32.add 3).add 0) (.pointer x18) w31 (fun w33 =>
 doGo Tryz.prog (.builtin .max #[3, 3] 3 #[false, false]) #[.int .i64 (IntKind.wrap .i64 (x26 - x29)), .int .i64 (IntKind.wrap .i64 (0 - (IntKind.wrap .i64 (x26 - x29))))] w33 (retS (fun v35 w36 => ∃ (x34 : Int), v35 = (.int .i64 x34 : Value) ∧ (
 R (.returned (.tuple #[.int .i64 x34, .int .i64 x19])) w36)) (fun ch w => Kfn R ch [] w)))))) (fun ch w => Kfn R ch [] w))))) (fun ch w => Kfn R ch [] w)))))))) (fun ch w => Kfn R ch [] w)))))) (fun ch w => Kfn R ch [] w)))))))
set_option maxRecDepth 100000 in
theorem sh144_ok (x_1 : Option Addr) (keys_p2 : Option Addr) (keys_n3 : Nat) (keys_c4 : Nat) (of_f5 : Fn) (of_x6 : Array Value) (of_c7 : Array Value) {R : Ending → World → Prop} {w : World} : sh144 x_1 keys_p2 keys_n3 keys_c4 of_f5 of_x6 of_c7 R w → Calls Tryz.prog 144 #[.pointer x_1, .slice keys_p2 keys_n3 keys_c4, .func of_f5 of_x6 of_c7] w R :=
  calls_of_eq (ann := fun _ => []) (fn := Tryz.f144) (c := bodyOf Tryz.f144) (args := #[.pointer x_1, .slice keys_p2 keys_n3 keys_c4, .func of_f5 of_x6 of_c7]) 400 follows_mixed Tryz.func144 (by kernel_rfl) (by kernel_rfl)
set_option maxRecDepth 100000 in
/-- (*joinery/set.Set).Add$1 -/
def sh145 (a_1 : Option Addr) (b_2 : Option Addr) (x3 : Addr) (R : Ending → World → Prop) (w : World) : Prop :=
 doDr w (fun w5 =>
 ∃ (C4 : World → Prop), C4 w5 ∧ (
 ∃ (x6 : Option Addr), (∀ w, C4 w → World.cell? w x3 = some (.pointer x6)) ∧ (
 ∃ (q7 : Addr), x6 = some q7 ∧ (
 ∃ (x8 : Option Addr), (∀ w, C4 w → World.cell? w ((q7.add 0).add 0) = some (.pointer x8)) ∧ (
 ∃ (x9 : Option Addr), (∀ w, C4 w → World.cell? w x3 = some (.pointer x9)) ∧ (
 ∃ (q10 : Addr), x9 = some q10 ∧ (
 ∃ (x11 : Int), (∀ w, C4 w → World.cell? w ((q10.add 0).add 1) = some (.int .u8 x11)) ∧ (
 doCall Tryz.prog (.func (.func 86) #[] #[]) #[.pointer x8, .int .u8 x11, .int .u8 1, .pointer a_1, .pointer b_2] w5 (retS (fun v14 w15 => ∃ (x12 : Option Addr), ∃ (x13 : Int), v14 = (.tuple #[.pointer x12, .int .i64 x13] : Value) ∧ (
 C4 w15 ∧ (
 R (.returned (.tuple #[.pointer x12, .int .i64 x13])) w15))) (fun ch w => Kfn R ch [] w))))))))))
set_option maxRecDepth 100000 in
theorem sh145_ok (a_1 : Option Addr) (b_2 : Option Addr) (x3 : Addr) {R : Ending → World → Prop} {w : World} : sh145 a_1 b_2 x3 R w → Calls Tryz.prog 145 #[.pointer a_1, .pointer b_2, .pointer (some x3)] w R :=
  calls_of_eq (ann := fun _ => []) (fn := Tryz.f145) (c := bodyOf Tryz.f145) (args := #[.pointer a_1, .pointer b_2, .pointer (some x3)]) 400 follows_mixed Tryz.func145 (by kernel_rfl) (by kernel_rfl)
set_option maxRecDepth 100000 in
/-- (*joinery/set.Set).Drop$1 -/
def sh146 (a_1 : Option Addr) (b_2 : Option Addr) (x3 : Addr) (R : Ending → World → Prop) (w : World) : Prop :=
 doDr w (fun w5 =>
 ∃ (C4 : World → Prop), C4 w5 ∧ (
 ∃ (x6 : Option Addr), (∀ w, C4 w → World.cell? w x3 = some (.pointer x6)) ∧ (
 ∃ (q7 : Addr), x6 = some q7 ∧ (
 ∃ (x8 : Option Addr), (∀ w, C4 w → World.cell? w ((q7.add 0).add 0) = some (.pointer x8)) ∧ (
 ∃ (x9 : Option Addr), (∀ w, C4 w → World.cell? w x3 = some (.pointer x9)) ∧ (
 ∃ (q10 : Addr), x9 = some q10 ∧ (
 ∃ (x11 : Int), (∀ w, C4 w → World.cell? w ((q10.add 0).add 1) = some (.int .u8 x11)) ∧ (
 doCall Tryz.prog (.func (.func 88) #[] #[]) #[.pointer x8, .int .u8 x11, .pointer a_1, .pointer b_2] w5 (retS (fun v14 w15 => ∃ (x12 : Option Addr), ∃ (x13 : Int), v14 = (.tuple #[.pointer x12, .int .i64 x13] : Value) ∧ (
 C4 w15 ∧ (
 R (.returned (.tuple #[.pointer x12, .int .i64 x13])) w15))) (fun ch w => Kfn R ch [] w))))))))))
set_option maxRecDepth 100000 in
theorem sh146_ok (a_1 : Option Addr) (b_2 : Option Addr) (x3 : Addr) {R : Ending → World → Prop} {w : World} : sh146 a_1 b_2 x3 R w → Calls Tryz.prog 146 #[.pointer a_1, .pointer b_2, .pointer (some x3)] w R :=
  calls_of_eq (ann := fun _ => []) (fn := Tryz.f146) (c := bodyOf Tryz.f146) (args := #[.pointer a_1, .pointer b_2, .pointer (some x3)]) 400 follows_mixed Tryz.func146 (by kernel_rfl) (by kernel_rfl)
set_option maxRecDepth 100000 in
/-- joinery/look.Keys -/
def sh147 (t_1 : Option Addr) (R : Ending → World → Prop) (w : World) : Prop :=
 doAl (.cells #[.slice none 0 0] 24) w (fun b2 w3 =>
 doCall Tryz.prog (.func (.func 99) #[] #[]) #[.pointer t_1] w3 (retS (fun v7 w8 => ∃ (xf4 : Fn), ∃ (xx5 : Array Value), ∃ (xc6 : Array Value), v7 = (.func xf4 xx5 xc6 : Value) ∧ (
 rfW Tryz.prog (.func xf4 xx5 xc6) (mkLoop #[.pointer t_1, undef, .pointer (some (blk b2)), undef, .pointer t_1, .func xf4 xx5 xc6, undef, undef, undef, undef, undef, undef, undef] (rfOf Tryz.f147 0).1 (rfOf Tryz.f147 0).2.1 (rfOf Tryz.f147 0).2.2)
 (fun w9 =>
 ∃ (xp10 : Option Addr), ∃ (xn11 : Nat), ∃ (xc12 : Nat), World.cell? w9 (blk b2) = some (.slice xp10 xn11 xc12) ∧ (
 doSt ((blk b2).add 0) (.slice xp10 xn11 xc12) w9 (fun w13 =>
 w13.heap[w8.heap.size]? = some (.deferred (some [])) ∧ (
 let w14 : World := w13.putObj w8.heap.size (.deferred none)
 ∃ (xp15 : Option Addr), ∃ (xn16 : Nat), ∃ (xc17 : Nat), World.cell? w14 (blk b2) = some (.slice xp15 xn16 xc17) ∧ (
 R (.returned (.slice xp15 xn16 xc17)) w14)))))
 (fun w18 =>
 w18.heap[w8.heap.size]? = some (.deferred (some [])) ∧ (
 let w19 : World := w18.putObj w8.heap.size (.deferred none)
 ∃ (xp20 : Option Addr), ∃ (xn21 : Nat), ∃ (xc22 : Nat), World.cell? w19 (blk b2) = some (.slice xp20 xn21 xc22) ∧ (
 R (.returned (.slice xp20 xn21 xc22)) w19)))
 [] w8)) (fun ch w => Kfn R ch [] w)))
set_option maxRecDepth 100000 in
theorem sh147_ok (t_1 : Option Addr) {R : Ending → World → Prop} {w : World} : sh147 t_1 R w → Calls Tryz.prog 147 #[.pointer t_1] w R :=
  calls_of_eq (ann := fun _ => []) (fn := Tryz.f147) (c := bodyOf Tryz.f147) (args := #[.pointer t_1]) 400 follows_mixed Tryz.func147 (by kernel_rfl) (by kernel_rfl)
set_option maxRecDepth 100000 in
/-- joinery/look.Keys, a round of loop 0 -/
def sh147_0 (l_1 : Addr) (y14 : Int) (_y15 : Int) (l : Nat) (R : Ending → World → Prop) (w : World) : Prop :=
 ∃ (r16 : Loop), w.heap[l]? = some (.loop r16) ∧ r16.state = .ready ∧ (
 let w17 : World := w.putObj l (.loop { r16 with state := .busy })
 ∃ (xp18 : Option Addr), ∃ (xn19 : Nat), ∃ (xc20 : Nat), World.cell? w17 l_1 = some (.slice xp18 xn19 xc20) ∧ (
 doAl (.cells #[.int .i64 y14] 2) w17 (fun b21 w22 =>
 doGo Tryz.prog (.builtin .append #[24, 24] 24 #[false, false]) #[.slice xp18 xn19 xc20, .slice (some (blk b21)) 1 1] w22 (retS (fun v26 w27 => ∃ (xp23 : Option Addr), ∃ (xn24 : Nat), ∃ (xc25 : Nat), v26 = (.slice xp23 xn24 xc25 : Value) ∧ (
 doSt (l_1.add 0) (.slice xp23 xn24 xc25) w27 (fun w28 =>
 ∃ (r29 : Loop), w28.heap[l]? = some (.loop r29) ∧ R (.returned (.bool true)) (w28.putObj l (.loop { r29 with state := .ready, pending := none }))))) (fun _ _ => False)))))
set_option maxRecDepth 100000 in
theorem sh147_0_ok {dd2 : Value} {dd3 : Value} {dd4 : Value} {dd5 : Value} {dd6 : Value} {dd7 : Value} {dd8 : Value} {dd9 : Value} {dd10 : Value} {dd11 : Value} {dd12 : Value} {dd13 : Value} {l_1 : Addr} {y14 : Int} {y15 : Int} {l fn D : Nat} {R : Ending → World → Prop} {w : World} (hl : w.heap[l]? = some (.loop (mkLoop #[dd2, dd3, .pointer (some l_1), dd4, dd5, dd6, dd7, dd8, dd9, dd10, dd11, dd12, dd13] (rfOf Tryz.f147 0).1 (rfOf Tryz.f147 0).2.1 (rfOf Tryz.f147 0).2.2 fn D))) : sh147_0 l_1 y14 y15 l R w → doCall Tryz.prog (.func (.yield l) #[] #[]) #[.int .i64 y14, .int .i64 y15] w R :=
  fun h => ⟨round_of_eq (ann := fun _ => []) 400 follows_mixed hl (by kernel_rfl) (by kernel_rfl) h⟩
set_option maxRecDepth 100000 in
/-- joinery/build.Items$1 -/
def sh168 (l_p1 : Option Addr) (l_n2 : Nat) (l_c3 : Nat) (x4 : Addr) (x5 : Addr) (R : Ending → World → Prop) (w : World) : Prop :=
 ifB ((((l_n2 : Nat) : Int) : Int) == 0) (
 R (.returned (.pointer none)) w) (
 2 ≠ (0 : Int) ∧ (
 doDr w (fun w7 =>
 ∃ (C6 : World → Prop), C6 w7 ∧ (
 ∃ (x8 : Option Addr), (∀ w, C6 w → World.cell? w x4 = some (.pointer x8)) ∧ (
 ∃ (xf9 : Fn), ∃ (xx10 : Array Value), ∃ (xc11 : Array Value), (∀ w, C6 w → World.cell? w x5 = some (.func xf9 xx10 xc11)) ∧ (
 doSl l_p1 l_c3 3 (0) (IntKind.wrap .i64 (Int.tdiv ((l_n2 : Nat) : Int) 2)) (fun p12 n13 c14 =>
 doIx l_p1 l_n2 3 (IntKind.wrap .i64 (Int.tdiv ((l_n2 : Nat) : Int) 2)) (fun a15 =>
 ∃ (x16 : Int), (∀ w, C6 w → World.cell? w (a15.add 0) = some (.int .i64 x16)) ∧ (
 ∃ (x17 : Int), (∀ w, C6 w → World.cell? w (a15.add 1) = some (.int .i64 x17)) ∧ (
 ∃ (x18 : Int), (∀ w, C6 w → World.cell? w (a15.add 2) = some (.int .u64 x18)) ∧ (
 ∃ (xf19 : Fn), ∃ (xx20 : Array Value), ∃ (xc21 : Array Value), (∀ w, C6 w → World.cell? w x5 = some (.func xf19 xx20 xc21)) ∧ (
 doSl l_p1 l_c3 3 (IntKind.wrap .i64 ((IntKind.wrap .i64 (Int.tdiv ((l_n2 : Nat) : Int) 2)) + 1)) (((l_n2 : Nat) : Int)) (fun p22 n23 c24 =>
 doCall Tryz.prog (.func xf9 xx10 xc11) #[.slice p12 n13 c14] w7 (retS (fun v26 w27 => ∃ (x25 : Option Addr), v26 = (.pointer x25 : Value) ∧ (
 C6 w27 ∧ (
 doCall Tryz.prog (.func xf19 xx20 xc21) #[.slice p22 n23 c24] w27 (retS (fun v29 w30 => ∃ (x28 : Option Addr), v29 = (.pointer x28 : Value) ∧ (
 C6 w30 ∧ (
 doCall Tryz.prog (.func (.func 106) #[] #[]) #[.pointer x8, .pointer x25, .agg #[.int .i64 x16, .int .i64 x17, .int .u64 x18], .pointer x28] w30 (retS (fun v32 w33 => ∃ (x31 : Option Addr), v32 = (.pointer x31 : Value) ∧ (
 C6 w33 ∧ (
 R (.returned (.pointer x31)) w33))) (fun ch w => Kfn R ch [] w))))) (fun ch w => Kfn R ch [] w))))) (fun ch w => Kfn R ch [] w)))))))))))))))
set_option maxRecDepth 100000 in
theorem sh168_ok (l_p1 : Option Addr) (l_n2 : Nat) (l_c3 : Nat) (x4 : Addr) (x5 : Addr) {R : Ending → World → Prop} {w : World} : sh168 l_p1 l_n2 l_c3 x4 x5 R w → Calls Tryz.prog 168 #[.slice l_p1 l_n2 l_c3, .pointer (some x4), .pointer (some x5)] w R :=
  calls_of_eq (ann := fun _ => []) (fn := Tryz.f168) (c := bodyOf Tryz.f168) (args := #[.slice l_p1 l_n2 l_c3, .pointer (some x4), .pointer (some x5)]) 400 follows_mixed Tryz.func168 (by kernel_rfl) (by kernel_rfl)
end Go.Proofs.YtlddfgfmkapoiaaGreat

namespace Go.Proofs.YtlddfgfmkapoiaaGreat
open Go Go.Sh
set_option maxRecDepth 100000 in
/-- slices.Clone[[]uint64,uint64] -/
def sh169 (s_p1 : Option Addr) (s_n2 : Nat) (s_c3 : Nat) (R : Ending → World → Prop) (w : World) : Prop :=
 ifB ((s_p1 : Option Addr).isNone) (
 R (.returned (.slice none 0 0)) w) (
 doAl (.cells #[] 75) w (fun b4 w5 =>
 doGo Tryz.prog (.builtin .append #[23, 23] 23 #[false, false]) #[.slice (some (blk b4)) 0 0, .slice s_p1 s_n2 s_c3] w5 (retS (fun v9 w10 => ∃ (xp6 : Option Addr), ∃ (xn7 : Nat), ∃ (xc8 : Nat), v9 = (.slice xp6 xn7 xc8 : Value) ∧ (
 R (.returned (.slice xp6 xn7 xc8)) w10)) (fun ch w => Kfn R ch [] w))))
set_option maxRecDepth 100000 in
theorem sh169_ok (s_p1 : Option Addr) (s_n2 : Nat) (s_c3 : Nat) {R : Ending → World → Prop} {w : World} : sh169 s_p1 s_n2 s_c3 R w → Calls Tryz.prog 169 #[.slice s_p1 s_n2 s_c3] w R :=
  calls_of_eq (ann := fun _ => []) (fn := Tryz.f169) (c := bodyOf Tryz.f169) (args := #[.slice s_p1 s_n2 s_c3]) 400 follows_mixed Tryz.func169 (by kernel_rfl) (by kernel_rfl)
set_option maxRecDepth 100000 in
/-- joinery/draw.New$2 -/
def sh171 (x1 : Addr) (x2 : Addr) (R : Ending → World → Prop) (w : World) : Prop :=
 ∃ (xp3 : Option Addr), ∃ (xn4 : Nat), ∃ (xc5 : Nat), World.cell? w x1 = some (.slice xp3 xn4 xc5) ∧ (
 ifB ((((xn4 : Nat) : Int) : Int) == 0) (
 R (.returned (.tuple #[.int .u64 0, .bool false])) w) (
 ∃ (xp6 : Option Addr), ∃ (xn7 : Nat), ∃ (xc8 : Nat), World.cell? w x1 = some (.slice xp6 xn7 xc8) ∧ (
 doIx xp6 xn7 1 (0) (fun a9 =>
 ∃ (x10 : Int), World.cell? w a9 = some (.int .u64 x10) ∧ (
 ∃ (xp11 : Option Addr), ∃ (xn12 : Nat), ∃ (xc13 : Nat), World.cell? w x1 = some (.slice xp11 xn12 xc13) ∧ (
 doSl xp11 xc13 1 (1) (((xn12 : Nat) : Int)) (fun p14 n15 c16 =>
 doSt (x1.add 0) (.slice p14 n15 c16) w (fun w17 =>
 ∃ (x18 : Option Addr), World.cell? w17 x2 = some (.pointer x18) ∧ (
 ∃ (xp19 : Option Addr), ∃ (xn20 : Nat), ∃ (xc21 : Nat), World.cell? w17 x1 = some (.slice xp19 xn20 xc21) ∧ (
 ∃ (q22 : Addr), x18 = some q22 ∧ (
 doSt ((q22.add 0).add 0) (.slice xp19 xn20 xc21) w17 (fun w23 =>
 R (.returned (.tuple #[.int .u64 x10, .bool true])) w23))))))))))))
set_option maxRecDepth 100000 in
theorem sh171_ok (x1 : Addr) (x2 : Addr) {R : Ending → World → Prop} {w : World} : sh171 x1 x2 R w → Calls Tryz.prog 171 #[.pointer (some x1), .pointer (some x2)] w R :=
  calls_of_eq (ann := fun _ => []) (fn := Tryz.f171) (c := bodyOf Tryz.f171) (args := #[.pointer (some x1), .pointer (some x2)]) 400 follows_mixed Tryz.func171 (by kernel_rfl) (by kernel_rfl)
set_option maxRecDepth 100000 in
/-- joinery/look.pairs -/
def sh180 (s_f1 : Fn) (s_x2 : Array Value) (s_c3 : Array Value) (R : Ending → World → Prop) (w : World) : Prop :=
 doAl (.cells #[.func s_f1 s_x2 s_c3] 241) w (fun b4 w5 =>
 R (.returned (.func (.func 240) #[] #[.pointer (some (blk b4))])) w5)
set_option maxRecDepth 100000 in
theorem sh180_ok (s_f1 : Fn) (s_x2 : Array Value) (s_c3 : Array Value) {R : Ending → World → Prop} {w : World} : sh180 s_f1 s_x2 s_c3 R w → Calls Tryz.prog 180 #[.func s_f1 s_x2 s_c3] w R :=
  calls_of_eq (ann := fun _ => []) (fn := Tryz.f180) (c := bodyOf Tryz.f180) (args := #[.func s_f1 s_x2 s_c3]) 400 follows_mixed Tryz.func180 (by kernel_rfl) (by kernel_rfl)
set_option maxRecDepth 100000 in
/-- joinery/look.nodes -/
def sh181 (t_1 : Option Addr) (R : Ending → World → Prop) (w : World) : Prop :=
 doCall Tryz.prog (.func (.func 241) #[] #[]) #[.pointer t_1, .func (.func 123) #[] #[], .func (.func 125) #[] #[]] w (retS (fun v5 w6 => ∃ (xf2 : Fn), ∃ (xx3 : Array Value), ∃ (xc4 : Array Value), v5 = (.func xf2 xx3 xc4 : Value) ∧ (
 R (.returned (.func xf2 xx3 xc4)) w6)) (fun ch w => Kfn R ch [] w))
set_option maxRecDepth 100000 in
theorem sh181_ok (t_1 : Option Addr) {R : Ending → World → Prop} {w : World} : sh181 t_1 R w → Calls Tryz.prog 181 #[.pointer t_1] w R :=
  calls_of_eq (ann := fun _ => []) (fn := Tryz.f181) (c := bodyOf Tryz.f181) (args := #[.pointer t_1]) 400 follows_mixed Tryz.func181 (by kernel_rfl) (by kernel_rfl)
set_option maxRecDepth 100000 in
/-- joinery/build.tagged$1 -/
def sh183 (yield_f1 : Fn) (yield_x2 : Array Value) (yield_c3 : Array Value) (x4 : Addr) (x5 : Addr) (x6 : Addr) (R : Ending → World → Prop) (w : World) : Prop :=
 ∃ (xp7 : Option Addr), ∃ (xn8 : Nat), ∃ (xc9 : Nat), World.cell? w x4 = some (.slice xp7 xn8 xc9) ∧ (
 ∃ (I10 : List Value → World → Prop) (μ11 : List Value → World → Nat), I10 [.int .i64 0] w ∧ (∀ (x14 : Int), ∀ (_j12 : Nat → Value) (w13 : World), I10 [.int .i64 x14] w13 → (
 ifB (decide ((x14 : Int) < ((xn8 : Nat) : Int))) (
 doIx xp7 xn8 2 (x14) (fun a15 =>
 ∃ (x16 : Int), World.cell? w13 (a15.add 0) = some (.int .i64 x16) ∧ (
 ∃ (x17 : Int), World.cell? w13 (a15.add 1) = some (.int .i64 x17) ∧ (
 doAl (.cells #[.int .i64 0, .int .i64 0] 46) w13 (fun b18 w19 =>
 doSt ((blk b18).add 0) (.int .i64 x16) w19 (fun w20 =>
 doSt ((blk b18).add 1) (.int .i64 x17) w20 (fun w21 =>
 ∃ (x22 : Int), World.cell? w21 ((blk b18).add 0) = some (.int .i64 x22) ∧ (
 ∃ (x23 : Int), World.cell? w21 ((blk b18).add 1) = some (.int .i64 x23) ∧ (
 doAl (.cells #[.int .i64 0, .int .i64 0, .int .u64 0] 114) w21 (fun b24 w25 =>
 doSt ((blk b24).add 0) (.int .i64 x22) w25 (fun w26 =>
 doSt ((blk b24).add 1) (.int .i64 x23) w26 (fun w27 =>
 doSt ((blk b24).add 2) (.int .u64 0) w27 (fun w28 =>
 let K30 : World → Prop := fun (w29 : World) => 
 ∃ (x31 : Int), World.cell? w29 ((blk b24).add 0) = some (.int .i64 x31) ∧ (
 ∃ (x32 : Int), World.cell? w29 ((blk b24).add 1) = some (.int .i64 x32) ∧ (
 ∃ (x33 : Int), World.cell? w29 ((blk b24).add 2) = some (.int .u64 x33) ∧ (
 doCall Tryz.prog (.func yield_f1 yield_x2 yield_c3) #[.agg #[.int .i64 x31, .int .i64 x32, .int .u64 x33]] w29 (retS (fun v35 w36 => ∃ (x34 : Bool), v35 = (.bool x34 : Value) ∧ (
 ifB (!x34) (
 R (.returned (.tuple #[])) w36) (
 I10 [.int .i64 (IntKind.wrap .i64 (x14 + 1))] w36 ∧ μ11 [.int .i64 (IntKind.wrap .i64 (x14 + 1))] w36 < μ11 [.int .i64 x14] w13))) (fun ch w => Kfn R ch [] w)))))
 ∃ (x37 : Option Addr), World.cell? w28 x5 = some (.pointer x37) ∧ (
 doCall Tryz.prog (.func (.func 184) #[] #[]) #[.pointer x37] w28 (retS (fun v39 w40 => ∃ (x38 : Int), v39 = (.int .u8 x38 : Value) ∧ (
 ifB ((x38 : Int) == 4) (
 ∃ (x41 : Option Addr), World.cell? w40 x6 = some (.pointer x41) ∧ (
 ∃ (x42 : Int), World.cell? w40 ((blk b18).add 0) = some (.int .i64 x42) ∧ (
 doCall Tryz.prog (.func (.func 185) #[] #[]) #[.pointer x41, .int .i64 x42] w40 (retS (fun v44 w45 => ∃ (x43 : Int), v44 = (.int .u64 x43 : Value) ∧ (
 doSt (((blk b24).add 2).add 0) (.int .u64 x43) w45 (fun w46 =>
 K30 w46))) (fun ch w => Kfn R ch [] w))))) (
 K30 w40))) (fun ch w => Kfn R ch [] w)))))))))))))))) (
 R (.returned (.tuple #[])) w13))))
set_option maxRecDepth 100000 in
theorem sh183_ok (yield_f1 : Fn) (yield_x2 : Array Value) (yield_c3 : Array Value) (x4 : Addr) (x5 : Addr) (x6 : Addr) {R : Ending → World → Prop} {w : World} : sh183 yield_f1 yield_x2 yield_c3 x4 x5 x6 R w → Calls Tryz.prog 183 #[.func yield_f1 yield_x2 yield_c3, .pointer (some x4), .pointer (some x5), .pointer (some x6)] w R :=
  calls_of_eq (ann := fun i => if i = 0 then [(10, .int .i64 0)] else []) (fn := Tryz.f183) (c := bodyOf Tryz.f183) (args := #[.func yield_f1 yield_x2 yield_c3, .pointer (some x4), .pointer (some x5), .pointer (some x6)]) 400 follows_mixed Tryz.func183 (by kernel_rfl) (by kernel_rfl)
set_option maxRecDepth 100000 in
/-- (*joinery/scheme.Scheme).Code -/
def sh184 (s_1 : Option Addr) (R : Ending → World → Prop) (w : World) : Prop :=
 ifB ((s_1).isNone) (
 R (.returned (.int .u8 0)) w) (
 ∃ (q2 : Addr), s_1 = some q2 ∧ (
 ∃ (x3 : Int), World.cell? w (q2.add 0) = some (.int .u8 x3) ∧ (
 R (.returned (.int .u8 x3)) w)))
set_option maxRecDepth 100000 in
theorem sh184_ok (s_1 : Option Addr) {R : Ending → World → Prop} {w : World} : sh184 s_1 R w → Calls Tryz.prog 184 #[.pointer s_1] w R :=
  calls_of_eq (ann := fun _ => []) (fn := Tryz.f184) (c := bodyOf Tryz.f184) (args := #[.pointer s_1]) 400 follows_mixed Tryz.func184 (by kernel_rfl) (by kernel_rfl)
set_option maxRecDepth 100000 in
/-- (*joinery/draw.Draws).Next -/
def sh185 (d_1 : Option Addr) (key_2 : Int) (R : Ending → World → Prop) (w : World) : Prop :=
 let K4 : World → Prop := fun (w3 : World) => 
 doCall Tryz.prog (.func (.func 83) #[] #[]) #[.int .i64 key_2] w3 (retS (fun v6 w7 => ∃ (x5 : Int), v6 = (.int .u64 x5 : Value) ∧ (
 R (.returned (.int .u64 x5)) w7)) (fun ch w => Kfn R ch [] w))
 ifB (!(d_1).isNone) (
 ∃ (q8 : Addr), d_1 = some q8 ∧ (
 ∃ (xf9 : Fn), ∃ (xx10 : Array Value), ∃ (xc11 : Array Value), World.cell? w (q8.add 1) = some (.func xf9 xx10 xc11) ∧ (
 doCall Tryz.prog (.func xf9 xx10 xc11) #[] w (retS (fun v14 w15 => ∃ (x12 : Int), ∃ (x13 : Bool), v14 = (.tuple #[.int .u64 x12, .bool x13] : Value) ∧ (
 ifB x13 (
 R (.returned (.int .u64 x12)) w15) (
 K4 w15))) (fun ch w => Kfn R ch [] w))))) (
 K4 w)
set_option maxRecDepth 100000 in
theorem sh185_ok (d_1 : Option Addr) (key_2 : Int) {R : Ending → World → Prop} {w : World} : sh185 d_1 key_2 R w → Calls Tryz.prog 185 #[.pointer d_1, .int .i64 key_2] w R :=
  calls_of_eq (ann := fun _ => []) (fn := Tryz.f185) (c := bodyOf Tryz.f185) (args := #[.pointer d_1, .int .i64 key_2]) 400 follows_mixed Tryz.func185 (by kernel_rfl) (by kernel_rfl)
set_option maxRecDepth 100000 in
/-- joinery/joineryref10.Keys -/
def sh204 (l_p1 : Option Addr) (l_n2 : Nat) (l_c3 : Nat) (R : Ending → World → Prop) (w : World) : Prop :=
 doCall Tryz.prog (.func (.func 60) #[] #[]) #[.slice l_p1 l_n2 l_c3] w (retS (fun v7 w8 => ∃ (xp4 : Option Addr), ∃ (xn5 : Nat), ∃ (xc6 : Nat), v7 = (.slice xp4 xn5 xc6 : Value) ∧ (
 ∃ (I9 : List Value → World → Prop) (μ10 : List Value → World → Nat), I9 [.slice none 0 0, .int .i64 0] w8 ∧ (∀ (out_p13 : Option Addr), ∀ (out_n14 : Nat), ∀ (out_c15 : Nat), ∀ (i_16 : Int), ∀ (_j11 : Nat → Value) (w12 : World), I9 [.slice out_p13 out_n14 out_c15, .int .i64 i_16] w12 → (
 ifB (decide ((i_16 : Int) < ((xn5 : Nat) : Int))) (
 doIx xp4 xn5 2 (i_16) (fun a17 =>
 ∃ (x18 : Int), World.cell? w12 (a17.add 0) = some (.int .i64 x18) ∧ (
 doAl (.cells #[.int .i64 x18] 2) w12 (fun b19 w20 =>
 doGo Tryz.prog (.builtin .append #[24, 24] 24 #[false, false]) #[.slice out_p13 out_n14 out_c15, .slice (some (blk b19)) 1 1] w20 (retS (fun v24 w25 => ∃ (xp21 : Option Addr), ∃ (xn22 : Nat), ∃ (xc23 : Nat), v24 = (.slice xp21 xn22 xc23 : Value) ∧ (
 I9 [.slice xp21 xn22 xc23, .int .i64 (IntKind.wrap .i64 (i_16 + 1))] w25 ∧ μ10 [.slice xp21 xn22 xc23, .int .i64 (IntKind.wrap .i64 (i_16 + 1))] w25 < μ10 [.slice out_p13 out_n14 out_c15, .int .i64 i_16] w12)) (fun ch w => Kfn R ch [] w)))))) (
 R (.returned (.slice out_p13 out_n14 out_c15)) w12))))) (fun ch w => Kfn R ch [] w))
set_option maxRecDepth 100000 in
theorem sh204_ok (l_p1 : Option Addr) (l_n2 : Nat) (l_c3 : Nat) {R : Ending → World → Prop} {w : World} : sh204 l_p1 l_n2 l_c3 R w → Calls Tryz.prog 204 #[.slice l_p1 l_n2 l_c3] w R :=
  calls_of_eq (ann := fun i => if i = 0 then [(3, .slice none 0 0), (5, .int .i64 0)] else []) (fn := Tryz.f204) (c := bodyOf Tryz.f204) (args := #[.slice l_p1 l_n2 l_c3]) 400 follows_mixed Tryz.func204 (by kernel_rfl) (by kernel_rfl)
set_option maxRecDepth 100000 in
/-- joinery/look.pairs$1 -/
def sh240 (yield_f1 : Fn) (yield_x2 : Array Value) (yield_c3 : Array Value) (x4 : Addr) (R : Ending → World → Prop) (w : World) : Prop :=
 doAl (.cells #[.func yield_f1 yield_x2 yield_c3] 307) w (fun b5 w6 =>
 ∃ (xf7 : Fn), ∃ (xx8 : Array Value), ∃ (xc9 : Array Value), World.cell? w6 x4 = some (.func xf7 xx8 xc9) ∧ (
 rfW Tryz.prog (.func xf7 xx8 xc9) (mkLoop #[.func yield_f1 yield_x2 yield_c3, .pointer (some x4), .pointer (some (blk b5)), undef, .func xf7 xx8 xc9, undef, undef, undef, undef, undef, undef, undef, undef] (rfOf Tryz.f240 0).1 (rfOf Tryz.f240 0).2.1 (rfOf Tryz.f240 0).2.2)
 (fun w10 =>
 w10.heap[w6.heap.size]? = some (.deferred (some [])) ∧ (
 let w11 : World := w10.putObj w6.heap.size (.deferred none)
 R (.returned (.tuple #[])) w11))
 (fun w12 =>
 w12.heap[w6.heap.size]? = some (.deferred (some [])) ∧ (
 let w13 : World := w12.putObj w6.heap.size (.deferred none)
 R (.returned (.tuple #[])) w13))
 [] w6))
set_option maxRecDepth 100000 in
theorem sh240_ok (yield_f1 : Fn) (yield_x2 : Array Value) (yield_c3 : Array Value) (x4 : Addr) {R : Ending → World → Prop} {w : World} : sh240 yield_f1 yield_x2 yield_c3 x4 R w → Calls Tryz.prog 240 #[.func yield_f1 yield_x2 yield_c3, .pointer (some x4)] w R :=
  calls_of_eq (ann := fun _ => []) (fn := Tryz.f240) (c := bodyOf Tryz.f240) (args := #[.func yield_f1 yield_x2 yield_c3, .pointer (some x4)]) 400 follows_mixed Tryz.func240 (by kernel_rfl) (by kernel_rfl)
set_option maxRecDepth 100000 in
/-- joinery/look.pairs$1, a round of loop 0 -/
def sh240_0 (yield_1 : Addr) (y14 : Option Addr) (l : Nat) (R : Ending → World → Prop) (w : World) : Prop :=
 ∃ (r15 : Loop), w.heap[l]? = some (.loop r15) ∧ r15.state = .ready ∧ (
 let w16 : World := w.putObj l (.loop { r15 with state := .busy })
 doDr w16 (fun w18 =>
 ∃ (C17 : World → Prop), C17 w18 ∧ (
 ∃ (xf19 : Fn), ∃ (xx20 : Array Value), ∃ (xc21 : Array Value), (∀ w, C17 w → World.cell? w yield_1 = some (.func xf19 xx20 xc21)) ∧ (
 doCall Tryz.prog (.func (.func 108) #[] #[]) #[.pointer y14] w18 (retS (fun v23 w24 => ∃ (x22 : Int), v23 = (.int .i64 x22 : Value) ∧ (
 C17 w24 ∧ (
 doCall Tryz.prog (.func (.func 126) #[] #[]) #[.pointer y14] w24 (retS (fun v26 w27 => ∃ (x25 : Int), v26 = (.int .i64 x25 : Value) ∧ (
 C17 w27 ∧ (
 doCall Tryz.prog (.func xf19 xx20 xc21) #[.int .i64 x22, .int .i64 x25] w27 (retS (fun v29 w30 => ∃ (x28 : Bool), v29 = (.bool x28 : Value) ∧ (
 ifB (!x28) (
 ∃ (r31 : Loop), w30.heap[l]? = some (.loop r31) ∧ R (.returned (.bool false)) (w30.putObj l (.loop { r31 with state := .done, pending := some .ret }))) (
 ∃ (r32 : Loop), w30.heap[l]? = some (.loop r32) ∧ R (.returned (.bool true)) (w30.putObj l (.loop { r32 with state := .ready, pending := none }))))) (fun _ _ => False))))) (fun _ _ => False))))) (fun _ _ => False))))))
set_option maxRecDepth 100000 in
theorem sh240_0_ok {dd2 : Value} {dd3 : Value} {dd4 : Value} {dd5 : Value} {dd6 : Value} {dd7 : Value} {dd8 : Value} {dd9 : Value} {dd10 : Value} {dd11 : Value} {dd12 : Value} {dd13 : Value} {yield_1 : Addr} {y14 : Option Addr} {l fn D : Nat} {R : Ending → World → Prop} {w : World} (hl : w.heap[l]? = some (.loop (mkLoop #[dd2, dd3, .pointer (some yield_1), dd4, dd5, dd6, dd7, dd8, dd9, dd10, dd11, dd12, dd13] (rfOf Tryz.f240 0).1 (rfOf Tryz.f240 0).2.1 (rfOf Tryz.f240 0).2.2 fn D))) : sh240_0 yield_1 y14 l R w → doCall Tryz.prog (.func (.yield l) #[] #[]) #[.pointer y14] w R :=
  fun h => ⟨round_of_eq (ann := fun _ => []) 400 follows_mixed hl (by kernel_rfl) (by kernel_rfl) h⟩
set_option maxRecDepth 100000 in
/-- joinery/look.goes -/
def sh241 (t_1 : Option Addr) (ahead_f2 : Fn) (ahead_x3 : Array Value) (ahead_c4 : Array Value) (behind_f5 : Fn) (behind_x6 : Array Value) (behind_c7 : Array Value) (R : Ending → World → Prop) (w : World) : Prop :=
 doAl (.cells #[.pointer t_1] 35) w (fun b8 w9 =>
 doAl (.cells #[.func ahead_f2 ahead_x3 ahead_c4] 195) w9 (fun b10 w11 =>
 doAl (.cells #[.func behind_f5 behind_x6 behind_c7] 195) w11 (fun b12 w13 =>
 R (.returned (.func (.func 301) #[] #[.pointer (some (blk b10)), .pointer (some (blk b12)), .pointer (some (blk b8))])) w13)))
set_option maxRecDepth 100000 in
theorem sh241_ok (t_1 : Option Addr) (ahead_f2 : Fn) (ahead_x3 : Array Value) (ahead_c4 : Array Value) (behind_f5 : Fn) (behind_x6 : Array Value) (behind_c7 : Array Value) {R : Ending → World → Prop} {w : World} : sh241 t_1 ahead_f2 ahead_x3 ahead_c4 behind_f5 behind_x6 behind_c7 R w → Calls Tryz.prog 241 #[.pointer t_1, .func ahead_f2 ahead_x3 ahead_c4, .func behind_f5 behind_x6 behind_c7] w R :=
  calls_of_eq (ann := fun _ => []) (fn := Tryz.f241) (c := bodyOf Tryz.f241) (args := #[.pointer t_1, .func ahead_f2 ahead_x3 ahead_c4, .func behind_f5 behind_x6 behind_c7]) 400 follows_mixed Tryz.func241 (by kernel_rfl) (by kernel_rfl)
end Go.Proofs.YtlddfgfmkapoiaaGreat

namespace Go.Proofs.YtlddfgfmkapoiaaGreat
open Go Go.Sh
set_option maxRecDepth 100000 in
/-- joinery/look.goes$1 -/
def sh301 (yield_f1 : Fn) (yield_x2 : Array Value) (yield_c3 : Array Value) (x4 : Addr) (x5 : Addr) (x6 : Addr) (R : Ending → World → Prop) (w : World) : Prop :=
 doAl (.cells #[.func yield_f1 yield_x2 yield_c3] 161) w (fun b7 w8 =>
 doAl (.cells #[.nilFunc] 161) w8 (fun b9 w10 =>
 doSt ((blk b9).add 0) (.func (.func 302) #[] #[.pointer (some (blk b9)), .pointer (some x4), .pointer (some (blk b7)), .pointer (some x5)]) w10 (fun w11 =>
 ∃ (xf12 : Fn), ∃ (xx13 : Array Value), ∃ (xc14 : Array Value), World.cell? w11 (blk b9) = some (.func xf12 xx13 xc14) ∧ (
 ∃ (x15 : Option Addr), World.cell? w11 x6 = some (.pointer x15) ∧ (
 doCall Tryz.prog (.func xf12 xx13 xc14) #[.pointer x15] w11 (retS (fun v17 w18 => ∃ (x16 : Bool), v17 = (.bool x16 : Value) ∧ (
 R (.returned (.tuple #[])) w18)) (fun ch w => Kfn R ch [] w)))))))
set_option maxRecDepth 100000 in
theorem sh301_ok (yield_f1 : Fn) (yield_x2 : Array Value) (yield_c3 : Array Value) (x4 : Addr) (x5 : Addr) (x6 : Addr) {R : Ending → World → Prop} {w : World} : sh301 yield_f1 yield_x2 yield_c3 x4 x5 x6 R w → Calls Tryz.prog 301 #[.func yield_f1 yield_x2 yield_c3, .pointer (some x4), .pointer (some x5), .pointer (some x6)] w R :=
  calls_of_eq (ann := fun _ => []) (fn := Tryz.f301) (c := bodyOf Tryz.f301) (args := #[.func yield_f1 yield_x2 yield_c3, .pointer (some x4), .pointer (some x5), .pointer (some x6)]) 400 follows_mixed Tryz.func301 (by kernel_rfl) (by kernel_rfl)
set_option maxRecDepth 100000 in
/-- joinery/look.goes$1$1 -/
def sh302 (n_1 : Option Addr) (x2 : Addr) (x3 : Addr) (x4 : Addr) (x5 : Addr) (R : Ending → World → Prop) (w : World) : Prop :=
 let K8 : Bool → World → Prop := fun (x6 : Bool) (w7 : World) => 
 R (.returned (.bool x6)) w7
 doDr w (fun w10 =>
 ∃ (C9 : World → Prop), C9 w10 ∧ (
 ifB ((n_1).isNone) (
 R (.returned (.bool true)) w10) (
 ∃ (xf11 : Fn), ∃ (xx12 : Array Value), ∃ (xc13 : Array Value), (∀ w, C9 w → World.cell? w x2 = some (.func xf11 xx12 xc13)) ∧ (
 ∃ (xf14 : Fn), ∃ (xx15 : Array Value), ∃ (xc16 : Array Value), (∀ w, C9 w → World.cell? w x3 = some (.func xf14 xx15 xc16)) ∧ (
 doCall Tryz.prog (.func xf14 xx15 xc16) #[.pointer n_1] w10 (retS (fun v18 w19 => ∃ (x17 : Option Addr), v18 = (.pointer x17 : Value) ∧ (
 C9 w19 ∧ (
 doCall Tryz.prog (.func xf11 xx12 xc13) #[.pointer x17] w19 (retS (fun v21 w22 => ∃ (x20 : Bool), v21 = (.bool x20 : Value) ∧ (
 C9 w22 ∧ (
 ifB x20 (
 ∃ (xf23 : Fn), ∃ (xx24 : Array Value), ∃ (xc25 : Array Value), (∀ w, C9 w → World.cell? w x4 = some (.func xf23 xx24 xc25)) ∧ (
 doCall Tryz.prog (.func xf23 xx24 xc25) #[.pointer n_1] w22 (retS (fun v27 w28 => ∃ (x26 : Bool), v27 = (.bool x26 : Value) ∧ (
 C9 w28 ∧ (
 ifB x26 (
 ∃ (xf29 : Fn), ∃ (xx30 : Array Value), ∃ (xc31 : Array Value), (∀ w, C9 w → World.cell? w x2 = some (.func xf29 xx30 xc31)) ∧ (
 ∃ (xf32 : Fn), ∃ (xx33 : Array Value), ∃ (xc34 : Array Value), (∀ w, C9 w → World.cell? w x5 = some (.func xf32 xx33 xc34)) ∧ (
 doCall Tryz.prog (.func xf32 xx33 xc34) #[.pointer n_1] w28 (retS (fun v36 w37 => ∃ (x35 : Option Addr), v36 = (.pointer x35 : Value) ∧ (
 C9 w37 ∧ (
 doCall Tryz.prog (.func xf29 xx30 xc31) #[.pointer x35] w37 (retS (fun v39 w40 => ∃ (x38 : Bool), v39 = (.bool x38 : Value) ∧ (
 C9 w40 ∧ (
 K8 x38 w40))) (fun ch w => Kfn R ch [] w))))) (fun ch w => Kfn R ch [] w))))) (
 R (.returned (.bool false)) w28)))) (fun ch w => Kfn R ch [] w)))) (
 R (.returned (.bool false)) w22)))) (fun ch w => Kfn R ch [] w))))) (fun ch w => Kfn R ch [] w)))))))
set_option maxRecDepth 100000 in
theorem sh302_ok (n_1 : Option Addr) (x2 : Addr) (x3 : Addr) (x4 : Addr) (x5 : Addr) {R : Ending → World → Prop} {w : World} : sh302 n_1 x2 x3 x4 x5 R w → Calls Tryz.prog 302 #[.pointer n_1, .pointer (some x2), .pointer (some x3), .pointer (some x4), .pointer (some x5)] w R :=
  calls_of_eq (ann := fun _ => []) (fn := Tryz.f302) (c := bodyOf Tryz.f302) (args := #[.pointer n_1, .pointer (some x2), .pointer (some x3), .pointer (some x4), .pointer (some x5)]) 400 follows_mixed Tryz.func302 (by kernel_rfl) (by kernel_rfl)
end Go.Proofs.YtlddfgfmkapoiaaGreat

