/-
  Printed by a program (gen.py): what the functions of the program do, as formulas; each with the proof that its call is what the formula says.
-/
import Derived.Test.YtlddfgfmkapoiaaGreatZ02
import Derived.Test.YtlddfgfmkapoiaaGreatProg
import Derived.Test.YtlddfgfmkapoiaaGreatZ05

namespace Go.Proofs.YtlddfgfmkapoiaaGreat
open Go Go.Sh
set_option maxRecDepth 100000 in
/-- joinery/joineryref12.Rises -/
def sh199 (o_1 : Int) (l_p2 : Option Addr) (l_n3 : Nat) (_l_c4 : Nat) (R : Ending → World → Prop) (w : World) : Prop :=
 ∃ (I5 : List Value → World → Prop) (μ6 : List Value → World → Nat), I5 [.int .i64 1] w ∧ (∀ (i_9 : Int), ∀ (_j7 : Nat → Value) (w8 : World), I5 [.int .i64 i_9] w8 → (
 ifB (decide ((i_9 : Int) < ((l_n3 : Nat) : Int))) (
 doDr w8 (fun w11 =>
 ∃ (C10 : World → Prop), C10 w11 ∧ (
 doIx l_p2 l_n3 2 (IntKind.wrap .i64 (i_9 - 1)) (fun a12 =>
 ∃ (x13 : Int), (∀ w, C10 w → World.cell? w (a12.add 0) = some (.int .i64 x13)) ∧ (
 doIx l_p2 l_n3 2 (i_9) (fun a14 =>
 ∃ (x15 : Int), (∀ w, C10 w → World.cell? w (a14.add 0) = some (.int .i64 x15)) ∧ (
 doCall Tryz.prog (.func (.func 79) #[] #[]) #[.int .u8 o_1, .int .i64 x13, .int .i64 x15] w11 (retS (fun v17 w18 => ∃ (x16 : Int), v17 = (.int .i64 x16 : Value) ∧ (
 ifB (decide ((x16 : Int) ≥ 0)) (
 R (.returned (.bool false)) w18) (
 I5 [.int .i64 (IntKind.wrap .i64 (i_9 + 1))] w18 ∧ μ6 [.int .i64 (IntKind.wrap .i64 (i_9 + 1))] w18 < μ6 [.int .i64 i_9] w8))) (fun ch w => Kfn R ch [] w))))))))) (
 R (.returned (.bool true)) w8)))
set_option maxRecDepth 100000 in
theorem sh199_ok (o_1 : Int) (l_p2 : Option Addr) (l_n3 : Nat) (l_c4 : Nat) {R : Ending → World → Prop} {w : World} : sh199 o_1 l_p2 l_n3 l_c4 R w → Calls Tryz.prog 199 #[.int .u8 o_1, .slice l_p2 l_n3 l_c4] w R :=
  calls_of_eq (ann := fun i => if i = 0 then [(5, .int .i64 0)] else []) (fn := Tryz.f199) (c := bodyOf Tryz.f199) (args := #[.int .u8 o_1, .slice l_p2 l_n3 l_c4]) 400 follows_mixed Tryz.func199 (by kernel_rfl) (by kernel_rfl)
set_option maxRecDepth 100000 in
/-- joinery/joineryref20.Check -/
def sh200 (l_p1 : Option Addr) (l_n2 : Nat) (l_c3 : Nat) (R : Ending → World → Prop) (w : World) : Prop :=
 ifB ((((l_n2 : Nat) : Int) : Int) == 0) (
 R (.returned (.tuple #[.int .i64 0, .int .i64 0])) w) (
 doCall Tryz.prog (.func (.func 109) #[] #[]) #[.slice l_p1 l_n2 l_c3] w (retS (fun v17 w18 => ∃ (x4 : Int), ∃ (x5 : Int), ∃ (x6 : Int), ∃ (x7 : Int), ∃ (x8 : Int), ∃ (x9 : Bool), ∃ (x10 : Bool), ∃ (xp11 : Option Addr), ∃ (xn12 : Nat), ∃ (xc13 : Nat), ∃ (xp14 : Option Addr), ∃ (xn15 : Nat), ∃ (xc16 : Nat), v17 = (.tuple #[.agg #[.int .i64 x4, .int .i64 x5, .int .i64 x6, .int .i64 x7, .int .u64 x8, .bool x9, .bool x10], .slice xp11 xn12 xc13, .slice xp14 xn15 xc16] : Value) ∧ (
 doAl (.cells #[.int .i64 0, .int .i64 0, .int .i64 0, .int .i64 0, .int .u64 0, .bool false, .bool false] 150) w18 (fun b19 w20 =>
 doSt ((blk b19).add 0) (.int .i64 x4) w20 (fun w21 =>
 doSt ((blk b19).add 1) (.int .i64 x5) w21 (fun w22 =>
 doSt ((blk b19).add 2) (.int .i64 x6) w22 (fun w23 =>
 doSt ((blk b19).add 3) (.int .i64 x7) w23 (fun w24 =>
 doSt ((blk b19).add 4) (.int .u64 x8) w24 (fun w25 =>
 doSt ((blk b19).add 5) (.bool x9) w25 (fun w26 =>
 doSt ((blk b19).add 6) (.bool x10) w26 (fun w27 =>
 let K30 : Bool → World → Prop := fun (x28 : Bool) (w29 : World) => 
 ifB x28 (
 R (.returned (.tuple #[.int .i64 0, .int .i64 8])) w29) (
 doCall Tryz.prog (.func (.func 200) #[] #[]) #[.slice xp11 xn12 xc13] w29 (retS (fun v33 w34 => ∃ (x31 : Int), ∃ (x32 : Int), v33 = (.tuple #[.int .i64 x31, .int .i64 x32] : Value) ∧ (
 ifB ((x32 : Int) != 0) (
 R (.returned (.tuple #[.int .i64 (IntKind.wrap .i64 (1 + x31)), .int .i64 x32])) w34) (
 doCall Tryz.prog (.func (.func 200) #[] #[]) #[.slice xp14 xn15 xc16] w34 (retS (fun v37 w38 => ∃ (x35 : Int), ∃ (x36 : Int), v37 = (.tuple #[.int .i64 x35, .int .i64 x36] : Value) ∧ (
 R (.returned (.tuple #[.int .i64 (IntKind.wrap .i64 ((IntKind.wrap .i64 (1 + x31)) + x35)), .int .i64 x36])) w38)) (fun ch w => Kfn R ch [] w))))) (fun ch w => Kfn R ch [] w)))
 ∃ (x39 : Int), World.cell? w27 ((blk b19).add 0) = some (.int .i64 x39) ∧ (
 ∃ (x40 : Int), World.cell? w27 ((blk b19).add 1) = some (.int .i64 x40) ∧ (
 ∃ (x41 : Int), World.cell? w27 ((blk b19).add 2) = some (.int .i64 x41) ∧ (
 ∃ (x42 : Int), World.cell? w27 ((blk b19).add 3) = some (.int .i64 x42) ∧ (
 ∃ (x43 : Int), World.cell? w27 ((blk b19).add 4) = some (.int .u64 x43) ∧ (
 ∃ (x44 : Bool), World.cell? w27 ((blk b19).add 5) = some (.bool x44) ∧ (
 ∃ (x45 : Bool), World.cell? w27 ((blk b19).add 6) = some (.bool x45) ∧ (
 doCall Tryz.prog (.func (.func 256) #[] #[]) #[.slice xp11 xn12 xc13, .agg #[.int .i64 x39, .int .i64 x40, .int .i64 x41, .int .i64 x42, .int .u64 x43, .bool x44, .bool x45]] w27 (retS (fun v47 w48 => ∃ (x46 : Bool), v47 = (.bool x46 : Value) ∧ (
 ifB x46 (
 R (.returned (.tuple #[.int .i64 0, .int .i64 8])) w48) (
 ∃ (x49 : Int), World.cell? w48 ((blk b19).add 0) = some (.int .i64 x49) ∧ (
 ∃ (x50 : Int), World.cell? w48 ((blk b19).add 1) = some (.int .i64 x50) ∧ (
 ∃ (x51 : Int), World.cell? w48 ((blk b19).add 2) = some (.int .i64 x51) ∧ (
 ∃ (x52 : Int), World.cell? w48 ((blk b19).add 3) = some (.int .i64 x52) ∧ (
 ∃ (x53 : Int), World.cell? w48 ((blk b19).add 4) = some (.int .u64 x53) ∧ (
 ∃ (x54 : Bool), World.cell? w48 ((blk b19).add 5) = some (.bool x54) ∧ (
 ∃ (x55 : Bool), World.cell? w48 ((blk b19).add 6) = some (.bool x55) ∧ (
 doCall Tryz.prog (.func (.func 256) #[] #[]) #[.slice xp14 xn15 xc16, .agg #[.int .i64 x49, .int .i64 x50, .int .i64 x51, .int .i64 x52, .int .u64 x53, .bool x54, .bool x55]] w48 (retS (fun v57 w58 => ∃ (x56 : Bool), v57 = (.bool x56 : Value) ∧ (
 K30 x56 w58)) (fun ch w => Kfn R ch [] w)))))))))))) (fun ch w => Kfn R ch [] w))))))))))))))))))) (fun ch w => Kfn R ch [] w)))
set_option maxRecDepth 100000 in
theorem sh200_ok (l_p1 : Option Addr) (l_n2 : Nat) (l_c3 : Nat) {R : Ending → World → Prop} {w : World} : sh200 l_p1 l_n2 l_c3 R w → Calls Tryz.prog 200 #[.slice l_p1 l_n2 l_c3] w R :=
  calls_of_eq (ann := fun _ => []) (fn := Tryz.f200) (c := bodyOf Tryz.f200) (args := #[.slice l_p1 l_n2 l_c3]) 400 follows_mixed Tryz.func200 (by kernel_rfl) (by kernel_rfl)
set_option maxRecDepth 100000 in
/-- joinery/find.last -/
def sh205  (R : Ending → World → Prop) (w : World) : Prop :=
 doAl (.cells #[.pointer none] 35) w (fun b1 w2 =>
 R (.returned (.tuple #[.func (.func 257) #[] #[.pointer (some (blk b1))], .func (.func 258) #[] #[.pointer (some (blk b1))]])) w2)
set_option maxRecDepth 100000 in
theorem sh205_ok  {R : Ending → World → Prop} {w : World} : sh205  R w → Calls Tryz.prog 205 #[] w R :=
  calls_of_eq (ann := fun _ => []) (fn := Tryz.f205) (c := bodyOf Tryz.f205) (args := #[]) 400 follows_mixed Tryz.func205 (by kernel_rfl) (by kernel_rfl)
set_option maxRecDepth 100000 in
/-- joinery/find.way -/
def sh206 (o_1 : Int) (t_2 : Option Addr) (key_3 : Int) (R : Ending → World → Prop) (w : World) : Prop :=
 doAl (.cells #[.int .u8 o_1] 5) w (fun b4 w5 =>
 doAl (.cells #[.pointer t_2] 35) w5 (fun b6 w7 =>
 doAl (.cells #[.int .i64 key_3] 2) w7 (fun b8 w9 =>
 R (.returned (.func (.func 259) #[] #[.pointer (some (blk b4)), .pointer (some (blk b6)), .pointer (some (blk b8))])) w9)))
set_option maxRecDepth 100000 in
theorem sh206_ok (o_1 : Int) (t_2 : Option Addr) (key_3 : Int) {R : Ending → World → Prop} {w : World} : sh206 o_1 t_2 key_3 R w → Calls Tryz.prog 206 #[.int .u8 o_1, .pointer t_2, .int .i64 key_3] w R :=
  calls_of_eq (ann := fun _ => []) (fn := Tryz.f206) (c := bodyOf Tryz.f206) (args := #[.int .u8 o_1, .pointer t_2, .int .i64 key_3]) 400 follows_mixed Tryz.func206 (by kernel_rfl) (by kernel_rfl)
set_option maxRecDepth 100000 in
/-- joinery/find.pair -/
def sh207 (n_1 : Option Addr) (R : Ending → World → Prop) (w : World) : Prop :=
 doAl (.cells #[.int .i64 0, .int .i64 0] 46) w (fun b2 w3 =>
 ifB ((n_1).isNone) (
 doSt ((blk b2).add 0) (.int .i64 0) w3 (fun w4 =>
 doSt ((blk b2).add 1) (.int .i64 0) w4 (fun w5 =>
 ∃ (x6 : Int), World.cell? w5 ((blk b2).add 0) = some (.int .i64 x6) ∧ (
 ∃ (x7 : Int), World.cell? w5 ((blk b2).add 1) = some (.int .i64 x7) ∧ (
 R (.returned (.tuple #[.agg #[.int .i64 x6, .int .i64 x7], .bool false])) w5))))) (
 doCall Tryz.prog (.func (.func 108) #[] #[]) #[.pointer n_1] w3 (retS (fun v9 w10 => ∃ (x8 : Int), v9 = (.int .i64 x8 : Value) ∧ (
 doCall Tryz.prog (.func (.func 126) #[] #[]) #[.pointer n_1] w10 (retS (fun v12 w13 => ∃ (x11 : Int), v12 = (.int .i64 x11 : Value) ∧ (
 doSt ((blk b2).add 0) (.int .i64 x8) w13 (fun w14 =>
 doSt ((blk b2).add 1) (.int .i64 x11) w14 (fun w15 =>
 ∃ (x16 : Int), World.cell? w15 ((blk b2).add 0) = some (.int .i64 x16) ∧ (
 ∃ (x17 : Int), World.cell? w15 ((blk b2).add 1) = some (.int .i64 x17) ∧ (
 R (.returned (.tuple #[.agg #[.int .i64 x16, .int .i64 x17], .bool true])) w15)))))) (fun ch w => Kfn R ch [] w)))) (fun ch w => Kfn R ch [] w))))
set_option maxRecDepth 100000 in
theorem sh207_ok (n_1 : Option Addr) {R : Ending → World → Prop} {w : World} : sh207 n_1 R w → Calls Tryz.prog 207 #[.pointer n_1] w R :=
  calls_of_eq (ann := fun _ => []) (fn := Tryz.f207) (c := bodyOf Tryz.f207) (args := #[.pointer n_1]) 400 follows_mixed Tryz.func207 (by kernel_rfl) (by kernel_rfl)
set_option maxRecDepth 100000 in
/-- joinery/joineryref02.up -/
def sh208 (k_1 : Int) (R : Ending → World → Prop) (w : World) : Prop :=
 R (.returned (.int .u64 (IntKind.wrap .u64 ((IntKind.wrap .u64 k_1) + 9223372036854775808)))) w
set_option maxRecDepth 100000 in
theorem sh208_ok (k_1 : Int) {R : Ending → World → Prop} {w : World} : sh208 k_1 R w → Calls Tryz.prog 208 #[.int .i64 k_1] w R :=
  calls_of_eq (ann := fun _ => []) (fn := Tryz.f208) (c := bodyOf Tryz.f208) (args := #[.int .i64 k_1]) 400 follows_mixed Tryz.func208 (by kernel_rfl) (by kernel_rfl)
set_option maxRecDepth 100000 in
/-- joinery/joineryref01.Flip -/
def sh209 (x_1 : Int) (R : Ending → World → Prop) (w : World) : Prop :=
 ∃ (I2 : List Value → World → Prop) (μ3 : List Value → World → Nat), I2 [.int .u64 x_1, .int .u64 0, .int .i64 0] w ∧ (∀ (x_6 : Int), ∀ (y_7 : Int), ∀ (i_8 : Int), ∀ (_j4 : Nat → Value) (w5 : World), I2 [.int .u64 x_6, .int .u64 y_7, .int .i64 i_8] w5 → (
 ifB (decide ((i_8 : Int) < 64)) (
 2 ≠ (0 : Int) ∧ (
 2 ≠ (0 : Int) ∧ (
 I2 [.int .u64 (IntKind.wrap .u64 (Int.tdiv x_6 2)), .int .u64 (IntKind.wrap .u64 ((IntKind.wrap .u64 (y_7 * 2)) + (Int.tmod x_6 2))), .int .i64 (IntKind.wrap .i64 (i_8 + 1))] w5 ∧ μ3 [.int .u64 (IntKind.wrap .u64 (Int.tdiv x_6 2)), .int .u64 (IntKind.wrap .u64 ((IntKind.wrap .u64 (y_7 * 2)) + (Int.tmod x_6 2))), .int .i64 (IntKind.wrap .i64 (i_8 + 1))] w5 < μ3 [.int .u64 x_6, .int .u64 y_7, .int .i64 i_8] w5))) (
 R (.returned (.int .u64 y_7)) w5)))
set_option maxRecDepth 100000 in
theorem sh209_ok (x_1 : Int) {R : Ending → World → Prop} {w : World} : sh209 x_1 R w → Calls Tryz.prog 209 #[.int .u64 x_1] w R :=
  calls_of_eq (ann := fun i => if i = 0 then [(0, .int .u64 0), (3, .int .u64 0), (4, .int .i64 0)] else []) (fn := Tryz.f209) (c := bodyOf Tryz.f209) (args := #[.int .u64 x_1]) 400 follows_mixed Tryz.func209 (by kernel_rfl) (by kernel_rfl)
set_option maxRecDepth 100000 in
/-- joinery/fold.kinds -/
def sh210  (R : Ending → World → Prop) (w : World) : Prop :=
 doAl (.map #[] 0) w (fun b1 w2 =>
 doMu Tryz.prog 282 (.map (some b1)) (.int .u8 1) (.agg #[.func (.func 260) #[] #[]]) w2 (fun w3 =>
 doMu Tryz.prog 282 (.map (some b1)) (.int .u8 2) (.agg #[.func (.func 261) #[] #[]]) w3 (fun w4 =>
 doMu Tryz.prog 282 (.map (some b1)) (.int .u8 3) (.agg #[.func (.func 262) #[] #[]]) w4 (fun w5 =>
 R (.returned (.map (some b1))) w5))))
set_option maxRecDepth 100000 in
theorem sh210_ok  {R : Ending → World → Prop} {w : World} : sh210  R w → Calls Tryz.prog 210 #[] w R :=
  calls_of_eq (ann := fun _ => []) (fn := Tryz.f210) (c := bodyOf Tryz.f210) (args := #[]) 400 follows_mixed Tryz.func210 (by kernel_rfl) (by kernel_rfl)
set_option maxRecDepth 100000 in
/-- joinery/cut.Join2 -/
def sh211 (s_1 : Option Addr) (l_2 : Option Addr) (r_3 : Option Addr) (R : Ending → World → Prop) (w : World) : Prop :=
 doCall Tryz.prog (.func (.func 263) #[] #[]) #[.pointer s_1, .pointer l_2] w (retS (fun v9 w10 => ∃ (x4 : Option Addr), ∃ (x5 : Int), ∃ (x6 : Int), ∃ (x7 : Int), ∃ (x8 : Bool), v9 = (.tuple #[.pointer x4, .agg #[.int .i64 x5, .int .i64 x6, .int .u64 x7], .bool x8] : Value) ∧ (
 doAl (.cells #[.int .i64 0, .int .i64 0, .int .u64 0] 114) w10 (fun b11 w12 =>
 doSt ((blk b11).add 0) (.int .i64 x5) w12 (fun w13 =>
 doSt ((blk b11).add 1) (.int .i64 x6) w13 (fun w14 =>
 doSt ((blk b11).add 2) (.int .u64 x7) w14 (fun w15 =>
 ifB (!x8) (
 doCall Tryz.prog (.func (.func 162) #[] #[]) #[.pointer s_1, .pointer r_3] w15 (retS (fun v17 w18 => ∃ (x16 : Option Addr), v17 = (.pointer x16 : Value) ∧ (
 R (.returned (.pointer x16)) w18)) (fun ch w => Kfn R ch [] w))) (
 ∃ (x19 : Int), World.cell? w15 ((blk b11).add 0) = some (.int .i64 x19) ∧ (
 ∃ (x20 : Int), World.cell? w15 ((blk b11).add 1) = some (.int .i64 x20) ∧ (
 ∃ (x21 : Int), World.cell? w15 ((blk b11).add 2) = some (.int .u64 x21) ∧ (
 doCall Tryz.prog (.func (.func 106) #[] #[]) #[.pointer s_1, .pointer x4, .agg #[.int .i64 x19, .int .i64 x20, .int .u64 x21], .pointer r_3] w15 (retS (fun v23 w24 => ∃ (x22 : Option Addr), v23 = (.pointer x22 : Value) ∧ (
 R (.returned (.pointer x22)) w24)) (fun ch w => Kfn R ch [] w)))))))))))) (fun ch w => Kfn R ch [] w))
set_option maxRecDepth 100000 in
theorem sh211_ok (s_1 : Option Addr) (l_2 : Option Addr) (r_3 : Option Addr) {R : Ending → World → Prop} {w : World} : sh211 s_1 l_2 r_3 R w → Calls Tryz.prog 211 #[.pointer s_1, .pointer l_2, .pointer r_3] w R :=
  calls_of_eq (ann := fun _ => []) (fn := Tryz.f211) (c := bodyOf Tryz.f211) (args := #[.pointer s_1, .pointer l_2, .pointer r_3]) 400 follows_mixed Tryz.func211 (by kernel_rfl) (by kernel_rfl)
set_option maxRecDepth 100000 in
/-- joinery/union.both$1 -/
def sh212 (a_1 : Option Addr) (b_2 : Option Addr) (x3 : Addr) (x4 : Addr) (x5 : Addr) (x6 : Addr) (R : Ending → World → Prop) (w : World) : Prop :=
 ifB ((a_1).isNone) (
 R (.returned (.pointer b_2)) w) (
 ifB ((b_2).isNone) (
 ∃ (x7 : Option Addr), World.cell? w x3 = some (.pointer x7) ∧ (
 doCall Tryz.prog (.func (.func 162) #[] #[]) #[.pointer x7, .pointer a_1] w (retS (fun v9 w10 => ∃ (x8 : Option Addr), v9 = (.pointer x8 : Value) ∧ (
 R (.returned (.pointer x8)) w10)) (fun ch w => Kfn R ch [] w)))) (
 let K16 : (Option Addr) → Addr → Bool → (Option Addr) → World → Prop := fun (l_11 : Option Addr) (y_12 : Addr) (is_13 : Bool) (r_14 : Option Addr) (w15 : World) => 
 doDr w15 (fun w18 =>
 ∃ (C17 : World → Prop), C17 w18 ∧ (
 ∃ (x19 : Option Addr), (∀ w, C17 w → World.cell? w x3 = some (.pointer x19)) ∧ (
 ∃ (xf20 : Fn), ∃ (xx21 : Array Value), ∃ (xc22 : Array Value), (∀ w, C17 w → World.cell? w x5 = some (.func xf20 xx21 xc22)) ∧ (
 ∃ (xf23 : Fn), ∃ (xx24 : Array Value), ∃ (xc25 : Array Value), (∀ w, C17 w → World.cell? w x6 = some (.func xf23 xx24 xc25)) ∧ (
 ∃ (x26 : Option Addr), (∀ w, C17 w → World.cell? w x3 = some (.pointer x26)) ∧ (
 ∃ (x27 : Int), (∀ w, C17 w → World.cell? w (y_12.add 0) = some (.int .i64 x27)) ∧ (
 ∃ (x28 : Int), (∀ w, C17 w → World.cell? w (y_12.add 1) = some (.int .i64 x28)) ∧ (
 ∃ (x29 : Int), (∀ w, C17 w → World.cell? w (y_12.add 2) = some (.int .u64 x29)) ∧ (
 ∃ (xf30 : Fn), ∃ (xx31 : Array Value), ∃ (xc32 : Array Value), (∀ w, C17 w → World.cell? w x5 = some (.func xf30 xx31 xc32)) ∧ (
 doCall Tryz.prog (.func (.func 123) #[] #[]) #[.pointer a_1] w18 (retS (fun v34 w35 => ∃ (x33 : Option Addr), v34 = (.pointer x33 : Value) ∧ (
 C17 w35 ∧ (
 doCall Tryz.prog (.func xf20 xx21 xc22) #[.pointer x33, .pointer l_11] w35 (retS (fun v37 w38 => ∃ (x36 : Option Addr), v37 = (.pointer x36 : Value) ∧ (
 C17 w38 ∧ (
 doCall Tryz.prog (.func (.func 213) #[] #[]) #[.pointer x26, .pointer a_1] w38 (retS (fun v42 w43 => ∃ (x39 : Int), ∃ (x40 : Int), ∃ (x41 : Int), v42 = (.agg #[.int .i64 x39, .int .i64 x40, .int .u64 x41] : Value) ∧ (
 C17 w43 ∧ (
 doCall Tryz.prog (.func xf23 xx24 xc25) #[.agg #[.int .i64 x39, .int .i64 x40, .int .u64 x41], .agg #[.int .i64 x27, .int .i64 x28, .int .u64 x29], .bool is_13] w43 (retS (fun v47 w48 => ∃ (x44 : Int), ∃ (x45 : Int), ∃ (x46 : Int), v47 = (.agg #[.int .i64 x44, .int .i64 x45, .int .u64 x46] : Value) ∧ (
 C17 w48 ∧ (
 doCall Tryz.prog (.func (.func 125) #[] #[]) #[.pointer a_1] w48 (retS (fun v50 w51 => ∃ (x49 : Option Addr), v50 = (.pointer x49 : Value) ∧ (
 C17 w51 ∧ (
 doCall Tryz.prog (.func xf30 xx31 xc32) #[.pointer x49, .pointer r_14] w51 (retS (fun v53 w54 => ∃ (x52 : Option Addr), v53 = (.pointer x52 : Value) ∧ (
 C17 w54 ∧ (
 doCall Tryz.prog (.func (.func 106) #[] #[]) #[.pointer x19, .pointer x36, .agg #[.int .i64 x44, .int .i64 x45, .int .u64 x46], .pointer x52] w54 (retS (fun v56 w57 => ∃ (x55 : Option Addr), v56 = (.pointer x55 : Value) ∧ (
 C17 w57 ∧ (
 R (.returned (.pointer x55)) w57))) (fun ch w => Kfn R ch [] w))))) (fun ch w => Kfn R ch [] w))))) (fun ch w => Kfn R ch [] w))))) (fun ch w => Kfn R ch [] w))))) (fun ch w => Kfn R ch [] w))))) (fun ch w => Kfn R ch [] w))))) (fun ch w => Kfn R ch [] w))))))))))))
 doDr w (fun w59 =>
 ∃ (C58 : World → Prop), C58 w59 ∧ (
 ∃ (x60 : Option Addr), (∀ w, C58 w → World.cell? w x3 = some (.pointer x60)) ∧ (
 ∃ (x61 : Int), (∀ w, C58 w → World.cell? w x4 = some (.int .u8 x61)) ∧ (
 (doCall Tryz.prog (.func (.func 108) #[] #[]) #[.pointer a_1] w59 (retS (fun v63 w64 => ∃ (x62 : Int), v63 = (.int .i64 x62 : Value) ∧ (
 C58 w64 ∧ (
 (doCall Tryz.prog (.func (.func 89) #[] #[]) #[.pointer x60, .int .u8 x61, .pointer b_2, .int .i64 x62] w64 (retS (fun v72 w73 => ∃ (x65 : Option Addr), ∃ (x66 : Int), ∃ (x67 : Int), ∃ (x68 : Int), ∃ (x69 : Bool), ∃ (x70 : Option Addr), ∃ (x71 : Int), v72 = (.tuple #[.pointer x65, .agg #[.int .i64 x66, .int .i64 x67, .int .u64 x68], .bool x69, .pointer x70, .int .i64 x71] : Value) ∧ (
 doAl (.cells #[.int .i64 0, .int .i64 0, .int .u64 0] 114) w73 (fun b74 w75 =>
 C58 w75 ∧ (
 doSt ((blk b74).add 0) (.int .i64 x66) w75 (fun w76 =>
 doSt ((blk b74).add 1) (.int .i64 x67) w76 (fun w77 =>
 doSt ((blk b74).add 2) (.int .u64 x68) w77 (fun w78 =>
 K16 x65 (blk b74) x69 x70 w78))))))) (fun ch w => Kfn R ch [] w))) ∧ (doAl (.cells #[.int .i64 0, .int .i64 0, .int .u64 0] 114) w64 (fun b79 w80 =>
 C58 w80 ∧ (
 doCall Tryz.prog (.func (.func 89) #[] #[]) #[.pointer x60, .int .u8 x61, .pointer b_2, .int .i64 x62] w80 (retS (fun v88 w89 => ∃ (x81 : Option Addr), ∃ (x82 : Int), ∃ (x83 : Int), ∃ (x84 : Int), ∃ (x85 : Bool), ∃ (x86 : Option Addr), ∃ (x87 : Int), v88 = (.tuple #[.pointer x81, .agg #[.int .i64 x82, .int .i64 x83, .int .u64 x84], .bool x85, .pointer x86, .int .i64 x87] : Value) ∧ (
 doSt ((blk b79).add 0) (.int .i64 x82) w89 (fun w90 =>
 doSt ((blk b79).add 1) (.int .i64 x83) w90 (fun w91 =>
 doSt ((blk b79).add 2) (.int .u64 x84) w91 (fun w92 =>
 K16 x81 (blk b79) x85 x86 w92))))) (fun ch w => Kfn R ch [] w)))))))) (fun ch w => Kfn R ch [] w))) ∧ (doAl (.cells #[.int .i64 0, .int .i64 0, .int .u64 0] 114) w59 (fun b93 w94 =>
 C58 w94 ∧ (
 doCall Tryz.prog (.func (.func 108) #[] #[]) #[.pointer a_1] w94 (retS (fun v96 w97 => ∃ (x95 : Int), v96 = (.int .i64 x95 : Value) ∧ (
 C58 w97 ∧ (
 doCall Tryz.prog (.func (.func 89) #[] #[]) #[.pointer x60, .int .u8 x61, .pointer b_2, .int .i64 x95] w97 (retS (fun v105 w106 => ∃ (x98 : Option Addr), ∃ (x99 : Int), ∃ (x100 : Int), ∃ (x101 : Int), ∃ (x102 : Bool), ∃ (x103 : Option Addr), ∃ (x104 : Int), v105 = (.tuple #[.pointer x98, .agg #[.int .i64 x99, .int .i64 x100, .int .u64 x101], .bool x102, .pointer x103, .int .i64 x104] : Value) ∧ (
 doSt ((blk b93).add 0) (.int .i64 x99) w106 (fun w107 =>
 doSt ((blk b93).add 1) (.int .i64 x100) w107 (fun w108 =>
 doSt ((blk b93).add 2) (.int .u64 x101) w108 (fun w109 =>
 K16 x98 (blk b93) x102 x103 w109))))) (fun ch w => Kfn R ch [] w))))) (fun ch w => Kfn R ch [] w)))))))))))
set_option maxRecDepth 100000 in
theorem sh212_ok (a_1 : Option Addr) (b_2 : Option Addr) (x3 : Addr) (x4 : Addr) (x5 : Addr) (x6 : Addr) {R : Ending → World → Prop} {w : World} : sh212 a_1 b_2 x3 x4 x5 x6 R w → Calls Tryz.prog 212 #[.pointer a_1, .pointer b_2, .pointer (some x3), .pointer (some x4), .pointer (some x5), .pointer (some x6)] w R :=
  calls_of_eq (ann := fun _ => []) (fn := Tryz.f212) (c := bodyOf Tryz.f212) (args := #[.pointer a_1, .pointer b_2, .pointer (some x3), .pointer (some x4), .pointer (some x5), .pointer (some x6)]) 400 follows_mixed Tryz.func212 (by kernel_rfl) (by kernel_rfl)
set_option maxRecDepth 100000 in
/-- (*joinery/scheme.Scheme).Item -/
def sh213 (s_1 : Option Addr) (t_2 : Option Addr) (R : Ending → World → Prop) (w : World) : Prop :=
 doAl (.cells #[.int .i64 0, .int .i64 0, .int .u64 0] 114) w (fun b3 w4 =>
 let K7 : Bool → World → Prop := fun (x5 : Bool) (w6 : World) => 
 ifB x5 (
 doSt ((blk b3).add 0) (.int .i64 0) w6 (fun w8 =>
 doSt ((blk b3).add 1) (.int .i64 0) w8 (fun w9 =>
 doSt ((blk b3).add 2) (.int .u64 0) w9 (fun w10 =>
 ∃ (x11 : Int), World.cell? w10 ((blk b3).add 0) = some (.int .i64 x11) ∧ (
 ∃ (x12 : Int), World.cell? w10 ((blk b3).add 1) = some (.int .i64 x12) ∧ (
 ∃ (x13 : Int), World.cell? w10 ((blk b3).add 2) = some (.int .u64 x13) ∧ (
 R (.returned (.agg #[.int .i64 x11, .int .i64 x12, .int .u64 x13])) w10))))))) (
 doCall Tryz.prog (.func (.func 108) #[] #[]) #[.pointer t_2] w6 (retS (fun v15 w16 => ∃ (x14 : Int), v15 = (.int .i64 x14 : Value) ∧ (
 doCall Tryz.prog (.func (.func 126) #[] #[]) #[.pointer t_2] w16 (retS (fun v18 w19 => ∃ (x17 : Int), v18 = (.int .i64 x17 : Value) ∧ (
 doAl (.cells #[.int .i64 0, .int .i64 0, .int .u64 0] 114) w19 (fun b20 w21 =>
 doSt ((blk b20).add 0) (.int .i64 x14) w21 (fun w22 =>
 doSt ((blk b20).add 1) (.int .i64 x17) w22 (fun w23 =>
 doSt ((blk b20).add 2) (.int .u64 0) w23 (fun w24 =>
 let K26 : World → Prop := fun (w25 : World) => 
 ∃ (x27 : Int), World.cell? w25 ((blk b20).add 0) = some (.int .i64 x27) ∧ (
 ∃ (x28 : Int), World.cell? w25 ((blk b20).add 1) = some (.int .i64 x28) ∧ (
 ∃ (x29 : Int), World.cell? w25 ((blk b20).add 2) = some (.int .u64 x29) ∧ (
 doSt ((blk b3).add 0) (.int .i64 x27) w25 (fun w30 =>
 doSt ((blk b3).add 1) (.int .i64 x28) w30 (fun w31 =>
 doSt ((blk b3).add 2) (.int .u64 x29) w31 (fun w32 =>
 ∃ (x33 : Int), World.cell? w32 ((blk b3).add 0) = some (.int .i64 x33) ∧ (
 ∃ (x34 : Int), World.cell? w32 ((blk b3).add 1) = some (.int .i64 x34) ∧ (
 ∃ (x35 : Int), World.cell? w32 ((blk b3).add 2) = some (.int .u64 x35) ∧ (
 R (.returned (.agg #[.int .i64 x33, .int .i64 x34, .int .u64 x35])) w32)))))))))
 doCall Tryz.prog (.func (.func 188) #[] #[]) #[.pointer s_1] w24 (retS (fun v56 w57 => ∃ (x36 : ByteArray), ∃ (xf37 : Fn), ∃ (xx38 : Array Value), ∃ (xc39 : Array Value), ∃ (xf40 : Fn), ∃ (xx41 : Array Value), ∃ (xc42 : Array Value), ∃ (xf43 : Fn), ∃ (xx44 : Array Value), ∃ (xc45 : Array Value), ∃ (xf46 : Fn), ∃ (xx47 : Array Value), ∃ (xc48 : Array Value), ∃ (xf49 : Fn), ∃ (xx50 : Array Value), ∃ (xc51 : Array Value), ∃ (xf52 : Fn), ∃ (xx53 : Array Value), ∃ (xc54 : Array Value), ∃ (x55 : Bool), v56 = (.agg #[.string x36, .func xf37 xx38 xc39, .func xf40 xx41 xc42, .func xf43 xx44 xc45, .func xf46 xx47 xc48, .func xf49 xx50 xc51, .func xf52 xx53 xc54, .bool x55] : Value) ∧ (
 ifB x55 (
 doCall Tryz.prog (.func (.func 196) #[] #[]) #[.pointer t_2] w57 (retS (fun v59 w60 => ∃ (x58 : Int), v59 = (.int .u64 x58 : Value) ∧ (
 doSt (((blk b20).add 2).add 0) (.int .u64 x58) w60 (fun w61 =>
 K26 w61))) (fun ch w => Kfn R ch [] w))) (
 K26 w57))) (fun ch w => Kfn R ch [] w)))))))) (fun ch w => Kfn R ch [] w)))) (fun ch w => Kfn R ch [] w)))
 ifB ((s_1).isNone) (
 K7 true w4) (
 K7 ((t_2).isNone) w4))
set_option maxRecDepth 100000 in
theorem sh213_ok (s_1 : Option Addr) (t_2 : Option Addr) {R : Ending → World → Prop} {w : World} : sh213 s_1 t_2 R w → Calls Tryz.prog 213 #[.pointer s_1, .pointer t_2] w R :=
  calls_of_eq (ann := fun _ => []) (fn := Tryz.f213) (c := bodyOf Tryz.f213) (args := #[.pointer s_1, .pointer t_2]) 400 follows_mixed Tryz.func213 (by kernel_rfl) (by kernel_rfl)
set_option maxRecDepth 100000 in
/-- (joinery/meet.way).goes$1 -/
def sh214 (a_1 : Option Addr) (b_2 : Option Addr) (x3 : Addr) (x4 : Addr) (x5 : Addr) (x6 : Addr) (R : Ending → World → Prop) (w : World) : Prop :=
 ifB ((a_1).isNone) (
 ∃ (xf7 : Fn), ∃ (xx8 : Array Value), ∃ (xc9 : Array Value), World.cell? w (x3.add 1) = some (.func xf7 xx8 xc9) ∧ (
 doCall Tryz.prog (.func xf7 xx8 xc9) #[.pointer b_2] w (retS (fun v11 w12 => ∃ (x10 : Option Addr), v11 = (.pointer x10 : Value) ∧ (
 R (.returned (.pointer x10)) w12)) (fun ch w => Kfn R ch [] w)))) (
 ifB ((b_2).isNone) (
 ∃ (xf13 : Fn), ∃ (xx14 : Array Value), ∃ (xc15 : Array Value), World.cell? w (x3.add 0) = some (.func xf13 xx14 xc15) ∧ (
 doCall Tryz.prog (.func xf13 xx14 xc15) #[.pointer a_1] w (retS (fun v17 w18 => ∃ (x16 : Option Addr), v17 = (.pointer x16 : Value) ∧ (
 R (.returned (.pointer x16)) w18)) (fun ch w => Kfn R ch [] w)))) (
 let K24 : (Option Addr) → Addr → Bool → (Option Addr) → World → Prop := fun (l_19 : Option Addr) (y_20 : Addr) (is_21 : Bool) (r_22 : Option Addr) (w23 : World) => 
 doDr w23 (fun w26 =>
 ∃ (C25 : World → Prop), C25 w26 ∧ (
 ∃ (xf27 : Fn), ∃ (xx28 : Array Value), ∃ (xc29 : Array Value), (∀ w, C25 w → World.cell? w x6 = some (.func xf27 xx28 xc29)) ∧ (
 ∃ (xf30 : Fn), ∃ (xx31 : Array Value), ∃ (xc32 : Array Value), (∀ w, C25 w → World.cell? w x6 = some (.func xf30 xx31 xc32)) ∧ (
 doCall Tryz.prog (.func (.func 123) #[] #[]) #[.pointer a_1] w26 (retS (fun v34 w35 => ∃ (x33 : Option Addr), v34 = (.pointer x33 : Value) ∧ (
 C25 w35 ∧ (
 doCall Tryz.prog (.func xf27 xx28 xc29) #[.pointer x33, .pointer l_19] w35 (retS (fun v37 w38 => ∃ (x36 : Option Addr), v37 = (.pointer x36 : Value) ∧ (
 C25 w38 ∧ (
 doCall Tryz.prog (.func (.func 125) #[] #[]) #[.pointer a_1] w38 (retS (fun v40 w41 => ∃ (x39 : Option Addr), v40 = (.pointer x39 : Value) ∧ (
 C25 w41 ∧ (
 doCall Tryz.prog (.func xf30 xx31 xc32) #[.pointer x39, .pointer r_22] w41 (retS (fun v43 w44 => ∃ (x42 : Option Addr), v43 = (.pointer x42 : Value) ∧ (
 C25 w44 ∧ (
 let K48 : Addr → Bool → World → Prop := fun (x_45 : Addr) (stays_46 : Bool) (w47 : World) => 
 ifB stays_46 (
 ∃ (x49 : Option Addr), World.cell? w47 x4 = some (.pointer x49) ∧ (
 ∃ (x50 : Int), World.cell? w47 (x_45.add 0) = some (.int .i64 x50) ∧ (
 ∃ (x51 : Int), World.cell? w47 (x_45.add 1) = some (.int .i64 x51) ∧ (
 ∃ (x52 : Int), World.cell? w47 (x_45.add 2) = some (.int .u64 x52) ∧ (
 doCall Tryz.prog (.func (.func 106) #[] #[]) #[.pointer x49, .pointer x36, .agg #[.int .i64 x50, .int .i64 x51, .int .u64 x52], .pointer x42] w47 (retS (fun v54 w55 => ∃ (x53 : Option Addr), v54 = (.pointer x53 : Value) ∧ (
 R (.returned (.pointer x53)) w55)) (fun ch w => Kfn R ch [] w))))))) (
 ∃ (x56 : Option Addr), World.cell? w47 x4 = some (.pointer x56) ∧ (
 doCall Tryz.prog (.func (.func 211) #[] #[]) #[.pointer x56, .pointer x36, .pointer x42] w47 (retS (fun v58 w59 => ∃ (x57 : Option Addr), v58 = (.pointer x57 : Value) ∧ (
 R (.returned (.pointer x57)) w59)) (fun ch w => Kfn R ch [] w))))
 doDr w44 (fun w61 =>
 ∃ (C60 : World → Prop), C60 w61 ∧ (
 ∃ (xf62 : Fn), ∃ (xx63 : Array Value), ∃ (xc64 : Array Value), (∀ w, C60 w → World.cell? w (x3.add 2) = some (.func xf62 xx63 xc64)) ∧ (
 ∃ (x65 : Option Addr), (∀ w, C60 w → World.cell? w x4 = some (.pointer x65)) ∧ (
 ∃ (x66 : Int), (∀ w, C60 w → World.cell? w (y_20.add 0) = some (.int .i64 x66)) ∧ (
 ∃ (x67 : Int), (∀ w, C60 w → World.cell? w (y_20.add 1) = some (.int .i64 x67)) ∧ (
 ∃ (x68 : Int), (∀ w, C60 w → World.cell? w (y_20.add 2) = some (.int .u64 x68)) ∧ (
 (doCall Tryz.prog (.func (.func 213) #[] #[]) #[.pointer x65, .pointer a_1] w61 (retS (fun v72 w73 => ∃ (x69 : Int), ∃ (x70 : Int), ∃ (x71 : Int), v72 = (.agg #[.int .i64 x69, .int .i64 x70, .int .u64 x71] : Value) ∧ (
 C60 w73 ∧ (
 (doCall Tryz.prog (.func xf62 xx63 xc64) #[.agg #[.int .i64 x69, .int .i64 x70, .int .u64 x71], .agg #[.int .i64 x66, .int .i64 x67, .int .u64 x68], .bool is_21] w73 (retS (fun v78 w79 => ∃ (x74 : Int), ∃ (x75 : Int), ∃ (x76 : Int), ∃ (x77 : Bool), v78 = (.tuple #[.agg #[.int .i64 x74, .int .i64 x75, .int .u64 x76], .bool x77] : Value) ∧ (
 C60 w79 ∧ (
 doAl (.cells #[.int .i64 0, .int .i64 0, .int .u64 0] 114) w79 (fun b80 w81 =>
 C60 w81 ∧ (
 doSt ((blk b80).add 0) (.int .i64 x74) w81 (fun w82 =>
 doSt ((blk b80).add 1) (.int .i64 x75) w82 (fun w83 =>
 doSt ((blk b80).add 2) (.int .u64 x76) w83 (fun w84 =>
 K48 (blk b80) x77 w84)))))))) (fun ch w => Kfn R ch [] w))) ∧ (doAl (.cells #[.int .i64 0, .int .i64 0, .int .u64 0] 114) w73 (fun b85 w86 =>
 C60 w86 ∧ (
 doCall Tryz.prog (.func xf62 xx63 xc64) #[.agg #[.int .i64 x69, .int .i64 x70, .int .u64 x71], .agg #[.int .i64 x66, .int .i64 x67, .int .u64 x68], .bool is_21] w86 (retS (fun v91 w92 => ∃ (x87 : Int), ∃ (x88 : Int), ∃ (x89 : Int), ∃ (x90 : Bool), v91 = (.tuple #[.agg #[.int .i64 x87, .int .i64 x88, .int .u64 x89], .bool x90] : Value) ∧ (
 C60 w92 ∧ (
 doSt ((blk b85).add 0) (.int .i64 x87) w92 (fun w93 =>
 doSt ((blk b85).add 1) (.int .i64 x88) w93 (fun w94 =>
 doSt ((blk b85).add 2) (.int .u64 x89) w94 (fun w95 =>
 K48 (blk b85) x90 w95)))))) (fun ch w => Kfn R ch [] w)))))))) (fun ch w => Kfn R ch [] w))) ∧ (doAl (.cells #[.int .i64 0, .int .i64 0, .int .u64 0] 114) w61 (fun b96 w97 =>
 C60 w97 ∧ (
 doCall Tryz.prog (.func (.func 213) #[] #[]) #[.pointer x65, .pointer a_1] w97 (retS (fun v101 w102 => ∃ (x98 : Int), ∃ (x99 : Int), ∃ (x100 : Int), v101 = (.agg #[.int .i64 x98, .int .i64 x99, .int .u64 x100] : Value) ∧ (
 C60 w102 ∧ (
 doCall Tryz.prog (.func xf62 xx63 xc64) #[.agg #[.int .i64 x98, .int .i64 x99, .int .u64 x100], .agg #[.int .i64 x66, .int .i64 x67, .int .u64 x68], .bool is_21] w102 (retS (fun v107 w108 => ∃ (x103 : Int), ∃ (x104 : Int), ∃ (x105 : Int), ∃ (x106 : Bool), v107 = (.tuple #[.agg #[.int .i64 x103, .int .i64 x104, .int .u64 x105], .bool x106] : Value) ∧ (
 C60 w108 ∧ (
 doSt ((blk b96).add 0) (.int .i64 x103) w108 (fun w109 =>
 doSt ((blk b96).add 1) (.int .i64 x104) w109 (fun w110 =>
 doSt ((blk b96).add 2) (.int .u64 x105) w110 (fun w111 =>
 K48 (blk b96) x106 w111)))))) (fun ch w => Kfn R ch [] w))))) (fun ch w => Kfn R ch [] w))))))))))))))) (fun ch w => Kfn R ch [] w))))) (fun ch w => Kfn R ch [] w))))) (fun ch w => Kfn R ch [] w))))) (fun ch w => Kfn R ch [] w))))))
 doDr w (fun w113 =>
 ∃ (C112 : World → Prop), C112 w113 ∧ (
 ∃ (x114 : Option Addr), (∀ w, C112 w → World.cell? w x4 = some (.pointer x114)) ∧ (
 ∃ (x115 : Int), (∀ w, C112 w → World.cell? w x5 = some (.int .u8 x115)) ∧ (
 (doCall Tryz.prog (.func (.func 108) #[] #[]) #[.pointer a_1] w113 (retS (fun v117 w118 => ∃ (x116 : Int), v117 = (.int .i64 x116 : Value) ∧ (
 C112 w118 ∧ (
 (doCall Tryz.prog (.func (.func 89) #[] #[]) #[.pointer x114, .int .u8 x115, .pointer b_2, .int .i64 x116] w118 (retS (fun v126 w127 => ∃ (x119 : Option Addr), ∃ (x120 : Int), ∃ (x121 : Int), ∃ (x122 : Int), ∃ (x123 : Bool), ∃ (x124 : Option Addr), ∃ (x125 : Int), v126 = (.tuple #[.pointer x119, .agg #[.int .i64 x120, .int .i64 x121, .int .u64 x122], .bool x123, .pointer x124, .int .i64 x125] : Value) ∧ (
 doAl (.cells #[.int .i64 0, .int .i64 0, .int .u64 0] 114) w127 (fun b128 w129 =>
 C112 w129 ∧ (
 doSt ((blk b128).add 0) (.int .i64 x120) w129 (fun w130 =>
 doSt ((blk b128).add 1) (.int .i64 x121) w130 (fun w131 =>
 doSt ((blk b128).add 2) (.int .u64 x122) w131 (fun w132 =>
 K24 x119 (blk b128) x123 x124 w132))))))) (fun ch w => Kfn R ch [] w))) ∧ (doAl (.cells #[.int .i64 0, .int .i64 0, .int .u64 0] 114) w118 (fun b133 w134 =>
 C112 w134 ∧ (
 doCall Tryz.prog (.func (.func 89) #[] #[]) #[.pointer x114, .int .u8 x115, .pointer b_2, .int .i64 x116] w134 (retS (fun v142 w143 => ∃ (x135 : Option Addr), ∃ (x136 : Int), ∃ (x137 : Int), ∃ (x138 : Int), ∃ (x139 : Bool), ∃ (x140 : Option Addr), ∃ (x141 : Int), v142 = (.tuple #[.pointer x135, .agg #[.int .i64 x136, .int .i64 x137, .int .u64 x138], .bool x139, .pointer x140, .int .i64 x141] : Value) ∧ (
 doSt ((blk b133).add 0) (.int .i64 x136) w143 (fun w144 =>
 doSt ((blk b133).add 1) (.int .i64 x137) w144 (fun w145 =>
 doSt ((blk b133).add 2) (.int .u64 x138) w145 (fun w146 =>
 K24 x135 (blk b133) x139 x140 w146))))) (fun ch w => Kfn R ch [] w)))))))) (fun ch w => Kfn R ch [] w))) ∧ (doAl (.cells #[.int .i64 0, .int .i64 0, .int .u64 0] 114) w113 (fun b147 w148 =>
 C112 w148 ∧ (
 doCall Tryz.prog (.func (.func 108) #[] #[]) #[.pointer a_1] w148 (retS (fun v150 w151 => ∃ (x149 : Int), v150 = (.int .i64 x149 : Value) ∧ (
 C112 w151 ∧ (
 doCall Tryz.prog (.func (.func 89) #[] #[]) #[.pointer x114, .int .u8 x115, .pointer b_2, .int .i64 x149] w151 (retS (fun v159 w160 => ∃ (x152 : Option Addr), ∃ (x153 : Int), ∃ (x154 : Int), ∃ (x155 : Int), ∃ (x156 : Bool), ∃ (x157 : Option Addr), ∃ (x158 : Int), v159 = (.tuple #[.pointer x152, .agg #[.int .i64 x153, .int .i64 x154, .int .u64 x155], .bool x156, .pointer x157, .int .i64 x158] : Value) ∧ (
 doSt ((blk b147).add 0) (.int .i64 x153) w160 (fun w161 =>
 doSt ((blk b147).add 1) (.int .i64 x154) w161 (fun w162 =>
 doSt ((blk b147).add 2) (.int .u64 x155) w162 (fun w163 =>
 K24 x152 (blk b147) x156 x157 w163))))) (fun ch w => Kfn R ch [] w))))) (fun ch w => Kfn R ch [] w)))))))))))
set_option maxRecDepth 100000 in
theorem sh214_ok (a_1 : Option Addr) (b_2 : Option Addr) (x3 : Addr) (x4 : Addr) (x5 : Addr) (x6 : Addr) {R : Ending → World → Prop} {w : World} : sh214 a_1 b_2 x3 x4 x5 x6 R w → Calls Tryz.prog 214 #[.pointer a_1, .pointer b_2, .pointer (some x3), .pointer (some x4), .pointer (some x5), .pointer (some x6)] w R :=
  calls_of_eq (ann := fun _ => []) (fn := Tryz.f214) (c := bodyOf Tryz.f214) (args := #[.pointer a_1, .pointer b_2, .pointer (some x3), .pointer (some x4), .pointer (some x5), .pointer (some x6)]) 400 follows_mixed Tryz.func214 (by kernel_rfl) (by kernel_rfl)
set_option maxRecDepth 100000 in
/-- joinery/order.Code -/
def sh215 (o_1 : Int) (key_2 : Int) (R : Ending → World → Prop) (w : World) : Prop :=
 let K6 : Addr → Bool → World → Prop := fun (k_3 : Addr) (is_4 : Bool) (w5 : World) => 
 ifB (!is_4) (
 R (.returned (.tuple #[.int .u64 0, .int .i64 2])) w5) (
 ∃ (xf7 : Fn), ∃ (xx8 : Array Value), ∃ (xc9 : Array Value), World.cell? w5 (k_3.add 1) = some (.func xf7 xx8 xc9) ∧ (
 doCall Tryz.prog (.func xf7 xx8 xc9) #[.int .i64 key_2] w5 (retS (fun v11 w12 => ∃ (x10 : Int), v11 = (.int .u64 x10 : Value) ∧ (
 R (.returned (.tuple #[.int .u64 x10, .int .i64 0])) w12)) (fun ch w => Kfn R ch [] w))))
 doCall Tryz.prog (.func (.func 235) #[] #[]) #[] w (retS (fun v14 w15 => ∃ (x13 : Option Nat), v14 = (.map x13 : Value) ∧ (
 doLk Tryz.prog 300 (.map x13) (.int .u8 o_1) true w15 (fun v24 => (∃ (x16 : ByteArray), ∃ (xf17 : Fn), ∃ (xx18 : Array Value), ∃ (xc19 : Array Value), ∃ (xf20 : Fn), ∃ (xx21 : Array Value), ∃ (xc22 : Array Value), ∃ (x23 : Bool), v24 = (.tuple #[.agg #[.string x16, .func xf17 xx18 xc19, .func xf20 xx21 xc22], .bool x23] : Value) ∧ (
 doAl (.cells #[.string (⟨#[]⟩ : ByteArray), .nilFunc, .nilFunc] 299) w15 (fun b25 w26 =>
 doSt ((blk b25).add 0) (.string x16) w26 (fun w27 =>
 doSt ((blk b25).add 1) (.func xf17 xx18 xc19) w27 (fun w28 =>
 doSt ((blk b25).add 2) (.func xf20 xx21 xc22) w28 (fun w29 =>
 K6 (blk b25) x23 w29)))))) ∨ (v24 = (.tuple #[.agg #[.string (⟨#[]⟩ : ByteArray), .nilFunc, .nilFunc], .bool false] : Value) ∧ (
 doAl (.cells #[.string (⟨#[]⟩ : ByteArray), .nilFunc, .nilFunc] 299) w15 (fun b30 w31 =>
 doSt ((blk b30).add 0) (.string (⟨#[]⟩ : ByteArray)) w31 (fun w32 =>
 doSt ((blk b30).add 1) (.nilFunc) w32 (fun w33 =>
 doSt ((blk b30).add 2) (.nilFunc) w33 (fun w34 =>
 K6 (blk b30) false w34))))))))) (fun ch w => Kfn R ch [] w))
set_option maxRecDepth 100000 in
theorem sh215_ok (o_1 : Int) (key_2 : Int) {R : Ending → World → Prop} {w : World} : sh215 o_1 key_2 R w → Calls Tryz.prog 215 #[.int .u8 o_1, .int .i64 key_2] w R :=
  calls_of_eq (ann := fun _ => []) (fn := Tryz.f215) (c := bodyOf Tryz.f215) (args := #[.int .u8 o_1, .int .i64 key_2]) 400 follows_mixed Tryz.func215 (by kernel_rfl) (by kernel_rfl)
set_option maxRecDepth 100000 in
/-- joinery/split.where$1 -/
def sh216 (k_1 : Int) (x2 : Addr) (x3 : Addr) (R : Ending → World → Prop) (w : World) : Prop :=
 ∃ (x4 : Int), World.cell? w x2 = some (.int .u8 x4) ∧ (
 doCall Tryz.prog (.func (.func 215) #[] #[]) #[.int .u8 x4, .int .i64 k_1] w (retS (fun v7 w8 => ∃ (x5 : Int), ∃ (x6 : Int), v7 = (.tuple #[.int .u64 x5, .int .i64 x6] : Value) ∧ (
 ∃ (x9 : Int), World.cell? w8 x3 = some (.int .u64 x9) ∧ (
 doCall Tryz.prog (.func (.func 217) #[] #[]) #[.int .u64 x5, .int .u64 x9] w8 (retS (fun v11 w12 => ∃ (x10 : Int), v11 = (.int .i64 x10 : Value) ∧ (
 R (.returned (.int .i64 x10)) w12)) (fun ch w => Kfn R ch [] w))))) (fun ch w => Kfn R ch [] w)))
set_option maxRecDepth 100000 in
theorem sh216_ok (k_1 : Int) (x2 : Addr) (x3 : Addr) {R : Ending → World → Prop} {w : World} : sh216 k_1 x2 x3 R w → Calls Tryz.prog 216 #[.int .i64 k_1, .pointer (some x2), .pointer (some x3)] w R :=
  calls_of_eq (ann := fun _ => []) (fn := Tryz.f216) (c := bodyOf Tryz.f216) (args := #[.int .i64 k_1, .pointer (some x2), .pointer (some x3)]) 400 follows_mixed Tryz.func216 (by kernel_rfl) (by kernel_rfl)
set_option maxRecDepth 100000 in
/-- cmp.Compare[uint64] -/
def sh217 (x_1 : Int) (y_2 : Int) (R : Ending → World → Prop) (w : World) : Prop :=
 doCall Tryz.prog (.func (.func 264) #[] #[]) #[.int .u64 x_1] w (retS (fun v4 w5 => ∃ (x3 : Bool), v4 = (.bool x3 : Value) ∧ (
 doCall Tryz.prog (.func (.func 264) #[] #[]) #[.int .u64 y_2] w5 (retS (fun v7 w8 => ∃ (x6 : Bool), v7 = (.bool x6 : Value) ∧ (
 ifB x3 (
 ifB x6 (
 R (.returned (.int .i64 0)) w8) (
 R (.returned (.int .i64 (-1))) w8)) (
 ifB x6 (
 R (.returned (.int .i64 1)) w8) (
 ifB (decide ((x_1 : Int) < y_2)) (
 R (.returned (.int .i64 (-1))) w8) (
 ifB (decide ((x_1 : Int) > y_2)) (
 R (.returned (.int .i64 1)) w8) (
 R (.returned (.int .i64 0)) w8)))))) (fun ch w => Kfn R ch [] w)))) (fun ch w => Kfn R ch [] w))
set_option maxRecDepth 100000 in
theorem sh217_ok (x_1 : Int) (y_2 : Int) {R : Ending → World → Prop} {w : World} : sh217 x_1 y_2 R w → Calls Tryz.prog 217 #[.int .u64 x_1, .int .u64 y_2] w R :=
  calls_of_eq (ann := fun _ => []) (fn := Tryz.f217) (c := bodyOf Tryz.f217) (args := #[.int .u64 x_1, .int .u64 y_2]) 400 follows_mixed Tryz.func217 (by kernel_rfl) (by kernel_rfl)
set_option maxRecDepth 100000 in
/-- joinery/avljoin.Join -/
def sh218 (l_1 : Option Addr) (key_2 : Int) (val_3 : Int) (r_4 : Option Addr) (R : Ending → World → Prop) (w : World) : Prop :=
 doCall Tryz.prog (.func (.func 265) #[] #[]) #[.pointer none, .int .i64 key_2, .int .i64 val_3, .pointer none] w (retS (fun v6 w7 => ∃ (x5 : Option Addr), v6 = (.pointer x5 : Value) ∧ (
 doCall Tryz.prog (.func (.func 221) #[] #[]) #[.pointer l_1] w7 (retS (fun v9 w10 => ∃ (x8 : Int), v9 = (.int .i64 x8 : Value) ∧ (
 doCall Tryz.prog (.func (.func 221) #[] #[]) #[.pointer r_4] w10 (retS (fun v12 w13 => ∃ (x11 : Int), v12 = (.int .i64 x11 : Value) ∧ (
 ifB (decide ((x8 : Int) > (IntKind.wrap .i64 (x11 + 1)))) (
 doCall Tryz.prog (.func (.func 266) #[] #[]) #[] w13 (retS (fun v23 w24 => ∃ (xf14 : Fn), ∃ (xx15 : Array Value), ∃ (xc16 : Array Value), ∃ (xf17 : Fn), ∃ (xx18 : Array Value), ∃ (xc19 : Array Value), ∃ (xf20 : Fn), ∃ (xx21 : Array Value), ∃ (xc22 : Array Value), v23 = (.agg #[.func xf14 xx15 xc16, .func xf17 xx18 xc19, .func xf20 xx21 xc22] : Value) ∧ (
 doCall Tryz.prog (.func (.func 267) #[] #[]) #[.agg #[.func xf14 xx15 xc16, .func xf17 xx18 xc19, .func xf20 xx21 xc22], .pointer l_1, .pointer x5, .pointer r_4] w24 (retS (fun v26 w27 => ∃ (x25 : Option Addr), v26 = (.pointer x25 : Value) ∧ (
 R (.returned (.pointer x25)) w27)) (fun ch w => Kfn R ch [] w)))) (fun ch w => Kfn R ch [] w))) (
 ifB (decide ((x11 : Int) > (IntKind.wrap .i64 (x8 + 1)))) (
 doCall Tryz.prog (.func (.func 268) #[] #[]) #[] w13 (retS (fun v37 w38 => ∃ (xf28 : Fn), ∃ (xx29 : Array Value), ∃ (xc30 : Array Value), ∃ (xf31 : Fn), ∃ (xx32 : Array Value), ∃ (xc33 : Array Value), ∃ (xf34 : Fn), ∃ (xx35 : Array Value), ∃ (xc36 : Array Value), v37 = (.agg #[.func xf28 xx29 xc30, .func xf31 xx32 xc33, .func xf34 xx35 xc36] : Value) ∧ (
 doCall Tryz.prog (.func (.func 267) #[] #[]) #[.agg #[.func xf28 xx29 xc30, .func xf31 xx32 xc33, .func xf34 xx35 xc36], .pointer r_4, .pointer x5, .pointer l_1] w38 (retS (fun v40 w41 => ∃ (x39 : Option Addr), v40 = (.pointer x39 : Value) ∧ (
 R (.returned (.pointer x39)) w41)) (fun ch w => Kfn R ch [] w)))) (fun ch w => Kfn R ch [] w))) (
 doCall Tryz.prog (.func (.func 265) #[] #[]) #[.pointer l_1, .int .i64 key_2, .int .i64 val_3, .pointer r_4] w13 (retS (fun v43 w44 => ∃ (x42 : Option Addr), v43 = (.pointer x42 : Value) ∧ (
 R (.returned (.pointer x42)) w44)) (fun ch w => Kfn R ch [] w)))))) (fun ch w => Kfn R ch [] w)))) (fun ch w => Kfn R ch [] w)))) (fun ch w => Kfn R ch [] w))
set_option maxRecDepth 100000 in
theorem sh218_ok (l_1 : Option Addr) (key_2 : Int) (val_3 : Int) (r_4 : Option Addr) {R : Ending → World → Prop} {w : World} : sh218 l_1 key_2 val_3 r_4 R w → Calls Tryz.prog 218 #[.pointer l_1, .int .i64 key_2, .int .i64 val_3, .pointer r_4] w R :=
  calls_of_eq (ann := fun _ => []) (fn := Tryz.f218) (c := bodyOf Tryz.f218) (args := #[.pointer l_1, .int .i64 key_2, .int .i64 val_3, .pointer r_4]) 400 follows_mixed Tryz.func218 (by kernel_rfl) (by kernel_rfl)
end Go.Proofs.YtlddfgfmkapoiaaGreat

