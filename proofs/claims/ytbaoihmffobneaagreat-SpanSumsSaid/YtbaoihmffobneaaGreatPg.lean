/-
  Printed by a program (gen.py): what the functions of the program do, as formulas; each with the proof that its call is what the formula says.
-/
/-
  Printed by a program (gen.py): what the functions of the program do, as formulas; each with the proof that its call is what the formula says.
-/
/-
  Printed by a program (gen.py): what the functions of the program do, as formulas; each with the proof that its call is what the formula says.
-/
import Derived.Test.YtbaoihmffobneaaGreatPb
import Derived.Test.YtbaoihmffobneaaGreatProg
import Derived.Test.YtbaoihmffobneaaGreatPd

namespace Go.Proofs.YtbaoihmffobneaaGreat
open Go Go.Sh
set_option maxRecDepth 100000 in
/-- joinery/rb.wrong -/
def sh239 (t_1 : Option Addr) (R : Ending → World → Prop) (w : World) : Prop :=
 doAl (.cells #[.pointer t_1] 30) w (fun b2 w3 =>
 R (.returned (.func (.func 260) #[] #[.pointer (some (blk b2))])) w3)
set_option maxRecDepth 100000 in
theorem sh239_ok (t_1 : Option Addr) {R : Ending → World → Prop} {w : World} : sh239 t_1 R w → Calls Tryz.prog 239 #[.pointer t_1] w R :=
  calls_of_eq (ann := fun _ => []) (fn := Tryz.f239) (c := bodyOf Tryz.f239) (args := #[.pointer t_1]) 400 follows_mixed Tryz.func239 (by kernel_rfl) (by kernel_rfl)
set_option maxRecDepth 100000 in
/-- (joinery/wbjoin.side).make -/
def sh240 (s_1 : Int) (in_2 : Option Addr) (pair_3 : Option Addr) (out_4 : Option Addr) (R : Ending → World → Prop) (w : World) : Prop :=
 doAl (.cells #[.pointer none, .pointer none] 301) w (fun b5 w6 =>
 doSt ((blk b5).add 0) (.pointer in_2) w6 (fun w7 =>
 doSt ((blk b5).add 1) (.pointer out_4) w7 (fun w8 =>
 doDr w8 (fun w10 =>
 ∃ (C9 : World → Prop), C9 w10 ∧ (
 doIx (some (blk b5)) 2 1 (s_1) (fun a11 =>
 ∃ (x12 : Option Addr), (∀ w, C9 w → World.cell? w a11 = some (.pointer x12)) ∧ (
 doCall Tryz.prog (.func (.func 241) #[] #[]) #[.int .i64 s_1] w10 (retS (fun v14 w15 => ∃ (x13 : Int), v14 = (.int .i64 x13 : Value) ∧ (
 C9 w15 ∧ (
 doIx (some (blk b5)) 2 1 (x13) (fun a16 =>
 ∃ (x17 : Option Addr), (∀ w, C9 w → World.cell? w a16 = some (.pointer x17)) ∧ (
 doCall Tryz.prog (.func (.func 107) #[] #[]) #[.pointer pair_3] w15 (retS (fun v19 w20 => ∃ (x18 : Int), v19 = (.int .i64 x18 : Value) ∧ (
 C9 w20 ∧ (
 doCall Tryz.prog (.func (.func 165) #[] #[]) #[.pointer pair_3] w20 (retS (fun v22 w23 => ∃ (x21 : Int), v22 = (.int .i64 x21 : Value) ∧ (
 C9 w23 ∧ (
 doCall Tryz.prog (.func (.func 192) #[] #[]) #[.pointer x17, .int .i64 x18, .int .i64 x21, .pointer x12] w23 (retS (fun v25 w26 => ∃ (x24 : Option Addr), v25 = (.pointer x24 : Value) ∧ (
 R (.returned (.pointer x24)) w26)) (fun ch w => Kfn R ch [] w))))) (fun ch w => Kfn R ch [] w))))) (fun ch w => Kfn R ch [] w))))))) (fun ch w => Kfn R ch [] w)))))))))
set_option maxRecDepth 100000 in
theorem sh240_ok (s_1 : Int) (in_2 : Option Addr) (pair_3 : Option Addr) (out_4 : Option Addr) {R : Ending → World → Prop} {w : World} : sh240 s_1 in_2 pair_3 out_4 R w → Calls Tryz.prog 240 #[.int .i64 s_1, .pointer in_2, .pointer pair_3, .pointer out_4] w R :=
  calls_of_eq (ann := fun _ => []) (fn := Tryz.f240) (c := bodyOf Tryz.f240) (args := #[.int .i64 s_1, .pointer in_2, .pointer pair_3, .pointer out_4]) 400 follows_mixed Tryz.func240 (by kernel_rfl) (by kernel_rfl)
set_option maxRecDepth 100000 in
/-- (joinery/wbjoin.side).other -/
def sh241 (s_1 : Int) (R : Ending → World → Prop) (w : World) : Prop :=
 R (.returned (.int .i64 (IntKind.wrap .i64 (1 - s_1)))) w
set_option maxRecDepth 100000 in
theorem sh241_ok (s_1 : Int) {R : Ending → World → Prop} {w : World} : sh241 s_1 R w → Calls Tryz.prog 241 #[.int .i64 s_1] w R :=
  calls_of_eq (ann := fun _ => []) (fn := Tryz.f241) (c := bodyOf Tryz.f241) (args := #[.int .i64 s_1]) 400 follows_mixed Tryz.func241 (by kernel_rfl) (by kernel_rfl)
set_option maxRecDepth 100000 in
/-- (joinery/wbjoin.side).at -/
def sh242 (s_1 : Int) (t_2 : Option Addr) (R : Ending → World → Prop) (w : World) : Prop :=
 doCall Tryz.prog (.func (.func 263) #[] #[]) #[.pointer t_2] w (retS (fun v5 w6 => ∃ (x3 : Option Addr), ∃ (x4 : Option Addr), v5 = (.agg #[.pointer x3, .pointer x4] : Value) ∧ (
 doIxV Tryz.prog 301 (.agg #[.pointer x3, .pointer x4]) (.int .i64 s_1) (fun v7 => ∃ (x8 : Option Addr), v7 = (.pointer x8 : Value) ∧ (
 R (.returned (.pointer x8)) w6)))) (fun ch w => Kfn R ch [] w))
set_option maxRecDepth 100000 in
theorem sh242_ok (s_1 : Int) (t_2 : Option Addr) {R : Ending → World → Prop} {w : World} : sh242 s_1 t_2 R w → Calls Tryz.prog 242 #[.int .i64 s_1, .pointer t_2] w R :=
  calls_of_eq (ann := fun _ => []) (fn := Tryz.f242) (c := bodyOf Tryz.f242) (args := #[.int .i64 s_1, .pointer t_2]) 400 follows_mixed Tryz.func242 (by kernel_rfl) (by kernel_rfl)
set_option maxRecDepth 100000 in
/-- (joinery/wbjoin.side).once -/
def sh243 (s_1 : Int) (in_2 : Option Addr) (t_3 : Option Addr) (x_4 : Option Addr) (R : Ending → World → Prop) (w : World) : Prop :=
 doCall Tryz.prog (.func (.func 241) #[] #[]) #[.int .i64 s_1] w (retS (fun v6 w7 => ∃ (x5 : Int), v6 = (.int .i64 x5 : Value) ∧ (
 doCall Tryz.prog (.func (.func 242) #[] #[]) #[.int .i64 x5, .pointer x_4] w7 (retS (fun v9 w10 => ∃ (x8 : Option Addr), v9 = (.pointer x8 : Value) ∧ (
 doCall Tryz.prog (.func (.func 240) #[] #[]) #[.int .i64 s_1, .pointer in_2, .pointer t_3, .pointer x8] w10 (retS (fun v12 w13 => ∃ (x11 : Option Addr), v12 = (.pointer x11 : Value) ∧ (
 doCall Tryz.prog (.func (.func 242) #[] #[]) #[.int .i64 s_1, .pointer x_4] w13 (retS (fun v15 w16 => ∃ (x14 : Option Addr), v15 = (.pointer x14 : Value) ∧ (
 doCall Tryz.prog (.func (.func 240) #[] #[]) #[.int .i64 s_1, .pointer x11, .pointer x_4, .pointer x14] w16 (retS (fun v18 w19 => ∃ (x17 : Option Addr), v18 = (.pointer x17 : Value) ∧ (
 R (.returned (.pointer x17)) w19)) (fun ch w => Kfn R ch [] w)))) (fun ch w => Kfn R ch [] w)))) (fun ch w => Kfn R ch [] w)))) (fun ch w => Kfn R ch [] w)))) (fun ch w => Kfn R ch [] w))
set_option maxRecDepth 100000 in
theorem sh243_ok (s_1 : Int) (in_2 : Option Addr) (t_3 : Option Addr) (x_4 : Option Addr) {R : Ending → World → Prop} {w : World} : sh243 s_1 in_2 t_3 x_4 R w → Calls Tryz.prog 243 #[.int .i64 s_1, .pointer in_2, .pointer t_3, .pointer x_4] w R :=
  calls_of_eq (ann := fun _ => []) (fn := Tryz.f243) (c := bodyOf Tryz.f243) (args := #[.int .i64 s_1, .pointer in_2, .pointer t_3, .pointer x_4]) 400 follows_mixed Tryz.func243 (by kernel_rfl) (by kernel_rfl)
set_option maxRecDepth 100000 in
/-- (joinery/wbjoin.side).twice -/
def sh244 (s_1 : Int) (in_2 : Option Addr) (t_3 : Option Addr) (x_4 : Option Addr) (R : Ending → World → Prop) (w : World) : Prop :=
 doCall Tryz.prog (.func (.func 241) #[] #[]) #[.int .i64 s_1] w (retS (fun v6 w7 => ∃ (x5 : Int), v6 = (.int .i64 x5 : Value) ∧ (
 doCall Tryz.prog (.func (.func 242) #[] #[]) #[.int .i64 x5, .pointer x_4] w7 (retS (fun v9 w10 => ∃ (x8 : Option Addr), v9 = (.pointer x8 : Value) ∧ (
 doCall Tryz.prog (.func (.func 241) #[] #[]) #[.int .i64 s_1] w10 (retS (fun v12 w13 => ∃ (x11 : Int), v12 = (.int .i64 x11 : Value) ∧ (
 doCall Tryz.prog (.func (.func 242) #[] #[]) #[.int .i64 x11, .pointer x8] w13 (retS (fun v15 w16 => ∃ (x14 : Option Addr), v15 = (.pointer x14 : Value) ∧ (
 doCall Tryz.prog (.func (.func 240) #[] #[]) #[.int .i64 s_1, .pointer in_2, .pointer t_3, .pointer x14] w16 (retS (fun v18 w19 => ∃ (x17 : Option Addr), v18 = (.pointer x17 : Value) ∧ (
 doCall Tryz.prog (.func (.func 242) #[] #[]) #[.int .i64 s_1, .pointer x8] w19 (retS (fun v21 w22 => ∃ (x20 : Option Addr), v21 = (.pointer x20 : Value) ∧ (
 doCall Tryz.prog (.func (.func 242) #[] #[]) #[.int .i64 s_1, .pointer x_4] w22 (retS (fun v24 w25 => ∃ (x23 : Option Addr), v24 = (.pointer x23 : Value) ∧ (
 doCall Tryz.prog (.func (.func 240) #[] #[]) #[.int .i64 s_1, .pointer x20, .pointer x_4, .pointer x23] w25 (retS (fun v27 w28 => ∃ (x26 : Option Addr), v27 = (.pointer x26 : Value) ∧ (
 doCall Tryz.prog (.func (.func 240) #[] #[]) #[.int .i64 s_1, .pointer x17, .pointer x8, .pointer x26] w28 (retS (fun v30 w31 => ∃ (x29 : Option Addr), v30 = (.pointer x29 : Value) ∧ (
 R (.returned (.pointer x29)) w31)) (fun ch w => Kfn R ch [] w)))) (fun ch w => Kfn R ch [] w)))) (fun ch w => Kfn R ch [] w)))) (fun ch w => Kfn R ch [] w)))) (fun ch w => Kfn R ch [] w)))) (fun ch w => Kfn R ch [] w)))) (fun ch w => Kfn R ch [] w)))) (fun ch w => Kfn R ch [] w)))) (fun ch w => Kfn R ch [] w))
set_option maxRecDepth 100000 in
theorem sh244_ok (s_1 : Int) (in_2 : Option Addr) (t_3 : Option Addr) (x_4 : Option Addr) {R : Ending → World → Prop} {w : World} : sh244 s_1 in_2 t_3 x_4 R w → Calls Tryz.prog 244 #[.int .i64 s_1, .pointer in_2, .pointer t_3, .pointer x_4] w R :=
  calls_of_eq (ann := fun _ => []) (fn := Tryz.f244) (c := bodyOf Tryz.f244) (args := #[.int .i64 s_1, .pointer in_2, .pointer t_3, .pointer x_4]) 400 follows_mixed Tryz.func244 (by kernel_rfl) (by kernel_rfl)
set_option maxRecDepth 100000 in
/-- joinery/wb.within[int] -/
def sh245 (least_1 : Int) (most_2 : Int) (l_p3 : Option Addr) (l_n4 : Nat) (_l_c5 : Nat) (R : Ending → World → Prop) (w : World) : Prop :=
 ∃ (I6 : List Value → World → Prop) (μ7 : List Value → World → Nat), I6 [.int .i64 0] w ∧ (∀ (x10 : Int), ∀ (_j8 : Nat → Value) (w9 : World), I6 [.int .i64 x10] w9 → (
 ifB (decide ((x10 : Int) < ((l_n4 : Nat) : Int))) (
 doIx l_p3 l_n4 1 (x10) (fun a11 =>
 ∃ (x12 : Int), World.cell? w9 a11 = some (.int .i64 x12) ∧ (
 let K15 : Bool → World → Prop := fun (x13 : Bool) (w14 : World) => 
 ifB x13 (
 R (.returned (.bool false)) w14) (
 I6 [.int .i64 (IntKind.wrap .i64 (x10 + 1))] w14 ∧ μ7 [.int .i64 (IntKind.wrap .i64 (x10 + 1))] w14 < μ7 [.int .i64 x10] w9)
 ifB (decide ((x12 : Int) < least_1)) (
 R (.returned (.bool false)) w9) (
 K15 (decide ((x12 : Int) > most_2)) w9)))) (
 R (.returned (.bool true)) w9)))
set_option maxRecDepth 100000 in
theorem sh245_ok (least_1 : Int) (most_2 : Int) (l_p3 : Option Addr) (l_n4 : Nat) (l_c5 : Nat) {R : Ending → World → Prop} {w : World} : sh245 least_1 most_2 l_p3 l_n4 l_c5 R w → Calls Tryz.prog 245 #[.int .i64 least_1, .int .i64 most_2, .slice l_p3 l_n4 l_c5] w R :=
  calls_of_eq (ann := fun i => if i = 0 then [(11, .int .i64 0)] else []) (fn := Tryz.f245) (c := bodyOf Tryz.f245) (args := #[.int .i64 least_1, .int .i64 most_2, .slice l_p3 l_n4 l_c5]) 400 follows_mixed Tryz.func245 (by kernel_rfl) (by kernel_rfl)
set_option maxRecDepth 100000 in
/-- joinery/joineryref14.one -/
def sh250 (l_p1 : Option Addr) (l_n2 : Nat) (l_c3 : Nat) (R : Ending → World → Prop) (w : World) : Prop :=
 doCall Tryz.prog (.func (.func 64) #[] #[]) #[.slice l_p1 l_n2 l_c3] w (retS (fun v17 w18 => ∃ (x4 : Int), ∃ (x5 : Int), ∃ (x6 : Int), ∃ (x7 : Int), ∃ (x8 : Int), ∃ (x9 : Bool), ∃ (x10 : Bool), ∃ (xp11 : Option Addr), ∃ (xn12 : Nat), ∃ (xc13 : Nat), ∃ (xp14 : Option Addr), ∃ (xn15 : Nat), ∃ (xc16 : Nat), v17 = (.tuple #[.agg #[.int .i64 x4, .int .i64 x5, .int .i64 x6, .int .i64 x7, .int .u64 x8, .bool x9, .bool x10], .slice xp11 xn12 xc13, .slice xp14 xn15 xc16] : Value) ∧ (
 doAl (.cells #[.int .i64 0, .int .i64 0, .int .i64 0, .int .i64 0, .int .u64 0, .bool false, .bool false] 97) w18 (fun b19 w20 =>
 doSt ((blk b19).add 0) (.int .i64 x4) w20 (fun w21 =>
 doSt ((blk b19).add 1) (.int .i64 x5) w21 (fun w22 =>
 doSt ((blk b19).add 2) (.int .i64 x6) w22 (fun w23 =>
 doSt ((blk b19).add 3) (.int .i64 x7) w23 (fun w24 =>
 doSt ((blk b19).add 4) (.int .u64 x8) w24 (fun w25 =>
 doSt ((blk b19).add 5) (.bool x9) w25 (fun w26 =>
 doSt ((blk b19).add 6) (.bool x10) w26 (fun w27 =>
 doCall Tryz.prog (.func (.func 268) #[] #[]) #[.slice xp11 xn12 xc13] w27 (retS (fun v29 w30 => ∃ (x28 : Int), v29 = (.int .u64 x28 : Value) ∧ (
 doCall Tryz.prog (.func (.func 268) #[] #[]) #[.slice xp14 xn15 xc16] w30 (retS (fun v32 w33 => ∃ (x31 : Int), v32 = (.int .u64 x31 : Value) ∧ (
 doGo Tryz.prog (.builtin .min #[90, 90] 90 #[false, false]) #[.int .u64 x28, .int .u64 x31] w33 (retS (fun v35 w36 => ∃ (x34 : Int), v35 = (.int .u64 x34 : Value) ∧ (
 doCall Tryz.prog (.func (.func 268) #[] #[]) #[.slice xp11 xn12 xc13] w36 (retS (fun v38 w39 => ∃ (x37 : Int), v38 = (.int .u64 x37 : Value) ∧ (
 doCall Tryz.prog (.func (.func 268) #[] #[]) #[.slice xp14 xn15 xc16] w39 (retS (fun v41 w42 => ∃ (x40 : Int), v41 = (.int .u64 x40 : Value) ∧ (
 doGo Tryz.prog (.builtin .max #[90, 90] 90 #[false, false]) #[.int .u64 x37, .int .u64 x40] w42 (retS (fun v44 w45 => ∃ (x43 : Int), v44 = (.int .u64 x43 : Value) ∧ (
 let K48 : Bool → World → Prop := fun (x46 : Bool) (w47 : World) => 
 ifB x46 (
 R (.returned (.int .i64 140)) w47) (
 ifB (decide (((IntKind.wrap .u64 (x43 - x34)) : Int) > 1)) (
 R (.returned (.int .i64 8)) w47) (
 R (.returned (.int .i64 0)) w47))
 ∃ (x49 : Int), World.cell? w45 ((blk b19).add 4) = some (.int .u64 x49) ∧ (
 ifB ((x49 : Int) == 0) (
 R (.returned (.int .i64 140)) w45) (
 ∃ (x50 : Int), World.cell? w45 ((blk b19).add 4) = some (.int .u64 x50) ∧ (
 K48 (((IntKind.wrap .u64 (x50 - 1)) : Int) != x43) w45))))) (fun ch w => Kfn R ch [] w)))) (fun ch w => Kfn R ch [] w)))) (fun ch w => Kfn R ch [] w)))) (fun ch w => Kfn R ch [] w)))) (fun ch w => Kfn R ch [] w)))) (fun ch w => Kfn R ch [] w)))))))))))) (fun ch w => Kfn R ch [] w))
set_option maxRecDepth 100000 in
theorem sh250_ok (l_p1 : Option Addr) (l_n2 : Nat) (l_c3 : Nat) {R : Ending → World → Prop} {w : World} : sh250 l_p1 l_n2 l_c3 R w → Calls Tryz.prog 250 #[.slice l_p1 l_n2 l_c3] w R :=
  calls_of_eq (ann := fun _ => []) (fn := Tryz.f250) (c := bodyOf Tryz.f250) (args := #[.slice l_p1 l_n2 l_c3]) 400 follows_mixed Tryz.func250 (by kernel_rfl) (by kernel_rfl)
set_option maxRecDepth 100000 in
/-- joinery/joineryref16.parts -/
def sh251 (l_p1 : Option Addr) (l_n2 : Nat) (l_c3 : Nat) (R : Ending → World → Prop) (w : World) : Prop :=
 ifB ((((l_n2 : Nat) : Int) : Int) == 0) (
 R (.returned (.tuple #[.int .i64 0, .int .i64 0])) w) (
 doCall Tryz.prog (.func (.func 269) #[] #[]) #[.slice l_p1 l_n2 l_c3] w (retS (fun v5 w6 => ∃ (x4 : Int), v5 = (.int .i64 x4 : Value) ∧ (
 ifB ((x4 : Int) != 0) (
 R (.returned (.tuple #[.int .i64 0, .int .i64 x4])) w6) (
 doCall Tryz.prog (.func (.func 64) #[] #[]) #[.slice l_p1 l_n2 l_c3] w6 (retS (fun v20 w21 => ∃ (x7 : Int), ∃ (x8 : Int), ∃ (x9 : Int), ∃ (x10 : Int), ∃ (x11 : Int), ∃ (x12 : Bool), ∃ (x13 : Bool), ∃ (xp14 : Option Addr), ∃ (xn15 : Nat), ∃ (xc16 : Nat), ∃ (xp17 : Option Addr), ∃ (xn18 : Nat), ∃ (xc19 : Nat), v20 = (.tuple #[.agg #[.int .i64 x7, .int .i64 x8, .int .i64 x9, .int .i64 x10, .int .u64 x11, .bool x12, .bool x13], .slice xp14 xn15 xc16, .slice xp17 xn18 xc19] : Value) ∧ (
 doAl (.cells #[.int .i64 0, .int .i64 0, .int .i64 0, .int .i64 0, .int .u64 0, .bool false, .bool false] 97) w21 (fun b22 w23 =>
 doSt ((blk b22).add 0) (.int .i64 x7) w23 (fun w24 =>
 doSt ((blk b22).add 1) (.int .i64 x8) w24 (fun w25 =>
 doSt ((blk b22).add 2) (.int .i64 x9) w25 (fun w26 =>
 doSt ((blk b22).add 3) (.int .i64 x10) w26 (fun w27 =>
 doSt ((blk b22).add 4) (.int .u64 x11) w27 (fun w28 =>
 doSt ((blk b22).add 5) (.bool x12) w28 (fun w29 =>
 doSt ((blk b22).add 6) (.bool x13) w29 (fun w30 =>
 doCall Tryz.prog (.func (.func 251) #[] #[]) #[.slice xp14 xn15 xc16] w30 (retS (fun v33 w34 => ∃ (x31 : Int), ∃ (x32 : Int), v33 = (.tuple #[.int .i64 x31, .int .i64 x32] : Value) ∧ (
 ifB ((x32 : Int) != 0) (
 R (.returned (.tuple #[.int .i64 (IntKind.wrap .i64 (1 + x31)), .int .i64 x32])) w34) (
 doCall Tryz.prog (.func (.func 251) #[] #[]) #[.slice xp17 xn18 xc19] w34 (retS (fun v37 w38 => ∃ (x35 : Int), ∃ (x36 : Int), v37 = (.tuple #[.int .i64 x35, .int .i64 x36] : Value) ∧ (
 R (.returned (.tuple #[.int .i64 (IntKind.wrap .i64 ((IntKind.wrap .i64 (1 + x31)) + x35)), .int .i64 x36])) w38)) (fun ch w => Kfn R ch [] w))))) (fun ch w => Kfn R ch [] w)))))))))))) (fun ch w => Kfn R ch [] w))))) (fun ch w => Kfn R ch [] w)))
set_option maxRecDepth 100000 in
theorem sh251_ok (l_p1 : Option Addr) (l_n2 : Nat) (l_c3 : Nat) {R : Ending → World → Prop} {w : World} : sh251 l_p1 l_n2 l_c3 R w → Calls Tryz.prog 251 #[.slice l_p1 l_n2 l_c3] w R :=
  calls_of_eq (ann := fun _ => []) (fn := Tryz.f251) (c := bodyOf Tryz.f251) (args := #[.slice l_p1 l_n2 l_c3]) 400 follows_mixed Tryz.func251 (by kernel_rfl) (by kernel_rfl)
set_option maxRecDepth 100000 in
/-- joinery/joineryref16.Red -/
def sh252 (l_p1 : Option Addr) (l_n2 : Nat) (l_c3 : Nat) (R : Ending → World → Prop) (w : World) : Prop :=
 doCall Tryz.prog (.func (.func 268) #[] #[]) #[.slice l_p1 l_n2 l_c3] w (retS (fun v5 w6 => ∃ (x4 : Int), v5 = (.int .u64 x4 : Value) ∧ (
 2 ≠ (0 : Int) ∧ (
 R (.returned (.bool (((Int.tmod x4 2) : Int) == 1))) w6))) (fun ch w => Kfn R ch [] w))
set_option maxRecDepth 100000 in
theorem sh252_ok (l_p1 : Option Addr) (l_n2 : Nat) (l_c3 : Nat) {R : Ending → World → Prop} {w : World} : sh252 l_p1 l_n2 l_c3 R w → Calls Tryz.prog 252 #[.slice l_p1 l_n2 l_c3] w R :=
  calls_of_eq (ann := fun _ => []) (fn := Tryz.f252) (c := bodyOf Tryz.f252) (args := #[.slice l_p1 l_n2 l_c3]) 400 follows_mixed Tryz.func252 (by kernel_rfl) (by kernel_rfl)
set_option maxRecDepth 100000 in
/-- joinery/joineryref18.Like -/
def sh253 (a_1 : Int) (b_2 : Int) (R : Ending → World → Prop) (w : World) : Prop :=
 let K5 : Bool → World → Prop := fun (x3 : Bool) (w4 : World) => 
 ifB x3 (
 R (.returned (.bool false)) w4) (
 let K8 : Bool → World → Prop := fun (x6 : Bool) (w7 : World) => 
 R (.returned (.bool x6)) w7
 ifB (decide (((IntKind.wrap .i64 (29 * (IntKind.wrap .i64 (a_1 + b_2)))) : Int) ≤ (IntKind.wrap .i64 (100 * a_1)))) (
 K8 (decide (((IntKind.wrap .i64 (29 * (IntKind.wrap .i64 (a_1 + b_2)))) : Int) ≤ (IntKind.wrap .i64 (100 * b_2)))) w4) (
 R (.returned (.bool false)) w4))
 ifB (decide ((a_1 : Int) < 1)) (
 R (.returned (.bool false)) w) (
 ifB (decide ((b_2 : Int) < 1)) (
 R (.returned (.bool false)) w) (
 ifB (decide ((a_1 : Int) > 1099511627776)) (
 R (.returned (.bool false)) w) (
 K5 (decide ((b_2 : Int) > 1099511627776)) w)))
set_option maxRecDepth 100000 in
theorem sh253_ok (a_1 : Int) (b_2 : Int) {R : Ending → World → Prop} {w : World} : sh253 a_1 b_2 R w → Calls Tryz.prog 253 #[.int .i64 a_1, .int .i64 b_2] w R :=
  calls_of_eq (ann := fun _ => []) (fn := Tryz.f253) (c := bodyOf Tryz.f253) (args := #[.int .i64 a_1, .int .i64 b_2]) 400 follows_mixed Tryz.func253 (by kernel_rfl) (by kernel_rfl)
set_option maxRecDepth 100000 in
/-- joinery/joineryref20.over -/
def sh254 (l_p1 : Option Addr) (l_n2 : Nat) (_l_c3 : Nat) (x_4 : Int) (x_5 : Int) (x_6 : Int) (x_7 : Int) (x_8 : Int) (x_9 : Bool) (x_10 : Bool) (R : Ending → World → Prop) (w : World) : Prop :=
 doAl (.cells #[.int .i64 x_4, .int .i64 x_5, .int .i64 x_6, .int .i64 x_7, .int .u64 x_8, .bool x_9, .bool x_10] 97) w (fun b11 w12 =>
 let K15 : Bool → World → Prop := fun (x13 : Bool) (w14 : World) => 
 R (.returned (.bool x13)) w14
 doDr w12 (fun w17 =>
 ∃ (C16 : World → Prop), C16 w17 ∧ (
 ifB (decide ((((l_n2 : Nat) : Int) : Int) > 0)) (
 doIx l_p1 l_n2 7 (0) (fun a18 =>
 ∃ (x19 : Int), (∀ w, C16 w → World.cell? w (a18.add 0) = some (.int .i64 x19)) ∧ (
 ∃ (x20 : Int), (∀ w, C16 w → World.cell? w (a18.add 1) = some (.int .i64 x20)) ∧ (
 ∃ (x21 : Int), (∀ w, C16 w → World.cell? w (a18.add 2) = some (.int .i64 x21)) ∧ (
 ∃ (x22 : Int), (∀ w, C16 w → World.cell? w (a18.add 3) = some (.int .i64 x22)) ∧ (
 ∃ (x23 : Int), (∀ w, C16 w → World.cell? w (a18.add 4) = some (.int .u64 x23)) ∧ (
 ∃ (x24 : Bool), (∀ w, C16 w → World.cell? w (a18.add 5) = some (.bool x24)) ∧ (
 ∃ (x25 : Bool), (∀ w, C16 w → World.cell? w (a18.add 6) = some (.bool x25)) ∧ (
 ∃ (x26 : Int), (∀ w, C16 w → World.cell? w ((blk b11).add 0) = some (.int .i64 x26)) ∧ (
 ∃ (x27 : Int), (∀ w, C16 w → World.cell? w ((blk b11).add 1) = some (.int .i64 x27)) ∧ (
 ∃ (x28 : Int), (∀ w, C16 w → World.cell? w ((blk b11).add 2) = some (.int .i64 x28)) ∧ (
 ∃ (x29 : Int), (∀ w, C16 w → World.cell? w ((blk b11).add 3) = some (.int .i64 x29)) ∧ (
 ∃ (x30 : Int), (∀ w, C16 w → World.cell? w ((blk b11).add 4) = some (.int .u64 x30)) ∧ (
 ∃ (x31 : Bool), (∀ w, C16 w → World.cell? w ((blk b11).add 5) = some (.bool x31)) ∧ (
 ∃ (x32 : Bool), (∀ w, C16 w → World.cell? w ((blk b11).add 6) = some (.bool x32)) ∧ (
 doCall Tryz.prog (.func (.func 89) #[] #[]) #[.agg #[.int .i64 x19, .int .i64 x20, .int .i64 x21, .int .i64 x22, .int .u64 x23, .bool x24, .bool x25]] w17 (retS (fun v36 w37 => ∃ (x33 : Int), ∃ (x34 : Int), ∃ (x35 : Int), v36 = (.agg #[.int .i64 x33, .int .i64 x34, .int .u64 x35] : Value) ∧ (
 C16 w37 ∧ (
 doCall Tryz.prog (.func (.func 89) #[] #[]) #[.agg #[.int .i64 x26, .int .i64 x27, .int .i64 x28, .int .i64 x29, .int .u64 x30, .bool x31, .bool x32]] w37 (retS (fun v41 w42 => ∃ (x38 : Int), ∃ (x39 : Int), ∃ (x40 : Int), v41 = (.agg #[.int .i64 x38, .int .i64 x39, .int .u64 x40] : Value) ∧ (
 C16 w42 ∧ (
 doCall Tryz.prog (.func (.func 270) #[] #[]) #[.agg #[.int .i64 x33, .int .i64 x34, .int .u64 x35], .agg #[.int .i64 x38, .int .i64 x39, .int .u64 x40]] w42 (retS (fun v44 w45 => ∃ (x43 : Bool), v44 = (.bool x43 : Value) ∧ (
 C16 w45 ∧ (
 K15 x43 w45))) (fun ch w => Kfn R ch [] w))))) (fun ch w => Kfn R ch [] w))))) (fun ch w => Kfn R ch [] w)))))))))))))))))) (
 R (.returned (.bool false)) w17))))
set_option maxRecDepth 100000 in
theorem sh254_ok (l_p1 : Option Addr) (l_n2 : Nat) (l_c3 : Nat) (x_4 : Int) (x_5 : Int) (x_6 : Int) (x_7 : Int) (x_8 : Int) (x_9 : Bool) (x_10 : Bool) {R : Ending → World → Prop} {w : World} : sh254 l_p1 l_n2 l_c3 x_4 x_5 x_6 x_7 x_8 x_9 x_10 R w → Calls Tryz.prog 254 #[.slice l_p1 l_n2 l_c3, .agg #[.int .i64 x_4, .int .i64 x_5, .int .i64 x_6, .int .i64 x_7, .int .u64 x_8, .bool x_9, .bool x_10]] w R :=
  calls_of_eq (ann := fun _ => []) (fn := Tryz.f254) (c := bodyOf Tryz.f254) (args := #[.slice l_p1 l_n2 l_c3, .agg #[.int .i64 x_4, .int .i64 x_5, .int .i64 x_6, .int .i64 x_7, .int .u64 x_8, .bool x_9, .bool x_10]]) 400 follows_mixed Tryz.func254 (by kernel_rfl) (by kernel_rfl)
set_option maxRecDepth 100000 in
/-- math/bits.Reverse64 -/
def sh255 (x_1 : Int) (R : Ending → World → Prop) (w : World) : Prop :=
 (0 : Int) ≤ 1 ∧ (
 (0 : Int) ≤ 1 ∧ (
 (0 : Int) ≤ 2 ∧ (
 (0 : Int) ≤ 2 ∧ (
 (0 : Int) ≤ 4 ∧ (
 (0 : Int) ≤ 4 ∧ (
 doCall Tryz.prog (.func (.func 271) #[] #[]) #[.int .u64 (bOr .u64 (bAnd .u64 (Int.fdiv (bOr .u64 (bAnd .u64 (Int.fdiv (bOr .u64 (bAnd .u64 (Int.fdiv x_1 (2 ^ (min (1 : Int).toNat (IntKind.bits .u64)))) 6148914691236517205) (IntKind.wrap .u64 ((bAnd .u64 x_1 6148914691236517205) * 2 ^ (min (1 : Int).toNat (IntKind.bits .u64))))) (2 ^ (min (2 : Int).toNat (IntKind.bits .u64)))) 3689348814741910323) (IntKind.wrap .u64 ((bAnd .u64 (bOr .u64 (bAnd .u64 (Int.fdiv x_1 (2 ^ (min (1 : Int).toNat (IntKind.bits .u64)))) 6148914691236517205) (IntKind.wrap .u64 ((bAnd .u64 x_1 6148914691236517205) * 2 ^ (min (1 : Int).toNat (IntKind.bits .u64))))) 3689348814741910323) * 2 ^ (min (2 : Int).toNat (IntKind.bits .u64))))) (2 ^ (min (4 : Int).toNat (IntKind.bits .u64)))) 1085102592571150095) (IntKind.wrap .u64 ((bAnd .u64 (bOr .u64 (bAnd .u64 (Int.fdiv (bOr .u64 (bAnd .u64 (Int.fdiv x_1 (2 ^ (min (1 : Int).toNat (IntKind.bits .u64)))) 6148914691236517205) (IntKind.wrap .u64 ((bAnd .u64 x_1 6148914691236517205) * 2 ^ (min (1 : Int).toNat (IntKind.bits .u64))))) (2 ^ (min (2 : Int).toNat (IntKind.bits .u64)))) 3689348814741910323) (IntKind.wrap .u64 ((bAnd .u64 (bOr .u64 (bAnd .u64 (Int.fdiv x_1 (2 ^ (min (1 : Int).toNat (IntKind.bits .u64)))) 6148914691236517205) (IntKind.wrap .u64 ((bAnd .u64 x_1 6148914691236517205) * 2 ^ (min (1 : Int).toNat (IntKind.bits .u64))))) 3689348814741910323) * 2 ^ (min (2 : Int).toNat (IntKind.bits .u64))))) 1085102592571150095) * 2 ^ (min (4 : Int).toNat (IntKind.bits .u64)))))] w (retS (fun v3 w4 => ∃ (x2 : Int), v3 = (.int .u64 x2 : Value) ∧ (
 R (.returned (.int .u64 x2)) w4)) (fun ch w => Kfn R ch [] w))))))))
set_option maxRecDepth 100000 in
theorem sh255_ok (x_1 : Int) {R : Ending → World → Prop} {w : World} : sh255 x_1 R w → Calls Tryz.prog 255 #[.int .u64 x_1] w R :=
  calls_of_eq (ann := fun _ => []) (fn := Tryz.f255) (c := bodyOf Tryz.f255) (args := #[.int .u64 x_1]) 400 follows_mixed Tryz.func255 (by kernel_rfl) (by kernel_rfl)
set_option maxRecDepth 100000 in
/-- math/bits.RotateLeft64 -/
def sh256 (x_1 : Int) (k_2 : Int) (R : Ending → World → Prop) (w : World) : Prop :=
 (0 : Int) ≤ (bAnd .u64 (IntKind.wrap .u64 k_2) 63) ∧ (
 (0 : Int) ≤ (IntKind.wrap .u64 (64 - (bAnd .u64 (IntKind.wrap .u64 k_2) 63))) ∧ (
 R (.returned (.int .u64 (bOr .u64 (IntKind.wrap .u64 (x_1 * 2 ^ (min ((bAnd .u64 (IntKind.wrap .u64 k_2) 63) : Int).toNat (IntKind.bits .u64)))) (Int.fdiv x_1 (2 ^ (min ((IntKind.wrap .u64 (64 - (bAnd .u64 (IntKind.wrap .u64 k_2) 63))) : Int).toNat (IntKind.bits .u64))))))) w))
set_option maxRecDepth 100000 in
theorem sh256_ok (x_1 : Int) (k_2 : Int) {R : Ending → World → Prop} {w : World} : sh256 x_1 k_2 R w → Calls Tryz.prog 256 #[.int .u64 x_1, .int .i64 k_2] w R :=
  calls_of_eq (ann := fun _ => []) (fn := Tryz.f256) (c := bodyOf Tryz.f256) (args := #[.int .u64 x_1, .int .i64 k_2]) 400 follows_mixed Tryz.func256 (by kernel_rfl) (by kernel_rfl)
set_option maxRecDepth 100000 in
/-- joinery/mix.steps -/
def sh257 (back_1 : Bool) (R : Ending → World → Prop) (w : World) : Prop :=
 doAl (.cells #[.bool back_1] 4) w (fun b2 w3 =>
 doCall Tryz.prog (.func (.func 272) #[] #[]) #[] w3 (retS (fun v10 w11 => ∃ (x4 : Int), ∃ (x5 : Int), ∃ (x6 : Int), ∃ (x7 : Int), ∃ (x8 : Int), ∃ (x9 : Int), v10 = (.agg #[.int .i64 x4, .int .u64 x5, .int .i64 x6, .int .u64 x7, .int .i64 x8, .int .u64 x9] : Value) ∧ (
 doAl (.cells #[.int .i64 0, .int .u64 0, .int .i64 0, .int .u64 0, .int .i64 0, .int .u64 0] 309) w11 (fun b12 w13 =>
 doSt ((blk b12).add 0) (.int .i64 x4) w13 (fun w14 =>
 doSt ((blk b12).add 1) (.int .u64 x5) w14 (fun w15 =>
 doSt ((blk b12).add 2) (.int .i64 x6) w15 (fun w16 =>
 doSt ((blk b12).add 3) (.int .u64 x7) w16 (fun w17 =>
 doSt ((blk b12).add 4) (.int .i64 x8) w17 (fun w18 =>
 doSt ((blk b12).add 5) (.int .u64 x9) w18 (fun w19 =>
 R (.returned (.func (.func 273) #[] #[.pointer (some (blk b2)), .pointer (some (blk b12))])) w19))))))))) (fun ch w => Kfn R ch [] w)))
set_option maxRecDepth 100000 in
theorem sh257_ok (back_1 : Bool) {R : Ending → World → Prop} {w : World} : sh257 back_1 R w → Calls Tryz.prog 257 #[.bool back_1] w R :=
  calls_of_eq (ann := fun _ => []) (fn := Tryz.f257) (c := bodyOf Tryz.f257) (args := #[.bool back_1]) 400 follows_mixed Tryz.func257 (by kernel_rfl) (by kernel_rfl)
set_option maxRecDepth 100000 in
/-- joinery/rb.wrong$1 -/
def sh260 (yield_f1 : Fn) (yield_x2 : Array Value) (yield_c3 : Array Value) (x4 : Addr) (R : Ending → World → Prop) (w : World) : Prop :=
 doAl (.cells #[.func yield_f1 yield_x2 yield_c3] 299) w (fun b5 w6 =>
 doAl (.cells #[.nilFunc] 159) w6 (fun b7 w8 =>
 doSt ((blk b7).add 0) (.func (.func 261) #[] #[.pointer (some (blk b5)), .pointer (some (blk b7))]) w8 (fun w9 =>
 ∃ (xf10 : Fn), ∃ (xx11 : Array Value), ∃ (xc12 : Array Value), World.cell? w9 (blk b7) = some (.func xf10 xx11 xc12) ∧ (
 ∃ (x13 : Option Addr), World.cell? w9 x4 = some (.pointer x13) ∧ (
 doCall Tryz.prog (.func xf10 xx11 xc12) #[.pointer x13] w9 (retS (fun v15 w16 => ∃ (x14 : Bool), v15 = (.bool x14 : Value) ∧ (
 R (.returned (.tuple #[])) w16)) (fun ch w => Kfn R ch [] w)))))))
set_option maxRecDepth 100000 in
theorem sh260_ok (yield_f1 : Fn) (yield_x2 : Array Value) (yield_c3 : Array Value) (x4 : Addr) {R : Ending → World → Prop} {w : World} : sh260 yield_f1 yield_x2 yield_c3 x4 R w → Calls Tryz.prog 260 #[.func yield_f1 yield_x2 yield_c3, .pointer (some x4)] w R :=
  calls_of_eq (ann := fun _ => []) (fn := Tryz.f260) (c := bodyOf Tryz.f260) (args := #[.func yield_f1 yield_x2 yield_c3, .pointer (some x4)]) 400 follows_mixed Tryz.func260 (by kernel_rfl) (by kernel_rfl)
set_option maxRecDepth 100000 in
/-- joinery/rb.wrong$1$1 -/
def sh261 (n_1 : Option Addr) (x2 : Addr) (x3 : Addr) (R : Ending → World → Prop) (w : World) : Prop :=
 let K6 : Bool → World → Prop := fun (x4 : Bool) (w5 : World) => 
 R (.returned (.bool x4)) w5
 doDr w (fun w8 =>
 ∃ (C7 : World → Prop), C7 w8 ∧ (
 ifB ((n_1).isNone) (
 R (.returned (.bool true)) w8) (
 ∃ (xf9 : Fn), ∃ (xx10 : Array Value), ∃ (xc11 : Array Value), (∀ w, C7 w → World.cell? w x2 = some (.func xf9 xx10 xc11)) ∧ (
 doCall Tryz.prog (.func (.func 262) #[] #[]) #[.pointer n_1] w8 (retS (fun v13 w14 => ∃ (x12 : Int), v13 = (.int .i64 x12 : Value) ∧ (
 C7 w14 ∧ (
 doCall Tryz.prog (.func xf9 xx10 xc11) #[.int .i64 x12] w14 (retS (fun v16 w17 => ∃ (x15 : Bool), v16 = (.bool x15 : Value) ∧ (
 C7 w17 ∧ (
 ifB x15 (
 ∃ (xf18 : Fn), ∃ (xx19 : Array Value), ∃ (xc20 : Array Value), (∀ w, C7 w → World.cell? w x3 = some (.func xf18 xx19 xc20)) ∧ (
 doCall Tryz.prog (.func (.func 108) #[] #[]) #[.pointer n_1] w17 (retS (fun v22 w23 => ∃ (x21 : Option Addr), v22 = (.pointer x21 : Value) ∧ (
 C7 w23 ∧ (
 doCall Tryz.prog (.func xf18 xx19 xc20) #[.pointer x21] w23 (retS (fun v25 w26 => ∃ (x24 : Bool), v25 = (.bool x24 : Value) ∧ (
 C7 w26 ∧ (
 ifB x24 (
 ∃ (xf27 : Fn), ∃ (xx28 : Array Value), ∃ (xc29 : Array Value), (∀ w, C7 w → World.cell? w x3 = some (.func xf27 xx28 xc29)) ∧ (
 doCall Tryz.prog (.func (.func 109) #[] #[]) #[.pointer n_1] w26 (retS (fun v31 w32 => ∃ (x30 : Option Addr), v31 = (.pointer x30 : Value) ∧ (
 C7 w32 ∧ (
 doCall Tryz.prog (.func xf27 xx28 xc29) #[.pointer x30] w32 (retS (fun v34 w35 => ∃ (x33 : Bool), v34 = (.bool x33 : Value) ∧ (
 C7 w35 ∧ (
 K6 x33 w35))) (fun ch w => Kfn R ch [] w))))) (fun ch w => Kfn R ch [] w)))) (
 R (.returned (.bool false)) w26)))) (fun ch w => Kfn R ch [] w))))) (fun ch w => Kfn R ch [] w)))) (
 R (.returned (.bool false)) w17)))) (fun ch w => Kfn R ch [] w))))) (fun ch w => Kfn R ch [] w))))))
set_option maxRecDepth 100000 in
theorem sh261_ok (n_1 : Option Addr) (x2 : Addr) (x3 : Addr) {R : Ending → World → Prop} {w : World} : sh261 n_1 x2 x3 R w → Calls Tryz.prog 261 #[.pointer n_1, .pointer (some x2), .pointer (some x3)] w R :=
  calls_of_eq (ann := fun _ => []) (fn := Tryz.f261) (c := bodyOf Tryz.f261) (args := #[.pointer n_1, .pointer (some x2), .pointer (some x3)]) 400 follows_mixed Tryz.func261 (by kernel_rfl) (by kernel_rfl)
set_option maxRecDepth 100000 in
/-- joinery/rb.one -/
def sh262 (n_1 : Option Addr) (R : Ending → World → Prop) (w : World) : Prop :=
 doCall Tryz.prog (.func (.func 108) #[] #[]) #[.pointer n_1] w (retS (fun v3 w4 => ∃ (x2 : Option Addr), v3 = (.pointer x2 : Value) ∧ (
 doCall Tryz.prog (.func (.func 237) #[] #[]) #[.pointer x2] w4 (retS (fun v7 w8 => ∃ (x5 : Int), ∃ (x6 : Int), v7 = (.agg #[.int .u64 x5, .int .u64 x6] : Value) ∧ (
 doCall Tryz.prog (.func (.func 109) #[] #[]) #[.pointer n_1] w8 (retS (fun v10 w11 => ∃ (x9 : Option Addr), v10 = (.pointer x9 : Value) ∧ (
 doCall Tryz.prog (.func (.func 237) #[] #[]) #[.pointer x9] w11 (retS (fun v14 w15 => ∃ (x12 : Int), ∃ (x13 : Int), v14 = (.agg #[.int .u64 x12, .int .u64 x13] : Value) ∧ (
 doCall Tryz.prog (.func (.func 237) #[] #[]) #[.pointer n_1] w15 (retS (fun v18 w19 => ∃ (x16 : Int), ∃ (x17 : Int), v18 = (.agg #[.int .u64 x16, .int .u64 x17] : Value) ∧ (
 doAl (.cells #[.int .u64 0, .int .u64 0] 276) w19 (fun b20 w21 =>
 doAl (.cells #[.int .u64 0, .int .u64 0] 276) w21 (fun b22 w23 =>
 doAl (.cells #[.int .u64 0, .int .u64 0] 276) w23 (fun b24 w25 =>
 doSt ((blk b20).add 0) (.int .u64 x5) w25 (fun w26 =>
 doSt ((blk b20).add 1) (.int .u64 x6) w26 (fun w27 =>
 doSt ((blk b22).add 0) (.int .u64 x12) w27 (fun w28 =>
 doSt ((blk b22).add 1) (.int .u64 x13) w28 (fun w29 =>
 doSt ((blk b24).add 0) (.int .u64 x16) w29 (fun w30 =>
 doSt ((blk b24).add 1) (.int .u64 x17) w30 (fun w31 =>
 let K33 : World → Prop := fun (w32 : World) => 
 R (.returned (.int .i64 0)) w32
 let K36 : Bool → World → Prop := fun (x34 : Bool) (w35 : World) => 
 ifB x34 (
 R (.returned (.int .i64 140)) w35) (
 let K39 : Bool → World → Prop := fun (x37 : Bool) (w38 : World) => 
 ifB x37 (
 R (.returned (.int .i64 8)) w38) (
 K33 w38)
 ∃ (x40 : Int), World.cell? w35 ((blk b20).add 1) = some (.int .u64 x40) ∧ (
 ∃ (x41 : Int), World.cell? w35 ((blk b22).add 1) = some (.int .u64 x41) ∧ (
 ifB ((x40 : Int) != x41) (
 R (.returned (.int .i64 8)) w35) (
 ∃ (x42 : Int), World.cell? w35 ((blk b24).add 0) = some (.int .u64 x42) ∧ (
 ifB ((x42 : Int) == 1) (
 ∃ (x43 : Int), World.cell? w35 ((blk b20).add 0) = some (.int .u64 x43) ∧ (
 ifB ((x43 : Int) == 1) (
 R (.returned (.int .i64 8)) w35) (
 ∃ (x44 : Int), World.cell? w35 ((blk b22).add 0) = some (.int .u64 x44) ∧ (
 K39 ((x44 : Int) == 1) w35)))) (
 K33 w35))))))
 doCall Tryz.prog (.func (.func 166) #[] #[]) #[.pointer n_1] w31 (retS (fun v46 w47 => ∃ (x45 : Int), v46 = (.int .u64 x45 : Value) ∧ (
 ifB ((x45 : Int) == 0) (
 R (.returned (.int .i64 140)) w47) (
 doDr w47 (fun w49 =>
 ∃ (C48 : World → Prop), C48 w49 ∧ (
 ∃ (x50 : Int), (∀ w, C48 w → World.cell? w ((blk b24).add 0) = some (.int .u64 x50)) ∧ (
 ∃ (x51 : Int), (∀ w, C48 w → World.cell? w ((blk b24).add 1) = some (.int .u64 x51)) ∧ (
 ∃ (x52 : Int), (∀ w, C48 w → World.cell? w ((blk b20).add 1) = some (.int .u64 x52)) ∧ (
 doCall Tryz.prog (.func (.func 236) #[] #[]) #[.int .u64 x52, .bool true] w49 (retS (fun v55 w56 => ∃ (x53 : Int), ∃ (x54 : Int), v55 = (.agg #[.int .u64 x53, .int .u64 x54] : Value) ∧ (
 C48 w56 ∧ (
 ifB (!(((x50 : Int) == x53) && (((x51 : Int) == x54) && true))) (
 ∃ (x57 : Int), (∀ w, C48 w → World.cell? w ((blk b20).add 1) = some (.int .u64 x57)) ∧ (
 doCall Tryz.prog (.func (.func 166) #[] #[]) #[.pointer n_1] w56 (retS (fun v59 w60 => ∃ (x58 : Int), v59 = (.int .u64 x58 : Value) ∧ (
 C48 w60 ∧ (
 doCall Tryz.prog (.func (.func 236) #[] #[]) #[.int .u64 x57, .bool false] w60 (retS (fun v63 w64 => ∃ (x61 : Int), ∃ (x62 : Int), v63 = (.agg #[.int .u64 x61, .int .u64 x62] : Value) ∧ (
 C48 w64 ∧ (
 doCall Tryz.prog (.func (.func 238) #[] #[]) #[.agg #[.int .u64 x61, .int .u64 x62]] w64 (retS (fun v66 w67 => ∃ (x65 : Int), v66 = (.int .u64 x65 : Value) ∧ (
 C48 w67 ∧ (
 K36 ((x58 : Int) != x65) w67))) (fun ch w => Kfn R ch [] w))))) (fun ch w => Kfn R ch [] w))))) (fun ch w => Kfn R ch [] w)))) (
 K36 false w56)))) (fun ch w => Kfn R ch [] w)))))))))) (fun ch w => Kfn R ch [] w))))))))))))) (fun ch w => Kfn R ch [] w)))) (fun ch w => Kfn R ch [] w)))) (fun ch w => Kfn R ch [] w)))) (fun ch w => Kfn R ch [] w)))) (fun ch w => Kfn R ch [] w))
set_option maxRecDepth 100000 in
theorem sh262_ok (n_1 : Option Addr) {R : Ending → World → Prop} {w : World} : sh262 n_1 R w → Calls Tryz.prog 262 #[.pointer n_1] w R :=
  calls_of_eq (ann := fun _ => []) (fn := Tryz.f262) (c := bodyOf Tryz.f262) (args := #[.pointer n_1]) 400 follows_mixed Tryz.func262 (by kernel_rfl) (by kernel_rfl)
end Go.Proofs.YtbaoihmffobneaaGreat

namespace Go.Proofs.YtbaoihmffobneaaGreat
open Go Go.Sh
set_option maxRecDepth 100000 in
/-- joinery/wbjoin.of -/
def sh263 (t_1 : Option Addr) (R : Ending → World → Prop) (w : World) : Prop :=
 doAl (.cells #[.pointer none, .pointer none] 301) w (fun b2 w3 =>
 doCall Tryz.prog (.func (.func 108) #[] #[]) #[.pointer t_1] w3 (retS (fun v5 w6 => ∃ (x4 : Option Addr), v5 = (.pointer x4 : Value) ∧ (
 doCall Tryz.prog (.func (.func 109) #[] #[]) #[.pointer t_1] w6 (retS (fun v8 w9 => ∃ (x7 : Option Addr), v8 = (.pointer x7 : Value) ∧ (
 doSt ((blk b2).add 0) (.pointer x4) w9 (fun w10 =>
 doSt ((blk b2).add 1) (.pointer x7) w10 (fun w11 =>
 ∃ (x12 : Option Addr), World.cell? w11 ((blk b2).add 0) = some (.pointer x12) ∧ (
 ∃ (x13 : Option Addr), World.cell? w11 ((blk b2).add 1) = some (.pointer x13) ∧ (
 R (.returned (.agg #[.pointer x12, .pointer x13])) w11)))))) (fun ch w => Kfn R ch [] w)))) (fun ch w => Kfn R ch [] w)))
set_option maxRecDepth 100000 in
theorem sh263_ok (t_1 : Option Addr) {R : Ending → World → Prop} {w : World} : sh263 t_1 R w → Calls Tryz.prog 263 #[.pointer t_1] w R :=
  calls_of_eq (ann := fun _ => []) (fn := Tryz.f263) (c := bodyOf Tryz.f263) (args := #[.pointer t_1]) 400 follows_mixed Tryz.func263 (by kernel_rfl) (by kernel_rfl)
set_option maxRecDepth 100000 in
/-- joinery/joineryref14.Tag -/
def sh268 (l_p1 : Option Addr) (l_n2 : Nat) (_l_c3 : Nat) (R : Ending → World → Prop) (w : World) : Prop :=
 ifB ((((l_n2 : Nat) : Int) : Int) == 0) (
 R (.returned (.int .u64 0)) w) (
 doIx l_p1 l_n2 7 (0) (fun a4 =>
 ∃ (x5 : Int), World.cell? w (a4.add 4) = some (.int .u64 x5) ∧ (
 R (.returned (.int .u64 x5)) w)))
set_option maxRecDepth 100000 in
theorem sh268_ok (l_p1 : Option Addr) (l_n2 : Nat) (l_c3 : Nat) {R : Ending → World → Prop} {w : World} : sh268 l_p1 l_n2 l_c3 R w → Calls Tryz.prog 268 #[.slice l_p1 l_n2 l_c3] w R :=
  calls_of_eq (ann := fun _ => []) (fn := Tryz.f268) (c := bodyOf Tryz.f268) (args := #[.slice l_p1 l_n2 l_c3]) 400 follows_mixed Tryz.func268 (by kernel_rfl) (by kernel_rfl)
set_option maxRecDepth 100000 in
/-- joinery/joineryref16.one -/
def sh269 (l_p1 : Option Addr) (l_n2 : Nat) (l_c3 : Nat) (R : Ending → World → Prop) (w : World) : Prop :=
 doCall Tryz.prog (.func (.func 64) #[] #[]) #[.slice l_p1 l_n2 l_c3] w (retS (fun v17 w18 => ∃ (x4 : Int), ∃ (x5 : Int), ∃ (x6 : Int), ∃ (x7 : Int), ∃ (x8 : Int), ∃ (x9 : Bool), ∃ (x10 : Bool), ∃ (xp11 : Option Addr), ∃ (xn12 : Nat), ∃ (xc13 : Nat), ∃ (xp14 : Option Addr), ∃ (xn15 : Nat), ∃ (xc16 : Nat), v17 = (.tuple #[.agg #[.int .i64 x4, .int .i64 x5, .int .i64 x6, .int .i64 x7, .int .u64 x8, .bool x9, .bool x10], .slice xp11 xn12 xc13, .slice xp14 xn15 xc16] : Value) ∧ (
 doAl (.cells #[.int .i64 0, .int .i64 0, .int .i64 0, .int .i64 0, .int .u64 0, .bool false, .bool false] 97) w18 (fun b19 w20 =>
 doSt ((blk b19).add 0) (.int .i64 x4) w20 (fun w21 =>
 doSt ((blk b19).add 1) (.int .i64 x5) w21 (fun w22 =>
 doSt ((blk b19).add 2) (.int .i64 x6) w22 (fun w23 =>
 doSt ((blk b19).add 3) (.int .i64 x7) w23 (fun w24 =>
 doSt ((blk b19).add 4) (.int .u64 x8) w24 (fun w25 =>
 doSt ((blk b19).add 5) (.bool x9) w25 (fun w26 =>
 doSt ((blk b19).add 6) (.bool x10) w26 (fun w27 =>
 doCall Tryz.prog (.func (.func 283) #[] #[]) #[.slice xp11 xn12 xc13] w27 (retS (fun v29 w30 => ∃ (x28 : Int), v29 = (.int .u64 x28 : Value) ∧ (
 let K32 : World → Prop := fun (w31 : World) => 
 let K34 : World → Prop := fun (w33 : World) => 
 R (.returned (.int .i64 0)) w33
 let K37 : Bool → World → Prop := fun (x35 : Bool) (w36 : World) => 
 ifB x35 (
 R (.returned (.int .i64 8)) w36) (
 K34 w36)
 doCall Tryz.prog (.func (.func 283) #[] #[]) #[.slice xp14 xn15 xc16] w31 (retS (fun v39 w40 => ∃ (x38 : Int), v39 = (.int .u64 x38 : Value) ∧ (
 ifB ((x38 : Int) != x28) (
 R (.returned (.int .i64 8)) w40) (
 ∃ (x41 : Int), World.cell? w40 ((blk b19).add 4) = some (.int .u64 x41) ∧ (
 2 ≠ (0 : Int) ∧ (
 ifB (((Int.tmod x41 2) : Int) == 1) (
 doCall Tryz.prog (.func (.func 252) #[] #[]) #[.slice xp11 xn12 xc13] w40 (retS (fun v43 w44 => ∃ (x42 : Bool), v43 = (.bool x42 : Value) ∧ (
 ifB x42 (
 R (.returned (.int .i64 8)) w44) (
 doCall Tryz.prog (.func (.func 252) #[] #[]) #[.slice xp14 xn15 xc16] w44 (retS (fun v46 w47 => ∃ (x45 : Bool), v46 = (.bool x45 : Value) ∧ (
 K37 x45 w47)) (fun ch w => Kfn R ch [] w))))) (fun ch w => Kfn R ch [] w))) (
 K34 w40)))))) (fun ch w => Kfn R ch [] w))
 let K50 : Bool → World → Prop := fun (x48 : Bool) (w49 : World) => 
 ifB x48 (
 R (.returned (.int .i64 140)) w49) (
 K32 w49)
 ∃ (x51 : Int), World.cell? w30 ((blk b19).add 4) = some (.int .u64 x51) ∧ (
 ifB ((x51 : Int) == 0) (
 R (.returned (.int .i64 140)) w30) (
 ∃ (x52 : Int), World.cell? w30 ((blk b19).add 4) = some (.int .u64 x52) ∧ (
 ifB ((x52 : Int) != (IntKind.wrap .u64 ((IntKind.wrap .u64 (2 * x28)) + 1))) (
 ∃ (x53 : Int), World.cell? w30 ((blk b19).add 4) = some (.int .u64 x53) ∧ (
 K50 ((x53 : Int) != (IntKind.wrap .u64 ((IntKind.wrap .u64 (2 * x28)) + 2))) w30)) (
 K32 w30)))))) (fun ch w => Kfn R ch [] w)))))))))))) (fun ch w => Kfn R ch [] w))
set_option maxRecDepth 100000 in
theorem sh269_ok (l_p1 : Option Addr) (l_n2 : Nat) (l_c3 : Nat) {R : Ending → World → Prop} {w : World} : sh269 l_p1 l_n2 l_c3 R w → Calls Tryz.prog 269 #[.slice l_p1 l_n2 l_c3] w R :=
  calls_of_eq (ann := fun _ => []) (fn := Tryz.f269) (c := bodyOf Tryz.f269) (args := #[.slice l_p1 l_n2 l_c3]) 400 follows_mixed Tryz.func269 (by kernel_rfl) (by kernel_rfl)
set_option maxRecDepth 100000 in
/-- joinery/joineryref20.Above -/
def sh270 (a_1 : Int) (a_2 : Int) (a_3 : Int) (b_4 : Int) (b_5 : Int) (b_6 : Int) (R : Ending → World → Prop) (w : World) : Prop :=
 doAl (.cells #[.int .i64 a_1, .int .i64 a_2, .int .u64 a_3] 93) w (fun b7 w8 =>
 doAl (.cells #[.int .i64 b_4, .int .i64 b_5, .int .u64 b_6] 93) w8 (fun b9 w10 =>
 let K13 : Bool → World → Prop := fun (x11 : Bool) (w12 : World) => 
 R (.returned (.bool x11)) w12
 ∃ (x14 : Int), World.cell? w10 ((blk b7).add 2) = some (.int .u64 x14) ∧ (
 ∃ (x15 : Int), World.cell? w10 ((blk b9).add 2) = some (.int .u64 x15) ∧ (
 ifB (decide ((x14 : Int) > x15)) (
 R (.returned (.bool true)) w10) (
 ∃ (x16 : Int), World.cell? w10 ((blk b7).add 2) = some (.int .u64 x16) ∧ (
 ∃ (x17 : Int), World.cell? w10 ((blk b9).add 2) = some (.int .u64 x17) ∧ (
 ifB ((x16 : Int) == x17) (
 ∃ (x18 : Int), World.cell? w10 ((blk b7).add 0) = some (.int .i64 x18) ∧ (
 ∃ (x19 : Int), World.cell? w10 ((blk b9).add 0) = some (.int .i64 x19) ∧ (
 K13 (decide ((x18 : Int) > x19)) w10))) (
 R (.returned (.bool false)) w10))))))))
set_option maxRecDepth 100000 in
theorem sh270_ok (a_1 : Int) (a_2 : Int) (a_3 : Int) (b_4 : Int) (b_5 : Int) (b_6 : Int) {R : Ending → World → Prop} {w : World} : sh270 a_1 a_2 a_3 b_4 b_5 b_6 R w → Calls Tryz.prog 270 #[.agg #[.int .i64 a_1, .int .i64 a_2, .int .u64 a_3], .agg #[.int .i64 b_4, .int .i64 b_5, .int .u64 b_6]] w R :=
  calls_of_eq (ann := fun _ => []) (fn := Tryz.f270) (c := bodyOf Tryz.f270) (args := #[.agg #[.int .i64 a_1, .int .i64 a_2, .int .u64 a_3], .agg #[.int .i64 b_4, .int .i64 b_5, .int .u64 b_6]]) 400 follows_mixed Tryz.func270 (by kernel_rfl) (by kernel_rfl)
set_option maxRecDepth 100000 in
/-- math/bits.ReverseBytes64 -/
def sh271 (x_1 : Int) (R : Ending → World → Prop) (w : World) : Prop :=
 (0 : Int) ≤ 8 ∧ (
 (0 : Int) ≤ 8 ∧ (
 (0 : Int) ≤ 16 ∧ (
 (0 : Int) ≤ 16 ∧ (
 (0 : Int) ≤ 32 ∧ (
 (0 : Int) ≤ 32 ∧ (
 R (.returned (.int .u64 (bOr .u64 (Int.fdiv (bOr .u64 (bAnd .u64 (Int.fdiv (bOr .u64 (bAnd .u64 (Int.fdiv x_1 (2 ^ (min (8 : Int).toNat (IntKind.bits .u64)))) 71777214294589695) (IntKind.wrap .u64 ((bAnd .u64 x_1 71777214294589695) * 2 ^ (min (8 : Int).toNat (IntKind.bits .u64))))) (2 ^ (min (16 : Int).toNat (IntKind.bits .u64)))) 281470681808895) (IntKind.wrap .u64 ((bAnd .u64 (bOr .u64 (bAnd .u64 (Int.fdiv x_1 (2 ^ (min (8 : Int).toNat (IntKind.bits .u64)))) 71777214294589695) (IntKind.wrap .u64 ((bAnd .u64 x_1 71777214294589695) * 2 ^ (min (8 : Int).toNat (IntKind.bits .u64))))) 281470681808895) * 2 ^ (min (16 : Int).toNat (IntKind.bits .u64))))) (2 ^ (min (32 : Int).toNat (IntKind.bits .u64)))) (IntKind.wrap .u64 ((bOr .u64 (bAnd .u64 (Int.fdiv (bOr .u64 (bAnd .u64 (Int.fdiv x_1 (2 ^ (min (8 : Int).toNat (IntKind.bits .u64)))) 71777214294589695) (IntKind.wrap .u64 ((bAnd .u64 x_1 71777214294589695) * 2 ^ (min (8 : Int).toNat (IntKind.bits .u64))))) (2 ^ (min (16 : Int).toNat (IntKind.bits .u64)))) 281470681808895) (IntKind.wrap .u64 ((bAnd .u64 (bOr .u64 (bAnd .u64 (Int.fdiv x_1 (2 ^ (min (8 : Int).toNat (IntKind.bits .u64)))) 71777214294589695) (IntKind.wrap .u64 ((bAnd .u64 x_1 71777214294589695) * 2 ^ (min (8 : Int).toNat (IntKind.bits .u64))))) 281470681808895) * 2 ^ (min (16 : Int).toNat (IntKind.bits .u64))))) * 2 ^ (min (32 : Int).toNat (IntKind.bits .u64))))))) w))))))
set_option maxRecDepth 100000 in
theorem sh271_ok (x_1 : Int) {R : Ending → World → Prop} {w : World} : sh271 x_1 R w → Calls Tryz.prog 271 #[.int .u64 x_1] w R :=
  calls_of_eq (ann := fun _ => []) (fn := Tryz.f271) (c := bodyOf Tryz.f271) (args := #[.int .u64 x_1]) 400 follows_mixed Tryz.func271 (by kernel_rfl) (by kernel_rfl)
set_option maxRecDepth 100000 in
/-- joinery/mix.all -/
def sh272  (R : Ending → World → Prop) (w : World) : Prop :=
 doAl (.cells #[.int .i64 0, .int .u64 0, .int .i64 0, .int .u64 0, .int .i64 0, .int .u64 0] 309) w (fun b1 w2 =>
 doSt ((blk b1).add 0) (.int .i64 30) w2 (fun w3 =>
 doSt ((blk b1).add 1) (.int .u64 13787848793156543929) w3 (fun w4 =>
 doSt ((blk b1).add 2) (.int .i64 27) w4 (fun w5 =>
 doSt ((blk b1).add 3) (.int .u64 10723151780598845931) w5 (fun w6 =>
 doSt ((blk b1).add 4) (.int .i64 31) w6 (fun w7 =>
 doSt ((blk b1).add 5) (.int .u64 1) w7 (fun w8 =>
 ∃ (x9 : Int), World.cell? w8 ((blk b1).add 0) = some (.int .i64 x9) ∧ (
 ∃ (x10 : Int), World.cell? w8 ((blk b1).add 1) = some (.int .u64 x10) ∧ (
 ∃ (x11 : Int), World.cell? w8 ((blk b1).add 2) = some (.int .i64 x11) ∧ (
 ∃ (x12 : Int), World.cell? w8 ((blk b1).add 3) = some (.int .u64 x12) ∧ (
 ∃ (x13 : Int), World.cell? w8 ((blk b1).add 4) = some (.int .i64 x13) ∧ (
 ∃ (x14 : Int), World.cell? w8 ((blk b1).add 5) = some (.int .u64 x14) ∧ (
 R (.returned (.agg #[.int .i64 x9, .int .u64 x10, .int .i64 x11, .int .u64 x12, .int .i64 x13, .int .u64 x14])) w8)))))))))))))
set_option maxRecDepth 100000 in
theorem sh272_ok  {R : Ending → World → Prop} {w : World} : sh272  R w → Calls Tryz.prog 272 #[] w R :=
  calls_of_eq (ann := fun _ => []) (fn := Tryz.f272) (c := bodyOf Tryz.f272) (args := #[]) 400 follows_mixed Tryz.func272 (by kernel_rfl) (by kernel_rfl)
set_option maxRecDepth 100000 in
/-- joinery/mix.steps$1 -/
def sh273 (yield_f1 : Fn) (yield_x2 : Array Value) (yield_c3 : Array Value) (x4 : Addr) (x5 : Addr) (R : Ending → World → Prop) (w : World) : Prop :=
 ∃ (I6 : List Value → World → Prop) (μ7 : List Value → World → Nat), I6 [.int .i64 0] w ∧ (∀ (x10 : Int), ∀ (_j8 : Nat → Value) (w9 : World), I6 [.int .i64 x10] w9 → (
 ifB (decide ((x10 : Int) < 3)) (
 let K13 : Int → World → Prop := fun (k_11 : Int) (w12 : World) => 
 doIx (some x5) 3 2 (k_11) (fun a14 =>
 ∃ (x15 : Int), World.cell? w12 (a14.add 0) = some (.int .i64 x15) ∧ (
 ∃ (x16 : Int), World.cell? w12 (a14.add 1) = some (.int .u64 x16) ∧ (
 doCall Tryz.prog (.func yield_f1 yield_x2 yield_c3) #[.agg #[.int .i64 x15, .int .u64 x16]] w12 (retS (fun v18 w19 => ∃ (x17 : Bool), v18 = (.bool x17 : Value) ∧ (
 ifB (!x17) (
 R (.returned (.tuple #[])) w19) (
 I6 [.int .i64 (IntKind.wrap .i64 (x10 + 1))] w19 ∧ μ7 [.int .i64 (IntKind.wrap .i64 (x10 + 1))] w19 < μ7 [.int .i64 x10] w9))) (fun ch w => Kfn R ch [] w)))))
 ∃ (x20 : Bool), World.cell? w9 x4 = some (.bool x20) ∧ (
 ifB x20 (
 K13 (IntKind.wrap .i64 (2 - x10)) w9) (
 K13 x10 w9))) (
 R (.returned (.tuple #[])) w9)))
set_option maxRecDepth 100000 in
theorem sh273_ok (yield_f1 : Fn) (yield_x2 : Array Value) (yield_c3 : Array Value) (x4 : Addr) (x5 : Addr) {R : Ending → World → Prop} {w : World} : sh273 yield_f1 yield_x2 yield_c3 x4 x5 R w → Calls Tryz.prog 273 #[.func yield_f1 yield_x2 yield_c3, .pointer (some x4), .pointer (some x5)] w R :=
  calls_of_eq (ann := fun i => if i = 0 then [(5, .int .i64 0)] else []) (fn := Tryz.f273) (c := bodyOf Tryz.f273) (args := #[.func yield_f1 yield_x2 yield_c3, .pointer (some x4), .pointer (some x5)]) 400 follows_mixed Tryz.func273 (by kernel_rfl) (by kernel_rfl)
set_option maxRecDepth 100000 in
/-- joinery/joineryref16.High -/
def sh283 (l_p1 : Option Addr) (l_n2 : Nat) (l_c3 : Nat) (R : Ending → World → Prop) (w : World) : Prop :=
 doCall Tryz.prog (.func (.func 268) #[] #[]) #[.slice l_p1 l_n2 l_c3] w (retS (fun v5 w6 => ∃ (x4 : Int), v5 = (.int .u64 x4 : Value) ∧ (
 2 ≠ (0 : Int) ∧ (
 R (.returned (.int .u64 (IntKind.wrap .u64 (Int.tdiv x4 2)))) w6))) (fun ch w => Kfn R ch [] w))
set_option maxRecDepth 100000 in
theorem sh283_ok (l_p1 : Option Addr) (l_n2 : Nat) (l_c3 : Nat) {R : Ending → World → Prop} {w : World} : sh283 l_p1 l_n2 l_c3 R w → Calls Tryz.prog 283 #[.slice l_p1 l_n2 l_c3] w R :=
  calls_of_eq (ann := fun _ => []) (fn := Tryz.f283) (c := bodyOf Tryz.f283) (args := #[.slice l_p1 l_n2 l_c3]) 400 follows_mixed Tryz.func283 (by kernel_rfl) (by kernel_rfl)
set_option maxRecDepth 100000 in
/-- (joinery/scheme.plain).faces -/
def sh307 (p_1 : ByteArray) (p_f2 : Fn) (p_x3 : Array Value) (p_c4 : Array Value) (p_f5 : Fn) (p_x6 : Array Value) (p_c7 : Array Value) (p_f8 : Fn) (p_x9 : Array Value) (p_c10 : Array Value) (p_f11 : Fn) (p_x12 : Array Value) (p_c13 : Array Value) (p_f14 : Fn) (p_x15 : Array Value) (p_c16 : Array Value) (p_f17 : Fn) (p_x18 : Array Value) (p_c19 : Array Value) (R : Ending → World → Prop) (w : World) : Prop :=
 doAl (.cells #[.string p_1, .func p_f2 p_x3 p_c4, .func p_f5 p_x6 p_c7, .func p_f8 p_x9 p_c10, .func p_f11 p_x12 p_c13, .func p_f14 p_x15 p_c16, .func p_f17 p_x18 p_c19] 215) w (fun b20 w21 =>
 doAl (.cells #[.string (⟨#[]⟩ : ByteArray), .nilFunc, .nilFunc, .nilFunc, .nilFunc, .nilFunc, .nilFunc, .bool false] 162) w21 (fun b22 w23 =>
 ∃ (x24 : ByteArray), World.cell? w23 ((blk b20).add 0) = some (.string x24) ∧ (
 ∃ (x25 : ByteArray), World.cell? w23 ((blk b20).add 0) = some (.string x25) ∧ (
 ∃ (xf26 : Fn), ∃ (xx27 : Array Value), ∃ (xc28 : Array Value), World.cell? w23 ((blk b20).add 1) = some (.func xf26 xx27 xc28) ∧ (
 ∃ (xf29 : Fn), ∃ (xx30 : Array Value), ∃ (xc31 : Array Value), World.cell? w23 ((blk b20).add 2) = some (.func xf29 xx30 xc31) ∧ (
 ∃ (xf32 : Fn), ∃ (xx33 : Array Value), ∃ (xc34 : Array Value), World.cell? w23 ((blk b20).add 3) = some (.func xf32 xx33 xc34) ∧ (
 ∃ (xf35 : Fn), ∃ (xx36 : Array Value), ∃ (xc37 : Array Value), World.cell? w23 ((blk b20).add 4) = some (.func xf35 xx36 xc37) ∧ (
 ∃ (xf38 : Fn), ∃ (xx39 : Array Value), ∃ (xc40 : Array Value), World.cell? w23 ((blk b20).add 5) = some (.func xf38 xx39 xc40) ∧ (
 ∃ (xf41 : Fn), ∃ (xx42 : Array Value), ∃ (xc43 : Array Value), World.cell? w23 ((blk b20).add 6) = some (.func xf41 xx42 xc43) ∧ (
 ∃ (xf44 : Fn), ∃ (xx45 : Array Value), ∃ (xc46 : Array Value), World.cell? w23 (((blk b20).add 2).add 4) = some (.func xf44 xx45 xc46) ∧ (
 ∃ (xf47 : Fn), ∃ (xx48 : Array Value), ∃ (xc49 : Array Value), World.cell? w23 (((blk b20).add 2).add 0) = some (.func xf47 xx48 xc49) ∧ (
 ∃ (xf50 : Fn), ∃ (xx51 : Array Value), ∃ (xc52 : Array Value), World.cell? w23 (((blk b20).add 2).add 1) = some (.func xf50 xx51 xc52) ∧ (
 ∃ (xf53 : Fn), ∃ (xx54 : Array Value), ∃ (xc55 : Array Value), World.cell? w23 (((blk b20).add 2).add 2) = some (.func xf53 xx54 xc55) ∧ (
 ∃ (xf56 : Fn), ∃ (xx57 : Array Value), ∃ (xc58 : Array Value), World.cell? w23 (((blk b20).add 2).add 3) = some (.func xf56 xx57 xc58) ∧ (
 doSt ((blk b22).add 0) (.string x24) w23 (fun w59 =>
 doSt ((blk b22).add 1) (.func (.func 308) #[.agg #[.string x25, .func xf26 xx27 xc28, .func xf29 xx30 xc31, .func xf32 xx33 xc34, .func xf35 xx36 xc37, .func xf38 xx39 xc40, .func xf41 xx42 xc43]] #[]) w59 (fun w60 =>
 doSt ((blk b22).add 2) (.func xf44 xx45 xc46) w60 (fun w61 =>
 doSt ((blk b22).add 3) (.func xf47 xx48 xc49) w61 (fun w62 =>
 doSt ((blk b22).add 4) (.func xf50 xx51 xc52) w62 (fun w63 =>
 doSt ((blk b22).add 5) (.func xf53 xx54 xc55) w63 (fun w64 =>
 doSt ((blk b22).add 6) (.func xf56 xx57 xc58) w64 (fun w65 =>
 doSt ((blk b22).add 7) (.bool false) w65 (fun w66 =>
 ∃ (x67 : ByteArray), World.cell? w66 ((blk b22).add 0) = some (.string x67) ∧ (
 ∃ (xf68 : Fn), ∃ (xx69 : Array Value), ∃ (xc70 : Array Value), World.cell? w66 ((blk b22).add 1) = some (.func xf68 xx69 xc70) ∧ (
 ∃ (xf71 : Fn), ∃ (xx72 : Array Value), ∃ (xc73 : Array Value), World.cell? w66 ((blk b22).add 2) = some (.func xf71 xx72 xc73) ∧ (
 ∃ (xf74 : Fn), ∃ (xx75 : Array Value), ∃ (xc76 : Array Value), World.cell? w66 ((blk b22).add 3) = some (.func xf74 xx75 xc76) ∧ (
 ∃ (xf77 : Fn), ∃ (xx78 : Array Value), ∃ (xc79 : Array Value), World.cell? w66 ((blk b22).add 4) = some (.func xf77 xx78 xc79) ∧ (
 ∃ (xf80 : Fn), ∃ (xx81 : Array Value), ∃ (xc82 : Array Value), World.cell? w66 ((blk b22).add 5) = some (.func xf80 xx81 xc82) ∧ (
 ∃ (xf83 : Fn), ∃ (xx84 : Array Value), ∃ (xc85 : Array Value), World.cell? w66 ((blk b22).add 6) = some (.func xf83 xx84 xc85) ∧ (
 ∃ (x86 : Bool), World.cell? w66 ((blk b22).add 7) = some (.bool x86) ∧ (
 R (.returned (.agg #[.string x67, .func xf68 xx69 xc70, .func xf71 xx72 xc73, .func xf74 xx75 xc76, .func xf77 xx78 xc79, .func xf80 xx81 xc82, .func xf83 xx84 xc85, .bool x86])) w66)))))))))))))))))))))))))))))))
set_option maxRecDepth 100000 in
theorem sh307_ok (p_1 : ByteArray) (p_f2 : Fn) (p_x3 : Array Value) (p_c4 : Array Value) (p_f5 : Fn) (p_x6 : Array Value) (p_c7 : Array Value) (p_f8 : Fn) (p_x9 : Array Value) (p_c10 : Array Value) (p_f11 : Fn) (p_x12 : Array Value) (p_c13 : Array Value) (p_f14 : Fn) (p_x15 : Array Value) (p_c16 : Array Value) (p_f17 : Fn) (p_x18 : Array Value) (p_c19 : Array Value) {R : Ending → World → Prop} {w : World} : sh307 p_1 p_f2 p_x3 p_c4 p_f5 p_x6 p_c7 p_f8 p_x9 p_c10 p_f11 p_x12 p_c13 p_f14 p_x15 p_c16 p_f17 p_x18 p_c19 R w → Calls Tryz.prog 307 #[.agg #[.string p_1, .func p_f2 p_x3 p_c4, .func p_f5 p_x6 p_c7, .func p_f8 p_x9 p_c10, .func p_f11 p_x12 p_c13, .func p_f14 p_x15 p_c16, .func p_f17 p_x18 p_c19]] w R :=
  calls_of_eq (ann := fun _ => []) (fn := Tryz.f307) (c := bodyOf Tryz.f307) (args := #[.agg #[.string p_1, .func p_f2 p_x3 p_c4, .func p_f5 p_x6 p_c7, .func p_f8 p_x9 p_c10, .func p_f11 p_x12 p_c13, .func p_f14 p_x15 p_c16, .func p_f17 p_x18 p_c19]]) 400 follows_mixed Tryz.func307 (by kernel_rfl) (by kernel_rfl)
set_option maxRecDepth 100000 in
/-- (joinery/scheme.plain).of -/
def sh308 (p_1 : ByteArray) (p_f2 : Fn) (p_x3 : Array Value) (p_c4 : Array Value) (p_f5 : Fn) (p_x6 : Array Value) (p_c7 : Array Value) (p_f8 : Fn) (p_x9 : Array Value) (p_c10 : Array Value) (p_f11 : Fn) (p_x12 : Array Value) (p_c13 : Array Value) (p_f14 : Fn) (p_x15 : Array Value) (p_c16 : Array Value) (p_f17 : Fn) (p_x18 : Array Value) (p_c19 : Array Value) (l_20 : Option Addr) (x_21 : Int) (x_22 : Int) (x_23 : Int) (r_24 : Option Addr) (R : Ending → World → Prop) (w : World) : Prop :=
 doAl (.cells #[.string p_1, .func p_f2 p_x3 p_c4, .func p_f5 p_x6 p_c7, .func p_f8 p_x9 p_c10, .func p_f11 p_x12 p_c13, .func p_f14 p_x15 p_c16, .func p_f17 p_x18 p_c19] 215) w (fun b25 w26 =>
 doAl (.cells #[.int .i64 x_21, .int .i64 x_22, .int .u64 x_23] 93) w26 (fun b27 w28 =>
 ∃ (xf29 : Fn), ∃ (xx30 : Array Value), ∃ (xc31 : Array Value), World.cell? w28 ((blk b25).add 1) = some (.func xf29 xx30 xc31) ∧ (
 ∃ (x32 : Int), World.cell? w28 ((blk b27).add 0) = some (.int .i64 x32) ∧ (
 ∃ (x33 : Int), World.cell? w28 ((blk b27).add 1) = some (.int .i64 x33) ∧ (
 doCall Tryz.prog (.func xf29 xx30 xc31) #[.pointer l_20, .int .i64 x32, .int .i64 x33, .pointer r_24] w28 (retS (fun v35 w36 => ∃ (x34 : Option Addr), v35 = (.pointer x34 : Value) ∧ (
 R (.returned (.pointer x34)) w36)) (fun ch w => Kfn R ch [] w)))))))
set_option maxRecDepth 100000 in
theorem sh308_ok (p_1 : ByteArray) (p_f2 : Fn) (p_x3 : Array Value) (p_c4 : Array Value) (p_f5 : Fn) (p_x6 : Array Value) (p_c7 : Array Value) (p_f8 : Fn) (p_x9 : Array Value) (p_c10 : Array Value) (p_f11 : Fn) (p_x12 : Array Value) (p_c13 : Array Value) (p_f14 : Fn) (p_x15 : Array Value) (p_c16 : Array Value) (p_f17 : Fn) (p_x18 : Array Value) (p_c19 : Array Value) (l_20 : Option Addr) (x_21 : Int) (x_22 : Int) (x_23 : Int) (r_24 : Option Addr) {R : Ending → World → Prop} {w : World} : sh308 p_1 p_f2 p_x3 p_c4 p_f5 p_x6 p_c7 p_f8 p_x9 p_c10 p_f11 p_x12 p_c13 p_f14 p_x15 p_c16 p_f17 p_x18 p_c19 l_20 x_21 x_22 x_23 r_24 R w → Calls Tryz.prog 308 #[.agg #[.string p_1, .func p_f2 p_x3 p_c4, .func p_f5 p_x6 p_c7, .func p_f8 p_x9 p_c10, .func p_f11 p_x12 p_c13, .func p_f14 p_x15 p_c16, .func p_f17 p_x18 p_c19], .pointer l_20, .agg #[.int .i64 x_21, .int .i64 x_22, .int .u64 x_23], .pointer r_24] w R :=
  calls_of_eq (ann := fun _ => []) (fn := Tryz.f308) (c := bodyOf Tryz.f308) (args := #[.agg #[.string p_1, .func p_f2 p_x3 p_c4, .func p_f5 p_x6 p_c7, .func p_f8 p_x9 p_c10, .func p_f11 p_x12 p_c13, .func p_f14 p_x15 p_c16, .func p_f17 p_x18 p_c19], .pointer l_20, .agg #[.int .i64 x_21, .int .i64 x_22, .int .u64 x_23], .pointer r_24]) 400 follows_mixed Tryz.func308 (by kernel_rfl) (by kernel_rfl)
set_option maxRecDepth 100000 in
/-- (joinery/scheme.tagged).faces -/
def sh309  (R : Ending → World → Prop) (w : World) : Prop :=
 doAl (.cells #[] 216) w (fun _b1 w2 =>
 doAl (.cells #[.string (⟨#[]⟩ : ByteArray), .nilFunc, .nilFunc, .nilFunc, .nilFunc, .nilFunc, .nilFunc, .bool false] 162) w2 (fun b3 w4 =>
 doSt ((blk b3).add 0) (.string (⟨#[116, 114, 101, 97, 112]⟩ : ByteArray)) w4 (fun w5 =>
 doSt ((blk b3).add 1) (.func (.func 310) #[] #[]) w5 (fun w6 =>
 doSt ((blk b3).add 2) (.func (.func 143) #[] #[]) w6 (fun w7 =>
 doSt ((blk b3).add 3) (.func (.func 311) #[] #[]) w7 (fun w8 =>
 doSt ((blk b3).add 4) (.func (.func 312) #[] #[]) w8 (fun w9 =>
 doSt ((blk b3).add 5) (.func (.func 313) #[.agg #[]] #[]) w9 (fun w10 =>
 doSt ((blk b3).add 6) (.func (.func 314) #[] #[]) w10 (fun w11 =>
 doSt ((blk b3).add 7) (.bool true) w11 (fun w12 =>
 ∃ (x13 : ByteArray), World.cell? w12 ((blk b3).add 0) = some (.string x13) ∧ (
 ∃ (xf14 : Fn), ∃ (xx15 : Array Value), ∃ (xc16 : Array Value), World.cell? w12 ((blk b3).add 1) = some (.func xf14 xx15 xc16) ∧ (
 ∃ (xf17 : Fn), ∃ (xx18 : Array Value), ∃ (xc19 : Array Value), World.cell? w12 ((blk b3).add 2) = some (.func xf17 xx18 xc19) ∧ (
 ∃ (xf20 : Fn), ∃ (xx21 : Array Value), ∃ (xc22 : Array Value), World.cell? w12 ((blk b3).add 3) = some (.func xf20 xx21 xc22) ∧ (
 ∃ (xf23 : Fn), ∃ (xx24 : Array Value), ∃ (xc25 : Array Value), World.cell? w12 ((blk b3).add 4) = some (.func xf23 xx24 xc25) ∧ (
 ∃ (xf26 : Fn), ∃ (xx27 : Array Value), ∃ (xc28 : Array Value), World.cell? w12 ((blk b3).add 5) = some (.func xf26 xx27 xc28) ∧ (
 ∃ (xf29 : Fn), ∃ (xx30 : Array Value), ∃ (xc31 : Array Value), World.cell? w12 ((blk b3).add 6) = some (.func xf29 xx30 xc31) ∧ (
 ∃ (x32 : Bool), World.cell? w12 ((blk b3).add 7) = some (.bool x32) ∧ (
 R (.returned (.agg #[.string x13, .func xf14 xx15 xc16, .func xf17 xx18 xc19, .func xf20 xx21 xc22, .func xf23 xx24 xc25, .func xf26 xx27 xc28, .func xf29 xx30 xc31, .bool x32])) w12))))))))))))))))))
set_option maxRecDepth 100000 in
theorem sh309_ok  {R : Ending → World → Prop} {w : World} : sh309  R w → Calls Tryz.prog 309 #[.agg #[]] w R :=
  calls_of_eq (ann := fun _ => []) (fn := Tryz.f309) (c := bodyOf Tryz.f309) (args := #[.agg #[]]) 400 follows_mixed Tryz.func309 (by kernel_rfl) (by kernel_rfl)
set_option maxRecDepth 100000 in
/-- joinery/treapjoin.Join -/
def sh310 (l_1 : Option Addr) (x_2 : Int) (x_3 : Int) (x_4 : Int) (r_5 : Option Addr) (R : Ending → World → Prop) (w : World) : Prop :=
 doAl (.cells #[.int .i64 x_2, .int .i64 x_3, .int .u64 x_4] 93) w (fun b6 w7 =>
 ∃ (x8 : Int), World.cell? w7 ((blk b6).add 0) = some (.int .i64 x8) ∧ (
 ∃ (x9 : Int), World.cell? w7 ((blk b6).add 1) = some (.int .i64 x9) ∧ (
 ∃ (x10 : Int), World.cell? w7 ((blk b6).add 2) = some (.int .u64 x10) ∧ (
 doCall Tryz.prog (.func (.func 60) #[] #[]) #[.pointer none, .int .i64 x8, .int .i64 x9, .int .u64 x10, .pointer none] w7 (retS (fun v12 w13 => ∃ (x11 : Option Addr), v12 = (.pointer x11 : Value) ∧ (
 doAl (.cells #[.pointer x11, .pointer r_5] 30) w13 (fun b14 w15 =>
 doCall Tryz.prog (.func (.func 315) #[] #[]) #[.pointer l_1, .slice (some (blk b14)) 2 2] w15 (retS (fun v17 w18 => ∃ (x16 : Bool), v17 = (.bool x16 : Value) ∧ (
 doAl (.cells #[.pointer x11, .pointer l_1] 30) w18 (fun b19 w20 =>
 doCall Tryz.prog (.func (.func 315) #[] #[]) #[.pointer r_5, .slice (some (blk b19)) 2 2] w20 (retS (fun v22 w23 => ∃ (x21 : Bool), v22 = (.bool x21 : Value) ∧ (
 ifB ((x16 == true) && ((x21 == false) && true)) (
 doDr w23 (fun w25 =>
 ∃ (C24 : World → Prop), C24 w25 ∧ (
 ∃ (x26 : Int), (∀ w, C24 w → World.cell? w ((blk b6).add 0) = some (.int .i64 x26)) ∧ (
 ∃ (x27 : Int), (∀ w, C24 w → World.cell? w ((blk b6).add 1) = some (.int .i64 x27)) ∧ (
 ∃ (x28 : Int), (∀ w, C24 w → World.cell? w ((blk b6).add 2) = some (.int .u64 x28)) ∧ (
 doCall Tryz.prog (.func (.func 108) #[] #[]) #[.pointer l_1] w25 (retS (fun v30 w31 => ∃ (x29 : Option Addr), v30 = (.pointer x29 : Value) ∧ (
 C24 w31 ∧ (
 doCall Tryz.prog (.func (.func 107) #[] #[]) #[.pointer l_1] w31 (retS (fun v33 w34 => ∃ (x32 : Int), v33 = (.int .i64 x32 : Value) ∧ (
 C24 w34 ∧ (
 doCall Tryz.prog (.func (.func 165) #[] #[]) #[.pointer l_1] w34 (retS (fun v36 w37 => ∃ (x35 : Int), v36 = (.int .i64 x35 : Value) ∧ (
 C24 w37 ∧ (
 doCall Tryz.prog (.func (.func 166) #[] #[]) #[.pointer l_1] w37 (retS (fun v39 w40 => ∃ (x38 : Int), v39 = (.int .u64 x38 : Value) ∧ (
 C24 w40 ∧ (
 doCall Tryz.prog (.func (.func 109) #[] #[]) #[.pointer l_1] w40 (retS (fun v42 w43 => ∃ (x41 : Option Addr), v42 = (.pointer x41 : Value) ∧ (
 C24 w43 ∧ (
 doCall Tryz.prog (.func (.func 310) #[] #[]) #[.pointer x41, .agg #[.int .i64 x26, .int .i64 x27, .int .u64 x28], .pointer r_5] w43 (retS (fun v45 w46 => ∃ (x44 : Option Addr), v45 = (.pointer x44 : Value) ∧ (
 doCall Tryz.prog (.func (.func 60) #[] #[]) #[.pointer x29, .int .i64 x32, .int .i64 x35, .int .u64 x38, .pointer x44] w46 (retS (fun v48 w49 => ∃ (x47 : Option Addr), v48 = (.pointer x47 : Value) ∧ (
 C24 w49 ∧ (
 R (.returned (.pointer x47)) w49))) (fun ch w => Kfn R ch [] w)))) (fun ch w => Kfn R ch [] w))))) (fun ch w => Kfn R ch [] w))))) (fun ch w => Kfn R ch [] w))))) (fun ch w => Kfn R ch [] w))))) (fun ch w => Kfn R ch [] w))))) (fun ch w => Kfn R ch [] w)))))))) (
 ifB ((x16 == false) && ((x21 == true) && true)) (
 doDr w23 (fun w51 =>
 ∃ (C50 : World → Prop), C50 w51 ∧ (
 ∃ (x52 : Int), (∀ w, C50 w → World.cell? w ((blk b6).add 0) = some (.int .i64 x52)) ∧ (
 ∃ (x53 : Int), (∀ w, C50 w → World.cell? w ((blk b6).add 1) = some (.int .i64 x53)) ∧ (
 ∃ (x54 : Int), (∀ w, C50 w → World.cell? w ((blk b6).add 2) = some (.int .u64 x54)) ∧ (
 doCall Tryz.prog (.func (.func 108) #[] #[]) #[.pointer r_5] w51 (retS (fun v56 w57 => ∃ (x55 : Option Addr), v56 = (.pointer x55 : Value) ∧ (
 C50 w57 ∧ (
 doCall Tryz.prog (.func (.func 310) #[] #[]) #[.pointer l_1, .agg #[.int .i64 x52, .int .i64 x53, .int .u64 x54], .pointer x55] w57 (retS (fun v59 w60 => ∃ (x58 : Option Addr), v59 = (.pointer x58 : Value) ∧ (
 doCall Tryz.prog (.func (.func 107) #[] #[]) #[.pointer r_5] w60 (retS (fun v62 w63 => ∃ (x61 : Int), v62 = (.int .i64 x61 : Value) ∧ (
 C50 w63 ∧ (
 doCall Tryz.prog (.func (.func 165) #[] #[]) #[.pointer r_5] w63 (retS (fun v65 w66 => ∃ (x64 : Int), v65 = (.int .i64 x64 : Value) ∧ (
 C50 w66 ∧ (
 doCall Tryz.prog (.func (.func 166) #[] #[]) #[.pointer r_5] w66 (retS (fun v68 w69 => ∃ (x67 : Int), v68 = (.int .u64 x67 : Value) ∧ (
 C50 w69 ∧ (
 doCall Tryz.prog (.func (.func 109) #[] #[]) #[.pointer r_5] w69 (retS (fun v71 w72 => ∃ (x70 : Option Addr), v71 = (.pointer x70 : Value) ∧ (
 C50 w72 ∧ (
 doCall Tryz.prog (.func (.func 60) #[] #[]) #[.pointer x58, .int .i64 x61, .int .i64 x64, .int .u64 x67, .pointer x70] w72 (retS (fun v74 w75 => ∃ (x73 : Option Addr), v74 = (.pointer x73 : Value) ∧ (
 C50 w75 ∧ (
 R (.returned (.pointer x73)) w75))) (fun ch w => Kfn R ch [] w))))) (fun ch w => Kfn R ch [] w))))) (fun ch w => Kfn R ch [] w))))) (fun ch w => Kfn R ch [] w))))) (fun ch w => Kfn R ch [] w)))) (fun ch w => Kfn R ch [] w))))) (fun ch w => Kfn R ch [] w)))))))) (
 doCall Tryz.prog (.func (.func 317) #[] #[]) #[.pointer l_1, .pointer x11, .pointer r_5] w23 (retS (fun v77 w78 => ∃ (x76 : Option Addr), v77 = (.pointer x76 : Value) ∧ (
 R (.returned (.pointer x76)) w78)) (fun ch w => Kfn R ch [] w)))))) (fun ch w => Kfn R ch [] w))))) (fun ch w => Kfn R ch [] w))))) (fun ch w => Kfn R ch [] w))))))
set_option maxRecDepth 100000 in
theorem sh310_ok (l_1 : Option Addr) (x_2 : Int) (x_3 : Int) (x_4 : Int) (r_5 : Option Addr) {R : Ending → World → Prop} {w : World} : sh310 l_1 x_2 x_3 x_4 r_5 R w → Calls Tryz.prog 310 #[.pointer l_1, .agg #[.int .i64 x_2, .int .i64 x_3, .int .u64 x_4], .pointer r_5] w R :=
  calls_of_eq (ann := fun _ => []) (fn := Tryz.f310) (c := bodyOf Tryz.f310) (args := #[.pointer l_1, .agg #[.int .i64 x_2, .int .i64 x_3, .int .u64 x_4], .pointer r_5]) 400 follows_mixed Tryz.func310 (by kernel_rfl) (by kernel_rfl)
set_option maxRecDepth 100000 in
/-- joinery/treap.Check -/
def sh311 (t_1 : Option Addr) (R : Ending → World → Prop) (w : World) : Prop :=
 doAl (.cells #[.int .i64 0] 3) w (fun b2 w3 =>
 doAl (.cells #[.nilFunc] 159) w3 (fun b4 w5 =>
 doSt ((blk b4).add 0) (.func (.func 318) #[] #[.pointer (some (blk b2)), .pointer (some (blk b4))]) w5 (fun w6 =>
 ∃ (xf7 : Fn), ∃ (xx8 : Array Value), ∃ (xc9 : Array Value), World.cell? w6 (blk b4) = some (.func xf7 xx8 xc9) ∧ (
 doCall Tryz.prog (.func xf7 xx8 xc9) #[.pointer t_1] w6 (retS (fun v11 w12 => ∃ (x10 : Bool), v11 = (.bool x10 : Value) ∧ (
 ifB (!x10) (
 ∃ (x13 : Int), World.cell? w12 (blk b2) = some (.int .i64 x13) ∧ (
 doSt ((blk b2).add 0) (.int .i64 x13) w12 (fun w14 =>
 ∃ (x15 : Int), World.cell? w14 (blk b2) = some (.int .i64 x15) ∧ (
 R (.returned (.tuple #[.int .i64 x15, .int .i64 8])) w14)))) (
 ∃ (x16 : Int), World.cell? w12 (blk b2) = some (.int .i64 x16) ∧ (
 doSt ((blk b2).add 0) (.int .i64 x16) w12 (fun w17 =>
 ∃ (x18 : Int), World.cell? w17 (blk b2) = some (.int .i64 x18) ∧ (
 R (.returned (.tuple #[.int .i64 x18, .int .i64 0])) w17)))))) (fun ch w => Kfn R ch [] w))))))
set_option maxRecDepth 100000 in
theorem sh311_ok (t_1 : Option Addr) {R : Ending → World → Prop} {w : World} : sh311 t_1 R w → Calls Tryz.prog 311 #[.pointer t_1] w R :=
  calls_of_eq (ann := fun _ => []) (fn := Tryz.f311) (c := bodyOf Tryz.f311) (args := #[.pointer t_1]) 400 follows_mixed Tryz.func311 (by kernel_rfl) (by kernel_rfl)
set_option maxRecDepth 100000 in
/-- joinery/treap.May -/
def sh312 (t_1 : Option Addr) (R : Ending → World → Prop) (w : World) : Prop :=
 doCall Tryz.prog (.func (.func 311) #[] #[]) #[.pointer t_1] w (retS (fun v4 w5 => ∃ (x2 : Int), ∃ (x3 : Int), v4 = (.tuple #[.int .i64 x2, .int .i64 x3] : Value) ∧ (
 R (.returned (.bool ((x3 : Int) == 0))) w5)) (fun ch w => Kfn R ch [] w))
set_option maxRecDepth 100000 in
theorem sh312_ok (t_1 : Option Addr) {R : Ending → World → Prop} {w : World} : sh312 t_1 R w → Calls Tryz.prog 312 #[.pointer t_1] w R :=
  calls_of_eq (ann := fun _ => []) (fn := Tryz.f312) (c := bodyOf Tryz.f312) (args := #[.pointer t_1]) 400 follows_mixed Tryz.func312 (by kernel_rfl) (by kernel_rfl)
set_option maxRecDepth 100000 in
/-- (joinery/scheme.tagged).rank -/
def sh313 (_x1 : Option Addr) (R : Ending → World → Prop) (w : World) : Prop :=
 doAl (.cells #[] 216) w (fun _b2 w3 =>
 R (.returned (.int .i64 0)) w3)
set_option maxRecDepth 100000 in
theorem sh313_ok (x1 : Option Addr) {R : Ending → World → Prop} {w : World} : sh313 x1 R w → Calls Tryz.prog 313 #[.agg #[], .pointer x1] w R :=
  calls_of_eq (ann := fun _ => []) (fn := Tryz.f313) (c := bodyOf Tryz.f313) (args := #[.agg #[], .pointer x1]) 400 follows_mixed Tryz.func313 (by kernel_rfl) (by kernel_rfl)
set_option maxRecDepth 100000 in
/-- joinery/treapjoin.Join$1 -/
def sh315 (a_1 : Option Addr) (others_p2 : Option Addr) (others_n3 : Nat) (_others_c4 : Nat) (R : Ending → World → Prop) (w : World) : Prop :=
 ∃ (I5 : List Value → World → Prop) (μ6 : List Value → World → Nat), I5 [.int .i64 0] w ∧ (∀ (x9 : Int), ∀ (_j7 : Nat → Value) (w8 : World), I5 [.int .i64 x9] w8 → (
 ifB (decide ((x9 : Int) < ((others_n3 : Nat) : Int))) (
 let K11 : World → Prop := fun (w10 : World) => 
 I5 [.int .i64 (IntKind.wrap .i64 (x9 + 1))] w10 ∧ μ6 [.int .i64 (IntKind.wrap .i64 (x9 + 1))] w10 < μ6 [.int .i64 x9] w8
 doIx others_p2 others_n3 1 (x9) (fun a12 =>
 ∃ (x13 : Option Addr), World.cell? w8 a12 = some (.pointer x13) ∧ (
 let K16 : Bool → World → Prop := fun (x14 : Bool) (w15 : World) => 
 ifB x14 (
 R (.returned (.bool false)) w15) (
 K11 w15)
 ifB (!(x13).isNone) (
 doCall Tryz.prog (.func (.func 316) #[] #[]) #[.pointer a_1, .pointer x13] w8 (retS (fun v18 w19 => ∃ (x17 : Bool), v18 = (.bool x17 : Value) ∧ (
 K16 (!x17) w19)) (fun ch w => Kfn R ch [] w))) (
 K11 w8)))) (
 R (.returned (.bool (!(a_1).isNone))) w8)))
set_option maxRecDepth 100000 in
theorem sh315_ok (a_1 : Option Addr) (others_p2 : Option Addr) (others_n3 : Nat) (others_c4 : Nat) {R : Ending → World → Prop} {w : World} : sh315 a_1 others_p2 others_n3 others_c4 R w → Calls Tryz.prog 315 #[.pointer a_1, .slice others_p2 others_n3 others_c4] w R :=
  calls_of_eq (ann := fun i => if i = 0 then [(9, .int .i64 0)] else []) (fn := Tryz.f315) (c := bodyOf Tryz.f315) (args := #[.pointer a_1, .slice others_p2 others_n3 others_c4]) 400 follows_mixed Tryz.func315 (by kernel_rfl) (by kernel_rfl)
set_option maxRecDepth 100000 in
/-- joinery/treap.Above -/
def sh316 (a_1 : Option Addr) (b_2 : Option Addr) (R : Ending → World → Prop) (w : World) : Prop :=
 let K5 : Bool → World → Prop := fun (x3 : Bool) (w4 : World) => 
 R (.returned (.bool x3)) w4
 ifB (!(a_1).isNone) (
 ifB (!(b_2).isNone) (
 doCall Tryz.prog (.func (.func 321) #[] #[]) #[.pointer a_1] w (retS (fun v9 w10 => ∃ (x6 : Int), ∃ (x7 : Int), ∃ (x8 : Int), v9 = (.agg #[.int .i64 x6, .int .i64 x7, .int .u64 x8] : Value) ∧ (
 doCall Tryz.prog (.func (.func 321) #[] #[]) #[.pointer b_2] w10 (retS (fun v14 w15 => ∃ (x11 : Int), ∃ (x12 : Int), ∃ (x13 : Int), v14 = (.agg #[.int .i64 x11, .int .i64 x12, .int .u64 x13] : Value) ∧ (
 doCall Tryz.prog (.func (.func 320) #[] #[]) #[.agg #[.int .i64 x6, .int .i64 x7, .int .u64 x8], .agg #[.int .i64 x11, .int .i64 x12, .int .u64 x13]] w15 (retS (fun v17 w18 => ∃ (x16 : Bool), v17 = (.bool x16 : Value) ∧ (
 K5 x16 w18)) (fun ch w => Kfn R ch [] w)))) (fun ch w => Kfn R ch [] w)))) (fun ch w => Kfn R ch [] w))) (
 R (.returned (.bool false)) w)) (
 R (.returned (.bool false)) w)
set_option maxRecDepth 100000 in
theorem sh316_ok (a_1 : Option Addr) (b_2 : Option Addr) {R : Ending → World → Prop} {w : World} : sh316 a_1 b_2 R w → Calls Tryz.prog 316 #[.pointer a_1, .pointer b_2] w R :=
  calls_of_eq (ann := fun _ => []) (fn := Tryz.f316) (c := bodyOf Tryz.f316) (args := #[.pointer a_1, .pointer b_2]) 400 follows_mixed Tryz.func316 (by kernel_rfl) (by kernel_rfl)
set_option maxRecDepth 100000 in
/-- joinery/treapjoin.both -/
def sh317 (l_1 : Option Addr) (mid_2 : Option Addr) (r_3 : Option Addr) (R : Ending → World → Prop) (w : World) : Prop :=
 doCall Tryz.prog (.func (.func 107) #[] #[]) #[.pointer mid_2] w (retS (fun v5 w6 => ∃ (x4 : Int), v5 = (.int .i64 x4 : Value) ∧ (
 doCall Tryz.prog (.func (.func 165) #[] #[]) #[.pointer mid_2] w6 (retS (fun v8 w9 => ∃ (x7 : Int), v8 = (.int .i64 x7 : Value) ∧ (
 doCall Tryz.prog (.func (.func 166) #[] #[]) #[.pointer mid_2] w9 (retS (fun v11 w12 => ∃ (x10 : Int), v11 = (.int .u64 x10 : Value) ∧ (
 doAl (.cells #[.int .i64 0, .int .i64 0, .int .u64 0] 93) w12 (fun b13 w14 =>
 doSt ((blk b13).add 0) (.int .i64 x4) w14 (fun w15 =>
 doSt ((blk b13).add 1) (.int .i64 x7) w15 (fun w16 =>
 doSt ((blk b13).add 2) (.int .u64 x10) w16 (fun w17 =>
 doCall Tryz.prog (.func (.func 316) #[] #[]) #[.pointer l_1, .pointer mid_2] w17 (retS (fun v19 w20 => ∃ (x18 : Bool), v19 = (.bool x18 : Value) ∧ (
 ifB x18 (
 doDr w20 (fun w22 =>
 ∃ (C21 : World → Prop), C21 w22 ∧ (
 ∃ (x23 : Int), (∀ w, C21 w → World.cell? w ((blk b13).add 0) = some (.int .i64 x23)) ∧ (
 ∃ (x24 : Int), (∀ w, C21 w → World.cell? w ((blk b13).add 1) = some (.int .i64 x24)) ∧ (
 ∃ (x25 : Int), (∀ w, C21 w → World.cell? w ((blk b13).add 2) = some (.int .u64 x25)) ∧ (
 doCall Tryz.prog (.func (.func 108) #[] #[]) #[.pointer l_1] w22 (retS (fun v27 w28 => ∃ (x26 : Option Addr), v27 = (.pointer x26 : Value) ∧ (
 C21 w28 ∧ (
 doCall Tryz.prog (.func (.func 107) #[] #[]) #[.pointer l_1] w28 (retS (fun v30 w31 => ∃ (x29 : Int), v30 = (.int .i64 x29 : Value) ∧ (
 C21 w31 ∧ (
 doCall Tryz.prog (.func (.func 165) #[] #[]) #[.pointer l_1] w31 (retS (fun v33 w34 => ∃ (x32 : Int), v33 = (.int .i64 x32 : Value) ∧ (
 C21 w34 ∧ (
 doCall Tryz.prog (.func (.func 166) #[] #[]) #[.pointer l_1] w34 (retS (fun v36 w37 => ∃ (x35 : Int), v36 = (.int .u64 x35 : Value) ∧ (
 C21 w37 ∧ (
 doCall Tryz.prog (.func (.func 109) #[] #[]) #[.pointer l_1] w37 (retS (fun v39 w40 => ∃ (x38 : Option Addr), v39 = (.pointer x38 : Value) ∧ (
 C21 w40 ∧ (
 doCall Tryz.prog (.func (.func 310) #[] #[]) #[.pointer x38, .agg #[.int .i64 x23, .int .i64 x24, .int .u64 x25], .pointer r_3] w40 (retS (fun v42 w43 => ∃ (x41 : Option Addr), v42 = (.pointer x41 : Value) ∧ (
 doCall Tryz.prog (.func (.func 60) #[] #[]) #[.pointer x26, .int .i64 x29, .int .i64 x32, .int .u64 x35, .pointer x41] w43 (retS (fun v45 w46 => ∃ (x44 : Option Addr), v45 = (.pointer x44 : Value) ∧ (
 C21 w46 ∧ (
 R (.returned (.pointer x44)) w46))) (fun ch w => Kfn R ch [] w)))) (fun ch w => Kfn R ch [] w))))) (fun ch w => Kfn R ch [] w))))) (fun ch w => Kfn R ch [] w))))) (fun ch w => Kfn R ch [] w))))) (fun ch w => Kfn R ch [] w))))) (fun ch w => Kfn R ch [] w)))))))) (
 doCall Tryz.prog (.func (.func 316) #[] #[]) #[.pointer r_3, .pointer mid_2] w20 (retS (fun v48 w49 => ∃ (x47 : Bool), v48 = (.bool x47 : Value) ∧ (
 ifB x47 (
 doDr w49 (fun w51 =>
 ∃ (C50 : World → Prop), C50 w51 ∧ (
 ∃ (x52 : Int), (∀ w, C50 w → World.cell? w ((blk b13).add 0) = some (.int .i64 x52)) ∧ (
 ∃ (x53 : Int), (∀ w, C50 w → World.cell? w ((blk b13).add 1) = some (.int .i64 x53)) ∧ (
 ∃ (x54 : Int), (∀ w, C50 w → World.cell? w ((blk b13).add 2) = some (.int .u64 x54)) ∧ (
 doCall Tryz.prog (.func (.func 108) #[] #[]) #[.pointer r_3] w51 (retS (fun v56 w57 => ∃ (x55 : Option Addr), v56 = (.pointer x55 : Value) ∧ (
 C50 w57 ∧ (
 doCall Tryz.prog (.func (.func 310) #[] #[]) #[.pointer l_1, .agg #[.int .i64 x52, .int .i64 x53, .int .u64 x54], .pointer x55] w57 (retS (fun v59 w60 => ∃ (x58 : Option Addr), v59 = (.pointer x58 : Value) ∧ (
 doCall Tryz.prog (.func (.func 107) #[] #[]) #[.pointer r_3] w60 (retS (fun v62 w63 => ∃ (x61 : Int), v62 = (.int .i64 x61 : Value) ∧ (
 C50 w63 ∧ (
 doCall Tryz.prog (.func (.func 165) #[] #[]) #[.pointer r_3] w63 (retS (fun v65 w66 => ∃ (x64 : Int), v65 = (.int .i64 x64 : Value) ∧ (
 C50 w66 ∧ (
 doCall Tryz.prog (.func (.func 166) #[] #[]) #[.pointer r_3] w66 (retS (fun v68 w69 => ∃ (x67 : Int), v68 = (.int .u64 x67 : Value) ∧ (
 C50 w69 ∧ (
 doCall Tryz.prog (.func (.func 109) #[] #[]) #[.pointer r_3] w69 (retS (fun v71 w72 => ∃ (x70 : Option Addr), v71 = (.pointer x70 : Value) ∧ (
 C50 w72 ∧ (
 doCall Tryz.prog (.func (.func 60) #[] #[]) #[.pointer x58, .int .i64 x61, .int .i64 x64, .int .u64 x67, .pointer x70] w72 (retS (fun v74 w75 => ∃ (x73 : Option Addr), v74 = (.pointer x73 : Value) ∧ (
 C50 w75 ∧ (
 R (.returned (.pointer x73)) w75))) (fun ch w => Kfn R ch [] w))))) (fun ch w => Kfn R ch [] w))))) (fun ch w => Kfn R ch [] w))))) (fun ch w => Kfn R ch [] w))))) (fun ch w => Kfn R ch [] w)))) (fun ch w => Kfn R ch [] w))))) (fun ch w => Kfn R ch [] w)))))))) (
 ∃ (x76 : Int), World.cell? w49 ((blk b13).add 0) = some (.int .i64 x76) ∧ (
 ∃ (x77 : Int), World.cell? w49 ((blk b13).add 1) = some (.int .i64 x77) ∧ (
 ∃ (x78 : Int), World.cell? w49 ((blk b13).add 2) = some (.int .u64 x78) ∧ (
 doCall Tryz.prog (.func (.func 60) #[] #[]) #[.pointer l_1, .int .i64 x76, .int .i64 x77, .int .u64 x78, .pointer r_3] w49 (retS (fun v80 w81 => ∃ (x79 : Option Addr), v80 = (.pointer x79 : Value) ∧ (
 R (.returned (.pointer x79)) w81)) (fun ch w => Kfn R ch [] w)))))))) (fun ch w => Kfn R ch [] w))))) (fun ch w => Kfn R ch [] w)))))))) (fun ch w => Kfn R ch [] w)))) (fun ch w => Kfn R ch [] w)))) (fun ch w => Kfn R ch [] w))
set_option maxRecDepth 100000 in
theorem sh317_ok (l_1 : Option Addr) (mid_2 : Option Addr) (r_3 : Option Addr) {R : Ending → World → Prop} {w : World} : sh317 l_1 mid_2 r_3 R w → Calls Tryz.prog 317 #[.pointer l_1, .pointer mid_2, .pointer r_3] w R :=
  calls_of_eq (ann := fun _ => []) (fn := Tryz.f317) (c := bodyOf Tryz.f317) (args := #[.pointer l_1, .pointer mid_2, .pointer r_3]) 400 follows_mixed Tryz.func317 (by kernel_rfl) (by kernel_rfl)
end Go.Proofs.YtbaoihmffobneaaGreat

namespace Go.Proofs.YtbaoihmffobneaaGreat
open Go Go.Sh
set_option maxRecDepth 100000 in
/-- joinery/treap.Check$1 -/
def sh318 (n_1 : Option Addr) (x2 : Addr) (x3 : Addr) (R : Ending → World → Prop) (w : World) : Prop :=
 ifB ((n_1).isNone) (
 R (.returned (.bool true)) w) (
 let K6 : Bool → World → Prop := fun (x4 : Bool) (w5 : World) => 
 ifB x4 (
 R (.returned (.bool false)) w5) (
 ∃ (x7 : Int), World.cell? w5 x2 = some (.int .i64 x7) ∧ (
 doSt (x2.add 0) (.int .i64 (IntKind.wrap .i64 (x7 + 1))) w5 (fun w8 =>
 let K11 : Bool → World → Prop := fun (x9 : Bool) (w10 : World) => 
 R (.returned (.bool x9)) w10
 doDr w8 (fun w13 =>
 ∃ (C12 : World → Prop), C12 w13 ∧ (
 ∃ (xf14 : Fn), ∃ (xx15 : Array Value), ∃ (xc16 : Array Value), (∀ w, C12 w → World.cell? w x3 = some (.func xf14 xx15 xc16)) ∧ (
 doCall Tryz.prog (.func (.func 108) #[] #[]) #[.pointer n_1] w13 (retS (fun v18 w19 => ∃ (x17 : Option Addr), v18 = (.pointer x17 : Value) ∧ (
 C12 w19 ∧ (
 doCall Tryz.prog (.func xf14 xx15 xc16) #[.pointer x17] w19 (retS (fun v21 w22 => ∃ (x20 : Bool), v21 = (.bool x20 : Value) ∧ (
 C12 w22 ∧ (
 ifB x20 (
 ∃ (xf23 : Fn), ∃ (xx24 : Array Value), ∃ (xc25 : Array Value), (∀ w, C12 w → World.cell? w x3 = some (.func xf23 xx24 xc25)) ∧ (
 doCall Tryz.prog (.func (.func 109) #[] #[]) #[.pointer n_1] w22 (retS (fun v27 w28 => ∃ (x26 : Option Addr), v27 = (.pointer x26 : Value) ∧ (
 C12 w28 ∧ (
 doCall Tryz.prog (.func xf23 xx24 xc25) #[.pointer x26] w28 (retS (fun v30 w31 => ∃ (x29 : Bool), v30 = (.bool x29 : Value) ∧ (
 C12 w31 ∧ (
 K11 x29 w31))) (fun ch w => Kfn R ch [] w))))) (fun ch w => Kfn R ch [] w)))) (
 R (.returned (.bool false)) w22)))) (fun ch w => Kfn R ch [] w))))) (fun ch w => Kfn R ch [] w))))))))
 doCall Tryz.prog (.func (.func 108) #[] #[]) #[.pointer n_1] w (retS (fun v33 w34 => ∃ (x32 : Option Addr), v33 = (.pointer x32 : Value) ∧ (
 doCall Tryz.prog (.func (.func 316) #[] #[]) #[.pointer x32, .pointer n_1] w34 (retS (fun v36 w37 => ∃ (x35 : Bool), v36 = (.bool x35 : Value) ∧ (
 ifB x35 (
 R (.returned (.bool false)) w37) (
 doCall Tryz.prog (.func (.func 109) #[] #[]) #[.pointer n_1] w37 (retS (fun v39 w40 => ∃ (x38 : Option Addr), v39 = (.pointer x38 : Value) ∧ (
 doCall Tryz.prog (.func (.func 316) #[] #[]) #[.pointer x38, .pointer n_1] w40 (retS (fun v42 w43 => ∃ (x41 : Bool), v42 = (.bool x41 : Value) ∧ (
 K6 x41 w43)) (fun ch w => Kfn R ch [] w)))) (fun ch w => Kfn R ch [] w))))) (fun ch w => Kfn R ch [] w)))) (fun ch w => Kfn R ch [] w)))
set_option maxRecDepth 100000 in
theorem sh318_ok (n_1 : Option Addr) (x2 : Addr) (x3 : Addr) {R : Ending → World → Prop} {w : World} : sh318 n_1 x2 x3 R w → Calls Tryz.prog 318 #[.pointer n_1, .pointer (some x2), .pointer (some x3)] w R :=
  calls_of_eq (ann := fun _ => []) (fn := Tryz.f318) (c := bodyOf Tryz.f318) (args := #[.pointer n_1, .pointer (some x2), .pointer (some x3)]) 400 follows_mixed Tryz.func318 (by kernel_rfl) (by kernel_rfl)
set_option maxRecDepth 100000 in
/-- joinery/treap.above -/
def sh320 (a_1 : Int) (a_2 : Int) (a_3 : Int) (b_4 : Int) (b_5 : Int) (b_6 : Int) (R : Ending → World → Prop) (w : World) : Prop :=
 doAl (.cells #[.int .i64 a_1, .int .i64 a_2, .int .u64 a_3] 93) w (fun b7 w8 =>
 doAl (.cells #[.int .i64 b_4, .int .i64 b_5, .int .u64 b_6] 93) w8 (fun b9 w10 =>
 let K13 : Bool → World → Prop := fun (x11 : Bool) (w12 : World) => 
 R (.returned (.bool x11)) w12
 ∃ (x14 : Int), World.cell? w10 ((blk b7).add 2) = some (.int .u64 x14) ∧ (
 ∃ (x15 : Int), World.cell? w10 ((blk b9).add 2) = some (.int .u64 x15) ∧ (
 ifB (decide ((x14 : Int) > x15)) (
 R (.returned (.bool true)) w10) (
 ∃ (x16 : Int), World.cell? w10 ((blk b7).add 2) = some (.int .u64 x16) ∧ (
 ∃ (x17 : Int), World.cell? w10 ((blk b9).add 2) = some (.int .u64 x17) ∧ (
 ifB ((x16 : Int) == x17) (
 ∃ (x18 : Int), World.cell? w10 ((blk b7).add 0) = some (.int .i64 x18) ∧ (
 ∃ (x19 : Int), World.cell? w10 ((blk b9).add 0) = some (.int .i64 x19) ∧ (
 K13 (decide ((x18 : Int) > x19)) w10))) (
 R (.returned (.bool false)) w10))))))))
set_option maxRecDepth 100000 in
theorem sh320_ok (a_1 : Int) (a_2 : Int) (a_3 : Int) (b_4 : Int) (b_5 : Int) (b_6 : Int) {R : Ending → World → Prop} {w : World} : sh320 a_1 a_2 a_3 b_4 b_5 b_6 R w → Calls Tryz.prog 320 #[.agg #[.int .i64 a_1, .int .i64 a_2, .int .u64 a_3], .agg #[.int .i64 b_4, .int .i64 b_5, .int .u64 b_6]] w R :=
  calls_of_eq (ann := fun _ => []) (fn := Tryz.f320) (c := bodyOf Tryz.f320) (args := #[.agg #[.int .i64 a_1, .int .i64 a_2, .int .u64 a_3], .agg #[.int .i64 b_4, .int .i64 b_5, .int .u64 b_6]]) 400 follows_mixed Tryz.func320 (by kernel_rfl) (by kernel_rfl)
set_option maxRecDepth 100000 in
/-- joinery/treap.item -/
def sh321 (n_1 : Option Addr) (R : Ending → World → Prop) (w : World) : Prop :=
 doAl (.cells #[.int .i64 0, .int .i64 0, .int .u64 0] 93) w (fun b2 w3 =>
 doCall Tryz.prog (.func (.func 107) #[] #[]) #[.pointer n_1] w3 (retS (fun v5 w6 => ∃ (x4 : Int), v5 = (.int .i64 x4 : Value) ∧ (
 doCall Tryz.prog (.func (.func 165) #[] #[]) #[.pointer n_1] w6 (retS (fun v8 w9 => ∃ (x7 : Int), v8 = (.int .i64 x7 : Value) ∧ (
 doCall Tryz.prog (.func (.func 166) #[] #[]) #[.pointer n_1] w9 (retS (fun v11 w12 => ∃ (x10 : Int), v11 = (.int .u64 x10 : Value) ∧ (
 doSt ((blk b2).add 0) (.int .i64 x4) w12 (fun w13 =>
 doSt ((blk b2).add 1) (.int .i64 x7) w13 (fun w14 =>
 doSt ((blk b2).add 2) (.int .u64 x10) w14 (fun w15 =>
 ∃ (x16 : Int), World.cell? w15 ((blk b2).add 0) = some (.int .i64 x16) ∧ (
 ∃ (x17 : Int), World.cell? w15 ((blk b2).add 1) = some (.int .i64 x17) ∧ (
 ∃ (x18 : Int), World.cell? w15 ((blk b2).add 2) = some (.int .u64 x18) ∧ (
 R (.returned (.agg #[.int .i64 x16, .int .i64 x17, .int .u64 x18])) w15)))))))) (fun ch w => Kfn R ch [] w)))) (fun ch w => Kfn R ch [] w)))) (fun ch w => Kfn R ch [] w)))
set_option maxRecDepth 100000 in
theorem sh321_ok (n_1 : Option Addr) {R : Ending → World → Prop} {w : World} : sh321 n_1 R w → Calls Tryz.prog 321 #[.pointer n_1] w R :=
  calls_of_eq (ann := fun _ => []) (fn := Tryz.f321) (c := bodyOf Tryz.f321) (args := #[.pointer n_1]) 400 follows_mixed Tryz.func321 (by kernel_rfl) (by kernel_rfl)
set_option maxRecDepth 100000 in
/-- (joinery/rbjoin.maker).of -/
def sh323 (l_1 : Option Addr) (pair_2 : Option Addr) (red_3 : Bool) (r_4 : Option Addr) (R : Ending → World → Prop) (w : World) : Prop :=
 doAl (.cells #[] 259) w (fun _b5 w6 =>
 doCall Tryz.prog (.func (.func 107) #[] #[]) #[.pointer pair_2] w6 (retS (fun v8 w9 => ∃ (x7 : Int), v8 = (.int .i64 x7 : Value) ∧ (
 doCall Tryz.prog (.func (.func 165) #[] #[]) #[.pointer pair_2] w9 (retS (fun v11 w12 => ∃ (x10 : Int), v11 = (.int .i64 x10 : Value) ∧ (
 doCall Tryz.prog (.func (.func 187) #[] #[]) #[.pointer l_1, .int .i64 x7, .int .i64 x10, .bool red_3, .pointer r_4] w12 (retS (fun v14 w15 => ∃ (x13 : Option Addr), v14 = (.pointer x13 : Value) ∧ (
 R (.returned (.pointer x13)) w15)) (fun ch w => Kfn R ch [] w)))) (fun ch w => Kfn R ch [] w)))) (fun ch w => Kfn R ch [] w)))
set_option maxRecDepth 100000 in
theorem sh323_ok (l_1 : Option Addr) (pair_2 : Option Addr) (red_3 : Bool) (r_4 : Option Addr) {R : Ending → World → Prop} {w : World} : sh323 l_1 pair_2 red_3 r_4 R w → Calls Tryz.prog 323 #[.agg #[], .pointer l_1, .pointer pair_2, .bool red_3, .pointer r_4] w R :=
  calls_of_eq (ann := fun _ => []) (fn := Tryz.f323) (c := bodyOf Tryz.f323) (args := #[.agg #[], .pointer l_1, .pointer pair_2, .bool red_3, .pointer r_4]) 400 follows_mixed Tryz.func323 (by kernel_rfl) (by kernel_rfl)
set_option maxRecDepth 100000 in
/-- (joinery/rbjoin.right).in -/
def sh324 (t_1 : Option Addr) (R : Ending → World → Prop) (w : World) : Prop :=
 doAl (.cells #[] 261) w (fun _b2 w3 =>
 doCall Tryz.prog (.func (.func 108) #[] #[]) #[.pointer t_1] w3 (retS (fun v5 w6 => ∃ (x4 : Option Addr), v5 = (.pointer x4 : Value) ∧ (
 R (.returned (.pointer x4)) w6)) (fun ch w => Kfn R ch [] w)))
set_option maxRecDepth 100000 in
theorem sh324_ok (t_1 : Option Addr) {R : Ending → World → Prop} {w : World} : sh324 t_1 R w → Calls Tryz.prog 324 #[.agg #[], .pointer t_1] w R :=
  calls_of_eq (ann := fun _ => []) (fn := Tryz.f324) (c := bodyOf Tryz.f324) (args := #[.agg #[], .pointer t_1]) 400 follows_mixed Tryz.func324 (by kernel_rfl) (by kernel_rfl)
set_option maxRecDepth 100000 in
/-- (joinery/rbjoin.right).out -/
def sh326 (t_1 : Option Addr) (R : Ending → World → Prop) (w : World) : Prop :=
 doAl (.cells #[] 261) w (fun _b2 w3 =>
 doCall Tryz.prog (.func (.func 109) #[] #[]) #[.pointer t_1] w3 (retS (fun v5 w6 => ∃ (x4 : Option Addr), v5 = (.pointer x4 : Value) ∧ (
 R (.returned (.pointer x4)) w6)) (fun ch w => Kfn R ch [] w)))
set_option maxRecDepth 100000 in
theorem sh326_ok (t_1 : Option Addr) {R : Ending → World → Prop} {w : World} : sh326 t_1 R w → Calls Tryz.prog 326 #[.agg #[], .pointer t_1] w R :=
  calls_of_eq (ann := fun _ => []) (fn := Tryz.f326) (c := bodyOf Tryz.f326) (args := #[.agg #[], .pointer t_1]) 400 follows_mixed Tryz.func326 (by kernel_rfl) (by kernel_rfl)
set_option maxRecDepth 100000 in
/-- (joinery/rbjoin.left).in -/
def sh327 (t_1 : Option Addr) (R : Ending → World → Prop) (w : World) : Prop :=
 doAl (.cells #[] 262) w (fun _b2 w3 =>
 doCall Tryz.prog (.func (.func 109) #[] #[]) #[.pointer t_1] w3 (retS (fun v5 w6 => ∃ (x4 : Option Addr), v5 = (.pointer x4 : Value) ∧ (
 R (.returned (.pointer x4)) w6)) (fun ch w => Kfn R ch [] w)))
set_option maxRecDepth 100000 in
theorem sh327_ok (t_1 : Option Addr) {R : Ending → World → Prop} {w : World} : sh327 t_1 R w → Calls Tryz.prog 327 #[.agg #[], .pointer t_1] w R :=
  calls_of_eq (ann := fun _ => []) (fn := Tryz.f327) (c := bodyOf Tryz.f327) (args := #[.agg #[], .pointer t_1]) 400 follows_mixed Tryz.func327 (by kernel_rfl) (by kernel_rfl)
set_option maxRecDepth 100000 in
/-- (joinery/rbjoin.left).out -/
def sh329 (t_1 : Option Addr) (R : Ending → World → Prop) (w : World) : Prop :=
 doAl (.cells #[] 262) w (fun _b2 w3 =>
 doCall Tryz.prog (.func (.func 108) #[] #[]) #[.pointer t_1] w3 (retS (fun v5 w6 => ∃ (x4 : Option Addr), v5 = (.pointer x4 : Value) ∧ (
 R (.returned (.pointer x4)) w6)) (fun ch w => Kfn R ch [] w)))
set_option maxRecDepth 100000 in
theorem sh329_ok (t_1 : Option Addr) {R : Ending → World → Prop} {w : World} : sh329 t_1 R w → Calls Tryz.prog 329 #[.agg #[], .pointer t_1] w R :=
  calls_of_eq (ann := fun _ => []) (fn := Tryz.f329) (c := bodyOf Tryz.f329) (args := #[.agg #[], .pointer t_1]) 400 follows_mixed Tryz.func329 (by kernel_rfl) (by kernel_rfl)
end Go.Proofs.YtbaoihmffobneaaGreat
