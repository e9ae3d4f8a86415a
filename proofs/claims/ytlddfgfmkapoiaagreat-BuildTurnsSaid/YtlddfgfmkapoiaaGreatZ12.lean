/-
  Printed by a program (gen.py): what the functions of the program do, as formulas; each with the proof that its call is what the formula says.
-/
/-
  Printed by a program (gen.py): what the functions of the program do, as formulas; each with the proof that its call is what the formula says.
-/
import Derived.Test.YtlddfgfmkapoiaaGreatZ02
import Derived.Test.YtlddfgfmkapoiaaGreatProg
import Derived.Test.YtlddfgfmkapoiaaGreatZ05

namespace Go.Proofs.YtlddfgfmkapoiaaGreat
open Go Go.Sh
set_option maxRecDepth 100000 in
/-- (joinery/wbjoin.side).once -/
def sh325 (s_1 : Int) (in_2 : Option Addr) (t_3 : Option Addr) (x_4 : Option Addr) (R : Ending → World → Prop) (w : World) : Prop :=
 doCall Tryz.prog (.func (.func 323) #[] #[]) #[.int .i64 s_1] w (retS (fun v6 w7 => ∃ (x5 : Int), v6 = (.int .i64 x5 : Value) ∧ (
 doCall Tryz.prog (.func (.func 324) #[] #[]) #[.int .i64 x5, .pointer x_4] w7 (retS (fun v9 w10 => ∃ (x8 : Option Addr), v9 = (.pointer x8 : Value) ∧ (
 doCall Tryz.prog (.func (.func 322) #[] #[]) #[.int .i64 s_1, .pointer in_2, .pointer t_3, .pointer x8] w10 (retS (fun v12 w13 => ∃ (x11 : Option Addr), v12 = (.pointer x11 : Value) ∧ (
 doCall Tryz.prog (.func (.func 324) #[] #[]) #[.int .i64 s_1, .pointer x_4] w13 (retS (fun v15 w16 => ∃ (x14 : Option Addr), v15 = (.pointer x14 : Value) ∧ (
 doCall Tryz.prog (.func (.func 322) #[] #[]) #[.int .i64 s_1, .pointer x11, .pointer x_4, .pointer x14] w16 (retS (fun v18 w19 => ∃ (x17 : Option Addr), v18 = (.pointer x17 : Value) ∧ (
 R (.returned (.pointer x17)) w19)) (fun ch w => Kfn R ch [] w)))) (fun ch w => Kfn R ch [] w)))) (fun ch w => Kfn R ch [] w)))) (fun ch w => Kfn R ch [] w)))) (fun ch w => Kfn R ch [] w))
set_option maxRecDepth 100000 in
theorem sh325_ok (s_1 : Int) (in_2 : Option Addr) (t_3 : Option Addr) (x_4 : Option Addr) {R : Ending → World → Prop} {w : World} : sh325 s_1 in_2 t_3 x_4 R w → Calls Tryz.prog 325 #[.int .i64 s_1, .pointer in_2, .pointer t_3, .pointer x_4] w R :=
  calls_of_eq (ann := fun _ => []) (fn := Tryz.f325) (c := bodyOf Tryz.f325) (args := #[.int .i64 s_1, .pointer in_2, .pointer t_3, .pointer x_4]) 400 follows_mixed Tryz.func325 (by kernel_rfl) (by kernel_rfl)
set_option maxRecDepth 100000 in
/-- (joinery/wbjoin.side).twice -/
def sh326 (s_1 : Int) (in_2 : Option Addr) (t_3 : Option Addr) (x_4 : Option Addr) (R : Ending → World → Prop) (w : World) : Prop :=
 doCall Tryz.prog (.func (.func 323) #[] #[]) #[.int .i64 s_1] w (retS (fun v6 w7 => ∃ (x5 : Int), v6 = (.int .i64 x5 : Value) ∧ (
 doCall Tryz.prog (.func (.func 324) #[] #[]) #[.int .i64 x5, .pointer x_4] w7 (retS (fun v9 w10 => ∃ (x8 : Option Addr), v9 = (.pointer x8 : Value) ∧ (
 doCall Tryz.prog (.func (.func 323) #[] #[]) #[.int .i64 s_1] w10 (retS (fun v12 w13 => ∃ (x11 : Int), v12 = (.int .i64 x11 : Value) ∧ (
 doCall Tryz.prog (.func (.func 324) #[] #[]) #[.int .i64 x11, .pointer x8] w13 (retS (fun v15 w16 => ∃ (x14 : Option Addr), v15 = (.pointer x14 : Value) ∧ (
 doCall Tryz.prog (.func (.func 322) #[] #[]) #[.int .i64 s_1, .pointer in_2, .pointer t_3, .pointer x14] w16 (retS (fun v18 w19 => ∃ (x17 : Option Addr), v18 = (.pointer x17 : Value) ∧ (
 doCall Tryz.prog (.func (.func 324) #[] #[]) #[.int .i64 s_1, .pointer x8] w19 (retS (fun v21 w22 => ∃ (x20 : Option Addr), v21 = (.pointer x20 : Value) ∧ (
 doCall Tryz.prog (.func (.func 324) #[] #[]) #[.int .i64 s_1, .pointer x_4] w22 (retS (fun v24 w25 => ∃ (x23 : Option Addr), v24 = (.pointer x23 : Value) ∧ (
 doCall Tryz.prog (.func (.func 322) #[] #[]) #[.int .i64 s_1, .pointer x20, .pointer x_4, .pointer x23] w25 (retS (fun v27 w28 => ∃ (x26 : Option Addr), v27 = (.pointer x26 : Value) ∧ (
 doCall Tryz.prog (.func (.func 322) #[] #[]) #[.int .i64 s_1, .pointer x17, .pointer x8, .pointer x26] w28 (retS (fun v30 w31 => ∃ (x29 : Option Addr), v30 = (.pointer x29 : Value) ∧ (
 R (.returned (.pointer x29)) w31)) (fun ch w => Kfn R ch [] w)))) (fun ch w => Kfn R ch [] w)))) (fun ch w => Kfn R ch [] w)))) (fun ch w => Kfn R ch [] w)))) (fun ch w => Kfn R ch [] w)))) (fun ch w => Kfn R ch [] w)))) (fun ch w => Kfn R ch [] w)))) (fun ch w => Kfn R ch [] w)))) (fun ch w => Kfn R ch [] w))
set_option maxRecDepth 100000 in
theorem sh326_ok (s_1 : Int) (in_2 : Option Addr) (t_3 : Option Addr) (x_4 : Option Addr) {R : Ending → World → Prop} {w : World} : sh326 s_1 in_2 t_3 x_4 R w → Calls Tryz.prog 326 #[.int .i64 s_1, .pointer in_2, .pointer t_3, .pointer x_4] w R :=
  calls_of_eq (ann := fun _ => []) (fn := Tryz.f326) (c := bodyOf Tryz.f326) (args := #[.int .i64 s_1, .pointer in_2, .pointer t_3, .pointer x_4]) 400 follows_mixed Tryz.func326 (by kernel_rfl) (by kernel_rfl)
set_option maxRecDepth 100000 in
/-- joinery/wb.within[int] -/
def sh327 (least_1 : Int) (most_2 : Int) (l_p3 : Option Addr) (l_n4 : Nat) (_l_c5 : Nat) (R : Ending → World → Prop) (w : World) : Prop :=
 ∃ (I6 : List Value → World → Prop) (μ7 : List Value → World → Nat), I6 [.int .i64 0] w ∧ (∀ (x10 : Int), ∀ (_j8 : Nat → Value) (w9 : World), I6 [.int .i64 x10] w9 → (
 ifB (decide ((x10 : Int) < ((l_n4 : Nat) : Int))) (
 doIx l_p3 l_n4 1 (x10) (fun a11 =>
 ∃ (x12 : Int), World.cell? w9 a11 = some (.int .i64 x12) ∧ (
 let K15 : Bool → World → Prop := fun (x13 : Bool) (w14 : World) => 
 ifB x13 (
 R (.returned (.bool false)) w14) (
 I6 [.int .i64 (IntKind.wrap .i64 (x10 + 1))] w14 ∧ μ7 [.int .i64 (IntKind.wrap .i64 (x10 + 1))] w14 < μ7 [.int .i64 x10] w9)
 ifB (decide ((x12 : Int) < least_1)) (
 R (.returned (.bool false)) w9) (
 K15 (decide ((x12 : Int) > most_2)) w9)))) (
 R (.returned (.bool true)) w9)))
set_option maxRecDepth 100000 in
theorem sh327_ok (least_1 : Int) (most_2 : Int) (l_p3 : Option Addr) (l_n4 : Nat) (l_c5 : Nat) {R : Ending → World → Prop} {w : World} : sh327 least_1 most_2 l_p3 l_n4 l_c5 R w → Calls Tryz.prog 327 #[.int .i64 least_1, .int .i64 most_2, .slice l_p3 l_n4 l_c5] w R :=
  calls_of_eq (ann := fun i => if i = 0 then [(11, .int .i64 0)] else []) (fn := Tryz.f327) (c := bodyOf Tryz.f327) (args := #[.int .i64 least_1, .int .i64 most_2, .slice l_p3 l_n4 l_c5]) 400 follows_mixed Tryz.func327 (by kernel_rfl) (by kernel_rfl)
set_option maxRecDepth 100000 in
/-- math/bits.Reverse64 -/
def sh328 (x_1 : Int) (R : Ending → World → Prop) (w : World) : Prop :=
 (0 : Int) ≤ 1 ∧ (
 (0 : Int) ≤ 1 ∧ (
 (0 : Int) ≤ 2 ∧ (
 (0 : Int) ≤ 2 ∧ (
 (0 : Int) ≤ 4 ∧ (
 (0 : Int) ≤ 4 ∧ (
 doCall Tryz.prog (.func (.func 344) #[] #[]) #[.int .u64 (bOr .u64 (bAnd .u64 (Int.fdiv (bOr .u64 (bAnd .u64 (Int.fdiv (bOr .u64 (bAnd .u64 (Int.fdiv x_1 (2 ^ (min (1 : Int).toNat (IntKind.bits .u64)))) 6148914691236517205) (IntKind.wrap .u64 ((bAnd .u64 x_1 6148914691236517205) * 2 ^ (min (1 : Int).toNat (IntKind.bits .u64))))) (2 ^ (min (2 : Int).toNat (IntKind.bits .u64)))) 3689348814741910323) (IntKind.wrap .u64 ((bAnd .u64 (bOr .u64 (bAnd .u64 (Int.fdiv x_1 (2 ^ (min (1 : Int).toNat (IntKind.bits .u64)))) 6148914691236517205) (IntKind.wrap .u64 ((bAnd .u64 x_1 6148914691236517205) * 2 ^ (min (1 : Int).toNat (IntKind.bits .u64))))) 3689348814741910323) * 2 ^ (min (2 : Int).toNat (IntKind.bits .u64))))) (2 ^ (min (4 : Int).toNat (IntKind.bits .u64)))) 1085102592571150095) (IntKind.wrap .u64 ((bAnd .u64 (bOr .u64 (bAnd .u64 (Int.fdiv (bOr .u64 (bAnd .u64 (Int.fdiv x_1 (2 ^ (min (1 : Int).toNat (IntKind.bits .u64)))) 6148914691236517205) (IntKind.wrap .u64 ((bAnd .u64 x_1 6148914691236517205) * 2 ^ (min (1 : Int).toNat (IntKind.bits .u64))))) (2 ^ (min (2 : Int).toNat (IntKind.bits .u64)))) 3689348814741910323) (IntKind.wrap .u64 ((bAnd .u64 (bOr .u64 (bAnd .u64 (Int.fdiv x_1 (2 ^ (min (1 : Int).toNat (IntKind.bits .u64)))) 6148914691236517205) (IntKind.wrap .u64 ((bAnd .u64 x_1 6148914691236517205) * 2 ^ (min (1 : Int).toNat (IntKind.bits .u64))))) 3689348814741910323) * 2 ^ (min (2 : Int).toNat (IntKind.bits .u64))))) 1085102592571150095) * 2 ^ (min (4 : Int).toNat (IntKind.bits .u64)))))] w (retS (fun v3 w4 => ∃ (x2 : Int), v3 = (.int .u64 x2 : Value) ∧ (
 R (.returned (.int .u64 x2)) w4)) (fun ch w => Kfn R ch [] w))))))))
set_option maxRecDepth 100000 in
theorem sh328_ok (x_1 : Int) {R : Ending → World → Prop} {w : World} : sh328 x_1 R w → Calls Tryz.prog 328 #[.int .u64 x_1] w R :=
  calls_of_eq (ann := fun _ => []) (fn := Tryz.f328) (c := bodyOf Tryz.f328) (args := #[.int .u64 x_1]) 400 follows_mixed Tryz.func328 (by kernel_rfl) (by kernel_rfl)
set_option maxRecDepth 100000 in
/-- slices.rotateCmpFunc[joinery/api.Pair] -/
def sh330 (data_p1 : Option Addr) (data_n2 : Nat) (data_c3 : Nat) (a_4 : Int) (m_5 : Int) (b_6 : Int) (cmp_f7 : Fn) (cmp_x8 : Array Value) (cmp_c9 : Array Value) (R : Ending → World → Prop) (w : World) : Prop :=
 ∃ (I10 : List Value → World → Prop) (μ11 : List Value → World → Nat), I10 [.int .i64 (IntKind.wrap .i64 (m_5 - a_4)), .int .i64 (IntKind.wrap .i64 (b_6 - m_5))] w ∧ (∀ (i_14 : Int), ∀ (j_15 : Int), ∀ (_j12 : Nat → Value) (w13 : World), I10 [.int .i64 i_14, .int .i64 j_15] w13 → (
 ifB ((i_14 : Int) != j_15) (
 ifB (decide ((i_14 : Int) > j_15)) (
 doCall Tryz.prog (.func (.func 345) #[] #[]) #[.slice data_p1 data_n2 data_c3, .int .i64 (IntKind.wrap .i64 (m_5 - i_14)), .int .i64 m_5, .int .i64 j_15, .func cmp_f7 cmp_x8 cmp_c9] w13 (retS (fun v16 w17 => v16 = (.tuple #[] : Value) ∧ (
 I10 [.int .i64 (IntKind.wrap .i64 (i_14 - j_15)), .int .i64 j_15] w17 ∧ μ11 [.int .i64 (IntKind.wrap .i64 (i_14 - j_15)), .int .i64 j_15] w17 < μ11 [.int .i64 i_14, .int .i64 j_15] w13)) (fun ch w => Kfn R ch [] w))) (
 doCall Tryz.prog (.func (.func 345) #[] #[]) #[.slice data_p1 data_n2 data_c3, .int .i64 (IntKind.wrap .i64 (m_5 - i_14)), .int .i64 (IntKind.wrap .i64 ((IntKind.wrap .i64 (m_5 + j_15)) - i_14)), .int .i64 i_14, .func cmp_f7 cmp_x8 cmp_c9] w13 (retS (fun v18 w19 => v18 = (.tuple #[] : Value) ∧ (
 I10 [.int .i64 i_14, .int .i64 (IntKind.wrap .i64 (j_15 - i_14))] w19 ∧ μ11 [.int .i64 i_14, .int .i64 (IntKind.wrap .i64 (j_15 - i_14))] w19 < μ11 [.int .i64 i_14, .int .i64 j_15] w13)) (fun ch w => Kfn R ch [] w)))) (
 doCall Tryz.prog (.func (.func 345) #[] #[]) #[.slice data_p1 data_n2 data_c3, .int .i64 (IntKind.wrap .i64 (m_5 - i_14)), .int .i64 m_5, .int .i64 i_14, .func cmp_f7 cmp_x8 cmp_c9] w13 (retS (fun v20 w21 => v20 = (.tuple #[] : Value) ∧ (
 R (.returned (.tuple #[])) w21)) (fun ch w => Kfn R ch [] w)))))
set_option maxRecDepth 100000 in
theorem sh330_ok (data_p1 : Option Addr) (data_n2 : Nat) (data_c3 : Nat) (a_4 : Int) (m_5 : Int) (b_6 : Int) (cmp_f7 : Fn) (cmp_x8 : Array Value) (cmp_c9 : Array Value) {R : Ending → World → Prop} {w : World} : sh330 data_p1 data_n2 data_c3 a_4 m_5 b_6 cmp_f7 cmp_x8 cmp_c9 R w → Calls Tryz.prog 330 #[.slice data_p1 data_n2 data_c3, .int .i64 a_4, .int .i64 m_5, .int .i64 b_6, .func cmp_f7 cmp_x8 cmp_c9] w R :=
  calls_of_eq (ann := fun i => if i = 0 then [(10, .int .i64 0), (11, .int .i64 0)] else []) (fn := Tryz.f330) (c := bodyOf Tryz.f330) (args := #[.slice data_p1 data_n2 data_c3, .int .i64 a_4, .int .i64 m_5, .int .i64 b_6, .func cmp_f7 cmp_x8 cmp_c9]) 400 follows_mixed Tryz.func330 (by kernel_rfl) (by kernel_rfl)
set_option maxRecDepth 100000 in
/-- joinery/joineryref14.one -/
def sh331 (l_p1 : Option Addr) (l_n2 : Nat) (l_c3 : Nat) (R : Ending → World → Prop) (w : World) : Prop :=
 doCall Tryz.prog (.func (.func 109) #[] #[]) #[.slice l_p1 l_n2 l_c3] w (retS (fun v17 w18 => ∃ (x4 : Int), ∃ (x5 : Int), ∃ (x6 : Int), ∃ (x7 : Int), ∃ (x8 : Int), ∃ (x9 : Bool), ∃ (x10 : Bool), ∃ (xp11 : Option Addr), ∃ (xn12 : Nat), ∃ (xc13 : Nat), ∃ (xp14 : Option Addr), ∃ (xn15 : Nat), ∃ (xc16 : Nat), v17 = (.tuple #[.agg #[.int .i64 x4, .int .i64 x5, .int .i64 x6, .int .i64 x7, .int .u64 x8, .bool x9, .bool x10], .slice xp11 xn12 xc13, .slice xp14 xn15 xc16] : Value) ∧ (
 doAl (.cells #[.int .i64 0, .int .i64 0, .int .i64 0, .int .i64 0, .int .u64 0, .bool false, .bool false] 150) w18 (fun b19 w20 =>
 doSt ((blk b19).add 0) (.int .i64 x4) w20 (fun w21 =>
 doSt ((blk b19).add 1) (.int .i64 x5) w21 (fun w22 =>
 doSt ((blk b19).add 2) (.int .i64 x6) w22 (fun w23 =>
 doSt ((blk b19).add 3) (.int .i64 x7) w23 (fun w24 =>
 doSt ((blk b19).add 4) (.int .u64 x8) w24 (fun w25 =>
 doSt ((blk b19).add 5) (.bool x9) w25 (fun w26 =>
 doSt ((blk b19).add 6) (.bool x10) w26 (fun w27 =>
 doCall Tryz.prog (.func (.func 346) #[] #[]) #[.slice xp11 xn12 xc13] w27 (retS (fun v29 w30 => ∃ (x28 : Int), v29 = (.int .u64 x28 : Value) ∧ (
 doCall Tryz.prog (.func (.func 346) #[] #[]) #[.slice xp14 xn15 xc16] w30 (retS (fun v32 w33 => ∃ (x31 : Int), v32 = (.int .u64 x31 : Value) ∧ (
 doGo Tryz.prog (.builtin .min #[75, 75] 75 #[false, false]) #[.int .u64 x28, .int .u64 x31] w33 (retS (fun v35 w36 => ∃ (x34 : Int), v35 = (.int .u64 x34 : Value) ∧ (
 doCall Tryz.prog (.func (.func 346) #[] #[]) #[.slice xp11 xn12 xc13] w36 (retS (fun v38 w39 => ∃ (x37 : Int), v38 = (.int .u64 x37 : Value) ∧ (
 doCall Tryz.prog (.func (.func 346) #[] #[]) #[.slice xp14 xn15 xc16] w39 (retS (fun v41 w42 => ∃ (x40 : Int), v41 = (.int .u64 x40 : Value) ∧ (
 doGo Tryz.prog (.builtin .max #[75, 75] 75 #[false, false]) #[.int .u64 x37, .int .u64 x40] w42 (retS (fun v44 w45 => ∃ (x43 : Int), v44 = (.int .u64 x43 : Value) ∧ (
 let K48 : Bool → World → Prop := fun (x46 : Bool) (w47 : World) => 
 ifB x46 (
 R (.returned (.int .i64 140)) w47) (
 ifB (decide (((IntKind.wrap .u64 (x43 - x34)) : Int) > 1)) (
 R (.returned (.int .i64 8)) w47) (
 R (.returned (.int .i64 0)) w47))
 ∃ (x49 : Int), World.cell? w45 ((blk b19).add 4) = some (.int .u64 x49) ∧ (
 ifB ((x49 : Int) == 0) (
 R (.returned (.int .i64 140)) w45) (
 ∃ (x50 : Int), World.cell? w45 ((blk b19).add 4) = some (.int .u64 x50) ∧ (
 K48 (((IntKind.wrap .u64 (x50 - 1)) : Int) != x43) w45))))) (fun ch w => Kfn R ch [] w)))) (fun ch w => Kfn R ch [] w)))) (fun ch w => Kfn R ch [] w)))) (fun ch w => Kfn R ch [] w)))) (fun ch w => Kfn R ch [] w)))) (fun ch w => Kfn R ch [] w)))))))))))) (fun ch w => Kfn R ch [] w))
set_option maxRecDepth 100000 in
theorem sh331_ok (l_p1 : Option Addr) (l_n2 : Nat) (l_c3 : Nat) {R : Ending → World → Prop} {w : World} : sh331 l_p1 l_n2 l_c3 R w → Calls Tryz.prog 331 #[.slice l_p1 l_n2 l_c3] w R :=
  calls_of_eq (ann := fun _ => []) (fn := Tryz.f331) (c := bodyOf Tryz.f331) (args := #[.slice l_p1 l_n2 l_c3]) 400 follows_mixed Tryz.func331 (by kernel_rfl) (by kernel_rfl)
set_option maxRecDepth 100000 in
/-- joinery/joineryref16.parts -/
def sh332 (l_p1 : Option Addr) (l_n2 : Nat) (l_c3 : Nat) (R : Ending → World → Prop) (w : World) : Prop :=
 ifB ((((l_n2 : Nat) : Int) : Int) == 0) (
 R (.returned (.tuple #[.int .i64 0, .int .i64 0])) w) (
 doCall Tryz.prog (.func (.func 347) #[] #[]) #[.slice l_p1 l_n2 l_c3] w (retS (fun v5 w6 => ∃ (x4 : Int), v5 = (.int .i64 x4 : Value) ∧ (
 ifB ((x4 : Int) != 0) (
 R (.returned (.tuple #[.int .i64 0, .int .i64 x4])) w6) (
 doCall Tryz.prog (.func (.func 109) #[] #[]) #[.slice l_p1 l_n2 l_c3] w6 (retS (fun v20 w21 => ∃ (x7 : Int), ∃ (x8 : Int), ∃ (x9 : Int), ∃ (x10 : Int), ∃ (x11 : Int), ∃ (x12 : Bool), ∃ (x13 : Bool), ∃ (xp14 : Option Addr), ∃ (xn15 : Nat), ∃ (xc16 : Nat), ∃ (xp17 : Option Addr), ∃ (xn18 : Nat), ∃ (xc19 : Nat), v20 = (.tuple #[.agg #[.int .i64 x7, .int .i64 x8, .int .i64 x9, .int .i64 x10, .int .u64 x11, .bool x12, .bool x13], .slice xp14 xn15 xc16, .slice xp17 xn18 xc19] : Value) ∧ (
 doAl (.cells #[.int .i64 0, .int .i64 0, .int .i64 0, .int .i64 0, .int .u64 0, .bool false, .bool false] 150) w21 (fun b22 w23 =>
 doSt ((blk b22).add 0) (.int .i64 x7) w23 (fun w24 =>
 doSt ((blk b22).add 1) (.int .i64 x8) w24 (fun w25 =>
 doSt ((blk b22).add 2) (.int .i64 x9) w25 (fun w26 =>
 doSt ((blk b22).add 3) (.int .i64 x10) w26 (fun w27 =>
 doSt ((blk b22).add 4) (.int .u64 x11) w27 (fun w28 =>
 doSt ((blk b22).add 5) (.bool x12) w28 (fun w29 =>
 doSt ((blk b22).add 6) (.bool x13) w29 (fun w30 =>
 doCall Tryz.prog (.func (.func 332) #[] #[]) #[.slice xp14 xn15 xc16] w30 (retS (fun v33 w34 => ∃ (x31 : Int), ∃ (x32 : Int), v33 = (.tuple #[.int .i64 x31, .int .i64 x32] : Value) ∧ (
 ifB ((x32 : Int) != 0) (
 R (.returned (.tuple #[.int .i64 (IntKind.wrap .i64 (1 + x31)), .int .i64 x32])) w34) (
 doCall Tryz.prog (.func (.func 332) #[] #[]) #[.slice xp17 xn18 xc19] w34 (retS (fun v37 w38 => ∃ (x35 : Int), ∃ (x36 : Int), v37 = (.tuple #[.int .i64 x35, .int .i64 x36] : Value) ∧ (
 R (.returned (.tuple #[.int .i64 (IntKind.wrap .i64 ((IntKind.wrap .i64 (1 + x31)) + x35)), .int .i64 x36])) w38)) (fun ch w => Kfn R ch [] w))))) (fun ch w => Kfn R ch [] w)))))))))))) (fun ch w => Kfn R ch [] w))))) (fun ch w => Kfn R ch [] w)))
set_option maxRecDepth 100000 in
theorem sh332_ok (l_p1 : Option Addr) (l_n2 : Nat) (l_c3 : Nat) {R : Ending → World → Prop} {w : World} : sh332 l_p1 l_n2 l_c3 R w → Calls Tryz.prog 332 #[.slice l_p1 l_n2 l_c3] w R :=
  calls_of_eq (ann := fun _ => []) (fn := Tryz.f332) (c := bodyOf Tryz.f332) (args := #[.slice l_p1 l_n2 l_c3]) 400 follows_mixed Tryz.func332 (by kernel_rfl) (by kernel_rfl)
set_option maxRecDepth 100000 in
/-- joinery/joineryref16.Red -/
def sh333 (l_p1 : Option Addr) (l_n2 : Nat) (l_c3 : Nat) (R : Ending → World → Prop) (w : World) : Prop :=
 doCall Tryz.prog (.func (.func 346) #[] #[]) #[.slice l_p1 l_n2 l_c3] w (retS (fun v5 w6 => ∃ (x4 : Int), v5 = (.int .u64 x4 : Value) ∧ (
 2 ≠ (0 : Int) ∧ (
 R (.returned (.bool (((Int.tmod x4 2) : Int) == 1))) w6))) (fun ch w => Kfn R ch [] w))
set_option maxRecDepth 100000 in
theorem sh333_ok (l_p1 : Option Addr) (l_n2 : Nat) (l_c3 : Nat) {R : Ending → World → Prop} {w : World} : sh333 l_p1 l_n2 l_c3 R w → Calls Tryz.prog 333 #[.slice l_p1 l_n2 l_c3] w R :=
  calls_of_eq (ann := fun _ => []) (fn := Tryz.f333) (c := bodyOf Tryz.f333) (args := #[.slice l_p1 l_n2 l_c3]) 400 follows_mixed Tryz.func333 (by kernel_rfl) (by kernel_rfl)
set_option maxRecDepth 100000 in
/-- joinery/joineryref18.Like -/
def sh334 (a_1 : Int) (b_2 : Int) (R : Ending → World → Prop) (w : World) : Prop :=
 let K5 : Bool → World → Prop := fun (x3 : Bool) (w4 : World) => 
 ifB x3 (
 R (.returned (.bool false)) w4) (
 let K8 : Bool → World → Prop := fun (x6 : Bool) (w7 : World) => 
 R (.returned (.bool x6)) w7
 ifB (decide (((IntKind.wrap .i64 (29 * (IntKind.wrap .i64 (a_1 + b_2)))) : Int) ≤ (IntKind.wrap .i64 (100 * a_1)))) (
 K8 (decide (((IntKind.wrap .i64 (29 * (IntKind.wrap .i64 (a_1 + b_2)))) : Int) ≤ (IntKind.wrap .i64 (100 * b_2)))) w4) (
 R (.returned (.bool false)) w4))
 ifB (decide ((a_1 : Int) < 1)) (
 R (.returned (.bool false)) w) (
 ifB (decide ((b_2 : Int) < 1)) (
 R (.returned (.bool false)) w) (
 ifB (decide ((a_1 : Int) > 1099511627776)) (
 R (.returned (.bool false)) w) (
 K5 (decide ((b_2 : Int) > 1099511627776)) w)))
set_option maxRecDepth 100000 in
theorem sh334_ok (a_1 : Int) (b_2 : Int) {R : Ending → World → Prop} {w : World} : sh334 a_1 b_2 R w → Calls Tryz.prog 334 #[.int .i64 a_1, .int .i64 b_2] w R :=
  calls_of_eq (ann := fun _ => []) (fn := Tryz.f334) (c := bodyOf Tryz.f334) (args := #[.int .i64 a_1, .int .i64 b_2]) 400 follows_mixed Tryz.func334 (by kernel_rfl) (by kernel_rfl)
set_option maxRecDepth 100000 in
/-- joinery/wbjoin.of -/
def sh343 (t_1 : Option Addr) (R : Ending → World → Prop) (w : World) : Prop :=
 doAl (.cells #[.pointer none, .pointer none] 376) w (fun b2 w3 =>
 doCall Tryz.prog (.func (.func 123) #[] #[]) #[.pointer t_1] w3 (retS (fun v5 w6 => ∃ (x4 : Option Addr), v5 = (.pointer x4 : Value) ∧ (
 doCall Tryz.prog (.func (.func 125) #[] #[]) #[.pointer t_1] w6 (retS (fun v8 w9 => ∃ (x7 : Option Addr), v8 = (.pointer x7 : Value) ∧ (
 doSt ((blk b2).add 0) (.pointer x4) w9 (fun w10 =>
 doSt ((blk b2).add 1) (.pointer x7) w10 (fun w11 =>
 ∃ (x12 : Option Addr), World.cell? w11 ((blk b2).add 0) = some (.pointer x12) ∧ (
 ∃ (x13 : Option Addr), World.cell? w11 ((blk b2).add 1) = some (.pointer x13) ∧ (
 R (.returned (.agg #[.pointer x12, .pointer x13])) w11)))))) (fun ch w => Kfn R ch [] w)))) (fun ch w => Kfn R ch [] w)))
set_option maxRecDepth 100000 in
theorem sh343_ok (t_1 : Option Addr) {R : Ending → World → Prop} {w : World} : sh343 t_1 R w → Calls Tryz.prog 343 #[.pointer t_1] w R :=
  calls_of_eq (ann := fun _ => []) (fn := Tryz.f343) (c := bodyOf Tryz.f343) (args := #[.pointer t_1]) 400 follows_mixed Tryz.func343 (by kernel_rfl) (by kernel_rfl)
set_option maxRecDepth 100000 in
/-- math/bits.ReverseBytes64 -/
def sh344 (x_1 : Int) (R : Ending → World → Prop) (w : World) : Prop :=
 (0 : Int) ≤ 8 ∧ (
 (0 : Int) ≤ 8 ∧ (
 (0 : Int) ≤ 16 ∧ (
 (0 : Int) ≤ 16 ∧ (
 (0 : Int) ≤ 32 ∧ (
 (0 : Int) ≤ 32 ∧ (
 R (.returned (.int .u64 (bOr .u64 (Int.fdiv (bOr .u64 (bAnd .u64 (Int.fdiv (bOr .u64 (bAnd .u64 (Int.fdiv x_1 (2 ^ (min (8 : Int).toNat (IntKind.bits .u64)))) 71777214294589695) (IntKind.wrap .u64 ((bAnd .u64 x_1 71777214294589695) * 2 ^ (min (8 : Int).toNat (IntKind.bits .u64))))) (2 ^ (min (16 : Int).toNat (IntKind.bits .u64)))) 281470681808895) (IntKind.wrap .u64 ((bAnd .u64 (bOr .u64 (bAnd .u64 (Int.fdiv x_1 (2 ^ (min (8 : Int).toNat (IntKind.bits .u64)))) 71777214294589695) (IntKind.wrap .u64 ((bAnd .u64 x_1 71777214294589695) * 2 ^ (min (8 : Int).toNat (IntKind.bits .u64))))) 281470681808895) * 2 ^ (min (16 : Int).toNat (IntKind.bits .u64))))) (2 ^ (min (32 : Int).toNat (IntKind.bits .u64)))) (IntKind.wrap .u64 ((bOr .u64 (bAnd .u64 (Int.fdiv (bOr .u64 (bAnd .u64 (Int.fdiv x_1 (2 ^ (min (8 : Int).toNat (IntKind.bits .u64)))) 71777214294589695) (IntKind.wrap .u64 ((bAnd .u64 x_1 71777214294589695) * 2 ^ (min (8 : Int).toNat (IntKind.bits .u64))))) (2 ^ (min (16 : Int).toNat (IntKind.bits .u64)))) 281470681808895) (IntKind.wrap .u64 ((bAnd .u64 (bOr .u64 (bAnd .u64 (Int.fdiv x_1 (2 ^ (min (8 : Int).toNat (IntKind.bits .u64)))) 71777214294589695) (IntKind.wrap .u64 ((bAnd .u64 x_1 71777214294589695) * 2 ^ (min (8 : Int).toNat (IntKind.bits .u64))))) 281470681808895) * 2 ^ (min (16 : Int).toNat (IntKind.bits .u64))))) * 2 ^ (min (32 : Int).toNat (IntKind.bits .u64))))))) w))))))
set_option maxRecDepth 100000 in
theorem sh344_ok (x_1 : Int) {R : Ending → World → Prop} {w : World} : sh344 x_1 R w → Calls Tryz.prog 344 #[.int .u64 x_1] w R :=
  calls_of_eq (ann := fun _ => []) (fn := Tryz.f344) (c := bodyOf Tryz.f344) (args := #[.int .u64 x_1]) 400 follows_mixed Tryz.func344 (by kernel_rfl) (by kernel_rfl)
set_option maxRecDepth 100000 in
/-- slices.swapRangeCmpFunc[joinery/api.Pair] -/
def sh345 (data_p1 : Option Addr) (data_n2 : Nat) (_data_c3 : Nat) (a_4 : Int) (b_5 : Int) (n_6 : Int) (_cmp_f7 : Fn) (_cmp_x8 : Array Value) (_cmp_c9 : Array Value) (R : Ending → World → Prop) (w : World) : Prop :=
 ∃ (I10 : List Value → World → Prop) (μ11 : List Value → World → Nat), I10 [.int .i64 0] w ∧ (∀ (i_14 : Int), ∀ (_j12 : Nat → Value) (w13 : World), I10 [.int .i64 i_14] w13 → (
 ifB (decide ((i_14 : Int) < n_6)) (
 doDr w13 (fun w16 =>
 ∃ (C15 : World → Prop), C15 w16 ∧ (
 doIx data_p1 data_n2 2 (IntKind.wrap .i64 (b_5 + i_14)) (fun a17 =>
 ∃ (x18 : Int), (∀ w, C15 w → World.cell? w (a17.add 0) = some (.int .i64 x18)) ∧ (
 ∃ (x19 : Int), (∀ w, C15 w → World.cell? w (a17.add 1) = some (.int .i64 x19)) ∧ (
 doIx data_p1 data_n2 2 (IntKind.wrap .i64 (a_4 + i_14)) (fun a20 =>
 ∃ (x21 : Int), (∀ w, C15 w → World.cell? w (a20.add 0) = some (.int .i64 x21)) ∧ (
 ∃ (x22 : Int), (∀ w, C15 w → World.cell? w (a20.add 1) = some (.int .i64 x22)) ∧ (
 doIx data_p1 data_n2 2 (IntKind.wrap .i64 (a_4 + i_14)) (fun a23 =>
 doSt (a23.add 0) (.int .i64 x18) w16 (fun w24 =>
 doSt (a23.add 1) (.int .i64 x19) w24 (fun w25 =>
 doIx data_p1 data_n2 2 (IntKind.wrap .i64 (b_5 + i_14)) (fun a26 =>
 doSt (a26.add 0) (.int .i64 x21) w25 (fun w27 =>
 doSt (a26.add 1) (.int .i64 x22) w27 (fun w28 =>
 I10 [.int .i64 (IntKind.wrap .i64 (i_14 + 1))] w28 ∧ μ11 [.int .i64 (IntKind.wrap .i64 (i_14 + 1))] w28 < μ11 [.int .i64 i_14] w13))))))))))))))) (
 R (.returned (.tuple #[])) w13)))
set_option maxRecDepth 100000 in
theorem sh345_ok (data_p1 : Option Addr) (data_n2 : Nat) (data_c3 : Nat) (a_4 : Int) (b_5 : Int) (n_6 : Int) (cmp_f7 : Fn) (cmp_x8 : Array Value) (cmp_c9 : Array Value) {R : Ending → World → Prop} {w : World} : sh345 data_p1 data_n2 data_c3 a_4 b_5 n_6 cmp_f7 cmp_x8 cmp_c9 R w → Calls Tryz.prog 345 #[.slice data_p1 data_n2 data_c3, .int .i64 a_4, .int .i64 b_5, .int .i64 n_6, .func cmp_f7 cmp_x8 cmp_c9] w R :=
  calls_of_eq (ann := fun i => if i = 0 then [(10, .int .i64 0)] else []) (fn := Tryz.f345) (c := bodyOf Tryz.f345) (args := #[.slice data_p1 data_n2 data_c3, .int .i64 a_4, .int .i64 b_5, .int .i64 n_6, .func cmp_f7 cmp_x8 cmp_c9]) 400 follows_mixed Tryz.func345 (by kernel_rfl) (by kernel_rfl)
set_option maxRecDepth 100000 in
/-- joinery/joineryref14.Tag -/
def sh346 (l_p1 : Option Addr) (l_n2 : Nat) (_l_c3 : Nat) (R : Ending → World → Prop) (w : World) : Prop :=
 ifB ((((l_n2 : Nat) : Int) : Int) == 0) (
 R (.returned (.int .u64 0)) w) (
 doIx l_p1 l_n2 7 (0) (fun a4 =>
 ∃ (x5 : Int), World.cell? w (a4.add 4) = some (.int .u64 x5) ∧ (
 R (.returned (.int .u64 x5)) w)))
set_option maxRecDepth 100000 in
theorem sh346_ok (l_p1 : Option Addr) (l_n2 : Nat) (l_c3 : Nat) {R : Ending → World → Prop} {w : World} : sh346 l_p1 l_n2 l_c3 R w → Calls Tryz.prog 346 #[.slice l_p1 l_n2 l_c3] w R :=
  calls_of_eq (ann := fun _ => []) (fn := Tryz.f346) (c := bodyOf Tryz.f346) (args := #[.slice l_p1 l_n2 l_c3]) 400 follows_mixed Tryz.func346 (by kernel_rfl) (by kernel_rfl)
set_option maxRecDepth 100000 in
/-- joinery/joineryref16.one -/
def sh347 (l_p1 : Option Addr) (l_n2 : Nat) (l_c3 : Nat) (R : Ending → World → Prop) (w : World) : Prop :=
 doCall Tryz.prog (.func (.func 109) #[] #[]) #[.slice l_p1 l_n2 l_c3] w (retS (fun v17 w18 => ∃ (x4 : Int), ∃ (x5 : Int), ∃ (x6 : Int), ∃ (x7 : Int), ∃ (x8 : Int), ∃ (x9 : Bool), ∃ (x10 : Bool), ∃ (xp11 : Option Addr), ∃ (xn12 : Nat), ∃ (xc13 : Nat), ∃ (xp14 : Option Addr), ∃ (xn15 : Nat), ∃ (xc16 : Nat), v17 = (.tuple #[.agg #[.int .i64 x4, .int .i64 x5, .int .i64 x6, .int .i64 x7, .int .u64 x8, .bool x9, .bool x10], .slice xp11 xn12 xc13, .slice xp14 xn15 xc16] : Value) ∧ (
 doAl (.cells #[.int .i64 0, .int .i64 0, .int .i64 0, .int .i64 0, .int .u64 0, .bool false, .bool false] 150) w18 (fun b19 w20 =>
 doSt ((blk b19).add 0) (.int .i64 x4) w20 (fun w21 =>
 doSt ((blk b19).add 1) (.int .i64 x5) w21 (fun w22 =>
 doSt ((blk b19).add 2) (.int .i64 x6) w22 (fun w23 =>
 doSt ((blk b19).add 3) (.int .i64 x7) w23 (fun w24 =>
 doSt ((blk b19).add 4) (.int .u64 x8) w24 (fun w25 =>
 doSt ((blk b19).add 5) (.bool x9) w25 (fun w26 =>
 doSt ((blk b19).add 6) (.bool x10) w26 (fun w27 =>
 doCall Tryz.prog (.func (.func 352) #[] #[]) #[.slice xp11 xn12 xc13] w27 (retS (fun v29 w30 => ∃ (x28 : Int), v29 = (.int .u64 x28 : Value) ∧ (
 let K32 : World → Prop := fun (w31 : World) => 
 let K34 : World → Prop := fun (w33 : World) => 
 R (.returned (.int .i64 0)) w33
 let K37 : Bool → World → Prop := fun (x35 : Bool) (w36 : World) => 
 ifB x35 (
 R (.returned (.int .i64 8)) w36) (
 K34 w36)
 doCall Tryz.prog (.func (.func 352) #[] #[]) #[.slice xp14 xn15 xc16] w31 (retS (fun v39 w40 => ∃ (x38 : Int), v39 = (.int .u64 x38 : Value) ∧ (
 ifB ((x38 : Int) != x28) (
 R (.returned (.int .i64 8)) w40) (
 ∃ (x41 : Int), World.cell? w40 ((blk b19).add 4) = some (.int .u64 x41) ∧ (
 2 ≠ (0 : Int) ∧ (
 ifB (((Int.tmod x41 2) : Int) == 1) (
 doCall Tryz.prog (.func (.func 333) #[] #[]) #[.slice xp11 xn12 xc13] w40 (retS (fun v43 w44 => ∃ (x42 : Bool), v43 = (.bool x42 : Value) ∧ (
 ifB x42 (
 R (.returned (.int .i64 8)) w44) (
 doCall Tryz.prog (.func (.func 333) #[] #[]) #[.slice xp14 xn15 xc16] w44 (retS (fun v46 w47 => ∃ (x45 : Bool), v46 = (.bool x45 : Value) ∧ (
 K37 x45 w47)) (fun ch w => Kfn R ch [] w))))) (fun ch w => Kfn R ch [] w))) (
 K34 w40)))))) (fun ch w => Kfn R ch [] w))
 let K50 : Bool → World → Prop := fun (x48 : Bool) (w49 : World) => 
 ifB x48 (
 R (.returned (.int .i64 140)) w49) (
 K32 w49)
 ∃ (x51 : Int), World.cell? w30 ((blk b19).add 4) = some (.int .u64 x51) ∧ (
 ifB ((x51 : Int) == 0) (
 R (.returned (.int .i64 140)) w30) (
 ∃ (x52 : Int), World.cell? w30 ((blk b19).add 4) = some (.int .u64 x52) ∧ (
 ifB ((x52 : Int) != (IntKind.wrap .u64 ((IntKind.wrap .u64 (2 * x28)) + 1))) (
 ∃ (x53 : Int), World.cell? w30 ((blk b19).add 4) = some (.int .u64 x53) ∧ (
 K50 ((x53 : Int) != (IntKind.wrap .u64 ((IntKind.wrap .u64 (2 * x28)) + 2))) w30)) (
 K32 w30)))))) (fun ch w => Kfn R ch [] w)))))))))))) (fun ch w => Kfn R ch [] w))
set_option maxRecDepth 100000 in
theorem sh347_ok (l_p1 : Option Addr) (l_n2 : Nat) (l_c3 : Nat) {R : Ending → World → Prop} {w : World} : sh347 l_p1 l_n2 l_c3 R w → Calls Tryz.prog 347 #[.slice l_p1 l_n2 l_c3] w R :=
  calls_of_eq (ann := fun _ => []) (fn := Tryz.f347) (c := bodyOf Tryz.f347) (args := #[.slice l_p1 l_n2 l_c3]) 400 follows_mixed Tryz.func347 (by kernel_rfl) (by kernel_rfl)
end Go.Proofs.YtlddfgfmkapoiaaGreat

namespace Go.Proofs.YtlddfgfmkapoiaaGreat
open Go Go.Sh
set_option maxRecDepth 100000 in
/-- joinery/joineryref16.High -/
def sh352 (l_p1 : Option Addr) (l_n2 : Nat) (l_c3 : Nat) (R : Ending → World → Prop) (w : World) : Prop :=
 doCall Tryz.prog (.func (.func 346) #[] #[]) #[.slice l_p1 l_n2 l_c3] w (retS (fun v5 w6 => ∃ (x4 : Int), v5 = (.int .u64 x4 : Value) ∧ (
 2 ≠ (0 : Int) ∧ (
 R (.returned (.int .u64 (IntKind.wrap .u64 (Int.tdiv x4 2)))) w6))) (fun ch w => Kfn R ch [] w))
set_option maxRecDepth 100000 in
theorem sh352_ok (l_p1 : Option Addr) (l_n2 : Nat) (l_c3 : Nat) {R : Ending → World → Prop} {w : World} : sh352 l_p1 l_n2 l_c3 R w → Calls Tryz.prog 352 #[.slice l_p1 l_n2 l_c3] w R :=
  calls_of_eq (ann := fun _ => []) (fn := Tryz.f352) (c := bodyOf Tryz.f352) (args := #[.slice l_p1 l_n2 l_c3]) 400 follows_mixed Tryz.func352 (by kernel_rfl) (by kernel_rfl)
set_option maxRecDepth 100000 in
/-- (joinery/scheme.plain).faces -/
def sh384 (p_1 : ByteArray) (p_f2 : Fn) (p_x3 : Array Value) (p_c4 : Array Value) (p_f5 : Fn) (p_x6 : Array Value) (p_c7 : Array Value) (p_f8 : Fn) (p_x9 : Array Value) (p_c10 : Array Value) (p_f11 : Fn) (p_x12 : Array Value) (p_c13 : Array Value) (p_f14 : Fn) (p_x15 : Array Value) (p_c16 : Array Value) (p_f17 : Fn) (p_x18 : Array Value) (p_c19 : Array Value) (R : Ending → World → Prop) (w : World) : Prop :=
 doAl (.cells #[.string p_1, .func p_f2 p_x3 p_c4, .func p_f5 p_x6 p_c7, .func p_f8 p_x9 p_c10, .func p_f11 p_x12 p_c13, .func p_f14 p_x15 p_c16, .func p_f17 p_x18 p_c19] 295) w (fun b20 w21 =>
 doAl (.cells #[.string (⟨#[]⟩ : ByteArray), .nilFunc, .nilFunc, .nilFunc, .nilFunc, .nilFunc, .nilFunc, .bool false] 226) w21 (fun b22 w23 =>
 ∃ (x24 : ByteArray), World.cell? w23 ((blk b20).add 0) = some (.string x24) ∧ (
 ∃ (x25 : ByteArray), World.cell? w23 ((blk b20).add 0) = some (.string x25) ∧ (
 ∃ (xf26 : Fn), ∃ (xx27 : Array Value), ∃ (xc28 : Array Value), World.cell? w23 ((blk b20).add 1) = some (.func xf26 xx27 xc28) ∧ (
 ∃ (xf29 : Fn), ∃ (xx30 : Array Value), ∃ (xc31 : Array Value), World.cell? w23 ((blk b20).add 2) = some (.func xf29 xx30 xc31) ∧ (
 ∃ (xf32 : Fn), ∃ (xx33 : Array Value), ∃ (xc34 : Array Value), World.cell? w23 ((blk b20).add 3) = some (.func xf32 xx33 xc34) ∧ (
 ∃ (xf35 : Fn), ∃ (xx36 : Array Value), ∃ (xc37 : Array Value), World.cell? w23 ((blk b20).add 4) = some (.func xf35 xx36 xc37) ∧ (
 ∃ (xf38 : Fn), ∃ (xx39 : Array Value), ∃ (xc40 : Array Value), World.cell? w23 ((blk b20).add 5) = some (.func xf38 xx39 xc40) ∧ (
 ∃ (xf41 : Fn), ∃ (xx42 : Array Value), ∃ (xc43 : Array Value), World.cell? w23 ((blk b20).add 6) = some (.func xf41 xx42 xc43) ∧ (
 ∃ (xf44 : Fn), ∃ (xx45 : Array Value), ∃ (xc46 : Array Value), World.cell? w23 (((blk b20).add 2).add 4) = some (.func xf44 xx45 xc46) ∧ (
 ∃ (xf47 : Fn), ∃ (xx48 : Array Value), ∃ (xc49 : Array Value), World.cell? w23 (((blk b20).add 2).add 0) = some (.func xf47 xx48 xc49) ∧ (
 ∃ (xf50 : Fn), ∃ (xx51 : Array Value), ∃ (xc52 : Array Value), World.cell? w23 (((blk b20).add 2).add 1) = some (.func xf50 xx51 xc52) ∧ (
 ∃ (xf53 : Fn), ∃ (xx54 : Array Value), ∃ (xc55 : Array Value), World.cell? w23 (((blk b20).add 2).add 2) = some (.func xf53 xx54 xc55) ∧ (
 ∃ (xf56 : Fn), ∃ (xx57 : Array Value), ∃ (xc58 : Array Value), World.cell? w23 (((blk b20).add 2).add 3) = some (.func xf56 xx57 xc58) ∧ (
 doSt ((blk b22).add 0) (.string x24) w23 (fun w59 =>
 doSt ((blk b22).add 1) (.func (.func 385) #[.agg #[.string x25, .func xf26 xx27 xc28, .func xf29 xx30 xc31, .func xf32 xx33 xc34, .func xf35 xx36 xc37, .func xf38 xx39 xc40, .func xf41 xx42 xc43]] #[]) w59 (fun w60 =>
 doSt ((blk b22).add 2) (.func xf44 xx45 xc46) w60 (fun w61 =>
 doSt ((blk b22).add 3) (.func xf47 xx48 xc49) w61 (fun w62 =>
 doSt ((blk b22).add 4) (.func xf50 xx51 xc52) w62 (fun w63 =>
 doSt ((blk b22).add 5) (.func xf53 xx54 xc55) w63 (fun w64 =>
 doSt ((blk b22).add 6) (.func xf56 xx57 xc58) w64 (fun w65 =>
 doSt ((blk b22).add 7) (.bool false) w65 (fun w66 =>
 ∃ (x67 : ByteArray), World.cell? w66 ((blk b22).add 0) = some (.string x67) ∧ (
 ∃ (xf68 : Fn), ∃ (xx69 : Array Value), ∃ (xc70 : Array Value), World.cell? w66 ((blk b22).add 1) = some (.func xf68 xx69 xc70) ∧ (
 ∃ (xf71 : Fn), ∃ (xx72 : Array Value), ∃ (xc73 : Array Value), World.cell? w66 ((blk b22).add 2) = some (.func xf71 xx72 xc73) ∧ (
 ∃ (xf74 : Fn), ∃ (xx75 : Array Value), ∃ (xc76 : Array Value), World.cell? w66 ((blk b22).add 3) = some (.func xf74 xx75 xc76) ∧ (
 ∃ (xf77 : Fn), ∃ (xx78 : Array Value), ∃ (xc79 : Array Value), World.cell? w66 ((blk b22).add 4) = some (.func xf77 xx78 xc79) ∧ (
 ∃ (xf80 : Fn), ∃ (xx81 : Array Value), ∃ (xc82 : Array Value), World.cell? w66 ((blk b22).add 5) = some (.func xf80 xx81 xc82) ∧ (
 ∃ (xf83 : Fn), ∃ (xx84 : Array Value), ∃ (xc85 : Array Value), World.cell? w66 ((blk b22).add 6) = some (.func xf83 xx84 xc85) ∧ (
 ∃ (x86 : Bool), World.cell? w66 ((blk b22).add 7) = some (.bool x86) ∧ (
 R (.returned (.agg #[.string x67, .func xf68 xx69 xc70, .func xf71 xx72 xc73, .func xf74 xx75 xc76, .func xf77 xx78 xc79, .func xf80 xx81 xc82, .func xf83 xx84 xc85, .bool x86])) w66)))))))))))))))))))))))))))))))
set_option maxRecDepth 100000 in
theorem sh384_ok (p_1 : ByteArray) (p_f2 : Fn) (p_x3 : Array Value) (p_c4 : Array Value) (p_f5 : Fn) (p_x6 : Array Value) (p_c7 : Array Value) (p_f8 : Fn) (p_x9 : Array Value) (p_c10 : Array Value) (p_f11 : Fn) (p_x12 : Array Value) (p_c13 : Array Value) (p_f14 : Fn) (p_x15 : Array Value) (p_c16 : Array Value) (p_f17 : Fn) (p_x18 : Array Value) (p_c19 : Array Value) {R : Ending → World → Prop} {w : World} : sh384 p_1 p_f2 p_x3 p_c4 p_f5 p_x6 p_c7 p_f8 p_x9 p_c10 p_f11 p_x12 p_c13 p_f14 p_x15 p_c16 p_f17 p_x18 p_c19 R w → Calls Tryz.prog 384 #[.agg #[.string p_1, .func p_f2 p_x3 p_c4, .func p_f5 p_x6 p_c7, .func p_f8 p_x9 p_c10, .func p_f11 p_x12 p_c13, .func p_f14 p_x15 p_c16, .func p_f17 p_x18 p_c19]] w R :=
  calls_of_eq (ann := fun _ => []) (fn := Tryz.f384) (c := bodyOf Tryz.f384) (args := #[.agg #[.string p_1, .func p_f2 p_x3 p_c4, .func p_f5 p_x6 p_c7, .func p_f8 p_x9 p_c10, .func p_f11 p_x12 p_c13, .func p_f14 p_x15 p_c16, .func p_f17 p_x18 p_c19]]) 400 follows_mixed Tryz.func384 (by kernel_rfl) (by kernel_rfl)
set_option maxRecDepth 100000 in
/-- (joinery/scheme.plain).of -/
def sh385 (p_1 : ByteArray) (p_f2 : Fn) (p_x3 : Array Value) (p_c4 : Array Value) (p_f5 : Fn) (p_x6 : Array Value) (p_c7 : Array Value) (p_f8 : Fn) (p_x9 : Array Value) (p_c10 : Array Value) (p_f11 : Fn) (p_x12 : Array Value) (p_c13 : Array Value) (p_f14 : Fn) (p_x15 : Array Value) (p_c16 : Array Value) (p_f17 : Fn) (p_x18 : Array Value) (p_c19 : Array Value) (l_20 : Option Addr) (x_21 : Int) (x_22 : Int) (x_23 : Int) (r_24 : Option Addr) (R : Ending → World → Prop) (w : World) : Prop :=
 doAl (.cells #[.string p_1, .func p_f2 p_x3 p_c4, .func p_f5 p_x6 p_c7, .func p_f8 p_x9 p_c10, .func p_f11 p_x12 p_c13, .func p_f14 p_x15 p_c16, .func p_f17 p_x18 p_c19] 295) w (fun b25 w26 =>
 doAl (.cells #[.int .i64 x_21, .int .i64 x_22, .int .u64 x_23] 114) w26 (fun b27 w28 =>
 ∃ (xf29 : Fn), ∃ (xx30 : Array Value), ∃ (xc31 : Array Value), World.cell? w28 ((blk b25).add 1) = some (.func xf29 xx30 xc31) ∧ (
 ∃ (x32 : Int), World.cell? w28 ((blk b27).add 0) = some (.int .i64 x32) ∧ (
 ∃ (x33 : Int), World.cell? w28 ((blk b27).add 1) = some (.int .i64 x33) ∧ (
 doCall Tryz.prog (.func xf29 xx30 xc31) #[.pointer l_20, .int .i64 x32, .int .i64 x33, .pointer r_24] w28 (retS (fun v35 w36 => ∃ (x34 : Option Addr), v35 = (.pointer x34 : Value) ∧ (
 R (.returned (.pointer x34)) w36)) (fun ch w => Kfn R ch [] w)))))))
set_option maxRecDepth 100000 in
theorem sh385_ok (p_1 : ByteArray) (p_f2 : Fn) (p_x3 : Array Value) (p_c4 : Array Value) (p_f5 : Fn) (p_x6 : Array Value) (p_c7 : Array Value) (p_f8 : Fn) (p_x9 : Array Value) (p_c10 : Array Value) (p_f11 : Fn) (p_x12 : Array Value) (p_c13 : Array Value) (p_f14 : Fn) (p_x15 : Array Value) (p_c16 : Array Value) (p_f17 : Fn) (p_x18 : Array Value) (p_c19 : Array Value) (l_20 : Option Addr) (x_21 : Int) (x_22 : Int) (x_23 : Int) (r_24 : Option Addr) {R : Ending → World → Prop} {w : World} : sh385 p_1 p_f2 p_x3 p_c4 p_f5 p_x6 p_c7 p_f8 p_x9 p_c10 p_f11 p_x12 p_c13 p_f14 p_x15 p_c16 p_f17 p_x18 p_c19 l_20 x_21 x_22 x_23 r_24 R w → Calls Tryz.prog 385 #[.agg #[.string p_1, .func p_f2 p_x3 p_c4, .func p_f5 p_x6 p_c7, .func p_f8 p_x9 p_c10, .func p_f11 p_x12 p_c13, .func p_f14 p_x15 p_c16, .func p_f17 p_x18 p_c19], .pointer l_20, .agg #[.int .i64 x_21, .int .i64 x_22, .int .u64 x_23], .pointer r_24] w R :=
  calls_of_eq (ann := fun _ => []) (fn := Tryz.f385) (c := bodyOf Tryz.f385) (args := #[.agg #[.string p_1, .func p_f2 p_x3 p_c4, .func p_f5 p_x6 p_c7, .func p_f8 p_x9 p_c10, .func p_f11 p_x12 p_c13, .func p_f14 p_x15 p_c16, .func p_f17 p_x18 p_c19], .pointer l_20, .agg #[.int .i64 x_21, .int .i64 x_22, .int .u64 x_23], .pointer r_24]) 400 follows_mixed Tryz.func385 (by kernel_rfl) (by kernel_rfl)
set_option maxRecDepth 100000 in
/-- (joinery/scheme.tagged).faces -/
def sh386  (R : Ending → World → Prop) (w : World) : Prop :=
 doAl (.cells #[] 296) w (fun _b1 w2 =>
 doAl (.cells #[.string (⟨#[]⟩ : ByteArray), .nilFunc, .nilFunc, .nilFunc, .nilFunc, .nilFunc, .nilFunc, .bool false] 226) w2 (fun b3 w4 =>
 doSt ((blk b3).add 0) (.string (⟨#[116, 114, 101, 97, 112]⟩ : ByteArray)) w4 (fun w5 =>
 doSt ((blk b3).add 1) (.func (.func 387) #[] #[]) w5 (fun w6 =>
 doSt ((blk b3).add 2) (.func (.func 223) #[] #[]) w6 (fun w7 =>
 doSt ((blk b3).add 3) (.func (.func 195) #[] #[]) w7 (fun w8 =>
 doSt ((blk b3).add 4) (.func (.func 118) #[] #[]) w8 (fun w9 =>
 doSt ((blk b3).add 5) (.func (.func 388) #[.agg #[]] #[]) w9 (fun w10 =>
 doSt ((blk b3).add 6) (.func (.func 389) #[] #[]) w10 (fun w11 =>
 doSt ((blk b3).add 7) (.bool true) w11 (fun w12 =>
 ∃ (x13 : ByteArray), World.cell? w12 ((blk b3).add 0) = some (.string x13) ∧ (
 ∃ (xf14 : Fn), ∃ (xx15 : Array Value), ∃ (xc16 : Array Value), World.cell? w12 ((blk b3).add 1) = some (.func xf14 xx15 xc16) ∧ (
 ∃ (xf17 : Fn), ∃ (xx18 : Array Value), ∃ (xc19 : Array Value), World.cell? w12 ((blk b3).add 2) = some (.func xf17 xx18 xc19) ∧ (
 ∃ (xf20 : Fn), ∃ (xx21 : Array Value), ∃ (xc22 : Array Value), World.cell? w12 ((blk b3).add 3) = some (.func xf20 xx21 xc22) ∧ (
 ∃ (xf23 : Fn), ∃ (xx24 : Array Value), ∃ (xc25 : Array Value), World.cell? w12 ((blk b3).add 4) = some (.func xf23 xx24 xc25) ∧ (
 ∃ (xf26 : Fn), ∃ (xx27 : Array Value), ∃ (xc28 : Array Value), World.cell? w12 ((blk b3).add 5) = some (.func xf26 xx27 xc28) ∧ (
 ∃ (xf29 : Fn), ∃ (xx30 : Array Value), ∃ (xc31 : Array Value), World.cell? w12 ((blk b3).add 6) = some (.func xf29 xx30 xc31) ∧ (
 ∃ (x32 : Bool), World.cell? w12 ((blk b3).add 7) = some (.bool x32) ∧ (
 R (.returned (.agg #[.string x13, .func xf14 xx15 xc16, .func xf17 xx18 xc19, .func xf20 xx21 xc22, .func xf23 xx24 xc25, .func xf26 xx27 xc28, .func xf29 xx30 xc31, .bool x32])) w12))))))))))))))))))
set_option maxRecDepth 100000 in
theorem sh386_ok  {R : Ending → World → Prop} {w : World} : sh386  R w → Calls Tryz.prog 386 #[.agg #[]] w R :=
  calls_of_eq (ann := fun _ => []) (fn := Tryz.f386) (c := bodyOf Tryz.f386) (args := #[.agg #[]]) 400 follows_mixed Tryz.func386 (by kernel_rfl) (by kernel_rfl)
set_option maxRecDepth 100000 in
/-- joinery/treapjoin.Join -/
def sh387 (l_1 : Option Addr) (x_2 : Int) (x_3 : Int) (x_4 : Int) (r_5 : Option Addr) (R : Ending → World → Prop) (w : World) : Prop :=
 doAl (.cells #[.int .i64 x_2, .int .i64 x_3, .int .u64 x_4] 114) w (fun b6 w7 =>
 ∃ (x8 : Int), World.cell? w7 ((blk b6).add 0) = some (.int .i64 x8) ∧ (
 ∃ (x9 : Int), World.cell? w7 ((blk b6).add 1) = some (.int .i64 x9) ∧ (
 ∃ (x10 : Int), World.cell? w7 ((blk b6).add 2) = some (.int .u64 x10) ∧ (
 doCall Tryz.prog (.func (.func 105) #[] #[]) #[.pointer none, .int .i64 x8, .int .i64 x9, .int .u64 x10, .pointer none] w7 (retS (fun v12 w13 => ∃ (x11 : Option Addr), v12 = (.pointer x11 : Value) ∧ (
 doAl (.cells #[.pointer x11, .pointer r_5] 35) w13 (fun b14 w15 =>
 doCall Tryz.prog (.func (.func 390) #[] #[]) #[.pointer l_1, .slice (some (blk b14)) 2 2] w15 (retS (fun v17 w18 => ∃ (x16 : Bool), v17 = (.bool x16 : Value) ∧ (
 doAl (.cells #[.pointer x11, .pointer l_1] 35) w18 (fun b19 w20 =>
 doCall Tryz.prog (.func (.func 390) #[] #[]) #[.pointer r_5, .slice (some (blk b19)) 2 2] w20 (retS (fun v22 w23 => ∃ (x21 : Bool), v22 = (.bool x21 : Value) ∧ (
 ifB ((x16 == true) && ((x21 == false) && true)) (
 doDr w23 (fun w25 =>
 ∃ (C24 : World → Prop), C24 w25 ∧ (
 ∃ (x26 : Int), (∀ w, C24 w → World.cell? w ((blk b6).add 0) = some (.int .i64 x26)) ∧ (
 ∃ (x27 : Int), (∀ w, C24 w → World.cell? w ((blk b6).add 1) = some (.int .i64 x27)) ∧ (
 ∃ (x28 : Int), (∀ w, C24 w → World.cell? w ((blk b6).add 2) = some (.int .u64 x28)) ∧ (
 doCall Tryz.prog (.func (.func 123) #[] #[]) #[.pointer l_1] w25 (retS (fun v30 w31 => ∃ (x29 : Option Addr), v30 = (.pointer x29 : Value) ∧ (
 C24 w31 ∧ (
 doCall Tryz.prog (.func (.func 108) #[] #[]) #[.pointer l_1] w31 (retS (fun v33 w34 => ∃ (x32 : Int), v33 = (.int .i64 x32 : Value) ∧ (
 C24 w34 ∧ (
 doCall Tryz.prog (.func (.func 126) #[] #[]) #[.pointer l_1] w34 (retS (fun v36 w37 => ∃ (x35 : Int), v36 = (.int .i64 x35 : Value) ∧ (
 C24 w37 ∧ (
 doCall Tryz.prog (.func (.func 196) #[] #[]) #[.pointer l_1] w37 (retS (fun v39 w40 => ∃ (x38 : Int), v39 = (.int .u64 x38 : Value) ∧ (
 C24 w40 ∧ (
 doCall Tryz.prog (.func (.func 125) #[] #[]) #[.pointer l_1] w40 (retS (fun v42 w43 => ∃ (x41 : Option Addr), v42 = (.pointer x41 : Value) ∧ (
 C24 w43 ∧ (
 doCall Tryz.prog (.func (.func 387) #[] #[]) #[.pointer x41, .agg #[.int .i64 x26, .int .i64 x27, .int .u64 x28], .pointer r_5] w43 (retS (fun v45 w46 => ∃ (x44 : Option Addr), v45 = (.pointer x44 : Value) ∧ (
 doCall Tryz.prog (.func (.func 105) #[] #[]) #[.pointer x29, .int .i64 x32, .int .i64 x35, .int .u64 x38, .pointer x44] w46 (retS (fun v48 w49 => ∃ (x47 : Option Addr), v48 = (.pointer x47 : Value) ∧ (
 C24 w49 ∧ (
 R (.returned (.pointer x47)) w49))) (fun ch w => Kfn R ch [] w)))) (fun ch w => Kfn R ch [] w))))) (fun ch w => Kfn R ch [] w))))) (fun ch w => Kfn R ch [] w))))) (fun ch w => Kfn R ch [] w))))) (fun ch w => Kfn R ch [] w))))) (fun ch w => Kfn R ch [] w)))))))) (
 ifB ((x16 == false) && ((x21 == true) && true)) (
 doDr w23 (fun w51 =>
 ∃ (C50 : World → Prop), C50 w51 ∧ (
 ∃ (x52 : Int), (∀ w, C50 w → World.cell? w ((blk b6).add 0) = some (.int .i64 x52)) ∧ (
 ∃ (x53 : Int), (∀ w, C50 w → World.cell? w ((blk b6).add 1) = some (.int .i64 x53)) ∧ (
 ∃ (x54 : Int), (∀ w, C50 w → World.cell? w ((blk b6).add 2) = some (.int .u64 x54)) ∧ (
 doCall Tryz.prog (.func (.func 123) #[] #[]) #[.pointer r_5] w51 (retS (fun v56 w57 => ∃ (x55 : Option Addr), v56 = (.pointer x55 : Value) ∧ (
 C50 w57 ∧ (
 doCall Tryz.prog (.func (.func 387) #[] #[]) #[.pointer l_1, .agg #[.int .i64 x52, .int .i64 x53, .int .u64 x54], .pointer x55] w57 (retS (fun v59 w60 => ∃ (x58 : Option Addr), v59 = (.pointer x58 : Value) ∧ (
 doCall Tryz.prog (.func (.func 108) #[] #[]) #[.pointer r_5] w60 (retS (fun v62 w63 => ∃ (x61 : Int), v62 = (.int .i64 x61 : Value) ∧ (
 C50 w63 ∧ (
 doCall Tryz.prog (.func (.func 126) #[] #[]) #[.pointer r_5] w63 (retS (fun v65 w66 => ∃ (x64 : Int), v65 = (.int .i64 x64 : Value) ∧ (
 C50 w66 ∧ (
 doCall Tryz.prog (.func (.func 196) #[] #[]) #[.pointer r_5] w66 (retS (fun v68 w69 => ∃ (x67 : Int), v68 = (.int .u64 x67 : Value) ∧ (
 C50 w69 ∧ (
 doCall Tryz.prog (.func (.func 125) #[] #[]) #[.pointer r_5] w69 (retS (fun v71 w72 => ∃ (x70 : Option Addr), v71 = (.pointer x70 : Value) ∧ (
 C50 w72 ∧ (
 doCall Tryz.prog (.func (.func 105) #[] #[]) #[.pointer x58, .int .i64 x61, .int .i64 x64, .int .u64 x67, .pointer x70] w72 (retS (fun v74 w75 => ∃ (x73 : Option Addr), v74 = (.pointer x73 : Value) ∧ (
 C50 w75 ∧ (
 R (.returned (.pointer x73)) w75))) (fun ch w => Kfn R ch [] w))))) (fun ch w => Kfn R ch [] w))))) (fun ch w => Kfn R ch [] w))))) (fun ch w => Kfn R ch [] w))))) (fun ch w => Kfn R ch [] w)))) (fun ch w => Kfn R ch [] w))))) (fun ch w => Kfn R ch [] w)))))))) (
 doCall Tryz.prog (.func (.func 391) #[] #[]) #[.pointer l_1, .pointer x11, .pointer r_5] w23 (retS (fun v77 w78 => ∃ (x76 : Option Addr), v77 = (.pointer x76 : Value) ∧ (
 R (.returned (.pointer x76)) w78)) (fun ch w => Kfn R ch [] w)))))) (fun ch w => Kfn R ch [] w))))) (fun ch w => Kfn R ch [] w))))) (fun ch w => Kfn R ch [] w))))))
set_option maxRecDepth 100000 in
theorem sh387_ok (l_1 : Option Addr) (x_2 : Int) (x_3 : Int) (x_4 : Int) (r_5 : Option Addr) {R : Ending → World → Prop} {w : World} : sh387 l_1 x_2 x_3 x_4 r_5 R w → Calls Tryz.prog 387 #[.pointer l_1, .agg #[.int .i64 x_2, .int .i64 x_3, .int .u64 x_4], .pointer r_5] w R :=
  calls_of_eq (ann := fun _ => []) (fn := Tryz.f387) (c := bodyOf Tryz.f387) (args := #[.pointer l_1, .agg #[.int .i64 x_2, .int .i64 x_3, .int .u64 x_4], .pointer r_5]) 400 follows_mixed Tryz.func387 (by kernel_rfl) (by kernel_rfl)
set_option maxRecDepth 100000 in
/-- joinery/treapjoin.Join$1 -/
def sh390 (a_1 : Option Addr) (others_p2 : Option Addr) (others_n3 : Nat) (_others_c4 : Nat) (R : Ending → World → Prop) (w : World) : Prop :=
 ∃ (I5 : List Value → World → Prop) (μ6 : List Value → World → Nat), I5 [.int .i64 0] w ∧ (∀ (x9 : Int), ∀ (_j7 : Nat → Value) (w8 : World), I5 [.int .i64 x9] w8 → (
 ifB (decide ((x9 : Int) < ((others_n3 : Nat) : Int))) (
 let K11 : World → Prop := fun (w10 : World) => 
 I5 [.int .i64 (IntKind.wrap .i64 (x9 + 1))] w10 ∧ μ6 [.int .i64 (IntKind.wrap .i64 (x9 + 1))] w10 < μ6 [.int .i64 x9] w8
 doIx others_p2 others_n3 1 (x9) (fun a12 =>
 ∃ (x13 : Option Addr), World.cell? w8 a12 = some (.pointer x13) ∧ (
 let K16 : Bool → World → Prop := fun (x14 : Bool) (w15 : World) => 
 ifB x14 (
 R (.returned (.bool false)) w15) (
 K11 w15)
 ifB (!(x13).isNone) (
 doCall Tryz.prog (.func (.func 253) #[] #[]) #[.pointer a_1, .pointer x13] w8 (retS (fun v18 w19 => ∃ (x17 : Bool), v18 = (.bool x17 : Value) ∧ (
 K16 (!x17) w19)) (fun ch w => Kfn R ch [] w))) (
 K11 w8)))) (
 R (.returned (.bool (!(a_1).isNone))) w8)))
set_option maxRecDepth 100000 in
theorem sh390_ok (a_1 : Option Addr) (others_p2 : Option Addr) (others_n3 : Nat) (others_c4 : Nat) {R : Ending → World → Prop} {w : World} : sh390 a_1 others_p2 others_n3 others_c4 R w → Calls Tryz.prog 390 #[.pointer a_1, .slice others_p2 others_n3 others_c4] w R :=
  calls_of_eq (ann := fun i => if i = 0 then [(9, .int .i64 0)] else []) (fn := Tryz.f390) (c := bodyOf Tryz.f390) (args := #[.pointer a_1, .slice others_p2 others_n3 others_c4]) 400 follows_mixed Tryz.func390 (by kernel_rfl) (by kernel_rfl)
set_option maxRecDepth 100000 in
/-- joinery/treapjoin.both -/
def sh391 (l_1 : Option Addr) (mid_2 : Option Addr) (r_3 : Option Addr) (R : Ending → World → Prop) (w : World) : Prop :=
 doCall Tryz.prog (.func (.func 108) #[] #[]) #[.pointer mid_2] w (retS (fun v5 w6 => ∃ (x4 : Int), v5 = (.int .i64 x4 : Value) ∧ (
 doCall Tryz.prog (.func (.func 126) #[] #[]) #[.pointer mid_2] w6 (retS (fun v8 w9 => ∃ (x7 : Int), v8 = (.int .i64 x7 : Value) ∧ (
 doCall Tryz.prog (.func (.func 196) #[] #[]) #[.pointer mid_2] w9 (retS (fun v11 w12 => ∃ (x10 : Int), v11 = (.int .u64 x10 : Value) ∧ (
 doAl (.cells #[.int .i64 0, .int .i64 0, .int .u64 0] 114) w12 (fun b13 w14 =>
 doSt ((blk b13).add 0) (.int .i64 x4) w14 (fun w15 =>
 doSt ((blk b13).add 1) (.int .i64 x7) w15 (fun w16 =>
 doSt ((blk b13).add 2) (.int .u64 x10) w16 (fun w17 =>
 doCall Tryz.prog (.func (.func 253) #[] #[]) #[.pointer l_1, .pointer mid_2] w17 (retS (fun v19 w20 => ∃ (x18 : Bool), v19 = (.bool x18 : Value) ∧ (
 ifB x18 (
 doDr w20 (fun w22 =>
 ∃ (C21 : World → Prop), C21 w22 ∧ (
 ∃ (x23 : Int), (∀ w, C21 w → World.cell? w ((blk b13).add 0) = some (.int .i64 x23)) ∧ (
 ∃ (x24 : Int), (∀ w, C21 w → World.cell? w ((blk b13).add 1) = some (.int .i64 x24)) ∧ (
 ∃ (x25 : Int), (∀ w, C21 w → World.cell? w ((blk b13).add 2) = some (.int .u64 x25)) ∧ (
 doCall Tryz.prog (.func (.func 123) #[] #[]) #[.pointer l_1] w22 (retS (fun v27 w28 => ∃ (x26 : Option Addr), v27 = (.pointer x26 : Value) ∧ (
 C21 w28 ∧ (
 doCall Tryz.prog (.func (.func 108) #[] #[]) #[.pointer l_1] w28 (retS (fun v30 w31 => ∃ (x29 : Int), v30 = (.int .i64 x29 : Value) ∧ (
 C21 w31 ∧ (
 doCall Tryz.prog (.func (.func 126) #[] #[]) #[.pointer l_1] w31 (retS (fun v33 w34 => ∃ (x32 : Int), v33 = (.int .i64 x32 : Value) ∧ (
 C21 w34 ∧ (
 doCall Tryz.prog (.func (.func 196) #[] #[]) #[.pointer l_1] w34 (retS (fun v36 w37 => ∃ (x35 : Int), v36 = (.int .u64 x35 : Value) ∧ (
 C21 w37 ∧ (
 doCall Tryz.prog (.func (.func 125) #[] #[]) #[.pointer l_1] w37 (retS (fun v39 w40 => ∃ (x38 : Option Addr), v39 = (.pointer x38 : Value) ∧ (
 C21 w40 ∧ (
 doCall Tryz.prog (.func (.func 387) #[] #[]) #[.pointer x38, .agg #[.int .i64 x23, .int .i64 x24, .int .u64 x25], .pointer r_3] w40 (retS (fun v42 w43 => ∃ (x41 : Option Addr), v42 = (.pointer x41 : Value) ∧ (
 doCall Tryz.prog (.func (.func 105) #[] #[]) #[.pointer x26, .int .i64 x29, .int .i64 x32, .int .u64 x35, .pointer x41] w43 (retS (fun v45 w46 => ∃ (x44 : Option Addr), v45 = (.pointer x44 : Value) ∧ (
 C21 w46 ∧ (
 R (.returned (.pointer x44)) w46))) (fun ch w => Kfn R ch [] w)))) (fun ch w => Kfn R ch [] w))))) (fun ch w => Kfn R ch [] w))))) (fun ch w => Kfn R ch [] w))))) (fun ch w => Kfn R ch [] w))))) (fun ch w => Kfn R ch [] w))))) (fun ch w => Kfn R ch [] w)))))))) (
 doCall Tryz.prog (.func (.func 253) #[] #[]) #[.pointer r_3, .pointer mid_2] w20 (retS (fun v48 w49 => ∃ (x47 : Bool), v48 = (.bool x47 : Value) ∧ (
 ifB x47 (
 doDr w49 (fun w51 =>
 ∃ (C50 : World → Prop), C50 w51 ∧ (
 ∃ (x52 : Int), (∀ w, C50 w → World.cell? w ((blk b13).add 0) = some (.int .i64 x52)) ∧ (
 ∃ (x53 : Int), (∀ w, C50 w → World.cell? w ((blk b13).add 1) = some (.int .i64 x53)) ∧ (
 ∃ (x54 : Int), (∀ w, C50 w → World.cell? w ((blk b13).add 2) = some (.int .u64 x54)) ∧ (
 doCall Tryz.prog (.func (.func 123) #[] #[]) #[.pointer r_3] w51 (retS (fun v56 w57 => ∃ (x55 : Option Addr), v56 = (.pointer x55 : Value) ∧ (
 C50 w57 ∧ (
 doCall Tryz.prog (.func (.func 387) #[] #[]) #[.pointer l_1, .agg #[.int .i64 x52, .int .i64 x53, .int .u64 x54], .pointer x55] w57 (retS (fun v59 w60 => ∃ (x58 : Option Addr), v59 = (.pointer x58 : Value) ∧ (
 doCall Tryz.prog (.func (.func 108) #[] #[]) #[.pointer r_3] w60 (retS (fun v62 w63 => ∃ (x61 : Int), v62 = (.int .i64 x61 : Value) ∧ (
 C50 w63 ∧ (
 doCall Tryz.prog (.func (.func 126) #[] #[]) #[.pointer r_3] w63 (retS (fun v65 w66 => ∃ (x64 : Int), v65 = (.int .i64 x64 : Value) ∧ (
 C50 w66 ∧ (
 doCall Tryz.prog (.func (.func 196) #[] #[]) #[.pointer r_3] w66 (retS (fun v68 w69 => ∃ (x67 : Int), v68 = (.int .u64 x67 : Value) ∧ (
 C50 w69 ∧ (
 doCall Tryz.prog (.func (.func 125) #[] #[]) #[.pointer r_3] w69 (retS (fun v71 w72 => ∃ (x70 : Option Addr), v71 = (.pointer x70 : Value) ∧ (
 C50 w72 ∧ (
 doCall Tryz.prog (.func (.func 105) #[] #[]) #[.pointer x58, .int .i64 x61, .int .i64 x64, .int .u64 x67, .pointer x70] w72 (retS (fun v74 w75 => ∃ (x73 : Option Addr), v74 = (.pointer x73 : Value) ∧ (
 C50 w75 ∧ (
 R (.returned (.pointer x73)) w75))) (fun ch w => Kfn R ch [] w))))) (fun ch w => Kfn R ch [] w))))) (fun ch w => Kfn R ch [] w))))) (fun ch w => Kfn R ch [] w))))) (fun ch w => Kfn R ch [] w)))) (fun ch w => Kfn R ch [] w))))) (fun ch w => Kfn R ch [] w)))))))) (
 ∃ (x76 : Int), World.cell? w49 ((blk b13).add 0) = some (.int .i64 x76) ∧ (
 ∃ (x77 : Int), World.cell? w49 ((blk b13).add 1) = some (.int .i64 x77) ∧ (
 ∃ (x78 : Int), World.cell? w49 ((blk b13).add 2) = some (.int .u64 x78) ∧ (
 doCall Tryz.prog (.func (.func 105) #[] #[]) #[.pointer l_1, .int .i64 x76, .int .i64 x77, .int .u64 x78, .pointer r_3] w49 (retS (fun v80 w81 => ∃ (x79 : Option Addr), v80 = (.pointer x79 : Value) ∧ (
 R (.returned (.pointer x79)) w81)) (fun ch w => Kfn R ch [] w)))))))) (fun ch w => Kfn R ch [] w))))) (fun ch w => Kfn R ch [] w)))))))) (fun ch w => Kfn R ch [] w)))) (fun ch w => Kfn R ch [] w)))) (fun ch w => Kfn R ch [] w))
set_option maxRecDepth 100000 in
theorem sh391_ok (l_1 : Option Addr) (mid_2 : Option Addr) (r_3 : Option Addr) {R : Ending → World → Prop} {w : World} : sh391 l_1 mid_2 r_3 R w → Calls Tryz.prog 391 #[.pointer l_1, .pointer mid_2, .pointer r_3] w R :=
  calls_of_eq (ann := fun _ => []) (fn := Tryz.f391) (c := bodyOf Tryz.f391) (args := #[.pointer l_1, .pointer mid_2, .pointer r_3]) 400 follows_mixed Tryz.func391 (by kernel_rfl) (by kernel_rfl)
set_option maxRecDepth 100000 in
/-- (joinery/rbjoin.maker).of -/
def sh394 (l_1 : Option Addr) (pair_2 : Option Addr) (red_3 : Bool) (r_4 : Option Addr) (R : Ending → World → Prop) (w : World) : Prop :=
 doAl (.cells #[] 339) w (fun _b5 w6 =>
 doCall Tryz.prog (.func (.func 108) #[] #[]) #[.pointer pair_2] w6 (retS (fun v8 w9 => ∃ (x7 : Int), v8 = (.int .i64 x7 : Value) ∧ (
 doCall Tryz.prog (.func (.func 126) #[] #[]) #[.pointer pair_2] w9 (retS (fun v11 w12 => ∃ (x10 : Int), v11 = (.int .i64 x10 : Value) ∧ (
 doCall Tryz.prog (.func (.func 271) #[] #[]) #[.pointer l_1, .int .i64 x7, .int .i64 x10, .bool red_3, .pointer r_4] w12 (retS (fun v14 w15 => ∃ (x13 : Option Addr), v14 = (.pointer x13 : Value) ∧ (
 R (.returned (.pointer x13)) w15)) (fun ch w => Kfn R ch [] w)))) (fun ch w => Kfn R ch [] w)))) (fun ch w => Kfn R ch [] w)))
set_option maxRecDepth 100000 in
theorem sh394_ok (l_1 : Option Addr) (pair_2 : Option Addr) (red_3 : Bool) (r_4 : Option Addr) {R : Ending → World → Prop} {w : World} : sh394 l_1 pair_2 red_3 r_4 R w → Calls Tryz.prog 394 #[.agg #[], .pointer l_1, .pointer pair_2, .bool red_3, .pointer r_4] w R :=
  calls_of_eq (ann := fun _ => []) (fn := Tryz.f394) (c := bodyOf Tryz.f394) (args := #[.agg #[], .pointer l_1, .pointer pair_2, .bool red_3, .pointer r_4]) 400 follows_mixed Tryz.func394 (by kernel_rfl) (by kernel_rfl)
set_option maxRecDepth 100000 in
/-- (joinery/rbjoin.right).in -/
def sh395 (t_1 : Option Addr) (R : Ending → World → Prop) (w : World) : Prop :=
 doAl (.cells #[] 341) w (fun _b2 w3 =>
 doCall Tryz.prog (.func (.func 123) #[] #[]) #[.pointer t_1] w3 (retS (fun v5 w6 => ∃ (x4 : Option Addr), v5 = (.pointer x4 : Value) ∧ (
 R (.returned (.pointer x4)) w6)) (fun ch w => Kfn R ch [] w)))
set_option maxRecDepth 100000 in
theorem sh395_ok (t_1 : Option Addr) {R : Ending → World → Prop} {w : World} : sh395 t_1 R w → Calls Tryz.prog 395 #[.agg #[], .pointer t_1] w R :=
  calls_of_eq (ann := fun _ => []) (fn := Tryz.f395) (c := bodyOf Tryz.f395) (args := #[.agg #[], .pointer t_1]) 400 follows_mixed Tryz.func395 (by kernel_rfl) (by kernel_rfl)
set_option maxRecDepth 100000 in
/-- (joinery/rbjoin.right).out -/
def sh397 (t_1 : Option Addr) (R : Ending → World → Prop) (w : World) : Prop :=
 doAl (.cells #[] 341) w (fun _b2 w3 =>
 doCall Tryz.prog (.func (.func 125) #[] #[]) #[.pointer t_1] w3 (retS (fun v5 w6 => ∃ (x4 : Option Addr), v5 = (.pointer x4 : Value) ∧ (
 R (.returned (.pointer x4)) w6)) (fun ch w => Kfn R ch [] w)))
set_option maxRecDepth 100000 in
theorem sh397_ok (t_1 : Option Addr) {R : Ending → World → Prop} {w : World} : sh397 t_1 R w → Calls Tryz.prog 397 #[.agg #[], .pointer t_1] w R :=
  calls_of_eq (ann := fun _ => []) (fn := Tryz.f397) (c := bodyOf Tryz.f397) (args := #[.agg #[], .pointer t_1]) 400 follows_mixed Tryz.func397 (by kernel_rfl) (by kernel_rfl)
set_option maxRecDepth 100000 in
/-- (joinery/rbjoin.left).in -/
def sh398 (t_1 : Option Addr) (R : Ending → World → Prop) (w : World) : Prop :=
 doAl (.cells #[] 342) w (fun _b2 w3 =>
 doCall Tryz.prog (.func (.func 125) #[] #[]) #[.pointer t_1] w3 (retS (fun v5 w6 => ∃ (x4 : Option Addr), v5 = (.pointer x4 : Value) ∧ (
 R (.returned (.pointer x4)) w6)) (fun ch w => Kfn R ch [] w)))
set_option maxRecDepth 100000 in
theorem sh398_ok (t_1 : Option Addr) {R : Ending → World → Prop} {w : World} : sh398 t_1 R w → Calls Tryz.prog 398 #[.agg #[], .pointer t_1] w R :=
  calls_of_eq (ann := fun _ => []) (fn := Tryz.f398) (c := bodyOf Tryz.f398) (args := #[.agg #[], .pointer t_1]) 400 follows_mixed Tryz.func398 (by kernel_rfl) (by kernel_rfl)
set_option maxRecDepth 100000 in
/-- (joinery/rbjoin.left).out -/
def sh400 (t_1 : Option Addr) (R : Ending → World → Prop) (w : World) : Prop :=
 doAl (.cells #[] 342) w (fun _b2 w3 =>
 doCall Tryz.prog (.func (.func 123) #[] #[]) #[.pointer t_1] w3 (retS (fun v5 w6 => ∃ (x4 : Option Addr), v5 = (.pointer x4 : Value) ∧ (
 R (.returned (.pointer x4)) w6)) (fun ch w => Kfn R ch [] w)))
set_option maxRecDepth 100000 in
theorem sh400_ok (t_1 : Option Addr) {R : Ending → World → Prop} {w : World} : sh400 t_1 R w → Calls Tryz.prog 400 #[.agg #[], .pointer t_1] w R :=
  calls_of_eq (ann := fun _ => []) (fn := Tryz.f400) (c := bodyOf Tryz.f400) (args := #[.agg #[], .pointer t_1]) 400 follows_mixed Tryz.func400 (by kernel_rfl) (by kernel_rfl)
end Go.Proofs.YtlddfgfmkapoiaaGreat

