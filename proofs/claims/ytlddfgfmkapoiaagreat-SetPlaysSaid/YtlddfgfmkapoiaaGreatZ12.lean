/-
  Printed by a program (gen.py): what the functions of the program do, as formulas; each with the proof that its call is what the formula says.
-/
import Derived.Test.YtlddfgfmkapoiaaGreatZ02
import Derived.Test.YtlddfgfmkapoiaaGreatProg
import Derived.Test.YtlddfgfmkapoiaaGreatZ05

namespace Go.Proofs.YtlddfgfmkapoiaaGreat
open Go Go.Sh
set_option maxRecDepth 100000 in
/-- joinery/rb.over -/
def sh318 (high_1 : Int) (is_2 : Bool) (R : Ending → World → Prop) (w : World) : Prop :=
 doAl (.cells #[.int .u64 0, .int .u64 0] 357) w (fun b3 w4 =>
 ifB is_2 (
 doSt ((blk b3).add 0) (.int .u64 1) w4 (fun w5 =>
 doSt ((blk b3).add 1) (.int .u64 high_1) w5 (fun w6 =>
 ∃ (x7 : Int), World.cell? w6 ((blk b3).add 0) = some (.int .u64 x7) ∧ (
 ∃ (x8 : Int), World.cell? w6 ((blk b3).add 1) = some (.int .u64 x8) ∧ (
 R (.returned (.agg #[.int .u64 x7, .int .u64 x8])) w6))))) (
 doSt ((blk b3).add 0) (.int .u64 0) w4 (fun w9 =>
 doSt ((blk b3).add 1) (.int .u64 (IntKind.wrap .u64 (high_1 + 1))) w9 (fun w10 =>
 ∃ (x11 : Int), World.cell? w10 ((blk b3).add 0) = some (.int .u64 x11) ∧ (
 ∃ (x12 : Int), World.cell? w10 ((blk b3).add 1) = some (.int .u64 x12) ∧ (
 R (.returned (.agg #[.int .u64 x11, .int .u64 x12])) w10))))))
set_option maxRecDepth 100000 in
theorem sh318_ok (high_1 : Int) (is_2 : Bool) {R : Ending → World → Prop} {w : World} : sh318 high_1 is_2 R w → Calls Tryz.prog 318 #[.int .u64 high_1, .bool is_2] w R :=
  calls_of_eq (ann := fun _ => []) (fn := Tryz.f318) (c := bodyOf Tryz.f318) (args := #[.int .u64 high_1, .bool is_2]) 400 follows_mixed Tryz.func318 (by kernel_rfl) (by kernel_rfl)
set_option maxRecDepth 100000 in
/-- joinery/rb.of -/
def sh319 (t_1 : Option Addr) (R : Ending → World → Prop) (w : World) : Prop :=
 doAl (.cells #[.int .u64 0, .int .u64 0] 357) w (fun b2 w3 =>
 doCall Tryz.prog (.func (.func 196) #[] #[]) #[.pointer t_1] w3 (retS (fun v5 w6 => ∃ (x4 : Int), v5 = (.int .u64 x4 : Value) ∧ (
 2 ≠ (0 : Int) ∧ (
 doCall Tryz.prog (.func (.func 196) #[] #[]) #[.pointer t_1] w6 (retS (fun v8 w9 => ∃ (x7 : Int), v8 = (.int .u64 x7 : Value) ∧ (
 2 ≠ (0 : Int) ∧ (
 doSt ((blk b2).add 0) (.int .u64 (Int.tmod x4 2)) w9 (fun w10 =>
 doSt ((blk b2).add 1) (.int .u64 (IntKind.wrap .u64 (Int.tdiv x7 2))) w10 (fun w11 =>
 ∃ (x12 : Int), World.cell? w11 ((blk b2).add 0) = some (.int .u64 x12) ∧ (
 ∃ (x13 : Int), World.cell? w11 ((blk b2).add 1) = some (.int .u64 x13) ∧ (
 R (.returned (.agg #[.int .u64 x12, .int .u64 x13])) w11))))))) (fun ch w => Kfn R ch [] w))))) (fun ch w => Kfn R ch [] w)))
set_option maxRecDepth 100000 in
theorem sh319_ok (t_1 : Option Addr) {R : Ending → World → Prop} {w : World} : sh319 t_1 R w → Calls Tryz.prog 319 #[.pointer t_1] w R :=
  calls_of_eq (ann := fun _ => []) (fn := Tryz.f319) (c := bodyOf Tryz.f319) (args := #[.pointer t_1]) 400 follows_mixed Tryz.func319 (by kernel_rfl) (by kernel_rfl)
set_option maxRecDepth 100000 in
/-- (joinery/rb.what).tag -/
def sh320 (w_1 : Int) (w_2 : Int) (R : Ending → World → Prop) (w : World) : Prop :=
 doAl (.cells #[.int .u64 w_1, .int .u64 w_2] 357) w (fun b3 w4 =>
 ∃ (x5 : Int), World.cell? w4 ((blk b3).add 1) = some (.int .u64 x5) ∧ (
 ∃ (x6 : Int), World.cell? w4 ((blk b3).add 0) = some (.int .u64 x6) ∧ (
 R (.returned (.int .u64 (IntKind.wrap .u64 ((IntKind.wrap .u64 (2 * x5)) + x6)))) w4)))
set_option maxRecDepth 100000 in
theorem sh320_ok (w_1 : Int) (w_2 : Int) {R : Ending → World → Prop} {w : World} : sh320 w_1 w_2 R w → Calls Tryz.prog 320 #[.agg #[.int .u64 w_1, .int .u64 w_2]] w R :=
  calls_of_eq (ann := fun _ => []) (fn := Tryz.f320) (c := bodyOf Tryz.f320) (args := #[.agg #[.int .u64 w_1, .int .u64 w_2]]) 400 follows_mixed Tryz.func320 (by kernel_rfl) (by kernel_rfl)
set_option maxRecDepth 100000 in
/-- (joinery/wbjoin.side).make -/
def sh322 (s_1 : Int) (in_2 : Option Addr) (pair_3 : Option Addr) (out_4 : Option Addr) (R : Ending → World → Prop) (w : World) : Prop :=
 doAl (.cells #[.pointer none, .pointer none] 376) w (fun b5 w6 =>
 doSt ((blk b5).add 0) (.pointer in_2) w6 (fun w7 =>
 doSt ((blk b5).add 1) (.pointer out_4) w7 (fun w8 =>
 doDr w8 (fun w10 =>
 ∃ (C9 : World → Prop), C9 w10 ∧ (
 doIx (some (blk b5)) 2 1 (s_1) (fun a11 =>
 ∃ (x12 : Option Addr), (∀ w, C9 w → World.cell? w a11 = some (.pointer x12)) ∧ (
 doCall Tryz.prog (.func (.func 323) #[] #[]) #[.int .i64 s_1] w10 (retS (fun v14 w15 => ∃ (x13 : Int), v14 = (.int .i64 x13 : Value) ∧ (
 C9 w15 ∧ (
 doIx (some (blk b5)) 2 1 (x13) (fun a16 =>
 ∃ (x17 : Option Addr), (∀ w, C9 w → World.cell? w a16 = some (.pointer x17)) ∧ (
 doCall Tryz.prog (.func (.func 108) #[] #[]) #[.pointer pair_3] w15 (retS (fun v19 w20 => ∃ (x18 : Int), v19 = (.int .i64 x18 : Value) ∧ (
 C9 w20 ∧ (
 doCall Tryz.prog (.func (.func 126) #[] #[]) #[.pointer pair_3] w20 (retS (fun v22 w23 => ∃ (x21 : Int), v22 = (.int .i64 x21 : Value) ∧ (
 C9 w23 ∧ (
 doCall Tryz.prog (.func (.func 276) #[] #[]) #[.pointer x17, .int .i64 x18, .int .i64 x21, .pointer x12] w23 (retS (fun v25 w26 => ∃ (x24 : Option Addr), v25 = (.pointer x24 : Value) ∧ (
 R (.returned (.pointer x24)) w26)) (fun ch w => Kfn R ch [] w))))) (fun ch w => Kfn R ch [] w))))) (fun ch w => Kfn R ch [] w))))))) (fun ch w => Kfn R ch [] w)))))))))
set_option maxRecDepth 100000 in
theorem sh322_ok (s_1 : Int) (in_2 : Option Addr) (pair_3 : Option Addr) (out_4 : Option Addr) {R : Ending → World → Prop} {w : World} : sh322 s_1 in_2 pair_3 out_4 R w → Calls Tryz.prog 322 #[.int .i64 s_1, .pointer in_2, .pointer pair_3, .pointer out_4] w R :=
  calls_of_eq (ann := fun _ => []) (fn := Tryz.f322) (c := bodyOf Tryz.f322) (args := #[.int .i64 s_1, .pointer in_2, .pointer pair_3, .pointer out_4]) 400 follows_mixed Tryz.func322 (by kernel_rfl) (by kernel_rfl)
set_option maxRecDepth 100000 in
/-- (joinery/wbjoin.side).other -/
def sh323 (s_1 : Int) (R : Ending → World → Prop) (w : World) : Prop :=
 R (.returned (.int .i64 (IntKind.wrap .i64 (1 - s_1)))) w
set_option maxRecDepth 100000 in
theorem sh323_ok (s_1 : Int) {R : Ending → World → Prop} {w : World} : sh323 s_1 R w → Calls Tryz.prog 323 #[.int .i64 s_1] w R :=
  calls_of_eq (ann := fun _ => []) (fn := Tryz.f323) (c := bodyOf Tryz.f323) (args := #[.int .i64 s_1]) 400 follows_mixed Tryz.func323 (by kernel_rfl) (by kernel_rfl)
set_option maxRecDepth 100000 in
/-- (joinery/wbjoin.side).at -/
def sh324 (s_1 : Int) (t_2 : Option Addr) (R : Ending → World → Prop) (w : World) : Prop :=
 doCall Tryz.prog (.func (.func 343) #[] #[]) #[.pointer t_2] w (retS (fun v5 w6 => ∃ (x3 : Option Addr), ∃ (x4 : Option Addr), v5 = (.agg #[.pointer x3, .pointer x4] : Value) ∧ (
 doIxV Tryz.prog 376 (.agg #[.pointer x3, .pointer x4]) (.int .i64 s_1) (fun v7 => ∃ (x8 : Option Addr), v7 = (.pointer x8 : Value) ∧ (
 R (.returned (.pointer x8)) w6)))) (fun ch w => Kfn R ch [] w))
set_option maxRecDepth 100000 in
theorem sh324_ok (s_1 : Int) (t_2 : Option Addr) {R : Ending → World → Prop} {w : World} : sh324 s_1 t_2 R w → Calls Tryz.prog 324 #[.int .i64 s_1, .pointer t_2] w R :=
  calls_of_eq (ann := fun _ => []) (fn := Tryz.f324) (c := bodyOf Tryz.f324) (args := #[.int .i64 s_1, .pointer t_2]) 400 follows_mixed Tryz.func324 (by kernel_rfl) (by kernel_rfl)
set_option maxRecDepth 100000 in
/-- (joinery/wbjoin.side).once -/
def sh325 (s_1 : Int) (in_2 : Option Addr) (t_3 : Option Addr) (x_4 : Option Addr) (R : Ending → World → Prop) (w : World) : Prop :=
 doCall Tryz.prog (.func (.func 323) #[] #[]) #[.int .i64 s_1] w (retS (fun v6 w7 => ∃ (x5 : Int), v6 = (.int .i64 x5 : Value) ∧ (
 doCall Tryz.prog (.func (.func 324) #[] #[]) #[.int .i64 x5, .pointer x_4] w7 (retS (fun v9 w10 => ∃ (x8 : Option Addr), v9 = (.pointer x8 : Value) ∧ (
 doCall Tryz.prog (.func (.func 322) #[] #[]) #[.int .i64 s_1, .pointer in_2, .pointer t_3, .pointer x8] w10 (retS (fun v12 w13 => ∃ (x11 : Option Addr), v12 = (.pointer x11 : Value) ∧ (
 doCall Tryz.prog (.func (.func 324) #[] #[]) #[.int .i64 s_1, .pointer x_4] w13 (retS (fun v15 w16 => ∃ (x14 : Option Addr), v15 = (.pointer x14 : Value) ∧ (
 doCall Tryz.prog (.func (.func 322) #[] #[]) #[.int .i64 s_1, .pointer x11, .pointer x_4, .pointer x14] w16 (retS (fun v18 w19 => ∃ (x17 : Option Addr), v18 = (.pointer x17 : Value) ∧ (
 R (.returned (.pointer x17)) w19)) (fun ch w => Kfn R ch [] w)))) (fun ch w => Kfn R ch [] w)))) (fun ch w => Kfn R ch [] w)))) (fun ch w => Kfn R ch [] w)))) (fun ch w => Kfn R ch [] w))
set_option maxRecDepth 100000 in
theorem sh325_ok (s_1 : Int) (in_2 : Option Addr) (t_3 : Option Addr) (x_4 : Option Addr) {R : Ending → World → Prop} {w : World} : sh325 s_1 in_2 t_3 x_4 R w → Calls Tryz.prog 325 #[.int .i64 s_1, .pointer in_2, .pointer t_3, .pointer x_4] w R :=
  calls_of_eq (ann := fun _ => []) (fn := Tryz.f325) (c := bodyOf Tryz.f325) (args := #[.int .i64 s_1, .pointer in_2, .pointer t_3, .pointer x_4]) 400 follows_mixed Tryz.func325 (by kernel_rfl) (by kernel_rfl)
set_option maxRecDepth 100000 in
/-- (joinery/wbjoin.side).twice -/
def sh326 (s_1 : Int) (in_2 : Option Addr) (t_3 : Option Addr) (x_4 : Option Addr) (R : Ending → World → Prop) (w : World) : Prop :=
 doCall Tryz.prog (.func (.func 323) #[] #[]) #[.int .i64 s_1] w (retS (fun v6 w7 => ∃ (x5 : Int), v6 = (.int .i64 x5 : Value) ∧ (
 doCall Tryz.prog (.func (.func 324) #[] #[]) #[.int .i64 x5, .pointer x_4] w7 (retS (fun v9 w10 => ∃ (x8 : Option Addr), v9 = (.pointer x8 : Value) ∧ (
 doCall Tryz.prog (.func (.func 323) #[] #[]) #[.int .i64 s_1] w10 (retS (fun v12 w13 => ∃ (x11 : Int), v12 = (.int .i64 x11 : Value) ∧ (
 doCall Tryz.prog (.func (.func 324) #[] #[]) #[.int .i64 x11, .pointer x8] w13 (retS (fun v15 w16 => ∃ (x14 : Option Addr), v15 = (.pointer x14 : Value) ∧ (
 doCall Tryz.prog (.func (.func 322) #[] #[]) #[.int .i64 s_1, .pointer in_2, .pointer t_3, .pointer x14] w16 (retS (fun v18 w19 => ∃ (x17 : Option Addr), v18 = (.pointer x17 : Value) ∧ (
 doCall Tryz.prog (.func (.func 324) #[] #[]) #[.int .i64 s_1, .pointer x8] w19 (retS (fun v21 w22 => ∃ (x20 : Option Addr), v21 = (.pointer x20 : Value) ∧ (
 doCall Tryz.prog (.func (.func 324) #[] #[]) #[.int .i64 s_1, .pointer x_4] w22 (retS (fun v24 w25 => ∃ (x23 : Option Addr), v24 = (.pointer x23 : Value) ∧ (
 doCall Tryz.prog (.func (.func 322) #[] #[]) #[.int .i64 s_1, .pointer x20, .pointer x_4, .pointer x23] w25 (retS (fun v27 w28 => ∃ (x26 : Option Addr), v27 = (.pointer x26 : Value) ∧ (
 doCall Tryz.prog (.func (.func 322) #[] #[]) #[.int .i64 s_1, .pointer x17, .pointer x8, .pointer x26] w28 (retS (fun v30 w31 => ∃ (x29 : Option Addr), v30 = (.pointer x29 : Value) ∧ (
 R (.returned (.pointer x29)) w31)) (fun ch w => Kfn R ch [] w)))) (fun ch w => Kfn R ch [] w)))) (fun ch w => Kfn R ch [] w)))) (fun ch w => Kfn R ch [] w)))) (fun ch w => Kfn R ch [] w)))) (fun ch w => Kfn R ch [] w)))) (fun ch w => Kfn R ch [] w)))) (fun ch w => Kfn R ch [] w)))) (fun ch w => Kfn R ch [] w))
set_option maxRecDepth 100000 in
theorem sh326_ok (s_1 : Int) (in_2 : Option Addr) (t_3 : Option Addr) (x_4 : Option Addr) {R : Ending → World → Prop} {w : World} : sh326 s_1 in_2 t_3 x_4 R w → Calls Tryz.prog 326 #[.int .i64 s_1, .pointer in_2, .pointer t_3, .pointer x_4] w R :=
  calls_of_eq (ann := fun _ => []) (fn := Tryz.f326) (c := bodyOf Tryz.f326) (args := #[.int .i64 s_1, .pointer in_2, .pointer t_3, .pointer x_4]) 400 follows_mixed Tryz.func326 (by kernel_rfl) (by kernel_rfl)
set_option maxRecDepth 100000 in
/-- joinery/wb.within[int] -/
def sh327 (least_1 : Int) (most_2 : Int) (l_p3 : Option Addr) (l_n4 : Nat) (_l_c5 : Nat) (R : Ending → World → Prop) (w : World) : Prop :=
 ∃ (I6 : List Value → World → Prop) (μ7 : List Value → World → Nat), I6 [.int .i64 0] w ∧ (∀ (x10 : Int), ∀ (_j8 : Nat → Value) (w9 : World), I6 [.int .i64 x10] w9 → (
 ifB (decide ((x10 : Int) < ((l_n4 : Nat) : Int))) (
 doIx l_p3 l_n4 1 (x10) (fun a11 =>
 ∃ (x12 : Int), World.cell? w9 a11 = some (.int .i64 x12) ∧ (
 let K15 : Bool → World → Prop := fun (x13 : Bool) (w14 : World) => 
 ifB x13 (
 R (.returned (.bool false)) w14) (
 I6 [.int .i64 (IntKind.wrap .i64 (x10 + 1))] w14 ∧ μ7 [.int .i64 (IntKind.wrap .i64 (x10 + 1))] w14 < μ7 [.int .i64 x10] w9)
 ifB (decide ((x12 : Int) < least_1)) (
 R (.returned (.bool false)) w9) (
 K15 (decide ((x12 : Int) > most_2)) w9)))) (
 R (.returned (.bool true)) w9)))
set_option maxRecDepth 100000 in
theorem sh327_ok (least_1 : Int) (most_2 : Int) (l_p3 : Option Addr) (l_n4 : Nat) (l_c5 : Nat) {R : Ending → World → Prop} {w : World} : sh327 least_1 most_2 l_p3 l_n4 l_c5 R w → Calls Tryz.prog 327 #[.int .i64 least_1, .int .i64 most_2, .slice l_p3 l_n4 l_c5] w R :=
  calls_of_eq (ann := fun i => if i = 0 then [(11, .int .i64 0)] else []) (fn := Tryz.f327) (c := bodyOf Tryz.f327) (args := #[.int .i64 least_1, .int .i64 most_2, .slice l_p3 l_n4 l_c5]) 400 follows_mixed Tryz.func327 (by kernel_rfl) (by kernel_rfl)
set_option maxRecDepth 100000 in
/-- math/bits.Reverse64 -/
def sh328 (x_1 : Int) (R : Ending → World → Prop) (w : World) : Prop :=
 (0 : Int) ≤ 1 ∧ (
 (0 : Int) ≤ 1 ∧ (
 (0 : Int) ≤ 2 ∧ (
 (0 : Int) ≤ 2 ∧ (
 (0 : Int) ≤ 4 ∧ (
 (0 : Int) ≤ 4 ∧ (
 doCall Tryz.prog (.func (.func 344) #[] #[]) #[.int .u64 (bOr .u64 (bAnd .u64 (Int.fdiv (bOr .u64 (bAnd .u64 (Int.fdiv (bOr .u64 (bAnd .u64 (Int.fdiv x_1 (2 ^ (min (1 : Int).toNat (IntKind.bits .u64)))) 6148914691236517205) (IntKind.wrap .u64 ((bAnd .u64 x_1 6148914691236517205) * 2 ^ (min (1 : Int).toNat (IntKind.bits .u64))))) (2 ^ (min (2 : Int).toNat (IntKind.bits .u64)))) 3689348814741910323) (IntKind.wrap .u64 ((bAnd .u64 (bOr .u64 (bAnd .u64 (Int.fdiv x_1 (2 ^ (min (1 : Int).toNat (IntKind.bits .u64)))) 6148914691236517205) (IntKind.wrap .u64 ((bAnd .u64 x_1 6148914691236517205) * 2 ^ (min (1 : Int).toNat (IntKind.bits .u64))))) 3689348814741910323) * 2 ^ (min (2 : Int).toNat (IntKind.bits .u64))))) (2 ^ (min (4 : Int).toNat (IntKind.bits .u64)))) 1085102592571150095) (IntKind.wrap .u64 ((bAnd .u64 (bOr .u64 (bAnd .u64 (Int.fdiv (bOr .u64 (bAnd .u64 (Int.fdiv x_1 (2 ^ (min (1 : Int).toNat (IntKind.bits .u64)))) 6148914691236517205) (IntKind.wrap .u64 ((bAnd .u64 x_1 6148914691236517205) * 2 ^ (min (1 : Int).toNat (IntKind.bits .u64))))) (2 ^ (min (2 : Int).toNat (IntKind.bits .u64)))) 3689348814741910323) (IntKind.wrap .u64 ((bAnd .u64 (bOr .u64 (bAnd .u64 (Int.fdiv x_1 (2 ^ (min (1 : Int).toNat (IntKind.bits .u64)))) 6148914691236517205) (IntKind.wrap .u64 ((bAnd .u64 x_1 6148914691236517205) * 2 ^ (min (1 : Int).toNat (IntKind.bits .u64))))) 3689348814741910323) * 2 ^ (min (2 : Int).toNat (IntKind.bits .u64))))) 1085102592571150095) * 2 ^ (min (4 : Int).toNat (IntKind.bits .u64)))))] w (retS (fun v3 w4 => ∃ (x2 : Int), v3 = (.int .u64 x2 : Value) ∧ (
 R (.returned (.int .u64 x2)) w4)) (fun ch w => Kfn R ch [] w))))))))
set_option maxRecDepth 100000 in
theorem sh328_ok (x_1 : Int) {R : Ending → World → Prop} {w : World} : sh328 x_1 R w → Calls Tryz.prog 328 #[.int .u64 x_1] w R :=
  calls_of_eq (ann := fun _ => []) (fn := Tryz.f328) (c := bodyOf Tryz.f328) (args := #[.int .u64 x_1]) 400 follows_mixed Tryz.func328 (by kernel_rfl) (by kernel_rfl)
set_option maxRecDepth 100000 in
/-- slices.rotateCmpFunc[joinery/api.Pair] -/
def sh330 (data_p1 : Option Addr) (data_n2 : Nat) (data_c3 : Nat) (a_4 : Int) (m_5 : Int) (b_6 : Int) (cmp_f7 : Fn) (cmp_x8 : Array Value) (cmp_c9 : Array Value) (R : Ending → World → Prop) (w : World) : Prop :=
 ∃ (I10 : List Value → World → Prop) (μ11 : List Value → World → Nat), I10 [.int .i64 (IntKind.wrap .i64 (m_5 - a_4)), .int .i64 (IntKind.wrap .i64 (b_6 - m_5))] w ∧ (∀ (i_14 : Int), ∀ (j_15 : Int), ∀ (_j12 : Nat → Value) (w13 : World), I10 [.int .i64 i_14, .int .i64 j_15] w13 → (
 ifB ((i_14 : Int) != j_15) (
 ifB (decide ((i_14 : Int) > j_15)) (
 doCall Tryz.prog (.func (.func 345) #[] #[]) #[.slice data_p1 data_n2 data_c3, .int .i64 (IntKind.wrap .i64 (m_5 - i_14)), .int .i64 m_5, .int .i64 j_15, .func cmp_f7 cmp_x8 cmp_c9] w13 (retS (fun v16 w17 => v16 = (.tuple #[] : Value) ∧ (
 I10 [.int .i64 (IntKind.wrap .i64 (i_14 - j_15)), .int .i64 j_15] w17 ∧ μ11 [.int .i64 (IntKind.wrap .i64 (i_14 - j_15)), .int .i64 j_15] w17 < μ11 [.int .i64 i_14, .int .i64 j_15] w13)) (fun ch w => Kfn R ch [] w))) (
 doCall Tryz.prog (.func (.func 345) #[] #[]) #[.slice data_p1 data_n2 data_c3, .int .i64 (IntKind.wrap .i64 (m_5 - i_14)), .int .i64 (IntKind.wrap .i64 ((IntKind.wrap .i64 (m_5 + j_15)) - i_14)), .int .i64 i_14, .func cmp_f7 cmp_x8 cmp_c9] w13 (retS (fun v18 w19 => v18 = (.tuple #[] : Value) ∧ (
 I10 [.int .i64 i_14, .int .i64 (IntKind.wrap .i64 (j_15 - i_14))] w19 ∧ μ11 [.int .i64 i_14, .int .i64 (IntKind.wrap .i64 (j_15 - i_14))] w19 < μ11 [.int .i64 i_14, .int .i64 j_15] w13)) (fun ch w => Kfn R ch [] w)))) (
 doCall Tryz.prog (.func (.func 345) #[] #[]) #[.slice data_p1 data_n2 data_c3, .int .i64 (IntKind.wrap .i64 (m_5 - i_14)), .int .i64 m_5, .int .i64 i_14, .func cmp_f7 cmp_x8 cmp_c9] w13 (retS (fun v20 w21 => v20 = (.tuple #[] : Value) ∧ (
 R (.returned (.tuple #[])) w21)) (fun ch w => Kfn R ch [] w)))))
set_option maxRecDepth 100000 in
theorem sh330_ok (data_p1 : Option Addr) (data_n2 : Nat) (data_c3 : Nat) (a_4 : Int) (m_5 : Int) (b_6 : Int) (cmp_f7 : Fn) (cmp_x8 : Array Value) (cmp_c9 : Array Value) {R : Ending → World → Prop} {w : World} : sh330 data_p1 data_n2 data_c3 a_4 m_5 b_6 cmp_f7 cmp_x8 cmp_c9 R w → Calls Tryz.prog 330 #[.slice data_p1 data_n2 data_c3, .int .i64 a_4, .int .i64 m_5, .int .i64 b_6, .func cmp_f7 cmp_x8 cmp_c9] w R :=
  calls_of_eq (ann := fun i => if i = 0 then [(10, .int .i64 0), (11, .int .i64 0)] else []) (fn := Tryz.f330) (c := bodyOf Tryz.f330) (args := #[.slice data_p1 data_n2 data_c3, .int .i64 a_4, .int .i64 m_5, .int .i64 b_6, .func cmp_f7 cmp_x8 cmp_c9]) 400 follows_mixed Tryz.func330 (by kernel_rfl) (by kernel_rfl)
set_option maxRecDepth 100000 in
/-- joinery/joineryref14.one -/
def sh331 (l_p1 : Option Addr) (l_n2 : Nat) (l_c3 : Nat) (R : Ending → World → Prop) (w : World) : Prop :=
 doCall Tryz.prog (.func (.func 109) #[] #[]) #[.slice l_p1 l_n2 l_c3] w (retS (fun v17 w18 => ∃ (x4 : Int), ∃ (x5 : Int), ∃ (x6 : Int), ∃ (x7 : Int), ∃ (x8 : Int), ∃ (x9 : Bool), ∃ (x10 : Bool), ∃ (xp11 : Option Addr), ∃ (xn12 : Nat), ∃ (xc13 : Nat), ∃ (xp14 : Option Addr), ∃ (xn15 : Nat), ∃ (xc16 : Nat), v17 = (.tuple #[.agg #[.int .i64 x4, .int .i64 x5, .int .i64 x6, .int .i64 x7, .int .u64 x8, .bool x9, .bool x10], .slice xp11 xn12 xc13, .slice xp14 xn15 xc16] : Value) ∧ (
 doAl (.cells #[.int .i64 0, .int .i64 0, .int .i64 0, .int .i64 0, .int .u64 0, .bool false, .bool false] 150) w18 (fun b19 w20 =>
 doSt ((blk b19).add 0) (.int .i64 x4) w20 (fun w21 =>
 doSt ((blk b19).add 1) (.int .i64 x5) w21 (fun w22 =>
 doSt ((blk b19).add 2) (.int .i64 x6) w22 (fun w23 =>
 doSt ((blk b19).add 3) (.int .i64 x7) w23 (fun w24 =>
 doSt ((blk b19).add 4) (.int .u64 x8) w24 (fun w25 =>
 doSt ((blk b19).add 5) (.bool x9) w25 (fun w26 =>
 doSt ((blk b19).add 6) (.bool x10) w26 (fun w27 =>
 doCall Tryz.prog (.func (.func 346) #[] #[]) #[.slice xp11 xn12 xc13] w27 (retS (fun v29 w30 => ∃ (x28 : Int), v29 = (.int .u64 x28 : Value) ∧ (
 doCall Tryz.prog (.func (.func 346) #[] #[]) #[.slice xp14 xn15 xc16] w30 (retS (fun v32 w33 => ∃ (x31 : Int), v32 = (.int .u64 x31 : Value) ∧ (
 doGo Tryz.prog (.builtin .min #[75, 75] 75 #[false, false]) #[.int .u64 x28, .int .u64 x31] w33 (retS (fun v35 w36 => ∃ (x34 : Int), v35 = (.int .u64 x34 : Value) ∧ (
 doCall Tryz.prog (.func (.func 346) #[] #[]) #[.slice xp11 xn12 xc13] w36 (retS (fun v38 w39 => ∃ (x37 : Int), v38 = (.int .u64 x37 : Value) ∧ (
 doCall Tryz.prog (.func (.func 346) #[] #[]) #[.slice xp14 xn15 xc16] w39 (retS (fun v41 w42 => ∃ (x40 : Int), v41 = (.int .u64 x40 : Value) ∧ (
 doGo Tryz.prog (.builtin .max #[75, 75] 75 #[false, false]) #[.int .u64 x37, .int .u64 x40] w42 (retS (fun v44 w45 => ∃ (x43 : Int), v44 = (.int .u64 x43 : Value) ∧ (
 let K48 : Bool → World → Prop := fun (x46 : Bool) (w47 : World) => 
 ifB x46 (
 R (.returned (.int .i64 140)) w47) (
 ifB (decide (((IntKind.wrap .u64 (x43 - x34)) : Int) > 1)) (
 R (.returned (.int .i64 8)) w47) (
 R (.returned (.int .i64 0)) w47))
 ∃ (x49 : Int), World.cell? w45 ((blk b19).add 4) = some (.int .u64 x49) ∧ (
 ifB ((x49 : Int) == 0) (
 R (.returned (.int .i64 140)) w45) (
 ∃ (x50 : Int), World.cell? w45 ((blk b19).add 4) = some (.int .u64 x50) ∧ (
 K48 (((IntKind.wrap .u64 (x50 - 1)) : Int) != x43) w45))))) (fun ch w => Kfn R ch [] w)))) (fun ch w => Kfn R ch [] w)))) (fun ch w => Kfn R ch [] w)))) (fun ch w => Kfn R ch [] w)))) (fun ch w => Kfn R ch [] w)))) (fun ch w => Kfn R ch [] w)))))))))))) (fun ch w => Kfn R ch [] w))
set_option maxRecDepth 100000 in
theorem sh331_ok (l_p1 : Option Addr) (l_n2 : Nat) (l_c3 : Nat) {R : Ending → World → Prop} {w : World} : sh331 l_p1 l_n2 l_c3 R w → Calls Tryz.prog 331 #[.slice l_p1 l_n2 l_c3] w R :=
  calls_of_eq (ann := fun _ => []) (fn := Tryz.f331) (c := bodyOf Tryz.f331) (args := #[.slice l_p1 l_n2 l_c3]) 400 follows_mixed Tryz.func331 (by kernel_rfl) (by kernel_rfl)
set_option maxRecDepth 100000 in
/-- joinery/joineryref16.parts -/
def sh332 (l_p1 : Option Addr) (l_n2 : Nat) (l_c3 : Nat) (R : Ending → World → Prop) (w : World) : Prop :=
 ifB ((((l_n2 : Nat) : Int) : Int) == 0) (
 R (.returned (.tuple #[.int .i64 0, .int .i64 0])) w) (
 doCall Tryz.prog (.func (.func 347) #[] #[]) #[.slice l_p1 l_n2 l_c3] w (retS (fun v5 w6 => ∃ (x4 : Int), v5 = (.int .i64 x4 : Value) ∧ (
 ifB ((x4 : Int) != 0) (
 R (.returned (.tuple #[.int .i64 0, .int .i64 x4])) w6) (
 doCall Tryz.prog (.func (.func 109) #[] #[]) #[.slice l_p1 l_n2 l_c3] w6 (retS (fun v20 w21 => ∃ (x7 : Int), ∃ (x8 : Int), ∃ (x9 : Int), ∃ (x10 : Int), ∃ (x11 : Int), ∃ (x12 : Bool), ∃ (x13 : Bool), ∃ (xp14 : Option Addr), ∃ (xn15 : Nat), ∃ (xc16 : Nat), ∃ (xp17 : Option Addr), ∃ (xn18 : Nat), ∃ (xc19 : Nat), v20 = (.tuple #[.agg #[.int .i64 x7, .int .i64 x8, .int .i64 x9, .int .i64 x10, .int .u64 x11, .bool x12, .bool x13], .slice xp14 xn15 xc16, .slice xp17 xn18 xc19] : Value) ∧ (
 doAl (.cells #[.int .i64 0, .int .i64 0, .int .i64 0, .int .i64 0, .int .u64 0, .bool false, .bool false] 150) w21 (fun b22 w23 =>
 doSt ((blk b22).add 0) (.int .i64 x7) w23 (fun w24 =>
 doSt ((blk b22).add 1) (.int .i64 x8) w24 (fun w25 =>
 doSt ((blk b22).add 2) (.int .i64 x9) w25 (fun w26 =>
 doSt ((blk b22).add 3) (.int .i64 x10) w26 (fun w27 =>
 doSt ((blk b22).add 4) (.int .u64 x11) w27 (fun w28 =>
 doSt ((blk b22).add 5) (.bool x12) w28 (fun w29 =>
 doSt ((blk b22).add 6) (.bool x13) w29 (fun w30 =>
 doCall Tryz.prog (.func (.func 332) #[] #[]) #[.slice xp14 xn15 xc16] w30 (retS (fun v33 w34 => ∃ (x31 : Int), ∃ (x32 : Int), v33 = (.tuple #[.int .i64 x31, .int .i64 x32] : Value) ∧ (
 ifB ((x32 : Int) != 0) (
 R (.returned (.tuple #[.int .i64 (IntKind.wrap .i64 (1 + x31)), .int .i64 x32])) w34) (
 doCall Tryz.prog (.func (.func 332) #[] #[]) #[.slice xp17 xn18 xc19] w34 (retS (fun v37 w38 => ∃ (x35 : Int), ∃ (x36 : Int), v37 = (.tuple #[.int .i64 x35, .int .i64 x36] : Value) ∧ (
 R (.returned (.tuple #[.int .i64 (IntKind.wrap .i64 ((IntKind.wrap .i64 (1 + x31)) + x35)), .int .i64 x36])) w38)) (fun ch w => Kfn R ch [] w))))) (fun ch w => Kfn R ch [] w)))))))))))) (fun ch w => Kfn R ch [] w))))) (fun ch w => Kfn R ch [] w)))
set_option maxRecDepth 100000 in
theorem sh332_ok (l_p1 : Option Addr) (l_n2 : Nat) (l_c3 : Nat) {R : Ending → World → Prop} {w : World} : sh332 l_p1 l_n2 l_c3 R w → Calls Tryz.prog 332 #[.slice l_p1 l_n2 l_c3] w R :=
  calls_of_eq (ann := fun _ => []) (fn := Tryz.f332) (c := bodyOf Tryz.f332) (args := #[.slice l_p1 l_n2 l_c3]) 400 follows_mixed Tryz.func332 (by kernel_rfl) (by kernel_rfl)
set_option maxRecDepth 100000 in
/-- joinery/joineryref16.Red -/
def sh333 (l_p1 : Option Addr) (l_n2 : Nat) (l_c3 : Nat) (R : Ending → World → Prop) (w : World) : Prop :=
 doCall Tryz.prog (.func (.func 346) #[] #[]) #[.slice l_p1 l_n2 l_c3] w (retS (fun v5 w6 => ∃ (x4 : Int), v5 = (.int .u64 x4 : Value) ∧ (
 2 ≠ (0 : Int) ∧ (
 R (.returned (.bool (((Int.tmod x4 2) : Int) == 1))) w6))) (fun ch w => Kfn R ch [] w))
set_option maxRecDepth 100000 in
theorem sh333_ok (l_p1 : Option Addr) (l_n2 : Nat) (l_c3 : Nat) {R : Ending → World → Prop} {w : World} : sh333 l_p1 l_n2 l_c3 R w → Calls Tryz.prog 333 #[.slice l_p1 l_n2 l_c3] w R :=
  calls_of_eq (ann := fun _ => []) (fn := Tryz.f333) (c := bodyOf Tryz.f333) (args := #[.slice l_p1 l_n2 l_c3]) 400 follows_mixed Tryz.func333 (by kernel_rfl) (by kernel_rfl)
set_option maxRecDepth 100000 in
/-- joinery/joineryref18.Like -/
def sh334 (a_1 : Int) (b_2 : Int) (R : Ending → World → Prop) (w : World) : Prop :=
 let K5 : Bool → World → Prop := fun (x3 : Bool) (w4 : World) => 
 ifB x3 (
 R (.returned (.bool false)) w4) (
 let K8 : Bool → World → Prop := fun (x6 : Bool) (w7 : World) => 
 R (.returned (.bool x6)) w7
 ifB (decide (((IntKind.wrap .i64 (29 * (IntKind.wrap .i64 (a_1 + b_2)))) : Int) ≤ (IntKind.wrap .i64 (100 * a_1)))) (
 K8 (decide (((IntKind.wrap .i64 (29 * (IntKind.wrap .i64 (a_1 + b_2)))) : Int) ≤ (IntKind.wrap .i64 (100 * b_2)))) w4) (
 R (.returned (.bool false)) w4))
 ifB (decide ((a_1 : Int) < 1)) (
 R (.returned (.bool false)) w) (
 ifB (decide ((b_2 : Int) < 1)) (
 R (.returned (.bool false)) w) (
 ifB (decide ((a_1 : Int) > 1099511627776)) (
 R (.returned (.bool false)) w) (
 K5 (decide ((b_2 : Int) > 1099511627776)) w)))
set_option maxRecDepth 100000 in
theorem sh334_ok (a_1 : Int) (b_2 : Int) {R : Ending → World → Prop} {w : World} : sh334 a_1 b_2 R w → Calls Tryz.prog 334 #[.int .i64 a_1, .int .i64 b_2] w R :=
  calls_of_eq (ann := fun _ => []) (fn := Tryz.f334) (c := bodyOf Tryz.f334) (args := #[.int .i64 a_1, .int .i64 b_2]) 400 follows_mixed Tryz.func334 (by kernel_rfl) (by kernel_rfl)
end Go.Proofs.YtlddfgfmkapoiaaGreat

