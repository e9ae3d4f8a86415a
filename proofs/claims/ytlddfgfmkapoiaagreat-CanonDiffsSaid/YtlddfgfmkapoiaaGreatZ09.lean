/-
  Printed by a program (gen.py): what the functions of the program do, as formulas; each with the proof that its call is what the formula says.
-/
/-
  Printed by a program (gen.py): what the functions of the program do, as formulas; each with the proof that its call is what the formula says.
-/
/-
  Printed by a program (gen.py): what the functions of the program do, as formulas; each with the proof that its call is what the formula says.
-/
import Derived.Test.YtlddfgfmkapoiaaGreatZ02
import Derived.Test.YtlddfgfmkapoiaaGreatProg
import Derived.Test.YtlddfgfmkapoiaaGreatZ03

namespace Go.Proofs.YtlddfgfmkapoiaaGreat
open Go Go.Sh
set_option maxRecDepth 100000 in
/-- (joinery/wbjoin.side).hang -/
def sh278 (s_1 : Int) (t_2 : Option Addr) (pair_3 : Option Addr) (low_4 : Option Addr) (R : Ending → World → Prop) (w : World) : Prop :=
 let K7 : Bool → World → Prop := fun (x5 : Bool) (w6 : World) => 
 ifB x5 (
 doCall Tryz.prog (.func (.func 322) #[] #[]) #[.int .i64 s_1, .pointer t_2, .pointer pair_3, .pointer low_4] w6 (retS (fun v9 w10 => ∃ (x8 : Option Addr), v9 = (.pointer x8 : Value) ∧ (
 R (.returned (.pointer x8)) w10)) (fun ch w => Kfn R ch [] w))) (
 doCall Tryz.prog (.func (.func 323) #[] #[]) #[.int .i64 s_1] w6 (retS (fun v12 w13 => ∃ (x11 : Int), v12 = (.int .i64 x11 : Value) ∧ (
 doCall Tryz.prog (.func (.func 324) #[] #[]) #[.int .i64 x11, .pointer t_2] w13 (retS (fun v15 w16 => ∃ (x14 : Option Addr), v15 = (.pointer x14 : Value) ∧ (
 doCall Tryz.prog (.func (.func 324) #[] #[]) #[.int .i64 s_1, .pointer t_2] w16 (retS (fun v18 w19 => ∃ (x17 : Option Addr), v18 = (.pointer x17 : Value) ∧ (
 doCall Tryz.prog (.func (.func 278) #[] #[]) #[.int .i64 s_1, .pointer x17, .pointer pair_3, .pointer low_4] w19 (retS (fun v21 w22 => ∃ (x20 : Option Addr), v21 = (.pointer x20 : Value) ∧ (
 doCall Tryz.prog (.func (.func 277) #[] #[]) #[.pointer x14] w22 (retS (fun v24 w25 => ∃ (x23 : Int), v24 = (.int .i64 x23 : Value) ∧ (
 doCall Tryz.prog (.func (.func 277) #[] #[]) #[.pointer x20] w25 (retS (fun v27 w28 => ∃ (x26 : Int), v27 = (.int .i64 x26 : Value) ∧ (
 doCall Tryz.prog (.func (.func 279) #[] #[]) #[.int .i64 x23, .int .i64 x26] w28 (retS (fun v30 w31 => ∃ (x29 : Bool), v30 = (.bool x29 : Value) ∧ (
 ifB x29 (
 doCall Tryz.prog (.func (.func 322) #[] #[]) #[.int .i64 s_1, .pointer x14, .pointer t_2, .pointer x20] w31 (retS (fun v33 w34 => ∃ (x32 : Option Addr), v33 = (.pointer x32 : Value) ∧ (
 R (.returned (.pointer x32)) w34)) (fun ch w => Kfn R ch [] w))) (
 doCall Tryz.prog (.func (.func 323) #[] #[]) #[.int .i64 s_1] w31 (retS (fun v36 w37 => ∃ (x35 : Int), v36 = (.int .i64 x35 : Value) ∧ (
 doCall Tryz.prog (.func (.func 324) #[] #[]) #[.int .i64 x35, .pointer x20] w37 (retS (fun v39 w40 => ∃ (x38 : Option Addr), v39 = (.pointer x38 : Value) ∧ (
 doCall Tryz.prog (.func (.func 277) #[] #[]) #[.pointer x38] w40 (retS (fun v42 w43 => ∃ (x41 : Int), v42 = (.int .i64 x41 : Value) ∧ (
 doCall Tryz.prog (.func (.func 324) #[] #[]) #[.int .i64 s_1, .pointer x20] w43 (retS (fun v45 w46 => ∃ (x44 : Option Addr), v45 = (.pointer x44 : Value) ∧ (
 doCall Tryz.prog (.func (.func 277) #[] #[]) #[.pointer x44] w46 (retS (fun v48 w49 => ∃ (x47 : Int), v48 = (.int .i64 x47 : Value) ∧ (
 doAl (.map #[] 0) w49 (fun b50 w51 =>
 doMu Tryz.prog 367 (.map (some b50)) (.bool true) (.func (.func 325) #[.int .i64 s_1] #[]) w51 (fun w52 =>
 doMu Tryz.prog 367 (.map (some b50)) (.bool false) (.func (.func 326) #[.int .i64 s_1] #[]) w52 (fun w53 =>
 let K56 : (Option Addr) → World → Prop := fun (x54 : Option Addr) (w55 : World) => 
 R (.returned (.pointer x54)) w55
 doCall Tryz.prog (.func (.func 279) #[] #[]) #[.int .i64 x23, .int .i64 x41] w53 (retS (fun v58 w59 => ∃ (x57 : Bool), v58 = (.bool x57 : Value) ∧ (
 ifB x57 (
 doCall Tryz.prog (.func (.func 279) #[] #[]) #[.int .i64 (IntKind.wrap .i64 (x23 + x41)), .int .i64 x47] w59 (retS (fun v61 w62 => ∃ (x60 : Bool), v61 = (.bool x60 : Value) ∧ (
 doLk Tryz.prog 367 (.map (some b50)) (.bool x60) false w62 (fun v66 => (∃ (xf63 : Fn), ∃ (xx64 : Array Value), ∃ (xc65 : Array Value), v66 = (.func xf63 xx64 xc65 : Value) ∧ (
 doCall Tryz.prog (.func xf63 xx64 xc65) #[.pointer x14, .pointer t_2, .pointer x20] w62 (retS (fun v68 w69 => ∃ (x67 : Option Addr), v68 = (.pointer x67 : Value) ∧ (
 K56 x67 w69)) (fun ch w => Kfn R ch [] w)))) ∨ (v66 = (.nilFunc : Value) ∧ (
 doCall Tryz.prog (.nilFunc) #[.pointer x14, .pointer t_2, .pointer x20] w62 (retS (fun v71 w72 => ∃ (x70 : Option Addr), v71 = (.pointer x70 : Value) ∧ (
 K56 x70 w72)) (fun ch w => Kfn R ch [] w))))))) (fun ch w => Kfn R ch [] w))) (
 doLk Tryz.prog 367 (.map (some b50)) (.bool false) false w59 (fun v76 => (∃ (xf73 : Fn), ∃ (xx74 : Array Value), ∃ (xc75 : Array Value), v76 = (.func xf73 xx74 xc75 : Value) ∧ (
 doCall Tryz.prog (.func xf73 xx74 xc75) #[.pointer x14, .pointer t_2, .pointer x20] w59 (retS (fun v78 w79 => ∃ (x77 : Option Addr), v78 = (.pointer x77 : Value) ∧ (
 K56 x77 w79)) (fun ch w => Kfn R ch [] w)))) ∨ (v76 = (.nilFunc : Value) ∧ (
 doCall Tryz.prog (.nilFunc) #[.pointer x14, .pointer t_2, .pointer x20] w59 (retS (fun v81 w82 => ∃ (x80 : Option Addr), v81 = (.pointer x80 : Value) ∧ (
 K56 x80 w82)) (fun ch w => Kfn R ch [] w)))))))) (fun ch w => Kfn R ch [] w))))))) (fun ch w => Kfn R ch [] w)))) (fun ch w => Kfn R ch [] w)))) (fun ch w => Kfn R ch [] w)))) (fun ch w => Kfn R ch [] w)))) (fun ch w => Kfn R ch [] w))))) (fun ch w => Kfn R ch [] w)))) (fun ch w => Kfn R ch [] w)))) (fun ch w => Kfn R ch [] w)))) (fun ch w => Kfn R ch [] w)))) (fun ch w => Kfn R ch [] w)))) (fun ch w => Kfn R ch [] w)))) (fun ch w => Kfn R ch [] w)))
 ifB ((t_2).isNone) (
 doCall Tryz.prog (.func (.func 322) #[] #[]) #[.int .i64 s_1, .pointer t_2, .pointer pair_3, .pointer low_4] w (retS (fun v84 w85 => ∃ (x83 : Option Addr), v84 = (.pointer x83 : Value) ∧ (
 R (.returned (.pointer x83)) w85)) (fun ch w => Kfn R ch [] w))) (
 doCall Tryz.prog (.func (.func 277) #[] #[]) #[.pointer t_2] w (retS (fun v87 w88 => ∃ (x86 : Int), v87 = (.int .i64 x86 : Value) ∧ (
 doCall Tryz.prog (.func (.func 277) #[] #[]) #[.pointer low_4] w88 (retS (fun v90 w91 => ∃ (x89 : Int), v90 = (.int .i64 x89 : Value) ∧ (
 doCall Tryz.prog (.func (.func 279) #[] #[]) #[.int .i64 x86, .int .i64 x89] w91 (retS (fun v93 w94 => ∃ (x92 : Bool), v93 = (.bool x92 : Value) ∧ (
 K7 x92 w94)) (fun ch w => Kfn R ch [] w)))) (fun ch w => Kfn R ch [] w)))) (fun ch w => Kfn R ch [] w)))
set_option maxRecDepth 100000 in
theorem sh278_ok (s_1 : Int) (t_2 : Option Addr) (pair_3 : Option Addr) (low_4 : Option Addr) {R : Ending → World → Prop} {w : World} : sh278 s_1 t_2 pair_3 low_4 R w → Calls Tryz.prog 278 #[.int .i64 s_1, .pointer t_2, .pointer pair_3, .pointer low_4] w R :=
  calls_of_eq (ann := fun _ => []) (fn := Tryz.f278) (c := bodyOf Tryz.f278) (args := #[.int .i64 s_1, .pointer t_2, .pointer pair_3, .pointer low_4]) 400 follows_mixed Tryz.func278 (by kernel_rfl) (by kernel_rfl)
set_option maxRecDepth 100000 in
/-- joinery/wb.Like -/
def sh279 (a_1 : Int) (b_2 : Int) (R : Ending → World → Prop) (w : World) : Prop :=
 let K5 : Bool → World → Prop := fun (x3 : Bool) (w4 : World) => 
 R (.returned (.bool x3)) w4
 doAl (.cells #[.int .i64 a_1, .int .i64 b_2] 3) w (fun b6 w7 =>
 doCall Tryz.prog (.func (.func 327) #[] #[]) #[.int .i64 1, .int .i64 1099511627776, .slice (some (blk b6)) 2 2] w7 (retS (fun v9 w10 => ∃ (x8 : Bool), v9 = (.bool x8 : Value) ∧ (
 ifB x8 (
 doGo Tryz.prog (.builtin .min #[3, 3] 3 #[false, false]) #[.int .i64 a_1, .int .i64 b_2] w10 (retS (fun v12 w13 => ∃ (x11 : Int), v12 = (.int .i64 x11 : Value) ∧ (
 K5 (decide (((IntKind.wrap .i64 (29 * (IntKind.wrap .i64 (a_1 + b_2)))) : Int) ≤ (IntKind.wrap .i64 (100 * x11)))) w13)) (fun ch w => Kfn R ch [] w))) (
 R (.returned (.bool false)) w10))) (fun ch w => Kfn R ch [] w)))
set_option maxRecDepth 100000 in
theorem sh279_ok (a_1 : Int) (b_2 : Int) {R : Ending → World → Prop} {w : World} : sh279 a_1 b_2 R w → Calls Tryz.prog 279 #[.int .i64 a_1, .int .i64 b_2] w R :=
  calls_of_eq (ann := fun _ => []) (fn := Tryz.f279) (c := bodyOf Tryz.f279) (args := #[.int .i64 a_1, .int .i64 b_2]) 400 follows_mixed Tryz.func279 (by kernel_rfl) (by kernel_rfl)
set_option maxRecDepth 100000 in
/-- joinery/order.up -/
def sh280 (k_1 : Int) (R : Ending → World → Prop) (w : World) : Prop :=
 R (.returned (.int .u64 (bXor .u64 (IntKind.wrap .u64 k_1) 9223372036854775808))) w
set_option maxRecDepth 100000 in
theorem sh280_ok (k_1 : Int) {R : Ending → World → Prop} {w : World} : sh280 k_1 R w → Calls Tryz.prog 280 #[.int .i64 k_1] w R :=
  calls_of_eq (ann := fun _ => []) (fn := Tryz.f280) (c := bodyOf Tryz.f280) (args := #[.int .i64 k_1]) 400 follows_mixed Tryz.func280 (by kernel_rfl) (by kernel_rfl)
set_option maxRecDepth 100000 in
/-- joinery/order.kinds$1 -/
def sh282 (k_1 : Int) (R : Ending → World → Prop) (w : World) : Prop :=
 doCall Tryz.prog (.func (.func 280) #[] #[]) #[.int .i64 k_1] w (retS (fun v3 w4 => ∃ (x2 : Int), v3 = (.int .u64 x2 : Value) ∧ (
 R (.returned (.int .u64 (bXor .u64 (IntKind.max .u64) x2))) w4)) (fun ch w => Kfn R ch [] w))
set_option maxRecDepth 100000 in
theorem sh282_ok (k_1 : Int) {R : Ending → World → Prop} {w : World} : sh282 k_1 R w → Calls Tryz.prog 282 #[.int .i64 k_1] w R :=
  calls_of_eq (ann := fun _ => []) (fn := Tryz.f282) (c := bodyOf Tryz.f282) (args := #[.int .i64 k_1]) 400 follows_mixed Tryz.func282 (by kernel_rfl) (by kernel_rfl)
set_option maxRecDepth 100000 in
/-- joinery/order.kinds$3 -/
def sh284 (k_1 : Int) (R : Ending → World → Prop) (w : World) : Prop :=
 (0 : Int) ≤ 1 ∧ (
 (0 : Int) ≤ 63 ∧ (
 R (.returned (.int .u64 (IntKind.wrap .u64 (bXor .i64 (IntKind.wrap .i64 (k_1 * 2 ^ (min (1 : Int).toNat (IntKind.bits .i64)))) (Int.fdiv k_1 (2 ^ (min (63 : Int).toNat (IntKind.bits .i64)))))))) w))
set_option maxRecDepth 100000 in
theorem sh284_ok (k_1 : Int) {R : Ending → World → Prop} {w : World} : sh284 k_1 R w → Calls Tryz.prog 284 #[.int .i64 k_1] w R :=
  calls_of_eq (ann := fun _ => []) (fn := Tryz.f284) (c := bodyOf Tryz.f284) (args := #[.int .i64 k_1]) 400 follows_mixed Tryz.func284 (by kernel_rfl) (by kernel_rfl)
set_option maxRecDepth 100000 in
/-- joinery/order.kinds$5 -/
def sh286 (k_1 : Int) (R : Ending → World → Prop) (w : World) : Prop :=
 doCall Tryz.prog (.func (.func 287) #[] #[]) #[.int .u64 (IntKind.wrap .u64 k_1)] w (retS (fun v3 w4 => ∃ (x2 : Int), v3 = (.int .u64 x2 : Value) ∧ (
 R (.returned (.int .u64 x2)) w4)) (fun ch w => Kfn R ch [] w))
set_option maxRecDepth 100000 in
theorem sh286_ok (k_1 : Int) {R : Ending → World → Prop} {w : World} : sh286 k_1 R w → Calls Tryz.prog 286 #[.int .i64 k_1] w R :=
  calls_of_eq (ann := fun _ => []) (fn := Tryz.f286) (c := bodyOf Tryz.f286) (args := #[.int .i64 k_1]) 400 follows_mixed Tryz.func286 (by kernel_rfl) (by kernel_rfl)
set_option maxRecDepth 100000 in
/-- joinery/mix.Flip -/
def sh287 (x_1 : Int) (R : Ending → World → Prop) (w : World) : Prop :=
 doCall Tryz.prog (.func (.func 328) #[] #[]) #[.int .u64 x_1] w (retS (fun v3 w4 => ∃ (x2 : Int), v3 = (.int .u64 x2 : Value) ∧ (
 R (.returned (.int .u64 x2)) w4)) (fun ch w => Kfn R ch [] w))
set_option maxRecDepth 100000 in
theorem sh287_ok (x_1 : Int) {R : Ending → World → Prop} {w : World} : sh287 x_1 R w → Calls Tryz.prog 287 #[.int .u64 x_1] w R :=
  calls_of_eq (ann := fun _ => []) (fn := Tryz.f287) (c := bodyOf Tryz.f287) (args := #[.int .u64 x_1]) 400 follows_mixed Tryz.func287 (by kernel_rfl) (by kernel_rfl)
set_option maxRecDepth 100000 in
/-- joinery/order.kinds$7 -/
def sh289 (k_1 : Int) (R : Ending → World → Prop) (w : World) : Prop :=
 doCall Tryz.prog (.func (.func 280) #[] #[]) #[.int .i64 k_1] w (retS (fun v3 w4 => ∃ (x2 : Int), v3 = (.int .u64 x2 : Value) ∧ (
 doCall Tryz.prog (.func (.func 124) #[] #[]) #[.int .u64 x2, .int .i64 (-1)] w4 (retS (fun v6 w7 => ∃ (x5 : Int), v6 = (.int .u64 x5 : Value) ∧ (
 R (.returned (.int .u64 x5)) w7)) (fun ch w => Kfn R ch [] w)))) (fun ch w => Kfn R ch [] w))
set_option maxRecDepth 100000 in
theorem sh289_ok (k_1 : Int) {R : Ending → World → Prop} {w : World} : sh289 k_1 R w → Calls Tryz.prog 289 #[.int .i64 k_1] w R :=
  calls_of_eq (ann := fun _ => []) (fn := Tryz.f289) (c := bodyOf Tryz.f289) (args := #[.int .i64 k_1]) 400 follows_mixed Tryz.func289 (by kernel_rfl) (by kernel_rfl)
set_option maxRecDepth 100000 in
/-- joinery/order.kinds$9 -/
def sh291 (k_1 : Int) (R : Ending → World → Prop) (w : World) : Prop :=
 doCall Tryz.prog (.func (.func 280) #[] #[]) #[.int .i64 k_1] w (retS (fun v3 w4 => ∃ (x2 : Int), v3 = (.int .u64 x2 : Value) ∧ (
 doCall Tryz.prog (.func (.func 124) #[] #[]) #[.int .u64 x2, .int .i64 32] w4 (retS (fun v6 w7 => ∃ (x5 : Int), v6 = (.int .u64 x5 : Value) ∧ (
 R (.returned (.int .u64 x5)) w7)) (fun ch w => Kfn R ch [] w)))) (fun ch w => Kfn R ch [] w))
set_option maxRecDepth 100000 in
theorem sh291_ok (k_1 : Int) {R : Ending → World → Prop} {w : World} : sh291 k_1 R w → Calls Tryz.prog 291 #[.int .i64 k_1] w R :=
  calls_of_eq (ann := fun _ => []) (fn := Tryz.f291) (c := bodyOf Tryz.f291) (args := #[.int .i64 k_1]) 400 follows_mixed Tryz.func291 (by kernel_rfl) (by kernel_rfl)
set_option maxRecDepth 100000 in
/-- joinery/order.kinds$11 -/
def sh293 (k_1 : Int) (R : Ending → World → Prop) (w : World) : Prop :=
 doCall Tryz.prog (.func (.func 122) #[] #[]) #[.int .u64 (IntKind.wrap .u64 k_1)] w (retS (fun v3 w4 => ∃ (x2 : Int), v3 = (.int .u64 x2 : Value) ∧ (
 R (.returned (.int .u64 x2)) w4)) (fun ch w => Kfn R ch [] w))
set_option maxRecDepth 100000 in
theorem sh293_ok (k_1 : Int) {R : Ending → World → Prop} {w : World} : sh293 k_1 R w → Calls Tryz.prog 293 #[.int .i64 k_1] w R :=
  calls_of_eq (ann := fun _ => []) (fn := Tryz.f293) (c := bodyOf Tryz.f293) (args := #[.int .i64 k_1]) 400 follows_mixed Tryz.func293 (by kernel_rfl) (by kernel_rfl)
set_option maxRecDepth 100000 in
/-- slices.insertionSortCmpFunc[joinery/api.Pair] -/
def sh296 (data_p1 : Option Addr) (data_n2 : Nat) (_data_c3 : Nat) (a_4 : Int) (b_5 : Int) (cmp_f6 : Fn) (cmp_x7 : Array Value) (cmp_c8 : Array Value) (R : Ending → World → Prop) (w : World) : Prop :=
 ∃ (I9 : List Value → World → Prop) (μ10 : List Value → World → Nat), I9 [.int .i64 (IntKind.wrap .i64 (a_4 + 1))] w ∧ (∀ (i_13 : Int), ∀ (_j11 : Nat → Value) (w12 : World), I9 [.int .i64 i_13] w12 → (
 ifB (decide ((i_13 : Int) < b_5)) (
 let K15 : World → Prop := fun (w14 : World) => 
 I9 [.int .i64 (IntKind.wrap .i64 (i_13 + 1))] w14 ∧ μ10 [.int .i64 (IntKind.wrap .i64 (i_13 + 1))] w14 < μ10 [.int .i64 i_13] w12
 ∃ (I16 : List Value → World → Prop) (μ17 : List Value → World → Nat), I16 [.int .i64 i_13] w12 ∧ (∀ (j_20 : Int), ∀ (_j18 : Nat → Value) (w19 : World), I16 [.int .i64 j_20] w19 → (
 let K23 : Bool → World → Prop := fun (x21 : Bool) (w22 : World) => 
 ifB x21 (
 doDr w22 (fun w25 =>
 ∃ (C24 : World → Prop), C24 w25 ∧ (
 doIx data_p1 data_n2 2 (IntKind.wrap .i64 (j_20 - 1)) (fun a26 =>
 ∃ (x27 : Int), (∀ w, C24 w → World.cell? w (a26.add 0) = some (.int .i64 x27)) ∧ (
 ∃ (x28 : Int), (∀ w, C24 w → World.cell? w (a26.add 1) = some (.int .i64 x28)) ∧ (
 doIx data_p1 data_n2 2 (j_20) (fun a29 =>
 ∃ (x30 : Int), (∀ w, C24 w → World.cell? w (a29.add 0) = some (.int .i64 x30)) ∧ (
 ∃ (x31 : Int), (∀ w, C24 w → World.cell? w (a29.add 1) = some (.int .i64 x31)) ∧ (
 doIx data_p1 data_n2 2 (j_20) (fun a32 =>
 doSt (a32.add 0) (.int .i64 x27) w25 (fun w33 =>
 doSt (a32.add 1) (.int .i64 x28) w33 (fun w34 =>
 doIx data_p1 data_n2 2 (IntKind.wrap .i64 (j_20 - 1)) (fun a35 =>
 doSt (a35.add 0) (.int .i64 x30) w34 (fun w36 =>
 doSt (a35.add 1) (.int .i64 x31) w36 (fun w37 =>
 I16 [.int .i64 (IntKind.wrap .i64 (j_20 - 1))] w37 ∧ μ17 [.int .i64 (IntKind.wrap .i64 (j_20 - 1))] w37 < μ17 [.int .i64 j_20] w19))))))))))))))) (
 K15 w22)
 doDr w19 (fun w39 =>
 ∃ (C38 : World → Prop), C38 w39 ∧ (
 ifB (decide ((j_20 : Int) > a_4)) (
 doIx data_p1 data_n2 2 (j_20) (fun a40 =>
 ∃ (x41 : Int), (∀ w, C38 w → World.cell? w (a40.add 0) = some (.int .i64 x41)) ∧ (
 ∃ (x42 : Int), (∀ w, C38 w → World.cell? w (a40.add 1) = some (.int .i64 x42)) ∧ (
 doIx data_p1 data_n2 2 (IntKind.wrap .i64 (j_20 - 1)) (fun a43 =>
 ∃ (x44 : Int), (∀ w, C38 w → World.cell? w (a43.add 0) = some (.int .i64 x44)) ∧ (
 ∃ (x45 : Int), (∀ w, C38 w → World.cell? w (a43.add 1) = some (.int .i64 x45)) ∧ (
 doCall Tryz.prog (.func cmp_f6 cmp_x7 cmp_c8) #[.agg #[.int .i64 x41, .int .i64 x42], .agg #[.int .i64 x44, .int .i64 x45]] w39 (retS (fun v47 w48 => ∃ (x46 : Int), v47 = (.int .i64 x46 : Value) ∧ (
 K23 (decide ((x46 : Int) < 0)) w48)) (fun ch w => Kfn R ch [] w))))))))) (
 K15 w39)))))) (
 R (.returned (.tuple #[])) w12)))
set_option maxRecDepth 100000 in
theorem sh296_ok (data_p1 : Option Addr) (data_n2 : Nat) (data_c3 : Nat) (a_4 : Int) (b_5 : Int) (cmp_f6 : Fn) (cmp_x7 : Array Value) (cmp_c8 : Array Value) {R : Ending → World → Prop} {w : World} : sh296 data_p1 data_n2 data_c3 a_4 b_5 cmp_f6 cmp_x7 cmp_c8 R w → Calls Tryz.prog 296 #[.slice data_p1 data_n2 data_c3, .int .i64 a_4, .int .i64 b_5, .func cmp_f6 cmp_x7 cmp_c8] w R :=
  calls_of_eq (ann := fun i => if i = 2 then [(9, .int .i64 0)] else if i = 0 then [(8, .int .i64 0)] else []) (fn := Tryz.f296) (c := bodyOf Tryz.f296) (args := #[.slice data_p1 data_n2 data_c3, .int .i64 a_4, .int .i64 b_5, .func cmp_f6 cmp_x7 cmp_c8]) 400 follows_mixed Tryz.func296 (by kernel_rfl) (by kernel_rfl)
set_option maxRecDepth 100000 in
/-- joinery/treap.above -/
def sh305 (a_1 : Int) (a_2 : Int) (a_3 : Int) (b_4 : Int) (b_5 : Int) (b_6 : Int) (R : Ending → World → Prop) (w : World) : Prop :=
 doAl (.cells #[.int .i64 a_1, .int .i64 a_2, .int .u64 a_3] 114) w (fun b7 w8 =>
 doAl (.cells #[.int .i64 b_4, .int .i64 b_5, .int .u64 b_6] 114) w8 (fun b9 w10 =>
 let K13 : Bool → World → Prop := fun (x11 : Bool) (w12 : World) => 
 R (.returned (.bool x11)) w12
 ∃ (x14 : Int), World.cell? w10 ((blk b7).add 2) = some (.int .u64 x14) ∧ (
 ∃ (x15 : Int), World.cell? w10 ((blk b9).add 2) = some (.int .u64 x15) ∧ (
 ifB (decide ((x14 : Int) > x15)) (
 R (.returned (.bool true)) w10) (
 ∃ (x16 : Int), World.cell? w10 ((blk b7).add 2) = some (.int .u64 x16) ∧ (
 ∃ (x17 : Int), World.cell? w10 ((blk b9).add 2) = some (.int .u64 x17) ∧ (
 ifB ((x16 : Int) == x17) (
 ∃ (x18 : Int), World.cell? w10 ((blk b7).add 0) = some (.int .i64 x18) ∧ (
 ∃ (x19 : Int), World.cell? w10 ((blk b9).add 0) = some (.int .i64 x19) ∧ (
 K13 (decide ((x18 : Int) > x19)) w10))) (
 R (.returned (.bool false)) w10))))))))
set_option maxRecDepth 100000 in
theorem sh305_ok (a_1 : Int) (a_2 : Int) (a_3 : Int) (b_4 : Int) (b_5 : Int) (b_6 : Int) {R : Ending → World → Prop} {w : World} : sh305 a_1 a_2 a_3 b_4 b_5 b_6 R w → Calls Tryz.prog 305 #[.agg #[.int .i64 a_1, .int .i64 a_2, .int .u64 a_3], .agg #[.int .i64 b_4, .int .i64 b_5, .int .u64 b_6]] w R :=
  calls_of_eq (ann := fun _ => []) (fn := Tryz.f305) (c := bodyOf Tryz.f305) (args := #[.agg #[.int .i64 a_1, .int .i64 a_2, .int .u64 a_3], .agg #[.int .i64 b_4, .int .i64 b_5, .int .u64 b_6]]) 400 follows_mixed Tryz.func305 (by kernel_rfl) (by kernel_rfl)
set_option maxRecDepth 100000 in
/-- joinery/treap.item -/
def sh306 (n_1 : Option Addr) (R : Ending → World → Prop) (w : World) : Prop :=
 doAl (.cells #[.int .i64 0, .int .i64 0, .int .u64 0] 114) w (fun b2 w3 =>
 doCall Tryz.prog (.func (.func 108) #[] #[]) #[.pointer n_1] w3 (retS (fun v5 w6 => ∃ (x4 : Int), v5 = (.int .i64 x4 : Value) ∧ (
 doCall Tryz.prog (.func (.func 126) #[] #[]) #[.pointer n_1] w6 (retS (fun v8 w9 => ∃ (x7 : Int), v8 = (.int .i64 x7 : Value) ∧ (
 doCall Tryz.prog (.func (.func 196) #[] #[]) #[.pointer n_1] w9 (retS (fun v11 w12 => ∃ (x10 : Int), v11 = (.int .u64 x10 : Value) ∧ (
 doSt ((blk b2).add 0) (.int .i64 x4) w12 (fun w13 =>
 doSt ((blk b2).add 1) (.int .i64 x7) w13 (fun w14 =>
 doSt ((blk b2).add 2) (.int .u64 x10) w14 (fun w15 =>
 ∃ (x16 : Int), World.cell? w15 ((blk b2).add 0) = some (.int .i64 x16) ∧ (
 ∃ (x17 : Int), World.cell? w15 ((blk b2).add 1) = some (.int .i64 x17) ∧ (
 ∃ (x18 : Int), World.cell? w15 ((blk b2).add 2) = some (.int .u64 x18) ∧ (
 R (.returned (.agg #[.int .i64 x16, .int .i64 x17, .int .u64 x18])) w15)))))))) (fun ch w => Kfn R ch [] w)))) (fun ch w => Kfn R ch [] w)))) (fun ch w => Kfn R ch [] w)))
set_option maxRecDepth 100000 in
theorem sh306_ok (n_1 : Option Addr) {R : Ending → World → Prop} {w : World} : sh306 n_1 R w → Calls Tryz.prog 306 #[.pointer n_1] w R :=
  calls_of_eq (ann := fun _ => []) (fn := Tryz.f306) (c := bodyOf Tryz.f306) (args := #[.pointer n_1]) 400 follows_mixed Tryz.func306 (by kernel_rfl) (by kernel_rfl)
end Go.Proofs.YtlddfgfmkapoiaaGreat

namespace Go.Proofs.YtlddfgfmkapoiaaGreat
open Go Go.Sh
set_option maxRecDepth 100000 in
/-- joinery/avljoin.right$1 -/
def sh309 (in_1 : Option Addr) (pair_2 : Option Addr) (out_3 : Option Addr) (R : Ending → World → Prop) (w : World) : Prop :=
 doCall Tryz.prog (.func (.func 108) #[] #[]) #[.pointer pair_2] w (retS (fun v5 w6 => ∃ (x4 : Int), v5 = (.int .i64 x4 : Value) ∧ (
 doCall Tryz.prog (.func (.func 126) #[] #[]) #[.pointer pair_2] w6 (retS (fun v8 w9 => ∃ (x7 : Int), v8 = (.int .i64 x7 : Value) ∧ (
 doCall Tryz.prog (.func (.func 265) #[] #[]) #[.pointer in_1, .int .i64 x4, .int .i64 x7, .pointer out_3] w9 (retS (fun v11 w12 => ∃ (x10 : Option Addr), v11 = (.pointer x10 : Value) ∧ (
 R (.returned (.pointer x10)) w12)) (fun ch w => Kfn R ch [] w)))) (fun ch w => Kfn R ch [] w)))) (fun ch w => Kfn R ch [] w))
set_option maxRecDepth 100000 in
theorem sh309_ok (in_1 : Option Addr) (pair_2 : Option Addr) (out_3 : Option Addr) {R : Ending → World → Prop} {w : World} : sh309 in_1 pair_2 out_3 R w → Calls Tryz.prog 309 #[.pointer in_1, .pointer pair_2, .pointer out_3] w R :=
  calls_of_eq (ann := fun _ => []) (fn := Tryz.f309) (c := bodyOf Tryz.f309) (args := #[.pointer in_1, .pointer pair_2, .pointer out_3]) 400 follows_mixed Tryz.func309 (by kernel_rfl) (by kernel_rfl)
set_option maxRecDepth 100000 in
/-- (joinery/avljoin.side).inward -/
def sh310 (s_f1 : Fn) (s_x2 : Array Value) (s_c3 : Array Value) (s_f4 : Fn) (s_x5 : Array Value) (s_c6 : Array Value) (s_f7 : Fn) (s_x8 : Array Value) (s_c9 : Array Value) (t_10 : Option Addr) (R : Ending → World → Prop) (w : World) : Prop :=
 doAl (.cells #[.func s_f1 s_x2 s_c3, .func s_f4 s_x5 s_c6, .func s_f7 s_x8 s_c9] 331) w (fun b11 w12 =>
 ∃ (xf13 : Fn), ∃ (xx14 : Array Value), ∃ (xc15 : Array Value), World.cell? w12 ((blk b11).add 1) = some (.func xf13 xx14 xc15) ∧ (
 doCall Tryz.prog (.func xf13 xx14 xc15) #[.pointer t_10] w12 (retS (fun v17 w18 => ∃ (x16 : Option Addr), v17 = (.pointer x16 : Value) ∧ (
 doDr w18 (fun w20 =>
 ∃ (C19 : World → Prop), C19 w20 ∧ (
 ∃ (xf21 : Fn), ∃ (xx22 : Array Value), ∃ (xc23 : Array Value), (∀ w, C19 w → World.cell? w ((blk b11).add 2) = some (.func xf21 xx22 xc23)) ∧ (
 ∃ (xf24 : Fn), ∃ (xx25 : Array Value), ∃ (xc26 : Array Value), (∀ w, C19 w → World.cell? w ((blk b11).add 2) = some (.func xf24 xx25 xc26)) ∧ (
 ∃ (xf27 : Fn), ∃ (xx28 : Array Value), ∃ (xc29 : Array Value), (∀ w, C19 w → World.cell? w ((blk b11).add 0) = some (.func xf27 xx28 xc29)) ∧ (
 ∃ (xf30 : Fn), ∃ (xx31 : Array Value), ∃ (xc32 : Array Value), (∀ w, C19 w → World.cell? w ((blk b11).add 0) = some (.func xf30 xx31 xc32)) ∧ (
 ∃ (xf33 : Fn), ∃ (xx34 : Array Value), ∃ (xc35 : Array Value), (∀ w, C19 w → World.cell? w ((blk b11).add 1) = some (.func xf33 xx34 xc35)) ∧ (
 doCall Tryz.prog (.func xf27 xx28 xc29) #[.pointer t_10] w20 (retS (fun v37 w38 => ∃ (x36 : Option Addr), v37 = (.pointer x36 : Value) ∧ (
 C19 w38 ∧ (
 doCall Tryz.prog (.func xf30 xx31 xc32) #[.pointer x16] w38 (retS (fun v40 w41 => ∃ (x39 : Option Addr), v40 = (.pointer x39 : Value) ∧ (
 C19 w41 ∧ (
 doCall Tryz.prog (.func xf24 xx25 xc26) #[.pointer x36, .pointer t_10, .pointer x39] w41 (retS (fun v43 w44 => ∃ (x42 : Option Addr), v43 = (.pointer x42 : Value) ∧ (
 C19 w44 ∧ (
 doCall Tryz.prog (.func xf33 xx34 xc35) #[.pointer x16] w44 (retS (fun v46 w47 => ∃ (x45 : Option Addr), v46 = (.pointer x45 : Value) ∧ (
 C19 w47 ∧ (
 doCall Tryz.prog (.func xf21 xx22 xc23) #[.pointer x42, .pointer x16, .pointer x45] w47 (retS (fun v49 w50 => ∃ (x48 : Option Addr), v49 = (.pointer x48 : Value) ∧ (
 C19 w50 ∧ (
 R (.returned (.pointer x48)) w50))) (fun ch w => Kfn R ch [] w))))) (fun ch w => Kfn R ch [] w))))) (fun ch w => Kfn R ch [] w))))) (fun ch w => Kfn R ch [] w))))) (fun ch w => Kfn R ch [] w))))))))))) (fun ch w => Kfn R ch [] w))))
set_option maxRecDepth 100000 in
theorem sh310_ok (s_f1 : Fn) (s_x2 : Array Value) (s_c3 : Array Value) (s_f4 : Fn) (s_x5 : Array Value) (s_c6 : Array Value) (s_f7 : Fn) (s_x8 : Array Value) (s_c9 : Array Value) (t_10 : Option Addr) {R : Ending → World → Prop} {w : World} : sh310 s_f1 s_x2 s_c3 s_f4 s_x5 s_c6 s_f7 s_x8 s_c9 t_10 R w → Calls Tryz.prog 310 #[.agg #[.func s_f1 s_x2 s_c3, .func s_f4 s_x5 s_c6, .func s_f7 s_x8 s_c9], .pointer t_10] w R :=
  calls_of_eq (ann := fun _ => []) (fn := Tryz.f310) (c := bodyOf Tryz.f310) (args := #[.agg #[.func s_f1 s_x2 s_c3, .func s_f4 s_x5 s_c6, .func s_f7 s_x8 s_c9], .pointer t_10]) 400 follows_mixed Tryz.func310 (by kernel_rfl) (by kernel_rfl)
set_option maxRecDepth 100000 in
/-- (joinery/avljoin.side).outward -/
def sh311 (s_f1 : Fn) (s_x2 : Array Value) (s_c3 : Array Value) (s_f4 : Fn) (s_x5 : Array Value) (s_c6 : Array Value) (s_f7 : Fn) (s_x8 : Array Value) (s_c9 : Array Value) (t_10 : Option Addr) (R : Ending → World → Prop) (w : World) : Prop :=
 doAl (.cells #[.func s_f1 s_x2 s_c3, .func s_f4 s_x5 s_c6, .func s_f7 s_x8 s_c9] 331) w (fun b11 w12 =>
 ∃ (xf13 : Fn), ∃ (xx14 : Array Value), ∃ (xc15 : Array Value), World.cell? w12 ((blk b11).add 0) = some (.func xf13 xx14 xc15) ∧ (
 doCall Tryz.prog (.func xf13 xx14 xc15) #[.pointer t_10] w12 (retS (fun v17 w18 => ∃ (x16 : Option Addr), v17 = (.pointer x16 : Value) ∧ (
 doDr w18 (fun w20 =>
 ∃ (C19 : World → Prop), C19 w20 ∧ (
 ∃ (xf21 : Fn), ∃ (xx22 : Array Value), ∃ (xc23 : Array Value), (∀ w, C19 w → World.cell? w ((blk b11).add 2) = some (.func xf21 xx22 xc23)) ∧ (
 ∃ (xf24 : Fn), ∃ (xx25 : Array Value), ∃ (xc26 : Array Value), (∀ w, C19 w → World.cell? w ((blk b11).add 0) = some (.func xf24 xx25 xc26)) ∧ (
 ∃ (xf27 : Fn), ∃ (xx28 : Array Value), ∃ (xc29 : Array Value), (∀ w, C19 w → World.cell? w ((blk b11).add 2) = some (.func xf27 xx28 xc29)) ∧ (
 ∃ (xf30 : Fn), ∃ (xx31 : Array Value), ∃ (xc32 : Array Value), (∀ w, C19 w → World.cell? w ((blk b11).add 1) = some (.func xf30 xx31 xc32)) ∧ (
 ∃ (xf33 : Fn), ∃ (xx34 : Array Value), ∃ (xc35 : Array Value), (∀ w, C19 w → World.cell? w ((blk b11).add 1) = some (.func xf33 xx34 xc35)) ∧ (
 doCall Tryz.prog (.func xf24 xx25 xc26) #[.pointer x16] w20 (retS (fun v37 w38 => ∃ (x36 : Option Addr), v37 = (.pointer x36 : Value) ∧ (
 C19 w38 ∧ (
 doCall Tryz.prog (.func xf30 xx31 xc32) #[.pointer x16] w38 (retS (fun v40 w41 => ∃ (x39 : Option Addr), v40 = (.pointer x39 : Value) ∧ (
 C19 w41 ∧ (
 doCall Tryz.prog (.func xf33 xx34 xc35) #[.pointer t_10] w41 (retS (fun v43 w44 => ∃ (x42 : Option Addr), v43 = (.pointer x42 : Value) ∧ (
 C19 w44 ∧ (
 doCall Tryz.prog (.func xf27 xx28 xc29) #[.pointer x39, .pointer t_10, .pointer x42] w44 (retS (fun v46 w47 => ∃ (x45 : Option Addr), v46 = (.pointer x45 : Value) ∧ (
 C19 w47 ∧ (
 doCall Tryz.prog (.func xf21 xx22 xc23) #[.pointer x36, .pointer x16, .pointer x45] w47 (retS (fun v49 w50 => ∃ (x48 : Option Addr), v49 = (.pointer x48 : Value) ∧ (
 C19 w50 ∧ (
 R (.returned (.pointer x48)) w50))) (fun ch w => Kfn R ch [] w))))) (fun ch w => Kfn R ch [] w))))) (fun ch w => Kfn R ch [] w))))) (fun ch w => Kfn R ch [] w))))) (fun ch w => Kfn R ch [] w))))))))))) (fun ch w => Kfn R ch [] w))))
set_option maxRecDepth 100000 in
theorem sh311_ok (s_f1 : Fn) (s_x2 : Array Value) (s_c3 : Array Value) (s_f4 : Fn) (s_x5 : Array Value) (s_c6 : Array Value) (s_f7 : Fn) (s_x8 : Array Value) (s_c9 : Array Value) (t_10 : Option Addr) {R : Ending → World → Prop} {w : World} : sh311 s_f1 s_x2 s_c3 s_f4 s_x5 s_c6 s_f7 s_x8 s_c9 t_10 R w → Calls Tryz.prog 311 #[.agg #[.func s_f1 s_x2 s_c3, .func s_f4 s_x5 s_c6, .func s_f7 s_x8 s_c9], .pointer t_10] w R :=
  calls_of_eq (ann := fun _ => []) (fn := Tryz.f311) (c := bodyOf Tryz.f311) (args := #[.agg #[.func s_f1 s_x2 s_c3, .func s_f4 s_x5 s_c6, .func s_f7 s_x8 s_c9], .pointer t_10]) 400 follows_mixed Tryz.func311 (by kernel_rfl) (by kernel_rfl)
set_option maxRecDepth 100000 in
/-- joinery/avljoin.left$1 -/
def sh312 (in_1 : Option Addr) (pair_2 : Option Addr) (out_3 : Option Addr) (R : Ending → World → Prop) (w : World) : Prop :=
 doCall Tryz.prog (.func (.func 108) #[] #[]) #[.pointer pair_2] w (retS (fun v5 w6 => ∃ (x4 : Int), v5 = (.int .i64 x4 : Value) ∧ (
 doCall Tryz.prog (.func (.func 126) #[] #[]) #[.pointer pair_2] w6 (retS (fun v8 w9 => ∃ (x7 : Int), v8 = (.int .i64 x7 : Value) ∧ (
 doCall Tryz.prog (.func (.func 265) #[] #[]) #[.pointer out_3, .int .i64 x4, .int .i64 x7, .pointer in_1] w9 (retS (fun v11 w12 => ∃ (x10 : Option Addr), v11 = (.pointer x10 : Value) ∧ (
 R (.returned (.pointer x10)) w12)) (fun ch w => Kfn R ch [] w)))) (fun ch w => Kfn R ch [] w)))) (fun ch w => Kfn R ch [] w))
set_option maxRecDepth 100000 in
theorem sh312_ok (in_1 : Option Addr) (pair_2 : Option Addr) (out_3 : Option Addr) {R : Ending → World → Prop} {w : World} : sh312 in_1 pair_2 out_3 R w → Calls Tryz.prog 312 #[.pointer in_1, .pointer pair_2, .pointer out_3] w R :=
  calls_of_eq (ann := fun _ => []) (fn := Tryz.f312) (c := bodyOf Tryz.f312) (args := #[.pointer in_1, .pointer pair_2, .pointer out_3]) 400 follows_mixed Tryz.func312 (by kernel_rfl) (by kernel_rfl)
set_option maxRecDepth 100000 in
/-- joinery/rb.over -/
def sh318 (high_1 : Int) (is_2 : Bool) (R : Ending → World → Prop) (w : World) : Prop :=
 doAl (.cells #[.int .u64 0, .int .u64 0] 357) w (fun b3 w4 =>
 ifB is_2 (
 doSt ((blk b3).add 0) (.int .u64 1) w4 (fun w5 =>
 doSt ((blk b3).add 1) (.int .u64 high_1) w5 (fun w6 =>
 ∃ (x7 : Int), World.cell? w6 ((blk b3).add 0) = some (.int .u64 x7) ∧ (
 ∃ (x8 : Int), World.cell? w6 ((blk b3).add 1) = some (.int .u64 x8) ∧ (
 R (.returned (.agg #[.int .u64 x7, .int .u64 x8])) w6))))) (
 doSt ((blk b3).add 0) (.int .u64 0) w4 (fun w9 =>
 doSt ((blk b3).add 1) (.int .u64 (IntKind.wrap .u64 (high_1 + 1))) w9 (fun w10 =>
 ∃ (x11 : Int), World.cell? w10 ((blk b3).add 0) = some (.int .u64 x11) ∧ (
 ∃ (x12 : Int), World.cell? w10 ((blk b3).add 1) = some (.int .u64 x12) ∧ (
 R (.returned (.agg #[.int .u64 x11, .int .u64 x12])) w10))))))
set_option maxRecDepth 100000 in
theorem sh318_ok (high_1 : Int) (is_2 : Bool) {R : Ending → World → Prop} {w : World} : sh318 high_1 is_2 R w → Calls Tryz.prog 318 #[.int .u64 high_1, .bool is_2] w R :=
  calls_of_eq (ann := fun _ => []) (fn := Tryz.f318) (c := bodyOf Tryz.f318) (args := #[.int .u64 high_1, .bool is_2]) 400 follows_mixed Tryz.func318 (by kernel_rfl) (by kernel_rfl)
set_option maxRecDepth 100000 in
/-- joinery/rb.of -/
def sh319 (t_1 : Option Addr) (R : Ending → World → Prop) (w : World) : Prop :=
 doAl (.cells #[.int .u64 0, .int .u64 0] 357) w (fun b2 w3 =>
 doCall Tryz.prog (.func (.func 196) #[] #[]) #[.pointer t_1] w3 (retS (fun v5 w6 => ∃ (x4 : Int), v5 = (.int .u64 x4 : Value) ∧ (
 2 ≠ (0 : Int) ∧ (
 doCall Tryz.prog (.func (.func 196) #[] #[]) #[.pointer t_1] w6 (retS (fun v8 w9 => ∃ (x7 : Int), v8 = (.int .u64 x7 : Value) ∧ (
 2 ≠ (0 : Int) ∧ (
 doSt ((blk b2).add 0) (.int .u64 (Int.tmod x4 2)) w9 (fun w10 =>
 doSt ((blk b2).add 1) (.int .u64 (IntKind.wrap .u64 (Int.tdiv x7 2))) w10 (fun w11 =>
 ∃ (x12 : Int), World.cell? w11 ((blk b2).add 0) = some (.int .u64 x12) ∧ (
 ∃ (x13 : Int), World.cell? w11 ((blk b2).add 1) = some (.int .u64 x13) ∧ (
 R (.returned (.agg #[.int .u64 x12, .int .u64 x13])) w11))))))) (fun ch w => Kfn R ch [] w))))) (fun ch w => Kfn R ch [] w)))
set_option maxRecDepth 100000 in
theorem sh319_ok (t_1 : Option Addr) {R : Ending → World → Prop} {w : World} : sh319 t_1 R w → Calls Tryz.prog 319 #[.pointer t_1] w R :=
  calls_of_eq (ann := fun _ => []) (fn := Tryz.f319) (c := bodyOf Tryz.f319) (args := #[.pointer t_1]) 400 follows_mixed Tryz.func319 (by kernel_rfl) (by kernel_rfl)
set_option maxRecDepth 100000 in
/-- (joinery/rb.what).tag -/
def sh320 (w_1 : Int) (w_2 : Int) (R : Ending → World → Prop) (w : World) : Prop :=
 doAl (.cells #[.int .u64 w_1, .int .u64 w_2] 357) w (fun b3 w4 =>
 ∃ (x5 : Int), World.cell? w4 ((blk b3).add 1) = some (.int .u64 x5) ∧ (
 ∃ (x6 : Int), World.cell? w4 ((blk b3).add 0) = some (.int .u64 x6) ∧ (
 R (.returned (.int .u64 (IntKind.wrap .u64 ((IntKind.wrap .u64 (2 * x5)) + x6)))) w4)))
set_option maxRecDepth 100000 in
theorem sh320_ok (w_1 : Int) (w_2 : Int) {R : Ending → World → Prop} {w : World} : sh320 w_1 w_2 R w → Calls Tryz.prog 320 #[.agg #[.int .u64 w_1, .int .u64 w_2]] w R :=
  calls_of_eq (ann := fun _ => []) (fn := Tryz.f320) (c := bodyOf Tryz.f320) (args := #[.agg #[.int .u64 w_1, .int .u64 w_2]]) 400 follows_mixed Tryz.func320 (by kernel_rfl) (by kernel_rfl)
set_option maxRecDepth 100000 in
/-- (joinery/wbjoin.side).make -/
def sh322 (s_1 : Int) (in_2 : Option Addr) (pair_3 : Option Addr) (out_4 : Option Addr) (R : Ending → World → Prop) (w : World) : Prop :=
 doAl (.cells #[.pointer none, .pointer none] 376) w (fun b5 w6 =>
 doSt ((blk b5).add 0) (.pointer in_2) w6 (fun w7 =>
 doSt ((blk b5).add 1) (.pointer out_4) w7 (fun w8 =>
 doDr w8 (fun w10 =>
 ∃ (C9 : World → Prop), C9 w10 ∧ (
 doIx (some (blk b5)) 2 1 (s_1) (fun a11 =>
 ∃ (x12 : Option Addr), (∀ w, C9 w → World.cell? w a11 = some (.pointer x12)) ∧ (
 doCall Tryz.prog (.func (.func 323) #[] #[]) #[.int .i64 s_1] w10 (retS (fun v14 w15 => ∃ (x13 : Int), v14 = (.int .i64 x13 : Value) ∧ (
 C9 w15 ∧ (
 doIx (some (blk b5)) 2 1 (x13) (fun a16 =>
 ∃ (x17 : Option Addr), (∀ w, C9 w → World.cell? w a16 = some (.pointer x17)) ∧ (
 doCall Tryz.prog (.func (.func 108) #[] #[]) #[.pointer pair_3] w15 (retS (fun v19 w20 => ∃ (x18 : Int), v19 = (.int .i64 x18 : Value) ∧ (
 C9 w20 ∧ (
 doCall Tryz.prog (.func (.func 126) #[] #[]) #[.pointer pair_3] w20 (retS (fun v22 w23 => ∃ (x21 : Int), v22 = (.int .i64 x21 : Value) ∧ (
 C9 w23 ∧ (
 doCall Tryz.prog (.func (.func 276) #[] #[]) #[.pointer x17, .int .i64 x18, .int .i64 x21, .pointer x12] w23 (retS (fun v25 w26 => ∃ (x24 : Option Addr), v25 = (.pointer x24 : Value) ∧ (
 R (.returned (.pointer x24)) w26)) (fun ch w => Kfn R ch [] w))))) (fun ch w => Kfn R ch [] w))))) (fun ch w => Kfn R ch [] w))))))) (fun ch w => Kfn R ch [] w)))))))))
set_option maxRecDepth 100000 in
theorem sh322_ok (s_1 : Int) (in_2 : Option Addr) (pair_3 : Option Addr) (out_4 : Option Addr) {R : Ending → World → Prop} {w : World} : sh322 s_1 in_2 pair_3 out_4 R w → Calls Tryz.prog 322 #[.int .i64 s_1, .pointer in_2, .pointer pair_3, .pointer out_4] w R :=
  calls_of_eq (ann := fun _ => []) (fn := Tryz.f322) (c := bodyOf Tryz.f322) (args := #[.int .i64 s_1, .pointer in_2, .pointer pair_3, .pointer out_4]) 400 follows_mixed Tryz.func322 (by kernel_rfl) (by kernel_rfl)
set_option maxRecDepth 100000 in
/-- (joinery/wbjoin.side).other -/
def sh323 (s_1 : Int) (R : Ending → World → Prop) (w : World) : Prop :=
 R (.returned (.int .i64 (IntKind.wrap .i64 (1 - s_1)))) w
set_option maxRecDepth 100000 in
theorem sh323_ok (s_1 : Int) {R : Ending → World → Prop} {w : World} : sh323 s_1 R w → Calls Tryz.prog 323 #[.int .i64 s_1] w R :=
  calls_of_eq (ann := fun _ => []) (fn := Tryz.f323) (c := bodyOf Tryz.f323) (args := #[.int .i64 s_1]) 400 follows_mixed Tryz.func323 (by kernel_rfl) (by kernel_rfl)
set_option maxRecDepth 100000 in
/-- (joinery/wbjoin.side).at -/
def sh324 (s_1 : Int) (t_2 : Option Addr) (R : Ending → World → Prop) (w : World) : Prop :=
 doCall Tryz.prog (.func (.func 343) #[] #[]) #[.pointer t_2] w (retS (fun v5 w6 => ∃ (x3 : Option Addr), ∃ (x4 : Option Addr), v5 = (.agg #[.pointer x3, .pointer x4] : Value) ∧ (
 doIxV Tryz.prog 376 (.agg #[.pointer x3, .pointer x4]) (.int .i64 s_1) (fun v7 => ∃ (x8 : Option Addr), v7 = (.pointer x8 : Value) ∧ (
 R (.returned (.pointer x8)) w6)))) (fun ch w => Kfn R ch [] w))
set_option maxRecDepth 100000 in
theorem sh324_ok (s_1 : Int) (t_2 : Option Addr) {R : Ending → World → Prop} {w : World} : sh324 s_1 t_2 R w → Calls Tryz.prog 324 #[.int .i64 s_1, .pointer t_2] w R :=
  calls_of_eq (ann := fun _ => []) (fn := Tryz.f324) (c := bodyOf Tryz.f324) (args := #[.int .i64 s_1, .pointer t_2]) 400 follows_mixed Tryz.func324 (by kernel_rfl) (by kernel_rfl)
end Go.Proofs.YtlddfgfmkapoiaaGreat

namespace Go.Proofs.YtlddfgfmkapoiaaGreat
open Go Go.Sh
set_option maxRecDepth 100000 in
/-- (joinery/wbjoin.side).once -/
def sh325 (s_1 : Int) (in_2 : Option Addr) (t_3 : Option Addr) (x_4 : Option Addr) (R : Ending → World → Prop) (w : World) : Prop :=
 doCall Tryz.prog (.func (.func 323) #[] #[]) #[.int .i64 s_1] w (retS (fun v6 w7 => ∃ (x5 : Int), v6 = (.int .i64 x5 : Value) ∧ (
 doCall Tryz.prog (.func (.func 324) #[] #[]) #[.int .i64 x5, .pointer x_4] w7 (retS (fun v9 w10 => ∃ (x8 : Option Addr), v9 = (.pointer x8 : Value) ∧ (
 doCall Tryz.prog (.func (.func 322) #[] #[]) #[.int .i64 s_1, .pointer in_2, .pointer t_3, .pointer x8] w10 (retS (fun v12 w13 => ∃ (x11 : Option Addr), v12 = (.pointer x11 : Value) ∧ (
 doCall Tryz.prog (.func (.func 324) #[] #[]) #[.int .i64 s_1, .pointer x_4] w13 (retS (fun v15 w16 => ∃ (x14 : Option Addr), v15 = (.pointer x14 : Value) ∧ (
 doCall Tryz.prog (.func (.func 322) #[] #[]) #[.int .i64 s_1, .pointer x11, .pointer x_4, .pointer x14] w16 (retS (fun v18 w19 => ∃ (x17 : Option Addr), v18 = (.pointer x17 : Value) ∧ (
 R (.returned (.pointer x17)) w19)) (fun ch w => Kfn R ch [] w)))) (fun ch w => Kfn R ch [] w)))) (fun ch w => Kfn R ch [] w)))) (fun ch w => Kfn R ch [] w)))) (fun ch w => Kfn R ch [] w))
set_option maxRecDepth 100000 in
theorem sh325_ok (s_1 : Int) (in_2 : Option Addr) (t_3 : Option Addr) (x_4 : Option Addr) {R : Ending → World → Prop} {w : World} : sh325 s_1 in_2 t_3 x_4 R w → Calls Tryz.prog 325 #[.int .i64 s_1, .pointer in_2, .pointer t_3, .pointer x_4] w R :=
  calls_of_eq (ann := fun _ => []) (fn := Tryz.f325) (c := bodyOf Tryz.f325) (args := #[.int .i64 s_1, .pointer in_2, .pointer t_3, .pointer x_4]) 400 follows_mixed Tryz.func325 (by kernel_rfl) (by kernel_rfl)
set_option maxRecDepth 100000 in
/-- (joinery/wbjoin.side).twice -/
def sh326 (s_1 : Int) (in_2 : Option Addr) (t_3 : Option Addr) (x_4 : Option Addr) (R : Ending → World → Prop) (w : World) : Prop :=
 doCall Tryz.prog (.func (.func 323) #[] #[]) #[.int .i64 s_1] w (retS (fun v6 w7 => ∃ (x5 : Int), v6 = (.int .i64 x5 : Value) ∧ (
 doCall Tryz.prog (.func (.func 324) #[] #[]) #[.int .i64 x5, .pointer x_4] w7 (retS (fun v9 w10 => ∃ (x8 : Option Addr), v9 = (.pointer x8 : Value) ∧ (
 doCall Tryz.prog (.func (.func 323) #[] #[]) #[.int .i64 s_1] w10 (retS (fun v12 w13 => ∃ (x11 : Int), v12 = (.int .i64 x11 : Value) ∧ (
 doCall Tryz.prog (.func (.func 324) #[] #[]) #[.int .i64 x11, .pointer x8] w13 (retS (fun v15 w16 => ∃ (x14 : Option Addr), v15 = (.pointer x14 : Value) ∧ (
 doCall Tryz.prog (.func (.func 322) #[] #[]) #[.int .i64 s_1, .pointer in_2, .pointer t_3, .pointer x14] w16 (retS (fun v18 w19 => ∃ (x17 : Option Addr), v18 = (.pointer x17 : Value) ∧ (
 doCall Tryz.prog (.func (.func 324) #[] #[]) #[.int .i64 s_1, .pointer x8] w19 (retS (fun v21 w22 => ∃ (x20 : Option Addr), v21 = (.pointer x20 : Value) ∧ (
 doCall Tryz.prog (.func (.func 324) #[] #[]) #[.int .i64 s_1, .pointer x_4] w22 (retS (fun v24 w25 => ∃ (x23 : Option Addr), v24 = (.pointer x23 : Value) ∧ (
 doCall Tryz.prog (.func (.func 322) #[] #[]) #[.int .i64 s_1, .pointer x20, .pointer x_4, .pointer x23] w25 (retS (fun v27 w28 => ∃ (x26 : Option Addr), v27 = (.pointer x26 : Value) ∧ (
 doCall Tryz.prog (.func (.func 322) #[] #[]) #[.int .i64 s_1, .pointer x17, .pointer x8, .pointer x26] w28 (retS (fun v30 w31 => ∃ (x29 : Option Addr), v30 = (.pointer x29 : Value) ∧ (
 R (.returned (.pointer x29)) w31)) (fun ch w => Kfn R ch [] w)))) (fun ch w => Kfn R ch [] w)))) (fun ch w => Kfn R ch [] w)))) (fun ch w => Kfn R ch [] w)))) (fun ch w => Kfn R ch [] w)))) (fun ch w => Kfn R ch [] w)))) (fun ch w => Kfn R ch [] w)))) (fun ch w => Kfn R ch [] w)))) (fun ch w => Kfn R ch [] w))
set_option maxRecDepth 100000 in
theorem sh326_ok (s_1 : Int) (in_2 : Option Addr) (t_3 : Option Addr) (x_4 : Option Addr) {R : Ending → World → Prop} {w : World} : sh326 s_1 in_2 t_3 x_4 R w → Calls Tryz.prog 326 #[.int .i64 s_1, .pointer in_2, .pointer t_3, .pointer x_4] w R :=
  calls_of_eq (ann := fun _ => []) (fn := Tryz.f326) (c := bodyOf Tryz.f326) (args := #[.int .i64 s_1, .pointer in_2, .pointer t_3, .pointer x_4]) 400 follows_mixed Tryz.func326 (by kernel_rfl) (by kernel_rfl)
set_option maxRecDepth 100000 in
/-- joinery/wb.within[int] -/
def sh327 (least_1 : Int) (most_2 : Int) (l_p3 : Option Addr) (l_n4 : Nat) (_l_c5 : Nat) (R : Ending → World → Prop) (w : World) : Prop :=
 ∃ (I6 : List Value → World → Prop) (μ7 : List Value → World → Nat), I6 [.int .i64 0] w ∧ (∀ (x10 : Int), ∀ (_j8 : Nat → Value) (w9 : World), I6 [.int .i64 x10] w9 → (
 ifB (decide ((x10 : Int) < ((l_n4 : Nat) : Int))) (
 doIx l_p3 l_n4 1 (x10) (fun a11 =>
 ∃ (x12 : Int), World.cell? w9 a11 = some (.int .i64 x12) ∧ (
 let K15 : Bool → World → Prop := fun (x13 : Bool) (w14 : World) => 
 ifB x13 (
 R (.returned (.bool false)) w14) (
 I6 [.int .i64 (IntKind.wrap .i64 (x10 + 1))] w14 ∧ μ7 [.int .i64 (IntKind.wrap .i64 (x10 + 1))] w14 < μ7 [.int .i64 x10] w9)
 ifB (decide ((x12 : Int) < least_1)) (
 R (.returned (.bool false)) w9) (
 K15 (decide ((x12 : Int) > most_2)) w9)))) (
 R (.returned (.bool true)) w9)))
set_option maxRecDepth 100000 in
theorem sh327_ok (least_1 : Int) (most_2 : Int) (l_p3 : Option Addr) (l_n4 : Nat) (l_c5 : Nat) {R : Ending → World → Prop} {w : World} : sh327 least_1 most_2 l_p3 l_n4 l_c5 R w → Calls Tryz.prog 327 #[.int .i64 least_1, .int .i64 most_2, .slice l_p3 l_n4 l_c5] w R :=
  calls_of_eq (ann := fun i => if i = 0 then [(11, .int .i64 0)] else []) (fn := Tryz.f327) (c := bodyOf Tryz.f327) (args := #[.int .i64 least_1, .int .i64 most_2, .slice l_p3 l_n4 l_c5]) 400 follows_mixed Tryz.func327 (by kernel_rfl) (by kernel_rfl)
set_option maxRecDepth 100000 in
/-- math/bits.Reverse64 -/
def sh328 (x_1 : Int) (R : Ending → World → Prop) (w : World) : Prop :=
 (0 : Int) ≤ 1 ∧ (
 (0 : Int) ≤ 1 ∧ (
 (0 : Int) ≤ 2 ∧ (
 (0 : Int) ≤ 2 ∧ (
 (0 : Int) ≤ 4 ∧ (
 (0 : Int) ≤ 4 ∧ (
 doCall Tryz.prog (.func (.func 344) #[] #[]) #[.int .u64 (bOr .u64 (bAnd .u64 (Int.fdiv (bOr .u64 (bAnd .u64 (Int.fdiv (bOr .u64 (bAnd .u64 (Int.fdiv x_1 (2 ^ (min (1 : Int).toNat (IntKind.bits .u64)))) 6148914691236517205) (IntKind.wrap .u64 ((bAnd .u64 x_1 6148914691236517205) * 2 ^ (min (1 : Int).toNat (IntKind.bits .u64))))) (2 ^ (min (2 : Int).toNat (IntKind.bits .u64)))) 3689348814741910323) (IntKind.wrap .u64 ((bAnd .u64 (bOr .u64 (bAnd .u64 (Int.fdiv x_1 (2 ^ (min (1 : Int).toNat (IntKind.bits .u64)))) 6148914691236517205) (IntKind.wrap .u64 ((bAnd .u64 x_1 6148914691236517205) * 2 ^ (min (1 : Int).toNat (IntKind.bits .u64))))) 3689348814741910323) * 2 ^ (min (2 : Int).toNat (IntKind.bits .u64))))) (2 ^ (min (4 : Int).toNat (IntKind.bits .u64)))) 1085102592571150095) (IntKind.wrap .u64 ((bAnd .u64 (bOr .u64 (bAnd .u64 (Int.fdiv (bOr .u64 (bAnd .u64 (Int.fdiv x_1 (2 ^ (min (1 : Int).toNat (IntKind.bits .u64)))) 6148914691236517205) (IntKind.wrap .u64 ((bAnd .u64 x_1 6148914691236517205) * 2 ^ (min (1 : Int).toNat (IntKind.bits .u64))))) (2 ^ (min (2 : Int).toNat (IntKind.bits .u64)))) 3689348814741910323) (IntKind.wrap .u64 ((bAnd .u64 (bOr .u64 (bAnd .u64 (Int.fdiv x_1 (2 ^ (min (1 : Int).toNat (IntKind.bits .u64)))) 6148914691236517205) (IntKind.wrap .u64 ((bAnd .u64 x_1 6148914691236517205) * 2 ^ (min (1 : Int).toNat (IntKind.bits .u64))))) 3689348814741910323) * 2 ^ (min (2 : Int).toNat (IntKind.bits .u64))))) 1085102592571150095) * 2 ^ (min (4 : Int).toNat (IntKind.bits .u64)))))] w (retS (fun v3 w4 => ∃ (x2 : Int), v3 = (.int .u64 x2 : Value) ∧ (
 R (.returned (.int .u64 x2)) w4)) (fun ch w => Kfn R ch [] w))))))))
set_option maxRecDepth 100000 in
theorem sh328_ok (x_1 : Int) {R : Ending → World → Prop} {w : World} : sh328 x_1 R w → Calls Tryz.prog 328 #[.int .u64 x_1] w R :=
  calls_of_eq (ann := fun _ => []) (fn := Tryz.f328) (c := bodyOf Tryz.f328) (args := #[.int .u64 x_1]) 400 follows_mixed Tryz.func328 (by kernel_rfl) (by kernel_rfl)
set_option maxRecDepth 100000 in
/-- slices.rotateCmpFunc[joinery/api.Pair] -/
def sh330 (data_p1 : Option Addr) (data_n2 : Nat) (data_c3 : Nat) (a_4 : Int) (m_5 : Int) (b_6 : Int) (cmp_f7 : Fn) (cmp_x8 : Array Value) (cmp_c9 : Array Value) (R : Ending → World → Prop) (w : World) : Prop :=
 ∃ (I10 : List Value → World → Prop) (μ11 : List Value → World → Nat), I10 [.int .i64 (IntKind.wrap .i64 (m_5 - a_4)), .int .i64 (IntKind.wrap .i64 (b_6 - m_5))] w ∧ (∀ (i_14 : Int), ∀ (j_15 : Int), ∀ (_j12 : Nat → Value) (w13 : World), I10 [.int .i64 i_14, .int .i64 j_15] w13 → (
 ifB ((i_14 : Int) != j_15) (
 ifB (decide ((i_14 : Int) > j_15)) (
 doCall Tryz.prog (.func (.func 345) #[] #[]) #[.slice data_p1 data_n2 data_c3, .int .i64 (IntKind.wrap .i64 (m_5 - i_14)), .int .i64 m_5, .int .i64 j_15, .func cmp_f7 cmp_x8 cmp_c9] w13 (retS (fun v16 w17 => v16 = (.tuple #[] : Value) ∧ (
 I10 [.int .i64 (IntKind.wrap .i64 (i_14 - j_15)), .int .i64 j_15] w17 ∧ μ11 [.int .i64 (IntKind.wrap .i64 (i_14 - j_15)), .int .i64 j_15] w17 < μ11 [.int .i64 i_14, .int .i64 j_15] w13)) (fun ch w => Kfn R ch [] w))) (
 doCall Tryz.prog (.func (.func 345) #[] #[]) #[.slice data_p1 data_n2 data_c3, .int .i64 (IntKind.wrap .i64 (m_5 - i_14)), .int .i64 (IntKind.wrap .i64 ((IntKind.wrap .i64 (m_5 + j_15)) - i_14)), .int .i64 i_14, .func cmp_f7 cmp_x8 cmp_c9] w13 (retS (fun v18 w19 => v18 = (.tuple #[] : Value) ∧ (
 I10 [.int .i64 i_14, .int .i64 (IntKind.wrap .i64 (j_15 - i_14))] w19 ∧ μ11 [.int .i64 i_14, .int .i64 (IntKind.wrap .i64 (j_15 - i_14))] w19 < μ11 [.int .i64 i_14, .int .i64 j_15] w13)) (fun ch w => Kfn R ch [] w)))) (
 doCall Tryz.prog (.func (.func 345) #[] #[]) #[.slice data_p1 data_n2 data_c3, .int .i64 (IntKind.wrap .i64 (m_5 - i_14)), .int .i64 m_5, .int .i64 i_14, .func cmp_f7 cmp_x8 cmp_c9] w13 (retS (fun v20 w21 => v20 = (.tuple #[] : Value) ∧ (
 R (.returned (.tuple #[])) w21)) (fun ch w => Kfn R ch [] w)))))
set_option maxRecDepth 100000 in
theorem sh330_ok (data_p1 : Option Addr) (data_n2 : Nat) (data_c3 : Nat) (a_4 : Int) (m_5 : Int) (b_6 : Int) (cmp_f7 : Fn) (cmp_x8 : Array Value) (cmp_c9 : Array Value) {R : Ending → World → Prop} {w : World} : sh330 data_p1 data_n2 data_c3 a_4 m_5 b_6 cmp_f7 cmp_x8 cmp_c9 R w → Calls Tryz.prog 330 #[.slice data_p1 data_n2 data_c3, .int .i64 a_4, .int .i64 m_5, .int .i64 b_6, .func cmp_f7 cmp_x8 cmp_c9] w R :=
  calls_of_eq (ann := fun i => if i = 0 then [(10, .int .i64 0), (11, .int .i64 0)] else []) (fn := Tryz.f330) (c := bodyOf Tryz.f330) (args := #[.slice data_p1 data_n2 data_c3, .int .i64 a_4, .int .i64 m_5, .int .i64 b_6, .func cmp_f7 cmp_x8 cmp_c9]) 400 follows_mixed Tryz.func330 (by kernel_rfl) (by kernel_rfl)
set_option maxRecDepth 100000 in
/-- joinery/wbjoin.of -/
def sh343 (t_1 : Option Addr) (R : Ending → World → Prop) (w : World) : Prop :=
 doAl (.cells #[.pointer none, .pointer none] 376) w (fun b2 w3 =>
 doCall Tryz.prog (.func (.func 123) #[] #[]) #[.pointer t_1] w3 (retS (fun v5 w6 => ∃ (x4 : Option Addr), v5 = (.pointer x4 : Value) ∧ (
 doCall Tryz.prog (.func (.func 125) #[] #[]) #[.pointer t_1] w6 (retS (fun v8 w9 => ∃ (x7 : Option Addr), v8 = (.pointer x7 : Value) ∧ (
 doSt ((blk b2).add 0) (.pointer x4) w9 (fun w10 =>
 doSt ((blk b2).add 1) (.pointer x7) w10 (fun w11 =>
 ∃ (x12 : Option Addr), World.cell? w11 ((blk b2).add 0) = some (.pointer x12) ∧ (
 ∃ (x13 : Option Addr), World.cell? w11 ((blk b2).add 1) = some (.pointer x13) ∧ (
 R (.returned (.agg #[.pointer x12, .pointer x13])) w11)))))) (fun ch w => Kfn R ch [] w)))) (fun ch w => Kfn R ch [] w)))
set_option maxRecDepth 100000 in
theorem sh343_ok (t_1 : Option Addr) {R : Ending → World → Prop} {w : World} : sh343 t_1 R w → Calls Tryz.prog 343 #[.pointer t_1] w R :=
  calls_of_eq (ann := fun _ => []) (fn := Tryz.f343) (c := bodyOf Tryz.f343) (args := #[.pointer t_1]) 400 follows_mixed Tryz.func343 (by kernel_rfl) (by kernel_rfl)
set_option maxRecDepth 100000 in
/-- math/bits.ReverseBytes64 -/
def sh344 (x_1 : Int) (R : Ending → World → Prop) (w : World) : Prop :=
 (0 : Int) ≤ 8 ∧ (
 (0 : Int) ≤ 8 ∧ (
 (0 : Int) ≤ 16 ∧ (
 (0 : Int) ≤ 16 ∧ (
 (0 : Int) ≤ 32 ∧ (
 (0 : Int) ≤ 32 ∧ (
 R (.returned (.int .u64 (bOr .u64 (Int.fdiv (bOr .u64 (bAnd .u64 (Int.fdiv (bOr .u64 (bAnd .u64 (Int.fdiv x_1 (2 ^ (min (8 : Int).toNat (IntKind.bits .u64)))) 71777214294589695) (IntKind.wrap .u64 ((bAnd .u64 x_1 71777214294589695) * 2 ^ (min (8 : Int).toNat (IntKind.bits .u64))))) (2 ^ (min (16 : Int).toNat (IntKind.bits .u64)))) 281470681808895) (IntKind.wrap .u64 ((bAnd .u64 (bOr .u64 (bAnd .u64 (Int.fdiv x_1 (2 ^ (min (8 : Int).toNat (IntKind.bits .u64)))) 71777214294589695) (IntKind.wrap .u64 ((bAnd .u64 x_1 71777214294589695) * 2 ^ (min (8 : Int).toNat (IntKind.bits .u64))))) 281470681808895) * 2 ^ (min (16 : Int).toNat (IntKind.bits .u64))))) (2 ^ (min (32 : Int).toNat (IntKind.bits .u64)))) (IntKind.wrap .u64 ((bOr .u64 (bAnd .u64 (Int.fdiv (bOr .u64 (bAnd .u64 (Int.fdiv x_1 (2 ^ (min (8 : Int).toNat (IntKind.bits .u64)))) 71777214294589695) (IntKind.wrap .u64 ((bAnd .u64 x_1 71777214294589695) * 2 ^ (min (8 : Int).toNat (IntKind.bits .u64))))) (2 ^ (min (16 : Int).toNat (IntKind.bits .u64)))) 281470681808895) (IntKind.wrap .u64 ((bAnd .u64 (bOr .u64 (bAnd .u64 (Int.fdiv x_1 (2 ^ (min (8 : Int).toNat (IntKind.bits .u64)))) 71777214294589695) (IntKind.wrap .u64 ((bAnd .u64 x_1 71777214294589695) * 2 ^ (min (8 : Int).toNat (IntKind.bits .u64))))) 281470681808895) * 2 ^ (min (16 : Int).toNat (IntKind.bits .u64))))) * 2 ^ (min (32 : Int).toNat (IntKind.bits .u64))))))) w))))))
set_option maxRecDepth 100000 in
theorem sh344_ok (x_1 : Int) {R : Ending → World → Prop} {w : World} : sh344 x_1 R w → Calls Tryz.prog 344 #[.int .u64 x_1] w R :=
  calls_of_eq (ann := fun _ => []) (fn := Tryz.f344) (c := bodyOf Tryz.f344) (args := #[.int .u64 x_1]) 400 follows_mixed Tryz.func344 (by kernel_rfl) (by kernel_rfl)
set_option maxRecDepth 100000 in
/-- slices.swapRangeCmpFunc[joinery/api.Pair] -/
def sh345 (data_p1 : Option Addr) (data_n2 : Nat) (_data_c3 : Nat) (a_4 : Int) (b_5 : Int) (n_6 : Int) (_cmp_f7 : Fn) (_cmp_x8 : Array Value) (_cmp_c9 : Array Value) (R : Ending → World → Prop) (w : World) : Prop :=
 ∃ (I10 : List Value → World → Prop) (μ11 : List Value → World → Nat), I10 [.int .i64 0] w ∧ (∀ (i_14 : Int), ∀ (_j12 : Nat → Value) (w13 : World), I10 [.int .i64 i_14] w13 → (
 ifB (decide ((i_14 : Int) < n_6)) (
 doDr w13 (fun w16 =>
 ∃ (C15 : World → Prop), C15 w16 ∧ (
 doIx data_p1 data_n2 2 (IntKind.wrap .i64 (b_5 + i_14)) (fun a17 =>
 ∃ (x18 : Int), (∀ w, C15 w → World.cell? w (a17.add 0) = some (.int .i64 x18)) ∧ (
 ∃ (x19 : Int), (∀ w, C15 w → World.cell? w (a17.add 1) = some (.int .i64 x19)) ∧ (
 doIx data_p1 data_n2 2 (IntKind.wrap .i64 (a_4 + i_14)) (fun a20 =>
 ∃ (x21 : Int), (∀ w, C15 w → World.cell? w (a20.add 0) = some (.int .i64 x21)) ∧ (
 ∃ (x22 : Int), (∀ w, C15 w → World.cell? w (a20.add 1) = some (.int .i64 x22)) ∧ (
 doIx data_p1 data_n2 2 (IntKind.wrap .i64 (a_4 + i_14)) (fun a23 =>
 doSt (a23.add 0) (.int .i64 x18) w16 (fun w24 =>
 doSt (a23.add 1) (.int .i64 x19) w24 (fun w25 =>
 doIx data_p1 data_n2 2 (IntKind.wrap .i64 (b_5 + i_14)) (fun a26 =>
 doSt (a26.add 0) (.int .i64 x21) w25 (fun w27 =>
 doSt (a26.add 1) (.int .i64 x22) w27 (fun w28 =>
 I10 [.int .i64 (IntKind.wrap .i64 (i_14 + 1))] w28 ∧ μ11 [.int .i64 (IntKind.wrap .i64 (i_14 + 1))] w28 < μ11 [.int .i64 i_14] w13))))))))))))))) (
 R (.returned (.tuple #[])) w13)))
set_option maxRecDepth 100000 in
theorem sh345_ok (data_p1 : Option Addr) (data_n2 : Nat) (data_c3 : Nat) (a_4 : Int) (b_5 : Int) (n_6 : Int) (cmp_f7 : Fn) (cmp_x8 : Array Value) (cmp_c9 : Array Value) {R : Ending → World → Prop} {w : World} : sh345 data_p1 data_n2 data_c3 a_4 b_5 n_6 cmp_f7 cmp_x8 cmp_c9 R w → Calls Tryz.prog 345 #[.slice data_p1 data_n2 data_c3, .int .i64 a_4, .int .i64 b_5, .int .i64 n_6, .func cmp_f7 cmp_x8 cmp_c9] w R :=
  calls_of_eq (ann := fun i => if i = 0 then [(10, .int .i64 0)] else []) (fn := Tryz.f345) (c := bodyOf Tryz.f345) (args := #[.slice data_p1 data_n2 data_c3, .int .i64 a_4, .int .i64 b_5, .int .i64 n_6, .func cmp_f7 cmp_x8 cmp_c9]) 400 follows_mixed Tryz.func345 (by kernel_rfl) (by kernel_rfl)
end Go.Proofs.YtlddfgfmkapoiaaGreat

