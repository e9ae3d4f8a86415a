/-
  Printed by a program (gen.py): what the functions of the program do, as formulas; each with the proof that its call is what the formula says.
-/
/-
  Printed by a program (gen.py): what the functions of the program do, as formulas; each with the proof that its call is what the formula says.
-/
/-
  Printed by a program (gen.py): what the functions of the program do, as formulas; each with the proof that its call is what the formula says.
-/
import Derived.Test.YtlddfgfmkapoiaaGreatZ02
import Derived.Test.YtlddfgfmkapoiaaGreatProg
import Derived.Test.YtlddfgfmkapoiaaGreatZ03

namespace Go.Proofs.YtlddfgfmkapoiaaGreat
open Go Go.Sh
set_option maxRecDepth 100000 in
/-- joinery/canon.Is -/
def sh51 (o_1 : Int) (t_2 : Option Addr) (R : Ending → World → Prop) (w : World) : Prop :=
 doCall Tryz.prog (.func (.func 117) #[] #[]) #[.int .u8 o_1, .pointer t_2] w (retS (fun v5 w6 => ∃ (x3 : Int), ∃ (x4 : Int), v5 = (.tuple #[.int .i64 x3, .int .i64 x4] : Value) ∧ (
 let K9 : Bool → World → Prop := fun (x7 : Bool) (w8 : World) => 
 R (.returned (.bool x7)) w8
 ifB ((x4 : Int) == 0) (
 doCall Tryz.prog (.func (.func 118) #[] #[]) #[.pointer t_2] w6 (retS (fun v11 w12 => ∃ (x10 : Bool), v11 = (.bool x10 : Value) ∧ (
 ifB x10 (
 doCall Tryz.prog (.func (.func 119) #[] #[]) #[.pointer t_2] w12 (retS (fun v14 w15 => ∃ (x13 : Bool), v14 = (.bool x13 : Value) ∧ (
 K9 x13 w15)) (fun ch w => Kfn R ch [] w))) (
 R (.returned (.bool false)) w12))) (fun ch w => Kfn R ch [] w))) (
 R (.returned (.bool false)) w6))) (fun ch w => Kfn R ch [] w))
set_option maxRecDepth 100000 in
theorem sh51_ok (o_1 : Int) (t_2 : Option Addr) {R : Ending → World → Prop} {w : World} : sh51 o_1 t_2 R w → Calls Tryz.prog 51 #[.int .u8 o_1, .pointer t_2] w R :=
  calls_of_eq (ann := fun _ => []) (fn := Tryz.f51) (c := bodyOf Tryz.f51) (args := #[.int .u8 o_1, .pointer t_2]) 400 follows_mixed Tryz.func51 (by kernel_rfl) (by kernel_rfl)
set_option maxRecDepth 100000 in
/-- joinery/joinerylaw09.Long -/
def sh52 (l_p1 : Option Addr) (l_n2 : Nat) (l_c3 : Nat) (R : Ending → World → Prop) (w : World) : Prop :=
 let K6 : Bool → World → Prop := fun (x4 : Bool) (w5 : World) => 
 R (.returned (.bool x4)) w5
 ifB (decide ((((l_n2 : Nat) : Int) : Int) > 400)) (
 R (.returned (.bool true)) w) (
 doCall Tryz.prog (.func (.func 120) #[] #[]) #[.slice l_p1 l_n2 l_c3] w (retS (fun v8 w9 => ∃ (x7 : Bool), v8 = (.bool x7 : Value) ∧ (
 K6 (!x7) w9)) (fun ch w => Kfn R ch [] w)))
set_option maxRecDepth 100000 in
theorem sh52_ok (l_p1 : Option Addr) (l_n2 : Nat) (l_c3 : Nat) {R : Ending → World → Prop} {w : World} : sh52 l_p1 l_n2 l_c3 R w → Calls Tryz.prog 52 #[.slice l_p1 l_n2 l_c3] w R :=
  calls_of_eq (ann := fun _ => []) (fn := Tryz.f52) (c := bodyOf Tryz.f52) (args := #[.slice l_p1 l_n2 l_c3]) 400 follows_mixed Tryz.func52 (by kernel_rfl) (by kernel_rfl)
set_option maxRecDepth 100000 in
/-- joinery/joineryref09.Same -/
def sh53 (a_p1 : Option Addr) (a_n2 : Nat) (_a_c3 : Nat) (b_p4 : Option Addr) (b_n5 : Nat) (_b_c6 : Nat) (R : Ending → World → Prop) (w : World) : Prop :=
 ifB ((((a_n2 : Nat) : Int) : Int) != ((b_n5 : Nat) : Int)) (
 R (.returned (.bool false)) w) (
 ∃ (I7 : List Value → World → Prop) (μ8 : List Value → World → Nat), I7 [.int .i64 0] w ∧ (∀ (i_11 : Int), ∀ (_j9 : Nat → Value) (w10 : World), I7 [.int .i64 i_11] w10 → (
 ifB (decide ((i_11 : Int) < ((a_n2 : Nat) : Int))) (
 doDr w10 (fun w13 =>
 ∃ (C12 : World → Prop), C12 w13 ∧ (
 doIx a_p1 a_n2 7 (i_11) (fun a14 =>
 ∃ (x15 : Int), (∀ w, C12 w → World.cell? w (a14.add 0) = some (.int .i64 x15)) ∧ (
 ∃ (x16 : Int), (∀ w, C12 w → World.cell? w (a14.add 1) = some (.int .i64 x16)) ∧ (
 ∃ (x17 : Int), (∀ w, C12 w → World.cell? w (a14.add 2) = some (.int .i64 x17)) ∧ (
 ∃ (x18 : Int), (∀ w, C12 w → World.cell? w (a14.add 3) = some (.int .i64 x18)) ∧ (
 ∃ (x19 : Int), (∀ w, C12 w → World.cell? w (a14.add 4) = some (.int .u64 x19)) ∧ (
 ∃ (x20 : Bool), (∀ w, C12 w → World.cell? w (a14.add 5) = some (.bool x20)) ∧ (
 ∃ (x21 : Bool), (∀ w, C12 w → World.cell? w (a14.add 6) = some (.bool x21)) ∧ (
 doIx b_p4 b_n5 7 (i_11) (fun a22 =>
 ∃ (x23 : Int), (∀ w, C12 w → World.cell? w (a22.add 0) = some (.int .i64 x23)) ∧ (
 ∃ (x24 : Int), (∀ w, C12 w → World.cell? w (a22.add 1) = some (.int .i64 x24)) ∧ (
 ∃ (x25 : Int), (∀ w, C12 w → World.cell? w (a22.add 2) = some (.int .i64 x25)) ∧ (
 ∃ (x26 : Int), (∀ w, C12 w → World.cell? w (a22.add 3) = some (.int .i64 x26)) ∧ (
 ∃ (x27 : Int), (∀ w, C12 w → World.cell? w (a22.add 4) = some (.int .u64 x27)) ∧ (
 ∃ (x28 : Bool), (∀ w, C12 w → World.cell? w (a22.add 5) = some (.bool x28)) ∧ (
 ∃ (x29 : Bool), (∀ w, C12 w → World.cell? w (a22.add 6) = some (.bool x29)) ∧ (
 ifB (!(((x15 : Int) == x23) && (((x16 : Int) == x24) && (((x17 : Int) == x25) && (((x18 : Int) == x26) && (((x19 : Int) == x27) && ((x20 == x28) && ((x21 == x29) && true)))))))) (
 R (.returned (.bool false)) w13) (
 I7 [.int .i64 (IntKind.wrap .i64 (i_11 + 1))] w13 ∧ μ8 [.int .i64 (IntKind.wrap .i64 (i_11 + 1))] w13 < μ8 [.int .i64 i_11] w10)))))))))))))))))))) (
 R (.returned (.bool true)) w10))))
set_option maxRecDepth 100000 in
theorem sh53_ok (a_p1 : Option Addr) (a_n2 : Nat) (a_c3 : Nat) (b_p4 : Option Addr) (b_n5 : Nat) (b_c6 : Nat) {R : Ending → World → Prop} {w : World} : sh53 a_p1 a_n2 a_c3 b_p4 b_n5 b_c6 R w → Calls Tryz.prog 53 #[.slice a_p1 a_n2 a_c3, .slice b_p4 b_n5 b_c6] w R :=
  calls_of_eq (ann := fun i => if i = 0 then [(5, .int .i64 0)] else []) (fn := Tryz.f53) (c := bodyOf Tryz.f53) (args := #[.slice a_p1 a_n2 a_c3, .slice b_p4 b_n5 b_c6]) 400 follows_mixed Tryz.func53 (by kernel_rfl) (by kernel_rfl)
set_option maxRecDepth 100000 in
/-- joinery/canon.Same -/
def sh54 (a_1 : Option Addr) (b_2 : Option Addr) (R : Ending → World → Prop) (w : World) : Prop :=
 doCall Tryz.prog (.func (.func 121) #[] #[]) #[.pointer a_1, .pointer b_2] w (retS (fun v4 w5 => ∃ (x3 : Bool), v4 = (.bool x3 : Value) ∧ (
 R (.returned (.bool x3)) w5)) (fun ch w => Kfn R ch [] w))
set_option maxRecDepth 100000 in
theorem sh54_ok (a_1 : Option Addr) (b_2 : Option Addr) {R : Ending → World → Prop} {w : World} : sh54 a_1 b_2 R w → Calls Tryz.prog 54 #[.pointer a_1, .pointer b_2] w R :=
  calls_of_eq (ann := fun _ => []) (fn := Tryz.f54) (c := bodyOf Tryz.f54) (args := #[.pointer a_1, .pointer b_2]) 400 follows_mixed Tryz.func54 (by kernel_rfl) (by kernel_rfl)
set_option maxRecDepth 100000 in
/-- joinery/canon.Digest -/
def sh55 (t_1 : Option Addr) (R : Ending → World → Prop) (w : World) : Prop :=
 ifB ((t_1).isNone) (
 R (.returned (.int .u64 0)) w) (
 doCall Tryz.prog (.func (.func 123) #[] #[]) #[.pointer t_1] w (retS (fun v3 w4 => ∃ (x2 : Option Addr), v3 = (.pointer x2 : Value) ∧ (
 doCall Tryz.prog (.func (.func 55) #[] #[]) #[.pointer x2] w4 (retS (fun v6 w7 => ∃ (x5 : Int), v6 = (.int .u64 x5 : Value) ∧ (
 doCall Tryz.prog (.func (.func 125) #[] #[]) #[.pointer t_1] w7 (retS (fun v9 w10 => ∃ (x8 : Option Addr), v9 = (.pointer x8 : Value) ∧ (
 doCall Tryz.prog (.func (.func 55) #[] #[]) #[.pointer x8] w10 (retS (fun v12 w13 => ∃ (x11 : Int), v12 = (.int .u64 x11 : Value) ∧ (
 doCall Tryz.prog (.func (.func 124) #[] #[]) #[.int .u64 x11, .int .i64 17] w13 (retS (fun v15 w16 => ∃ (x14 : Int), v15 = (.int .u64 x14 : Value) ∧ (
 doCall Tryz.prog (.func (.func 108) #[] #[]) #[.pointer t_1] w16 (retS (fun v18 w19 => ∃ (x17 : Int), v18 = (.int .i64 x17 : Value) ∧ (
 doCall Tryz.prog (.func (.func 122) #[] #[]) #[.int .u64 (IntKind.wrap .u64 x17)] w19 (retS (fun v21 w22 => ∃ (x20 : Int), v21 = (.int .u64 x20 : Value) ∧ (
 doCall Tryz.prog (.func (.func 126) #[] #[]) #[.pointer t_1] w22 (retS (fun v24 w25 => ∃ (x23 : Int), v24 = (.int .i64 x23 : Value) ∧ (
 doCall Tryz.prog (.func (.func 122) #[] #[]) #[.int .u64 (IntKind.wrap .u64 x23)] w25 (retS (fun v27 w28 => ∃ (x26 : Int), v27 = (.int .u64 x26 : Value) ∧ (
 doCall Tryz.prog (.func (.func 124) #[] #[]) #[.int .u64 x26, .int .i64 31] w28 (retS (fun v30 w31 => ∃ (x29 : Int), v30 = (.int .u64 x29 : Value) ∧ (
 doCall Tryz.prog (.func (.func 122) #[] #[]) #[.int .u64 (IntKind.wrap .u64 ((IntKind.wrap .u64 ((IntKind.wrap .u64 ((IntKind.wrap .u64 (1 + x5)) + x14)) + x20)) + x29))] w31 (retS (fun v33 w34 => ∃ (x32 : Int), v33 = (.int .u64 x32 : Value) ∧ (
 R (.returned (.int .u64 x32)) w34)) (fun ch w => Kfn R ch [] w)))) (fun ch w => Kfn R ch [] w)))) (fun ch w => Kfn R ch [] w)))) (fun ch w => Kfn R ch [] w)))) (fun ch w => Kfn R ch [] w)))) (fun ch w => Kfn R ch [] w)))) (fun ch w => Kfn R ch [] w)))) (fun ch w => Kfn R ch [] w)))) (fun ch w => Kfn R ch [] w)))) (fun ch w => Kfn R ch [] w)))) (fun ch w => Kfn R ch [] w)))
set_option maxRecDepth 100000 in
theorem sh55_ok (t_1 : Option Addr) {R : Ending → World → Prop} {w : World} : sh55 t_1 R w → Calls Tryz.prog 55 #[.pointer t_1] w R :=
  calls_of_eq (ann := fun _ => []) (fn := Tryz.f55) (c := bodyOf Tryz.f55) (args := #[.pointer t_1]) 400 follows_mixed Tryz.func55 (by kernel_rfl) (by kernel_rfl)
set_option maxRecDepth 100000 in
/-- joinery/joineryref41.Is -/
def sh56 (o_1 : Int) (l_p2 : Option Addr) (l_n3 : Nat) (l_c4 : Nat) (R : Ending → World → Prop) (w : World) : Prop :=
 let K7 : Bool → World → Prop := fun (x5 : Bool) (w6 : World) => 
 R (.returned (.bool x5)) w6
 doCall Tryz.prog (.func (.func 127) #[] #[]) #[.int .u8 o_1] w (retS (fun v9 w10 => ∃ (x8 : Bool), v9 = (.bool x8 : Value) ∧ (
 ifB x8 (
 doCall Tryz.prog (.func (.func 128) #[] #[]) #[.int .u8 o_1, .slice l_p2 l_n3 l_c4] w10 (retS (fun v12 w13 => ∃ (x11 : Bool), v12 = (.bool x11 : Value) ∧ (
 ifB x11 (
 doCall Tryz.prog (.func (.func 129) #[] #[]) #[.slice l_p2 l_n3 l_c4] w13 (retS (fun v15 w16 => ∃ (x14 : Bool), v15 = (.bool x14 : Value) ∧ (
 ifB x14 (
 doCall Tryz.prog (.func (.func 130) #[] #[]) #[.slice l_p2 l_n3 l_c4] w16 (retS (fun v18 w19 => ∃ (x17 : Bool), v18 = (.bool x17 : Value) ∧ (
 K7 x17 w19)) (fun ch w => Kfn R ch [] w))) (
 R (.returned (.bool false)) w16))) (fun ch w => Kfn R ch [] w))) (
 R (.returned (.bool false)) w13))) (fun ch w => Kfn R ch [] w))) (
 R (.returned (.bool false)) w10))) (fun ch w => Kfn R ch [] w))
set_option maxRecDepth 100000 in
theorem sh56_ok (o_1 : Int) (l_p2 : Option Addr) (l_n3 : Nat) (l_c4 : Nat) {R : Ending → World → Prop} {w : World} : sh56 o_1 l_p2 l_n3 l_c4 R w → Calls Tryz.prog 56 #[.int .u8 o_1, .slice l_p2 l_n3 l_c4] w R :=
  calls_of_eq (ann := fun _ => []) (fn := Tryz.f56) (c := bodyOf Tryz.f56) (args := #[.int .u8 o_1, .slice l_p2 l_n3 l_c4]) 400 follows_mixed Tryz.func56 (by kernel_rfl) (by kernel_rfl)
set_option maxRecDepth 100000 in
/-- joinery/joineryref41.Digest -/
def sh57 (l_p1 : Option Addr) (l_n2 : Nat) (l_c3 : Nat) (R : Ending → World → Prop) (w : World) : Prop :=
 ifB ((((l_n2 : Nat) : Int) : Int) == 0) (
 R (.returned (.int .u64 0)) w) (
 doCall Tryz.prog (.func (.func 109) #[] #[]) #[.slice l_p1 l_n2 l_c3] w (retS (fun v17 w18 => ∃ (x4 : Int), ∃ (x5 : Int), ∃ (x6 : Int), ∃ (x7 : Int), ∃ (x8 : Int), ∃ (x9 : Bool), ∃ (x10 : Bool), ∃ (xp11 : Option Addr), ∃ (xn12 : Nat), ∃ (xc13 : Nat), ∃ (xp14 : Option Addr), ∃ (xn15 : Nat), ∃ (xc16 : Nat), v17 = (.tuple #[.agg #[.int .i64 x4, .int .i64 x5, .int .i64 x6, .int .i64 x7, .int .u64 x8, .bool x9, .bool x10], .slice xp11 xn12 xc13, .slice xp14 xn15 xc16] : Value) ∧ (
 doAl (.cells #[.int .i64 0, .int .i64 0, .int .i64 0, .int .i64 0, .int .u64 0, .bool false, .bool false] 150) w18 (fun b19 w20 =>
 doSt ((blk b19).add 0) (.int .i64 x4) w20 (fun w21 =>
 doSt ((blk b19).add 1) (.int .i64 x5) w21 (fun w22 =>
 doSt ((blk b19).add 2) (.int .i64 x6) w22 (fun w23 =>
 doSt ((blk b19).add 3) (.int .i64 x7) w23 (fun w24 =>
 doSt ((blk b19).add 4) (.int .u64 x8) w24 (fun w25 =>
 doSt ((blk b19).add 5) (.bool x9) w25 (fun w26 =>
 doSt ((blk b19).add 6) (.bool x10) w26 (fun w27 =>
 doDr w27 (fun w29 =>
 ∃ (C28 : World → Prop), C28 w29 ∧ (
 ∃ (x30 : Int), (∀ w, C28 w → World.cell? w ((blk b19).add 0) = some (.int .i64 x30)) ∧ (
 ∃ (x31 : Int), (∀ w, C28 w → World.cell? w ((blk b19).add 1) = some (.int .i64 x31)) ∧ (
 doCall Tryz.prog (.func (.func 57) #[] #[]) #[.slice xp11 xn12 xc13] w29 (retS (fun v33 w34 => ∃ (x32 : Int), v33 = (.int .u64 x32 : Value) ∧ (
 C28 w34 ∧ (
 doCall Tryz.prog (.func (.func 57) #[] #[]) #[.slice xp14 xn15 xc16] w34 (retS (fun v36 w37 => ∃ (x35 : Int), v36 = (.int .u64 x35 : Value) ∧ (
 C28 w37 ∧ (
 doCall Tryz.prog (.func (.func 132) #[] #[]) #[.int .u64 x35, .int .i64 17] w37 (retS (fun v39 w40 => ∃ (x38 : Int), v39 = (.int .u64 x38 : Value) ∧ (
 C28 w40 ∧ (
 doCall Tryz.prog (.func (.func 131) #[] #[]) #[.int .u64 (IntKind.wrap .u64 x30)] w40 (retS (fun v42 w43 => ∃ (x41 : Int), v42 = (.int .u64 x41 : Value) ∧ (
 C28 w43 ∧ (
 doCall Tryz.prog (.func (.func 131) #[] #[]) #[.int .u64 (IntKind.wrap .u64 x31)] w43 (retS (fun v45 w46 => ∃ (x44 : Int), v45 = (.int .u64 x44 : Value) ∧ (
 C28 w46 ∧ (
 doCall Tryz.prog (.func (.func 132) #[] #[]) #[.int .u64 x44, .int .i64 31] w46 (retS (fun v48 w49 => ∃ (x47 : Int), v48 = (.int .u64 x47 : Value) ∧ (
 C28 w49 ∧ (
 doCall Tryz.prog (.func (.func 131) #[] #[]) #[.int .u64 (IntKind.wrap .u64 ((IntKind.wrap .u64 ((IntKind.wrap .u64 ((IntKind.wrap .u64 (1 + x32)) + x38)) + x41)) + x47))] w49 (retS (fun v51 w52 => ∃ (x50 : Int), v51 = (.int .u64 x50 : Value) ∧ (
 C28 w52 ∧ (
 R (.returned (.int .u64 x50)) w52))) (fun ch w => Kfn R ch [] w))))) (fun ch w => Kfn R ch [] w))))) (fun ch w => Kfn R ch [] w))))) (fun ch w => Kfn R ch [] w))))) (fun ch w => Kfn R ch [] w))))) (fun ch w => Kfn R ch [] w))))) (fun ch w => Kfn R ch [] w)))))))))))))))) (fun ch w => Kfn R ch [] w)))
set_option maxRecDepth 100000 in
theorem sh57_ok (l_p1 : Option Addr) (l_n2 : Nat) (l_c3 : Nat) {R : Ending → World → Prop} {w : World} : sh57 l_p1 l_n2 l_c3 R w → Calls Tryz.prog 57 #[.slice l_p1 l_n2 l_c3] w R :=
  calls_of_eq (ann := fun _ => []) (fn := Tryz.f57) (c := bodyOf Tryz.f57) (args := #[.slice l_p1 l_n2 l_c3]) 400 follows_mixed Tryz.func57 (by kernel_rfl) (by kernel_rfl)
set_option maxRecDepth 100000 in
/-- joinery/canon.Diff -/
def sh58 (o_1 : Int) (a_2 : Option Addr) (b_3 : Option Addr) (R : Ending → World → Prop) (w : World) : Prop :=
 doAl (.cells #[.slice none 0 0] 24) w (fun b4 w5 =>
 doCall Tryz.prog (.func (.func 92) #[] #[]) #[.int .u8 4] w5 (retS (fun v8 w9 => ∃ (x6 : Option Addr), ∃ (x7 : Int), v8 = (.tuple #[.pointer x6, .int .i64 x7] : Value) ∧ (
 let K22 : Bool → Value → Value → Value → Value → Bool → Bool → Value → Value → Value → Value → World → Prop := fun (x10 : Bool) (d11 : Value) (d12 : Value) (d13 : Value) (d14 : Value) (x15 : Bool) (x16 : Bool) (d17 : Value) (d18 : Value) (d19 : Value) (d20 : Value) (w21 : World) => 
 doCall Tryz.prog (.func (.func 133) #[] #[]) #[.pointer x6, .int .u8 o_1, .pointer a_2, .pointer b_3] w21 (retS (fun v26 w27 => ∃ (xf23 : Fn), ∃ (xx24 : Array Value), ∃ (xc25 : Array Value), v26 = (.func xf23 xx24 xc25 : Value) ∧ (
 rfW Tryz.prog (.func xf23 xx24 xc25) (mkLoop #[.int .u8 o_1, .pointer a_2, .pointer b_3, undef, undef, undef, .pointer (some (blk b4)), .int .i64 x7, .pointer x6, undef, .tuple #[.pointer x6, .int .i64 x7], .tuple #[.pointer x6, .int .i64 x7], .pointer x6, .int .i64 x7, .int .i64 x7, .bool ((x7 : Int) != 0), .bool x10, d11, d12, d13, d14, .bool x15, .bool x16, d17, d18, d19, d20, .bool false, .pointer x6, .int .u8 o_1, .pointer a_2, .pointer b_3, .func xf23 xx24 xc25, undef, undef, undef, undef, undef, undef] (rfOf Tryz.f58 0).1 (rfOf Tryz.f58 0).2.1 (rfOf Tryz.f58 0).2.2)
 (fun w28 =>
 ∃ (xp29 : Option Addr), ∃ (xn30 : Nat), ∃ (xc31 : Nat), World.cell? w28 (blk b4) = some (.slice xp29 xn30 xc31) ∧ (
 doSt ((blk b4).add 0) (.slice xp29 xn30 xc31) w28 (fun w32 =>
 w32.heap[w27.heap.size]? = some (.deferred (some [])) ∧ (
 let w33 : World := w32.putObj w27.heap.size (.deferred none)
 ∃ (xp34 : Option Addr), ∃ (xn35 : Nat), ∃ (xc36 : Nat), World.cell? w33 (blk b4) = some (.slice xp34 xn35 xc36) ∧ (
 R (.returned (.tuple #[.slice xp34 xn35 xc36, .int .i64 0])) w33)))))
 (fun w37 =>
 w37.heap[w27.heap.size]? = some (.deferred (some [])) ∧ (
 let w38 : World := w37.putObj w27.heap.size (.deferred none)
 ∃ (xp39 : Option Addr), ∃ (xn40 : Nat), ∃ (xc41 : Nat), World.cell? w38 (blk b4) = some (.slice xp39 xn40 xc41) ∧ (
 R (.returned (.tuple #[.slice xp39 xn40 xc41, .int .i64 x7])) w38)))
 [] w27)) (fun ch w => Kfn R ch [] w))
 let K55 : Bool → Value → Value → Value → Value → Bool → Bool → Value → Value → Value → Value → Bool → World → Prop := fun (x42 : Bool) (d43 : Value) (d44 : Value) (d45 : Value) (d46 : Value) (x47 : Bool) (x48 : Bool) (d49 : Value) (d50 : Value) (d51 : Value) (d52 : Value) (x53 : Bool) (w54 : World) => 
 ifB x53 (
 doSt ((blk b4).add 0) (.slice none 0 0) w54 (fun w56 =>
 ∃ (xp57 : Option Addr), ∃ (xn58 : Nat), ∃ (xc59 : Nat), World.cell? w56 (blk b4) = some (.slice xp57 xn58 xc59) ∧ (
 R (.returned (.tuple #[.slice xp57 xn58 xc59, .int .i64 2])) w56))) (
 K22 x42 (d43 : Value) (d44 : Value) (d45 : Value) (d46 : Value) x47 x48 (d49 : Value) (d50 : Value) (d51 : Value) (d52 : Value) w54)
 ifB ((x7 : Int) != 0) (
 doSt ((blk b4).add 0) (.slice none 0 0) w9 (fun w60 =>
 ∃ (xp61 : Option Addr), ∃ (xn62 : Nat), ∃ (xc63 : Nat), World.cell? w60 (blk b4) = some (.slice xp61 xn62 xc63) ∧ (
 R (.returned (.tuple #[.slice xp61 xn62 xc63, .int .i64 2])) w60))) (
 doCall Tryz.prog (.func (.func 51) #[] #[]) #[.int .u8 o_1, .pointer a_2] w9 (retS (fun v65 w66 => ∃ (x64 : Bool), v65 = (.bool x64 : Value) ∧ (
 ifB (!x64) (
 doSt ((blk b4).add 0) (.slice none 0 0) w66 (fun w67 =>
 ∃ (xp68 : Option Addr), ∃ (xn69 : Nat), ∃ (xc70 : Nat), World.cell? w67 (blk b4) = some (.slice xp68 xn69 xc70) ∧ (
 R (.returned (.tuple #[.slice xp68 xn69 xc70, .int .i64 2])) w67))) (
 doCall Tryz.prog (.func (.func 51) #[] #[]) #[.int .u8 o_1, .pointer b_3] w66 (retS (fun v72 w73 => ∃ (x71 : Bool), v72 = (.bool x71 : Value) ∧ (
 K55 false (.int .u8 o_1 : Value) (.pointer a_2 : Value) (.bool x64 : Value) (.bool (!x64) : Value) (!x64) false (.int .u8 o_1 : Value) (.pointer b_3 : Value) (.bool x71 : Value) (.bool (!x71) : Value) (!x71) w73)) (fun ch w => Kfn R ch [] w))))) (fun ch w => Kfn R ch [] w))))) (fun ch w => Kfn R ch [] w)))
set_option maxRecDepth 100000 in
theorem sh58_ok (o_1 : Int) (a_2 : Option Addr) (b_3 : Option Addr) {R : Ending → World → Prop} {w : World} : sh58 o_1 a_2 b_3 R w → Calls Tryz.prog 58 #[.int .u8 o_1, .pointer a_2, .pointer b_3] w R :=
  calls_of_eq (ann := fun _ => []) (fn := Tryz.f58) (c := bodyOf Tryz.f58) (args := #[.int .u8 o_1, .pointer a_2, .pointer b_3]) 400 follows_mixed Tryz.func58 (by kernel_rfl) (by kernel_rfl)
set_option maxRecDepth 100000 in
/-- joinery/canon.Diff, a round of loop 0 -/
def sh58_0 (l_1 : Addr) (y40 : Int) (l : Nat) (R : Ending → World → Prop) (w : World) : Prop :=
 ∃ (r41 : Loop), w.heap[l]? = some (.loop r41) ∧ r41.state = .ready ∧ (
 let w42 : World := w.putObj l (.loop { r41 with state := .busy })
 ∃ (xp43 : Option Addr), ∃ (xn44 : Nat), ∃ (xc45 : Nat), World.cell? w42 l_1 = some (.slice xp43 xn44 xc45) ∧ (
 doAl (.cells #[.int .i64 y40] 2) w42 (fun b46 w47 =>
 doGo Tryz.prog (.builtin .append #[24, 24] 24 #[false, false]) #[.slice xp43 xn44 xc45, .slice (some (blk b46)) 1 1] w47 (retS (fun v51 w52 => ∃ (xp48 : Option Addr), ∃ (xn49 : Nat), ∃ (xc50 : Nat), v51 = (.slice xp48 xn49 xc50 : Value) ∧ (
 doSt (l_1.add 0) (.slice xp48 xn49 xc50) w52 (fun w53 =>
 ∃ (r54 : Loop), w53.heap[l]? = some (.loop r54) ∧ R (.returned (.bool true)) (w53.putObj l (.loop { r54 with state := .ready, pending := none }))))) (fun _ _ => False)))))
set_option maxRecDepth 100000 in
theorem sh58_0_ok {dd2 : Value} {dd3 : Value} {dd4 : Value} {dd5 : Value} {dd6 : Value} {dd7 : Value} {dd8 : Value} {dd9 : Value} {dd10 : Value} {dd11 : Value} {dd12 : Value} {dd13 : Value} {dd14 : Value} {dd15 : Value} {dd16 : Value} {dd17 : Value} {dd18 : Value} {dd19 : Value} {dd20 : Value} {dd21 : Value} {dd22 : Value} {dd23 : Value} {dd24 : Value} {dd25 : Value} {dd26 : Value} {dd27 : Value} {dd28 : Value} {dd29 : Value} {dd30 : Value} {dd31 : Value} {dd32 : Value} {dd33 : Value} {dd34 : Value} {dd35 : Value} {dd36 : Value} {dd37 : Value} {dd38 : Value} {dd39 : Value} {l_1 : Addr} {y40 : Int} {l fn D : Nat} {R : Ending → World → Prop} {w : World} (hl : w.heap[l]? = some (.loop (mkLoop #[dd2, dd3, dd4, dd5, dd6, dd7, .pointer (some l_1), dd8, dd9, dd10, dd11, dd12, dd13, dd14, dd15, dd16, dd17, dd18, dd19, dd20, dd21, dd22, dd23, dd24, dd25, dd26, dd27, dd28, dd29, dd30, dd31, dd32, dd33, dd34, dd35, dd36, dd37, dd38, dd39] (rfOf Tryz.f58 0).1 (rfOf Tryz.f58 0).2.1 (rfOf Tryz.f58 0).2.2 fn D))) : sh58_0 l_1 y40 l R w → doCall Tryz.prog (.func (.yield l) #[] #[]) #[.int .i64 y40] w R :=
  fun h => ⟨round_of_eq (ann := fun _ => []) 400 follows_mixed hl (by kernel_rfl) (by kernel_rfl) h⟩
set_option maxRecDepth 100000 in
/-- joinery/joineryref41.Diff -/
def sh59 (o_1 : Int) (a_p2 : Option Addr) (a_n3 : Nat) (a_c4 : Nat) (b_p5 : Option Addr) (b_n6 : Nat) (b_c7 : Nat) (R : Ending → World → Prop) (w : World) : Prop :=
 doCall Tryz.prog (.func (.func 134) #[] #[]) #[.int .u8 o_1, .int .u8 1, .slice a_p2 a_n3 a_c4, .slice b_p5 b_n6 b_c7] w (retS (fun v12 w13 => ∃ (xp8 : Option Addr), ∃ (xn9 : Nat), ∃ (xc10 : Nat), ∃ (x11 : Int), v12 = (.tuple #[.slice xp8 xn9 xc10, .int .i64 x11] : Value) ∧ (
 ∃ (I14 : List Value → World → Prop) (μ15 : List Value → World → Nat), I14 [.slice none 0 0, .int .i64 0] w13 ∧ (∀ (out_p18 : Option Addr), ∀ (out_n19 : Nat), ∀ (out_c20 : Nat), ∀ (i_21 : Int), ∀ (_j16 : Nat → Value) (w17 : World), I14 [.slice out_p18 out_n19 out_c20, .int .i64 i_21] w17 → (
 ifB (decide ((i_21 : Int) < ((xn9 : Nat) : Int))) (
 let K26 : (Option Addr) → Nat → Nat → World → Prop := fun (out_p22 : Option Addr) (out_n23 : Nat) (out_c24 : Nat) (w25 : World) => 
 I14 [.slice out_p22 out_n23 out_c24, .int .i64 (IntKind.wrap .i64 (i_21 + 1))] w25 ∧ μ15 [.slice out_p22 out_n23 out_c24, .int .i64 (IntKind.wrap .i64 (i_21 + 1))] w25 < μ15 [.slice out_p18 out_n19 out_c20, .int .i64 i_21] w17
 doCall Tryz.prog (.func (.func 134) #[] #[]) #[.int .u8 o_1, .int .u8 2, .slice a_p2 a_n3 a_c4, .slice b_p5 b_n6 b_c7] w17 (retS (fun v31 w32 => ∃ (xp27 : Option Addr), ∃ (xn28 : Nat), ∃ (xc29 : Nat), ∃ (x30 : Int), v31 = (.tuple #[.slice xp27 xn28 xc29, .int .i64 x30] : Value) ∧ (
 let K35 : Bool → World → Prop := fun (x33 : Bool) (w34 : World) => 
 ifB x33 (
 doIx xp8 xn9 2 (i_21) (fun a36 =>
 ∃ (x37 : Int), World.cell? w34 (a36.add 0) = some (.int .i64 x37) ∧ (
 doAl (.cells #[.int .i64 x37] 2) w34 (fun b38 w39 =>
 doGo Tryz.prog (.builtin .append #[24, 24] 24 #[false, false]) #[.slice out_p18 out_n19 out_c20, .slice (some (blk b38)) 1 1] w39 (retS (fun v43 w44 => ∃ (xp40 : Option Addr), ∃ (xn41 : Nat), ∃ (xc42 : Nat), v43 = (.slice xp40 xn41 xc42 : Value) ∧ (
 K26 xp40 xn41 xc42 w44)) (fun ch w => Kfn R ch [] w)))))) (
 K26 out_p18 out_n19 out_c20 w34)
 doDr w32 (fun w46 =>
 ∃ (C45 : World → Prop), C45 w46 ∧ (
 doIx xp8 xn9 2 (i_21) (fun a47 =>
 ∃ (x48 : Int), (∀ w, C45 w → World.cell? w (a47.add 0) = some (.int .i64 x48)) ∧ (
 ∃ (x49 : Int), (∀ w, C45 w → World.cell? w (a47.add 1) = some (.int .i64 x49)) ∧ (
 doCall Tryz.prog (.func (.func 135) #[] #[]) #[.slice a_p2 a_n3 a_c4, .agg #[.int .i64 x48, .int .i64 x49]] w46 (retS (fun v51 w52 => ∃ (x50 : Bool), v51 = (.bool x50 : Value) ∧ (
 C45 w52 ∧ (
 ifB (!x50) (
 K35 true w52) (
 doIx xp8 xn9 2 (i_21) (fun a53 =>
 ∃ (x54 : Int), (∀ w, C45 w → World.cell? w (a53.add 0) = some (.int .i64 x54)) ∧ (
 ∃ (x55 : Int), (∀ w, C45 w → World.cell? w (a53.add 1) = some (.int .i64 x55)) ∧ (
 doCall Tryz.prog (.func (.func 135) #[] #[]) #[.slice b_p5 b_n6 b_c7, .agg #[.int .i64 x54, .int .i64 x55]] w52 (retS (fun v57 w58 => ∃ (x56 : Bool), v57 = (.bool x56 : Value) ∧ (
 C45 w58 ∧ (
 ifB (!x56) (
 K35 true w58) (
 doIx xp27 xn28 2 (i_21) (fun a59 =>
 ∃ (x60 : Int), (∀ w, C45 w → World.cell? w (a59.add 0) = some (.int .i64 x60)) ∧ (
 ∃ (x61 : Int), (∀ w, C45 w → World.cell? w (a59.add 1) = some (.int .i64 x61)) ∧ (
 doIx xp8 xn9 2 (i_21) (fun a62 =>
 ∃ (x63 : Int), (∀ w, C45 w → World.cell? w (a62.add 0) = some (.int .i64 x63)) ∧ (
 ∃ (x64 : Int), (∀ w, C45 w → World.cell? w (a62.add 1) = some (.int .i64 x64)) ∧ (
 K35 (!(((x60 : Int) == x63) && (((x61 : Int) == x64) && true))) w58)))))))))) (fun ch w => Kfn R ch [] w))))))))) (fun ch w => Kfn R ch [] w))))))))) (fun ch w => Kfn R ch [] w))) (
 R (.returned (.slice out_p18 out_n19 out_c20)) w17))))) (fun ch w => Kfn R ch [] w))
set_option maxRecDepth 100000 in
theorem sh59_ok (o_1 : Int) (a_p2 : Option Addr) (a_n3 : Nat) (a_c4 : Nat) (b_p5 : Option Addr) (b_n6 : Nat) (b_c7 : Nat) {R : Ending → World → Prop} {w : World} : sh59 o_1 a_p2 a_n3 a_c4 b_p5 b_n6 b_c7 R w → Calls Tryz.prog 59 #[.int .u8 o_1, .slice a_p2 a_n3 a_c4, .slice b_p5 b_n6 b_c7] w R :=
  calls_of_eq (ann := fun i => if i = 0 then [(9, .slice none 0 0), (10, .int .i64 0)] else []) (fn := Tryz.f59) (c := bodyOf Tryz.f59) (args := #[.int .u8 o_1, .slice a_p2 a_n3 a_c4, .slice b_p5 b_n6 b_c7]) 400 follows_mixed Tryz.func59 (by kernel_rfl) (by kernel_rfl)
set_option maxRecDepth 100000 in
/-- joinery/joineryref09.Pairs -/
def sh60 (l_p1 : Option Addr) (l_n2 : Nat) (l_c3 : Nat) (R : Ending → World → Prop) (w : World) : Prop :=
 ifB ((((l_n2 : Nat) : Int) : Int) == 0) (
 R (.returned (.slice none 0 0)) w) (
 doCall Tryz.prog (.func (.func 109) #[] #[]) #[.slice l_p1 l_n2 l_c3] w (retS (fun v17 w18 => ∃ (x4 : Int), ∃ (x5 : Int), ∃ (x6 : Int), ∃ (x7 : Int), ∃ (x8 : Int), ∃ (x9 : Bool), ∃ (x10 : Bool), ∃ (xp11 : Option Addr), ∃ (xn12 : Nat), ∃ (xc13 : Nat), ∃ (xp14 : Option Addr), ∃ (xn15 : Nat), ∃ (xc16 : Nat), v17 = (.tuple #[.agg #[.int .i64 x4, .int .i64 x5, .int .i64 x6, .int .i64 x7, .int .u64 x8, .bool x9, .bool x10], .slice xp11 xn12 xc13, .slice xp14 xn15 xc16] : Value) ∧ (
 doAl (.cells #[.int .i64 0, .int .i64 0, .int .i64 0, .int .i64 0, .int .u64 0, .bool false, .bool false] 150) w18 (fun b19 w20 =>
 doSt ((blk b19).add 0) (.int .i64 x4) w20 (fun w21 =>
 doSt ((blk b19).add 1) (.int .i64 x5) w21 (fun w22 =>
 doSt ((blk b19).add 2) (.int .i64 x6) w22 (fun w23 =>
 doSt ((blk b19).add 3) (.int .i64 x7) w23 (fun w24 =>
 doSt ((blk b19).add 4) (.int .u64 x8) w24 (fun w25 =>
 doSt ((blk b19).add 5) (.bool x9) w25 (fun w26 =>
 doSt ((blk b19).add 6) (.bool x10) w26 (fun w27 =>
 let K32 : (Option Addr) → Nat → Nat → World → Prop := fun (out_p28 : Option Addr) (out_n29 : Nat) (out_c30 : Nat) (w31 : World) => 
 doCall Tryz.prog (.func (.func 60) #[] #[]) #[.slice xp14 xn15 xc16] w31 (retS (fun v36 w37 => ∃ (xp33 : Option Addr), ∃ (xn34 : Nat), ∃ (xc35 : Nat), v36 = (.slice xp33 xn34 xc35 : Value) ∧ (
 doGo Tryz.prog (.builtin .append #[22, 22] 22 #[false, false]) #[.slice out_p28 out_n29 out_c30, .slice xp33 xn34 xc35] w37 (retS (fun v41 w42 => ∃ (xp38 : Option Addr), ∃ (xn39 : Nat), ∃ (xc40 : Nat), v41 = (.slice xp38 xn39 xc40 : Value) ∧ (
 R (.returned (.slice xp38 xn39 xc40)) w42)) (fun ch w => Kfn R ch [] w)))) (fun ch w => Kfn R ch [] w))
 doDr w27 (fun w44 =>
 ∃ (C43 : World → Prop), C43 w44 ∧ (
 ∃ (x45 : Int), (∀ w, C43 w → World.cell? w ((blk b19).add 0) = some (.int .i64 x45)) ∧ (
 ∃ (x46 : Int), (∀ w, C43 w → World.cell? w ((blk b19).add 1) = some (.int .i64 x46)) ∧ (
 (doCall Tryz.prog (.func (.func 60) #[] #[]) #[.slice xp11 xn12 xc13] w44 (retS (fun v50 w51 => ∃ (xp47 : Option Addr), ∃ (xn48 : Nat), ∃ (xc49 : Nat), v50 = (.slice xp47 xn48 xc49 : Value) ∧ (
 C43 w51 ∧ (
 doAl (.cells #[.int .i64 x45, .int .i64 x46] 46) w51 (fun b52 w53 =>
 C43 w53 ∧ (
 doGo Tryz.prog (.builtin .append #[22, 22] 22 #[false, false]) #[.slice xp47 xn48 xc49, .slice (some (blk b52)) 1 1] w53 (retS (fun v57 w58 => ∃ (xp54 : Option Addr), ∃ (xn55 : Nat), ∃ (xc56 : Nat), v57 = (.slice xp54 xn55 xc56 : Value) ∧ (
 C43 w58 ∧ (
 K32 xp54 xn55 xc56 w58))) (fun ch w => Kfn R ch [] w))))))) (fun ch w => Kfn R ch [] w))) ∧ (doAl (.cells #[.int .i64 x45, .int .i64 x46] 46) w44 (fun b59 w60 =>
 C43 w60 ∧ (
 doCall Tryz.prog (.func (.func 60) #[] #[]) #[.slice xp11 xn12 xc13] w60 (retS (fun v64 w65 => ∃ (xp61 : Option Addr), ∃ (xn62 : Nat), ∃ (xc63 : Nat), v64 = (.slice xp61 xn62 xc63 : Value) ∧ (
 C43 w65 ∧ (
 doGo Tryz.prog (.builtin .append #[22, 22] 22 #[false, false]) #[.slice xp61 xn62 xc63, .slice (some (blk b59)) 1 1] w65 (retS (fun v69 w70 => ∃ (xp66 : Option Addr), ∃ (xn67 : Nat), ∃ (xc68 : Nat), v69 = (.slice xp66 xn67 xc68 : Value) ∧ (
 C43 w70 ∧ (
 K32 xp66 xn67 xc68 w70))) (fun ch w => Kfn R ch [] w))))) (fun ch w => Kfn R ch [] w))))))))))))))))))) (fun ch w => Kfn R ch [] w)))
set_option maxRecDepth 100000 in
theorem sh60_ok (l_p1 : Option Addr) (l_n2 : Nat) (l_c3 : Nat) {R : Ending → World → Prop} {w : World} : sh60 l_p1 l_n2 l_c3 R w → Calls Tryz.prog 60 #[.slice l_p1 l_n2 l_c3] w R :=
  calls_of_eq (ann := fun _ => []) (fn := Tryz.f60) (c := bodyOf Tryz.f60) (args := #[.slice l_p1 l_n2 l_c3]) 400 follows_mixed Tryz.func60 (by kernel_rfl) (by kernel_rfl)
set_option maxRecDepth 100000 in
/-- joinery/joineryref10.SameKeys -/
def sh61 (a_p1 : Option Addr) (a_n2 : Nat) (_a_c3 : Nat) (b_p4 : Option Addr) (b_n5 : Nat) (_b_c6 : Nat) (R : Ending → World → Prop) (w : World) : Prop :=
 ifB ((((a_n2 : Nat) : Int) : Int) != ((b_n5 : Nat) : Int)) (
 R (.returned (.bool false)) w) (
 ∃ (I7 : List Value → World → Prop) (μ8 : List Value → World → Nat), I7 [.int .i64 0] w ∧ (∀ (i_11 : Int), ∀ (_j9 : Nat → Value) (w10 : World), I7 [.int .i64 i_11] w10 → (
 ifB (decide ((i_11 : Int) < ((a_n2 : Nat) : Int))) (
 doDr w10 (fun w13 =>
 ∃ (C12 : World → Prop), C12 w13 ∧ (
 doIx a_p1 a_n2 1 (i_11) (fun a14 =>
 ∃ (x15 : Int), (∀ w, C12 w → World.cell? w a14 = some (.int .i64 x15)) ∧ (
 doIx b_p4 b_n5 1 (i_11) (fun a16 =>
 ∃ (x17 : Int), (∀ w, C12 w → World.cell? w a16 = some (.int .i64 x17)) ∧ (
 ifB ((x15 : Int) != x17) (
 R (.returned (.bool false)) w13) (
 I7 [.int .i64 (IntKind.wrap .i64 (i_11 + 1))] w13 ∧ μ8 [.int .i64 (IntKind.wrap .i64 (i_11 + 1))] w13 < μ8 [.int .i64 i_11] w10)))))))) (
 R (.returned (.bool true)) w10))))
set_option maxRecDepth 100000 in
theorem sh61_ok (a_p1 : Option Addr) (a_n2 : Nat) (a_c3 : Nat) (b_p4 : Option Addr) (b_n5 : Nat) (b_c6 : Nat) {R : Ending → World → Prop} {w : World} : sh61 a_p1 a_n2 a_c3 b_p4 b_n5 b_c6 R w → Calls Tryz.prog 61 #[.slice a_p1 a_n2 a_c3, .slice b_p4 b_n5 b_c6] w R :=
  calls_of_eq (ann := fun i => if i = 0 then [(5, .int .i64 0)] else []) (fn := Tryz.f61) (c := bodyOf Tryz.f61) (args := #[.slice a_p1 a_n2 a_c3, .slice b_p4 b_n5 b_c6]) 400 follows_mixed Tryz.func61 (by kernel_rfl) (by kernel_rfl)
end Go.Proofs.YtlddfgfmkapoiaaGreat

namespace Go.Proofs.YtlddfgfmkapoiaaGreat
open Go Go.Sh
set_option maxRecDepth 100000 in
/-- joinery/joineryref02.Compare -/
def sh79 (o_1 : Int) (a_2 : Int) (b_3 : Int) (R : Ending → World → Prop) (w : World) : Prop :=
 let K6 : Bool → World → Prop := fun (x4 : Bool) (w5 : World) => 
 ifB x4 (
 R (.returned (.int .i64 0)) w5) (
 doCall Tryz.prog (.func (.func 150) #[] #[]) #[.int .u8 o_1, .int .i64 a_2] w5 (retS (fun v8 w9 => ∃ (x7 : Int), v8 = (.int .u64 x7 : Value) ∧ (
 doCall Tryz.prog (.func (.func 150) #[] #[]) #[.int .u8 o_1, .int .i64 b_3] w9 (retS (fun v11 w12 => ∃ (x10 : Int), v11 = (.int .u64 x10 : Value) ∧ (
 ifB (decide ((x7 : Int) < x10)) (
 R (.returned (.int .i64 (-1))) w12) (
 R (.returned (.int .i64 1)) w12))) (fun ch w => Kfn R ch [] w)))) (fun ch w => Kfn R ch [] w)))
 doCall Tryz.prog (.func (.func 16) #[] #[]) #[.int .u8 o_1] w (retS (fun v14 w15 => ∃ (x13 : Bool), v14 = (.bool x13 : Value) ∧ (
 ifB (!x13) (
 R (.returned (.int .i64 0)) w15) (
 doCall Tryz.prog (.func (.func 150) #[] #[]) #[.int .u8 o_1, .int .i64 a_2] w15 (retS (fun v17 w18 => ∃ (x16 : Int), v17 = (.int .u64 x16 : Value) ∧ (
 doCall Tryz.prog (.func (.func 150) #[] #[]) #[.int .u8 o_1, .int .i64 b_3] w18 (retS (fun v20 w21 => ∃ (x19 : Int), v20 = (.int .u64 x19 : Value) ∧ (
 K6 ((x16 : Int) == x19) w21)) (fun ch w => Kfn R ch [] w)))) (fun ch w => Kfn R ch [] w))))) (fun ch w => Kfn R ch [] w))
set_option maxRecDepth 100000 in
theorem sh79_ok (o_1 : Int) (a_2 : Int) (b_3 : Int) {R : Ending → World → Prop} {w : World} : sh79 o_1 a_2 b_3 R w → Calls Tryz.prog 79 #[.int .u8 o_1, .int .i64 a_2, .int .i64 b_3] w R :=
  calls_of_eq (ann := fun _ => []) (fn := Tryz.f79) (c := bodyOf Tryz.f79) (args := #[.int .u8 o_1, .int .i64 a_2, .int .i64 b_3]) 400 follows_mixed Tryz.func79 (by kernel_rfl) (by kernel_rfl)
set_option maxRecDepth 100000 in
/-- joinery/mix.Of -/
def sh83 (key_1 : Int) (R : Ending → World → Prop) (w : World) : Prop :=
 doCall Tryz.prog (.func (.func 122) #[] #[]) #[.int .u64 (IntKind.wrap .u64 ((IntKind.wrap .u64 key_1) + 11400714819323198485))] w (retS (fun v3 w4 => ∃ (x2 : Int), v3 = (.int .u64 x2 : Value) ∧ (
 R (.returned (.int .u64 x2)) w4)) (fun ch w => Kfn R ch [] w))
set_option maxRecDepth 100000 in
theorem sh83_ok (key_1 : Int) {R : Ending → World → Prop} {w : World} : sh83 key_1 R w → Calls Tryz.prog 83 #[.int .i64 key_1] w R :=
  calls_of_eq (ann := fun _ => []) (fn := Tryz.f83) (c := bodyOf Tryz.f83) (args := #[.int .i64 key_1]) 400 follows_mixed Tryz.func83 (by kernel_rfl) (by kernel_rfl)
end Go.Proofs.YtlddfgfmkapoiaaGreat

namespace Go.Proofs.YtlddfgfmkapoiaaGreat
open Go Go.Sh
set_option maxRecDepth 100000 in
/-- joinery/split.Split -/
def sh89 (s_1 : Option Addr) (o_2 : Int) (t_3 : Option Addr) (key_4 : Int) (R : Ending → World → Prop) (w : World) : Prop :=
 doAl (.cells #[.int .i64 0, .int .i64 0, .int .u64 0] 114) w (fun b5 w6 =>
 let K10 : Int → Value → World → Prop := fun (e_7 : Int) (d8 : Value) (w9 : World) => 
 let K13 : Bool → World → Prop := fun (x11 : Bool) (w12 : World) => 
 ifB x11 (
 doDr w12 (fun w15 =>
 ∃ (C14 : World → Prop), C14 w15 ∧ (
 ∃ (x16 : Int), (∀ w, C14 w → World.cell? w ((blk b5).add 0) = some (.int .i64 x16)) ∧ (
 ∃ (x17 : Int), (∀ w, C14 w → World.cell? w ((blk b5).add 1) = some (.int .i64 x17)) ∧ (
 ∃ (x18 : Int), (∀ w, C14 w → World.cell? w ((blk b5).add 2) = some (.int .u64 x18)) ∧ (
 doSt ((blk b5).add 0) (.int .i64 x16) w15 (fun w19 =>
 doSt ((blk b5).add 1) (.int .i64 x17) w19 (fun w20 =>
 doSt ((blk b5).add 2) (.int .u64 x18) w20 (fun w21 =>
 ∃ (x22 : Int), World.cell? w21 ((blk b5).add 0) = some (.int .i64 x22) ∧ (
 ∃ (x23 : Int), World.cell? w21 ((blk b5).add 1) = some (.int .i64 x23) ∧ (
 ∃ (x24 : Int), World.cell? w21 ((blk b5).add 2) = some (.int .u64 x24) ∧ (
 R (.returned (.tuple #[.pointer none, .agg #[.int .i64 x22, .int .i64 x23, .int .u64 x24], .bool false, .pointer none, .int .i64 2])) w21)))))))))))) (
 doCall Tryz.prog (.func (.func 165) #[] #[]) #[.pointer s_1, d8, .pointer t_3] w12 (retS (fun v31 w32 => ∃ (x25 : Option Addr), ∃ (x26 : Int), ∃ (x27 : Int), ∃ (x28 : Int), ∃ (x29 : Bool), ∃ (x30 : Option Addr), v31 = (.tuple #[.pointer x25, .agg #[.int .i64 x26, .int .i64 x27, .int .u64 x28], .bool x29, .pointer x30] : Value) ∧ (
 doSt ((blk b5).add 0) (.int .i64 x26) w32 (fun w33 =>
 doSt ((blk b5).add 1) (.int .i64 x27) w33 (fun w34 =>
 doSt ((blk b5).add 2) (.int .u64 x28) w34 (fun w35 =>
 doDr w35 (fun w37 =>
 ∃ (C36 : World → Prop), C36 w37 ∧ (
 ∃ (x38 : Int), (∀ w, C36 w → World.cell? w ((blk b5).add 0) = some (.int .i64 x38)) ∧ (
 ∃ (x39 : Int), (∀ w, C36 w → World.cell? w ((blk b5).add 1) = some (.int .i64 x39)) ∧ (
 ∃ (x40 : Int), (∀ w, C36 w → World.cell? w ((blk b5).add 2) = some (.int .u64 x40)) ∧ (
 doSt ((blk b5).add 0) (.int .i64 x38) w37 (fun w41 =>
 doSt ((blk b5).add 1) (.int .i64 x39) w41 (fun w42 =>
 doSt ((blk b5).add 2) (.int .u64 x40) w42 (fun w43 =>
 ∃ (x44 : Int), World.cell? w43 ((blk b5).add 0) = some (.int .i64 x44) ∧ (
 ∃ (x45 : Int), World.cell? w43 ((blk b5).add 1) = some (.int .i64 x45) ∧ (
 ∃ (x46 : Int), World.cell? w43 ((blk b5).add 2) = some (.int .u64 x46) ∧ (
 R (.returned (.tuple #[.pointer x25, .agg #[.int .i64 x44, .int .i64 x45, .int .u64 x46], .bool x29, .pointer x30, .int .i64 0])) w43)))))))))))))))) (fun ch w => Kfn R ch [] w)))
 ifB ((s_1).isNone) (
 K13 true w9) (
 K13 ((e_7 : Int) != 0) w9)
 doCall Tryz.prog (.func (.func 164) #[] #[]) #[.int .u8 o_2, .int .i64 key_4] w6 (retS (fun v51 w52 => (∃ (xf47 : Fn), ∃ (xx48 : Array Value), ∃ (xc49 : Array Value), ∃ (x50 : Int), v51 = (.tuple #[.func xf47 xx48 xc49, .int .i64 x50] : Value) ∧ (
 K10 x50 (.func xf47 xx48 xc49 : Value) w52)) ∨ (∃ (x53 : Int), v51 = (.tuple #[.nilFunc, .int .i64 x53] : Value) ∧ (
 K10 x53 (.nilFunc : Value) w52))) (fun ch w => Kfn R ch [] w)))
set_option maxRecDepth 100000 in
theorem sh89_ok (s_1 : Option Addr) (o_2 : Int) (t_3 : Option Addr) (key_4 : Int) {R : Ending → World → Prop} {w : World} : sh89 s_1 o_2 t_3 key_4 R w → Calls Tryz.prog 89 #[.pointer s_1, .int .u8 o_2, .pointer t_3, .int .i64 key_4] w R :=
  calls_of_eq (ann := fun _ => []) (fn := Tryz.f89) (c := bodyOf Tryz.f89) (args := #[.pointer s_1, .int .u8 o_2, .pointer t_3, .int .i64 key_4]) 400 follows_mixed Tryz.func89 (by kernel_rfl) (by kernel_rfl)
set_option maxRecDepth 100000 in
/-- (*joinery/node.Node).Size -/
def sh91 (n_1 : Option Addr) (R : Ending → World → Prop) (w : World) : Prop :=
 doCall Tryz.prog (.func (.func 166) #[] #[]) #[.pointer n_1] w (retS (fun v7 w8 => ∃ (x2 : Int), ∃ (x3 : Int), ∃ (x4 : Int), ∃ (x5 : Int), ∃ (x6 : Int), v7 = (.agg #[.int .i64 x2, .int .i64 x3, .int .i64 x4, .int .u64 x5, .int .i64 x6] : Value) ∧ (
 R (.returned (.int .i64 x6)) w8)) (fun ch w => Kfn R ch [] w))
set_option maxRecDepth 100000 in
theorem sh91_ok (n_1 : Option Addr) {R : Ending → World → Prop} {w : World} : sh91 n_1 R w → Calls Tryz.prog 91 #[.pointer n_1] w R :=
  calls_of_eq (ann := fun _ => []) (fn := Tryz.f91) (c := bodyOf Tryz.f91) (args := #[.pointer n_1]) 400 follows_mixed Tryz.func91 (by kernel_rfl) (by kernel_rfl)
set_option maxRecDepth 100000 in
/-- joinery/scheme.Of -/
def sh92 (code_1 : Int) (R : Ending → World → Prop) (w : World) : Prop :=
 doCall Tryz.prog (.func (.func 167) #[] #[]) #[.int .u8 code_1] w (retS (fun v3 w4 => ∃ (x2 : Value), v3 = (x2 : Value) ∧ (
 doEqN Tryz.prog .eql 208 (.tmp 5) (.const (.nilIface)) (x2) (fun b5 =>
 ifB b5 (
 R (.returned (.tuple #[.pointer none, .int .i64 2])) w4) (
 doAl (.cells #[.int .u8 code_1, .int .u32 0, .int .i32 0, .int .u32 0, .string (⟨#[]⟩ : ByteArray), .nilFunc, .nilFunc, .nilFunc, .nilFunc, .nilFunc, .nilFunc, .bool false, .int .u64 0] 231) w4 (fun b6 w7 =>
 R (.returned (.tuple #[.pointer (some (blk b6)), .int .i64 0])) w7))))) (fun ch w => Kfn R ch [] w))
set_option maxRecDepth 100000 in
theorem sh92_ok (code_1 : Int) {R : Ending → World → Prop} {w : World} : sh92 code_1 R w → Calls Tryz.prog 92 #[.int .u8 code_1] w R :=
  calls_of_eq (ann := fun _ => []) (fn := Tryz.f92) (c := bodyOf Tryz.f92) (args := #[.int .u8 code_1]) 400 follows_mixed Tryz.func92 (by kernel_rfl) (by kernel_rfl)
set_option maxRecDepth 100000 in
/-- joinery/build.Items -/
def sh93 (s_1 : Option Addr) (l_p2 : Option Addr) (l_n3 : Nat) (l_c4 : Nat) (R : Ending → World → Prop) (w : World) : Prop :=
 doAl (.cells #[.pointer s_1] 25) w (fun b5 w6 =>
 doAl (.cells #[.nilFunc] 232) w6 (fun b7 w8 =>
 doSt ((blk b7).add 0) (.func (.func 168) #[] #[.pointer (some (blk b5)), .pointer (some (blk b7))]) w8 (fun w9 =>
 ∃ (xf10 : Fn), ∃ (xx11 : Array Value), ∃ (xc12 : Array Value), World.cell? w9 (blk b7) = some (.func xf10 xx11 xc12) ∧ (
 doCall Tryz.prog (.func xf10 xx11 xc12) #[.slice l_p2 l_n3 l_c4] w9 (retS (fun v14 w15 => ∃ (x13 : Option Addr), v14 = (.pointer x13 : Value) ∧ (
 R (.returned (.pointer x13)) w15)) (fun ch w => Kfn R ch [] w))))))
set_option maxRecDepth 100000 in
theorem sh93_ok (s_1 : Option Addr) (l_p2 : Option Addr) (l_n3 : Nat) (l_c4 : Nat) {R : Ending → World → Prop} {w : World} : sh93 s_1 l_p2 l_n3 l_c4 R w → Calls Tryz.prog 93 #[.pointer s_1, .slice l_p2 l_n3 l_c4] w R :=
  calls_of_eq (ann := fun _ => []) (fn := Tryz.f93) (c := bodyOf Tryz.f93) (args := #[.pointer s_1, .slice l_p2 l_n3 l_c4]) 400 follows_mixed Tryz.func93 (by kernel_rfl) (by kernel_rfl)
set_option maxRecDepth 100000 in
/-- joinery/rowset.Sort -/
def sh95 (o_1 : Int) (p_2 : Int) (l_p3 : Option Addr) (l_n4 : Nat) (l_c5 : Nat) (R : Ending → World → Prop) (w : World) : Prop :=
 doAl (.cells #[.int .u8 o_1] 5) w (fun b6 w7 =>
 let K10 : Bool → World → Prop := fun (x8 : Bool) (w9 : World) => 
 ifB x8 (
 R (.returned (.tuple #[.slice none 0 0, .int .i64 2])) w9) (
 doCall Tryz.prog (.func (.func 173) #[] #[]) #[.slice l_p3 l_n4 l_c5] w9 (retS (fun v14 w15 => ∃ (xp11 : Option Addr), ∃ (xn12 : Nat), ∃ (xc13 : Nat), v14 = (.slice xp11 xn12 xc13 : Value) ∧ (
 doCall Tryz.prog (.func (.func 174) #[] #[]) #[.slice xp11 xn12 xc13, .func (.func 175) #[] #[.pointer (some (blk b6))]] w15 (retS (fun v16 w17 => v16 = (.tuple #[] : Value) ∧ (
 ∃ (I18 : List Value → World → Prop) (μ19 : List Value → World → Nat), I18 [.slice none 0 0, .int .i64 0] w17 ∧ (∀ (out_p22 : Option Addr), ∀ (out_n23 : Nat), ∀ (out_c24 : Nat), ∀ (x25 : Int), ∀ (_j20 : Nat → Value) (w21 : World), I18 [.slice out_p22 out_n23 out_c24, .int .i64 x25] w21 → (
 ifB (decide ((x25 : Int) < ((xn12 : Nat) : Int))) (
 let K30 : (Option Addr) → Nat → Nat → World → Prop := fun (out_p26 : Option Addr) (out_n27 : Nat) (out_c28 : Nat) (w29 : World) => 
 I18 [.slice out_p26 out_n27 out_c28, .int .i64 (IntKind.wrap .i64 (x25 + 1))] w29 ∧ μ19 [.slice out_p26 out_n27 out_c28, .int .i64 (IntKind.wrap .i64 (x25 + 1))] w29 < μ19 [.slice out_p22 out_n23 out_c24, .int .i64 x25] w21
 doIx xp11 xn12 2 (x25) (fun a31 =>
 ∃ (x32 : Int), World.cell? w21 (a31.add 0) = some (.int .i64 x32) ∧ (
 ∃ (x33 : Int), World.cell? w21 (a31.add 1) = some (.int .i64 x33) ∧ (
 doAl (.cells #[.int .i64 0, .int .i64 0] 46) w21 (fun b34 w35 =>
 doSt ((blk b34).add 0) (.int .i64 x32) w35 (fun w36 =>
 doSt ((blk b34).add 1) (.int .i64 x33) w36 (fun w37 =>
 let K40 : Bool → World → Prop := fun (x38 : Bool) (w39 : World) => 
 ifB x38 (
 ∃ (x41 : Int), World.cell? w39 ((blk b34).add 0) = some (.int .i64 x41) ∧ (
 ∃ (x42 : Int), World.cell? w39 ((blk b34).add 1) = some (.int .i64 x42) ∧ (
 doAl (.cells #[.int .i64 x41, .int .i64 x42] 46) w39 (fun b43 w44 =>
 doGo Tryz.prog (.builtin .append #[22, 22] 22 #[false, false]) #[.slice out_p22 out_n23 out_c24, .slice (some (blk b43)) 1 1] w44 (retS (fun v48 w49 => ∃ (xp45 : Option Addr), ∃ (xn46 : Nat), ∃ (xc47 : Nat), v48 = (.slice xp45 xn46 xc47 : Value) ∧ (
 K30 xp45 xn46 xc47 w49)) (fun ch w => Kfn R ch [] w)))))) (
 doDr w39 (fun w51 =>
 ∃ (C50 : World → Prop), C50 w51 ∧ (
 doIx out_p22 out_n23 2 (IntKind.wrap .i64 (((out_n23 : Nat) : Int) - 1)) (fun a52 =>
 ∃ (x53 : Int), (∀ w, C50 w → World.cell? w (a52.add 1) = some (.int .i64 x53)) ∧ (
 ∃ (x54 : Int), (∀ w, C50 w → World.cell? w ((blk b34).add 1) = some (.int .i64 x54)) ∧ (
 doCall Tryz.prog (.func (.func 154) #[] #[]) #[.int .u8 p_2, .int .i64 x53, .int .i64 x54] w51 (retS (fun v57 w58 => ∃ (x55 : Int), ∃ (x56 : Int), v57 = (.tuple #[.int .i64 x55, .int .i64 x56] : Value) ∧ (
 doIx out_p22 out_n23 2 (IntKind.wrap .i64 (((out_n23 : Nat) : Int) - 1)) (fun a59 =>
 doSt ((a59.add 1).add 0) (.int .i64 x55) w58 (fun w60 =>
 K30 out_p22 out_n23 out_c24 w60)))) (fun ch w => Kfn R ch [] w))))))))
 doDr w37 (fun w62 =>
 ∃ (C61 : World → Prop), C61 w62 ∧ (
 ifB ((((out_n23 : Nat) : Int) : Int) == 0) (
 K40 true w62) (
 doIx out_p22 out_n23 2 (IntKind.wrap .i64 (((out_n23 : Nat) : Int) - 1)) (fun a63 =>
 ∃ (x64 : Int), (∀ w, C61 w → World.cell? w (a63.add 0) = some (.int .i64 x64)) ∧ (
 ∃ (x65 : Int), (∀ w, C61 w → World.cell? w ((blk b34).add 0) = some (.int .i64 x65)) ∧ (
 K40 ((x64 : Int) != x65) w62))))))))))))) (
 R (.returned (.tuple #[.slice out_p22 out_n23 out_c24, .int .i64 0])) w21))))) (fun ch w => Kfn R ch [] w)))) (fun ch w => Kfn R ch [] w)))
 ∃ (x66 : Int), World.cell? w7 (blk b6) = some (.int .u8 x66) ∧ (
 doCall Tryz.prog (.func (.func 172) #[] #[]) #[.int .u8 x66] w7 (retS (fun v68 w69 => ∃ (x67 : ByteArray), v68 = (.string x67 : Value) ∧ (
 ifB (x67.toList == (⟨#[]⟩ : ByteArray).toList) (
 R (.returned (.tuple #[.slice none 0 0, .int .i64 2])) w69) (
 doCall Tryz.prog (.func (.func 151) #[] #[]) #[.int .u8 p_2] w69 (retS (fun v71 w72 => ∃ (x70 : Bool), v71 = (.bool x70 : Value) ∧ (
 K10 (!x70) w72)) (fun ch w => Kfn R ch [] w))))) (fun ch w => Kfn R ch [] w))))
set_option maxRecDepth 100000 in
theorem sh95_ok (o_1 : Int) (p_2 : Int) (l_p3 : Option Addr) (l_n4 : Nat) (l_c5 : Nat) {R : Ending → World → Prop} {w : World} : sh95 o_1 p_2 l_p3 l_n4 l_c5 R w → Calls Tryz.prog 95 #[.int .u8 o_1, .int .u8 p_2, .slice l_p3 l_n4 l_c5] w R :=
  calls_of_eq (ann := fun i => if i = 0 then [(6, .slice none 0 0), (26, .int .i64 0)] else []) (fn := Tryz.f95) (c := bodyOf Tryz.f95) (args := #[.int .u8 o_1, .int .u8 p_2, .slice l_p3 l_n4 l_c5]) 400 follows_mixed Tryz.func95 (by kernel_rfl) (by kernel_rfl)
set_option maxRecDepth 100000 in
/-- joinery/joineryref05.Sort -/
def sh96 (o_1 : Int) (p_2 : Int) (l_p3 : Option Addr) (l_n4 : Nat) (_l_c5 : Nat) (R : Ending → World → Prop) (w : World) : Prop :=
 let K8 : Bool → World → Prop := fun (x6 : Bool) (w7 : World) => 
 ifB x6 (
 R (.returned (.tuple #[.slice none 0 0, .int .i64 2])) w7) (
 ∃ (I9 : List Value → World → Prop) (μ10 : List Value → World → Nat), I9 [.slice none 0 0, .int .i64 0] w7 ∧ (∀ (out_p13 : Option Addr), ∀ (out_n14 : Nat), ∀ (out_c15 : Nat), ∀ (i_16 : Int), ∀ (_j11 : Nat → Value) (w12 : World), I9 [.slice out_p13 out_n14 out_c15, .int .i64 i_16] w12 → (
 ifB (decide ((i_16 : Int) < ((l_n4 : Nat) : Int))) (
 doIx l_p3 l_n4 2 (i_16) (fun a17 =>
 ∃ (x18 : Int), World.cell? w12 (a17.add 0) = some (.int .i64 x18) ∧ (
 ∃ (x19 : Int), World.cell? w12 (a17.add 1) = some (.int .i64 x19) ∧ (
 doCall Tryz.prog (.func (.func 177) #[] #[]) #[.int .u8 o_1, .int .u8 p_2, .slice out_p13 out_n14 out_c15, .agg #[.int .i64 x18, .int .i64 x19]] w12 (retS (fun v24 w25 => ∃ (xp20 : Option Addr), ∃ (xn21 : Nat), ∃ (xc22 : Nat), ∃ (x23 : Int), v24 = (.tuple #[.slice xp20 xn21 xc22, .int .i64 x23] : Value) ∧ (
 I9 [.slice xp20 xn21 xc22, .int .i64 (IntKind.wrap .i64 (i_16 + 1))] w25 ∧ μ10 [.slice xp20 xn21 xc22, .int .i64 (IntKind.wrap .i64 (i_16 + 1))] w25 < μ10 [.slice out_p13 out_n14 out_c15, .int .i64 i_16] w12)) (fun ch w => Kfn R ch [] w)))))) (
 R (.returned (.tuple #[.slice out_p13 out_n14 out_c15, .int .i64 0])) w12))))
 doCall Tryz.prog (.func (.func 16) #[] #[]) #[.int .u8 o_1] w (retS (fun v27 w28 => ∃ (x26 : Bool), v27 = (.bool x26 : Value) ∧ (
 ifB (!x26) (
 R (.returned (.tuple #[.slice none 0 0, .int .i64 2])) w28) (
 doCall Tryz.prog (.func (.func 17) #[] #[]) #[.int .u8 p_2] w28 (retS (fun v30 w31 => ∃ (x29 : Bool), v30 = (.bool x29 : Value) ∧ (
 K8 (!x29) w31)) (fun ch w => Kfn R ch [] w))))) (fun ch w => Kfn R ch [] w))
set_option maxRecDepth 100000 in
theorem sh96_ok (o_1 : Int) (p_2 : Int) (l_p3 : Option Addr) (l_n4 : Nat) (l_c5 : Nat) {R : Ending → World → Prop} {w : World} : sh96 o_1 p_2 l_p3 l_n4 l_c5 R w → Calls Tryz.prog 96 #[.int .u8 o_1, .int .u8 p_2, .slice l_p3 l_n4 l_c5] w R :=
  calls_of_eq (ann := fun i => if i = 0 then [(8, .slice none 0 0), (9, .int .i64 0)] else []) (fn := Tryz.f96) (c := bodyOf Tryz.f96) (args := #[.int .u8 o_1, .int .u8 p_2, .slice l_p3 l_n4 l_c5]) 400 follows_mixed Tryz.func96 (by kernel_rfl) (by kernel_rfl)
set_option maxRecDepth 100000 in
/-- joinery/joineryref04.Less -/
def sh100 (o_1 : Int) (a_2 : Int) (b_3 : Int) (R : Ending → World → Prop) (w : World) : Prop :=
 doCall Tryz.prog (.func (.func 79) #[] #[]) #[.int .u8 o_1, .int .i64 a_2, .int .i64 b_3] w (retS (fun v5 w6 => ∃ (x4 : Int), v5 = (.int .i64 x4 : Value) ∧ (
 R (.returned (.bool (decide ((x4 : Int) < 0)))) w6)) (fun ch w => Kfn R ch [] w))
set_option maxRecDepth 100000 in
theorem sh100_ok (o_1 : Int) (a_2 : Int) (b_3 : Int) {R : Ending → World → Prop} {w : World} : sh100 o_1 a_2 b_3 R w → Calls Tryz.prog 100 #[.int .u8 o_1, .int .i64 a_2, .int .i64 b_3] w R :=
  calls_of_eq (ann := fun _ => []) (fn := Tryz.f100) (c := bodyOf Tryz.f100) (args := #[.int .u8 o_1, .int .i64 a_2, .int .i64 b_3]) 400 follows_mixed Tryz.func100 (by kernel_rfl) (by kernel_rfl)
set_option maxRecDepth 100000 in
/-- joinery/row.May -/
def sh101 (o_1 : Int) (l_p2 : Option Addr) (l_n3 : Nat) (l_c4 : Nat) (R : Ending → World → Prop) (w : World) : Prop :=
 doAl (.cells #[.int .u8 o_1] 5) w (fun b5 w6 =>
 doAl (.cells #[.bool false] 4) w6 (fun b7 w8 =>
 doCall Tryz.prog (.func (.func 182) #[] #[]) #[.slice l_p2 l_n3 l_c4] w8 (retS (fun v12 w13 => ∃ (xf9 : Fn), ∃ (xx10 : Array Value), ∃ (xc11 : Array Value), v12 = (.func xf9 xx10 xc11 : Value) ∧ (
 rfW Tryz.prog (.func xf9 xx10 xc11) (mkLoop #[.int .u8 o_1, .slice l_p2 l_n3 l_c4, .pointer (some (blk b5)), undef, .pointer (some (blk b7)), undef, undef, .slice l_p2 l_n3 l_c4, .func xf9 xx10 xc11, undef, undef, undef, undef, undef, undef, undef, undef, undef, undef, undef, undef] (rfOf Tryz.f101 0).1 (rfOf Tryz.f101 0).2.1 (rfOf Tryz.f101 0).2.2)
 (fun w14 =>
 ∃ (x15 : Int), World.cell? w14 (blk b5) = some (.int .u8 x15) ∧ (
 doCall Tryz.prog (.func (.func 172) #[] #[]) #[.int .u8 x15] w14 (retS (fun v17 w18 => ∃ (x16 : ByteArray), v17 = (.string x16 : Value) ∧ (
 doSt ((blk b7).add 0) (.bool (!(x16.toList == (⟨#[]⟩ : ByteArray).toList))) w18 (fun w19 =>
 w19.heap[w13.heap.size]? = some (.deferred (some [])) ∧ (
 let w20 : World := w19.putObj w13.heap.size (.deferred none)
 ∃ (x21 : Bool), World.cell? w20 (blk b7) = some (.bool x21) ∧ (
 R (.returned (.bool x21)) w20))))) (fun ch w => Kfn R ch [{ target := .collected w13.heap.size, args := #[] }] w))))
 (fun w22 =>
 w22.heap[w13.heap.size]? = some (.deferred (some [])) ∧ (
 let w23 : World := w22.putObj w13.heap.size (.deferred none)
 ∃ (x24 : Bool), World.cell? w23 (blk b7) = some (.bool x24) ∧ (
 R (.returned (.bool x24)) w23)))
 [] w13)) (fun ch w => Kfn R ch [] w))))
set_option maxRecDepth 100000 in
theorem sh101_ok (o_1 : Int) (l_p2 : Option Addr) (l_n3 : Nat) (l_c4 : Nat) {R : Ending → World → Prop} {w : World} : sh101 o_1 l_p2 l_n3 l_c4 R w → Calls Tryz.prog 101 #[.int .u8 o_1, .slice l_p2 l_n3 l_c4] w R :=
  calls_of_eq (ann := fun _ => []) (fn := Tryz.f101) (c := bodyOf Tryz.f101) (args := #[.int .u8 o_1, .slice l_p2 l_n3 l_c4]) 400 follows_mixed Tryz.func101 (by kernel_rfl) (by kernel_rfl)
set_option maxRecDepth 100000 in
/-- joinery/row.May, a round of loop 0 -/
def sh101_0 (o_1 : Addr) (x2 : Addr) (y22 : Int) (y23 : Int) (y24 : Int) (y25 : Int) (l : Nat) (R : Ending → World → Prop) (w : World) : Prop :=
 doAl (.cells #[.int .i64 0, .int .i64 0] 46) w (fun b26 w27 =>
 doSt ((blk b26).add 0) (.int .i64 y22) w27 (fun w28 =>
 doSt ((blk b26).add 1) (.int .i64 y23) w28 (fun w29 =>
 doAl (.cells #[.int .i64 0, .int .i64 0] 46) w29 (fun b30 w31 =>
 doSt ((blk b30).add 0) (.int .i64 y24) w31 (fun w32 =>
 doSt ((blk b30).add 1) (.int .i64 y25) w32 (fun w33 =>
 ∃ (r34 : Loop), w33.heap[l]? = some (.loop r34) ∧ r34.state = .ready ∧ (
 let w35 : World := w33.putObj l (.loop { r34 with state := .busy })
 ∃ (x36 : Int), World.cell? w35 o_1 = some (.int .u8 x36) ∧ (
 ∃ (x37 : Int), World.cell? w35 ((blk b26).add 0) = some (.int .i64 x37) ∧ (
 ∃ (x38 : Int), World.cell? w35 ((blk b30).add 0) = some (.int .i64 x38) ∧ (
 doCall Tryz.prog (.func (.func 176) #[] #[]) #[.int .u8 x36, .int .i64 x37, .int .i64 x38] w35 (retS (fun v40 w41 => ∃ (x39 : Int), v40 = (.int .i64 x39 : Value) ∧ (
 ifB (decide ((x39 : Int) ≥ 0)) (
 doSt (x2.add 0) (.bool false) w41 (fun w42 =>
 ∃ (r43 : Loop), w42.heap[l]? = some (.loop r43) ∧ R (.returned (.bool false)) (w42.putObj l (.loop { r43 with state := .done, pending := some .ret })))) (
 ∃ (r44 : Loop), w41.heap[l]? = some (.loop r44) ∧ R (.returned (.bool true)) (w41.putObj l (.loop { r44 with state := .ready, pending := none }))))) (fun _ _ => False))))))))))))
set_option maxRecDepth 100000 in
theorem sh101_0_ok {dd3 : Value} {dd4 : Value} {dd5 : Value} {dd6 : Value} {dd7 : Value} {dd8 : Value} {dd9 : Value} {dd10 : Value} {dd11 : Value} {dd12 : Value} {dd13 : Value} {dd14 : Value} {dd15 : Value} {dd16 : Value} {dd17 : Value} {dd18 : Value} {dd19 : Value} {dd20 : Value} {dd21 : Value} {o_1 : Addr} {x2 : Addr} {y22 : Int} {y23 : Int} {y24 : Int} {y25 : Int} {l fn D : Nat} {R : Ending → World → Prop} {w : World} (hl : w.heap[l]? = some (.loop (mkLoop #[dd3, dd4, .pointer (some o_1), dd5, .pointer (some x2), dd6, dd7, dd8, dd9, dd10, dd11, dd12, dd13, dd14, dd15, dd16, dd17, dd18, dd19, dd20, dd21] (rfOf Tryz.f101 0).1 (rfOf Tryz.f101 0).2.1 (rfOf Tryz.f101 0).2.2 fn D))) : sh101_0 o_1 x2 y22 y23 y24 y25 l R w → doCall Tryz.prog (.func (.yield l) #[] #[]) #[.agg #[.int .i64 y22, .int .i64 y23], .agg #[.int .i64 y24, .int .i64 y25]] w R :=
  fun h => ⟨round_of_eq (ann := fun _ => []) 400 follows_mixed hl (by kernel_rfl) (by kernel_rfl) h⟩
set_option maxRecDepth 100000 in
/-- joinery/build.tagged -/
def sh102 (s_1 : Option Addr) (d_2 : Option Addr) (l_p3 : Option Addr) (l_n4 : Nat) (l_c5 : Nat) (R : Ending → World → Prop) (w : World) : Prop :=
 doAl (.cells #[.pointer s_1] 25) w (fun b6 w7 =>
 doAl (.cells #[.pointer d_2] 31) w7 (fun b8 w9 =>
 doAl (.cells #[.slice l_p3 l_n4 l_c5] 22) w9 (fun b10 w11 =>
 R (.returned (.func (.func 183) #[] #[.pointer (some (blk b10)), .pointer (some (blk b6)), .pointer (some (blk b8))])) w11)))
set_option maxRecDepth 100000 in
theorem sh102_ok (s_1 : Option Addr) (d_2 : Option Addr) (l_p3 : Option Addr) (l_n4 : Nat) (l_c5 : Nat) {R : Ending → World → Prop} {w : World} : sh102 s_1 d_2 l_p3 l_n4 l_c5 R w → Calls Tryz.prog 102 #[.pointer s_1, .pointer d_2, .slice l_p3 l_n4 l_c5] w R :=
  calls_of_eq (ann := fun _ => []) (fn := Tryz.f102) (c := bodyOf Tryz.f102) (args := #[.pointer s_1, .pointer d_2, .slice l_p3 l_n4 l_c5]) 400 follows_mixed Tryz.func102 (by kernel_rfl) (by kernel_rfl)
end Go.Proofs.YtlddfgfmkapoiaaGreat

