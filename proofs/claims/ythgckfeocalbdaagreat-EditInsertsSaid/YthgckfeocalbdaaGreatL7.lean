/-
  Printed by a program (gen.py): what the functions of the program do, as formulas; each with the proof that its call is what the formula says.
-/
import Derived.Test.YthgckfeocalbdaaGreatPb
import Derived.Test.YthgckfeocalbdaaGreatProg
import Derived.Test.YthgckfeocalbdaaGreatPd
namespace Go.Proofs.YthgckfeocalbdaaGreat
open Go Go.Sh
set_option maxRecDepth 100000 in
/-- joinery/joinerylaw26.EditDeletes -/
def sh7 (code_1 : Int) (o_2 : Int) (l_p3 : Option Addr) (l_n4 : Nat) (l_c5 : Nat) (key_6 : Int) (val_7 : Int) (R : Ending → World → Prop) (w : World) : Prop :=
 doCall Tryz.prog (.func (.func 10) #[] #[]) #[.int .u8 code_1] w (retS (fun v10 w11 => ∃ (x8 : Option Addr), ∃ (x9 : Bool), v10 = (.tuple #[.pointer x8, .bool x9] : Value) ∧ (
 let K14 : Bool → World → Prop := fun (x12 : Bool) (w13 : World) => 
 ifB x12 (
 let K17 : Bool → World → Prop := fun (x15 : Bool) (w16 : World) => 
 R (.returned (.bool x15)) w16
 doCall Tryz.prog (.func (.func 12) #[] #[]) #[.int .u8 code_1] w13 (retS (fun v19 w20 => ∃ (x18 : Bool), v19 = (.bool x18 : Value) ∧ (
 ifB (x9 == x18) (
 doCall Tryz.prog (.func (.func 32) #[] #[]) #[.int .u8 o_2, .int .u8 0] w20 (retS (fun v22 w23 => ∃ (x21 : Bool), v22 = (.bool x21 : Value) ∧ (
 ifB x21 (
 doCall Tryz.prog (.func (.func 33) #[] #[]) #[] w23 (retS (fun v25 w26 => ∃ (x24 : Bool), v25 = (.bool x24 : Value) ∧ (
 K17 x24 w26)) (fun ch w => Kfn R ch [] w))) (
 R (.returned (.bool false)) w23))) (fun ch w => Kfn R ch [] w))) (
 R (.returned (.bool false)) w20))) (fun ch w => Kfn R ch [] w))) (
 doCall Tryz.prog (.func (.func 15) #[] #[]) #[.slice l_p3 l_n4 l_c5] w13 (retS (fun v28 w29 => ∃ (x27 : Option Addr), v28 = (.pointer x27 : Value) ∧ (
 doCall Tryz.prog (.func (.func 18) #[] #[]) #[.int .u8 code_1, .slice l_p3 l_n4 l_c5] w29 (retS (fun v33 w34 => ∃ (xp30 : Option Addr), ∃ (xn31 : Nat), ∃ (xc32 : Nat), v33 = (.slice xp30 xn31 xc32 : Value) ∧ (
 doCall Tryz.prog (.func (.func 36) #[] #[]) #[.pointer x8, .int .u8 o_2, .pointer x27, .int .i64 key_6] w34 (retS (fun v39 w40 => ∃ (x35 : Option Addr), ∃ (x36 : Int), ∃ (x37 : Bool), ∃ (x38 : Int), v39 = (.tuple #[.pointer x35, .int .i64 x36, .bool x37, .int .i64 x38] : Value) ∧ (
 doCall Tryz.prog (.func (.func 37) #[] #[]) #[.int .u8 o_2, .slice xp30 xn31 xc32, .int .i64 key_6] w40 (retS (fun v46 w47 => ∃ (xp41 : Option Addr), ∃ (xn42 : Nat), ∃ (xc43 : Nat), ∃ (x44 : Int), ∃ (x45 : Bool), v46 = (.tuple #[.slice xp41 xn42 xc43, .int .i64 x44, .bool x45] : Value) ∧ (
 doCall Tryz.prog (.func (.func 38) #[] #[]) #[.pointer x8, .int .u8 o_2, .pointer x27, .int .i64 key_6, .int .i64 val_7] w47 (retS (fun v51 w52 => ∃ (x48 : Option Addr), ∃ (x49 : Bool), ∃ (x50 : Int), v51 = (.tuple #[.pointer x48, .bool x49, .int .i64 x50] : Value) ∧ (
 doCall Tryz.prog (.func (.func 39) #[] #[]) #[.int .u8 o_2, .slice xp30 xn31 xc32, .int .i64 key_6, .int .i64 val_7] w52 (retS (fun v57 w58 => ∃ (xp53 : Option Addr), ∃ (xn54 : Nat), ∃ (xc55 : Nat), ∃ (x56 : Bool), v57 = (.tuple #[.slice xp53 xn54 xc55, .bool x56] : Value) ∧ (
 let K61 : Bool → World → Prop := fun (x59 : Bool) (w60 : World) => 
 R (.returned (.bool x59)) w60
 ifB ((x38 : Int) == 0) (
 ifB ((x50 : Int) == 0) (
 ifB ((x36 : Int) == x44) (
 ifB (x37 == x45) (
 ifB (x49 == x56) (
 doCall Tryz.prog (.func (.func 19) #[] #[]) #[.int .u8 code_1, .pointer x35, .slice xp41 xn42 xc43] w58 (retS (fun v63 w64 => ∃ (x62 : Bool), v63 = (.bool x62 : Value) ∧ (
 ifB x62 (
 doCall Tryz.prog (.func (.func 19) #[] #[]) #[.int .u8 code_1, .pointer x48, .slice xp53 xn54 xc55] w64 (retS (fun v66 w67 => ∃ (x65 : Bool), v66 = (.bool x65 : Value) ∧ (
 ifB x65 (
 doCall Tryz.prog (.func (.func 21) #[] #[]) #[.slice l_p3 l_n4 l_c5] w67 (retS (fun v71 w72 => ∃ (xp68 : Option Addr), ∃ (xn69 : Nat), ∃ (xc70 : Nat), v71 = (.slice xp68 xn69 xc70 : Value) ∧ (
 doCall Tryz.prog (.func (.func 20) #[] #[]) #[.pointer x27, .slice xp68 xn69 xc70] w72 (retS (fun v74 w75 => ∃ (x73 : Bool), v74 = (.bool x73 : Value) ∧ (
 ifB x73 (
 doCall Tryz.prog (.func (.func 33) #[] #[]) #[] w75 (retS (fun v77 w78 => ∃ (x76 : Bool), v77 = (.bool x76 : Value) ∧ (
 K61 x76 w78)) (fun ch w => Kfn R ch [] w))) (
 R (.returned (.bool false)) w75))) (fun ch w => Kfn R ch [] w)))) (fun ch w => Kfn R ch [] w))) (
 R (.returned (.bool false)) w67))) (fun ch w => Kfn R ch [] w))) (
 R (.returned (.bool false)) w64))) (fun ch w => Kfn R ch [] w))) (
 R (.returned (.bool false)) w58)) (
 R (.returned (.bool false)) w58)) (
 R (.returned (.bool false)) w58)) (
 R (.returned (.bool false)) w58)) (
 R (.returned (.bool false)) w58))) (fun ch w => Kfn R ch [] w)))) (fun ch w => Kfn R ch [] w)))) (fun ch w => Kfn R ch [] w)))) (fun ch w => Kfn R ch [] w)))) (fun ch w => Kfn R ch [] w)))) (fun ch w => Kfn R ch [] w)))
 doCall Tryz.prog (.func (.func 11) #[] #[]) #[.int .u8 code_1, .int .u8 o_2, .slice l_p3 l_n4 l_c5] w11 (retS (fun v80 w81 => ∃ (x79 : Bool), v80 = (.bool x79 : Value) ∧ (
 ifB x79 (
 K14 true w81) (
 K14 (!x9) w81))) (fun ch w => Kfn R ch [] w)))) (fun ch w => Kfn R ch [] w))
set_option maxRecDepth 100000 in
theorem sh7_ok (code_1 : Int) (o_2 : Int) (l_p3 : Option Addr) (l_n4 : Nat) (l_c5 : Nat) (key_6 : Int) (val_7 : Int) {R : Ending → World → Prop} {w : World} : sh7 code_1 o_2 l_p3 l_n4 l_c5 key_6 val_7 R w → Calls Tryz.prog 7 #[.int .u8 code_1, .int .u8 o_2, .slice l_p3 l_n4 l_c5, .int .i64 key_6, .int .i64 val_7] w R :=
  calls_of_eq (ann := fun _ => []) (fn := Tryz.f7) (c := bodyOf Tryz.f7) (args := #[.int .u8 code_1, .int .u8 o_2, .slice l_p3 l_n4 l_c5, .int .i64 key_6, .int .i64 val_7]) 400 follows_mixed Tryz.func7 (by kernel_rfl) (by kernel_rfl)
end Go.Proofs.YthgckfeocalbdaaGreat
