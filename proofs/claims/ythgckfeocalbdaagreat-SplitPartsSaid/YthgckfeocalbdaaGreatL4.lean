/-
  Printed by a program (gen.py): what the functions of the program do, as formulas; each with the proof that its call is what the formula says.
-/
import Derived.Test.YthgckfeocalbdaaGreatPb
import Derived.Test.YthgckfeocalbdaaGreatProg
import Derived.Test.YthgckfeocalbdaaGreatPd
namespace Go.Proofs.YthgckfeocalbdaaGreat
open Go Go.Sh
set_option maxRecDepth 100000 in
/-- joinery/joinerylaw24.SplitSides -/
def sh4 (code_1 : Int) (o_2 : Int) (l_p3 : Option Addr) (l_n4 : Nat) (l_c5 : Nat) (key_6 : Int) (with_7 : Bool) (R : Ending → World → Prop) (w : World) : Prop :=
 doCall Tryz.prog (.func (.func 10) #[] #[]) #[.int .u8 code_1] w (retS (fun v10 w11 => ∃ (x8 : Option Addr), ∃ (x9 : Bool), v10 = (.tuple #[.pointer x8, .bool x9] : Value) ∧ (
 let K14 : Bool → World → Prop := fun (x12 : Bool) (w13 : World) => 
 ifB x12 (
 let K17 : Bool → World → Prop := fun (x15 : Bool) (w16 : World) => 
 R (.returned (.bool x15)) w16
 doCall Tryz.prog (.func (.func 12) #[] #[]) #[.int .u8 code_1] w13 (retS (fun v19 w20 => ∃ (x18 : Bool), v19 = (.bool x18 : Value) ∧ (
 ifB (x9 == x18) (
 doCall Tryz.prog (.func (.func 13) #[] #[]) #[.int .u8 o_2] w20 (retS (fun v22 w23 => ∃ (x21 : Bool), v22 = (.bool x21 : Value) ∧ (
 ifB x21 (
 doCall Tryz.prog (.func (.func 14) #[] #[]) #[] w23 (retS (fun v25 w26 => ∃ (x24 : Bool), v25 = (.bool x24 : Value) ∧ (
 K17 x24 w26)) (fun ch w => Kfn R ch [] w))) (
 R (.returned (.bool false)) w23))) (fun ch w => Kfn R ch [] w))) (
 R (.returned (.bool false)) w20))) (fun ch w => Kfn R ch [] w))) (
 doCall Tryz.prog (.func (.func 15) #[] #[]) #[.slice l_p3 l_n4 l_c5] w13 (retS (fun v28 w29 => ∃ (x27 : Option Addr), v28 = (.pointer x27 : Value) ∧ (
 doCall Tryz.prog (.func (.func 18) #[] #[]) #[.int .u8 code_1, .slice l_p3 l_n4 l_c5] w29 (retS (fun v33 w34 => ∃ (xp30 : Option Addr), ∃ (xn31 : Nat), ∃ (xc32 : Nat), v33 = (.slice xp30 xn31 xc32 : Value) ∧ (
 doCall Tryz.prog (.func (.func 22) #[] #[]) #[.pointer x8, .int .u8 o_2, .pointer x27, .int .i64 key_6, .bool with_7] w34 (retS (fun v37 w38 => ∃ (x35 : Option Addr), ∃ (x36 : Int), v37 = (.tuple #[.pointer x35, .int .i64 x36] : Value) ∧ (
 doCall Tryz.prog (.func (.func 23) #[] #[]) #[.pointer x8, .int .u8 o_2, .pointer x27, .int .i64 key_6, .bool with_7] w38 (retS (fun v41 w42 => ∃ (x39 : Option Addr), ∃ (x40 : Int), v41 = (.tuple #[.pointer x39, .int .i64 x40] : Value) ∧ (
 let K45 : Bool → World → Prop := fun (x43 : Bool) (w44 : World) => 
 R (.returned (.bool x43)) w44
 ifB ((x36 : Int) == 0) (
 ifB ((x40 : Int) == 0) (
 doCall Tryz.prog (.func (.func 24) #[] #[]) #[.int .u8 o_2, .slice xp30 xn31 xc32, .int .i64 key_6, .bool with_7] w42 (retS (fun v49 w50 => ∃ (xp46 : Option Addr), ∃ (xn47 : Nat), ∃ (xc48 : Nat), v49 = (.slice xp46 xn47 xc48 : Value) ∧ (
 doCall Tryz.prog (.func (.func 19) #[] #[]) #[.int .u8 code_1, .pointer x35, .slice xp46 xn47 xc48] w50 (retS (fun v52 w53 => ∃ (x51 : Bool), v52 = (.bool x51 : Value) ∧ (
 ifB x51 (
 doCall Tryz.prog (.func (.func 25) #[] #[]) #[.int .u8 o_2, .slice xp30 xn31 xc32, .int .i64 key_6, .bool with_7] w53 (retS (fun v57 w58 => ∃ (xp54 : Option Addr), ∃ (xn55 : Nat), ∃ (xc56 : Nat), v57 = (.slice xp54 xn55 xc56 : Value) ∧ (
 doCall Tryz.prog (.func (.func 19) #[] #[]) #[.int .u8 code_1, .pointer x39, .slice xp54 xn55 xc56] w58 (retS (fun v60 w61 => ∃ (x59 : Bool), v60 = (.bool x59 : Value) ∧ (
 ifB x59 (
 doCall Tryz.prog (.func (.func 14) #[] #[]) #[] w61 (retS (fun v63 w64 => ∃ (x62 : Bool), v63 = (.bool x62 : Value) ∧ (
 K45 x62 w64)) (fun ch w => Kfn R ch [] w))) (
 R (.returned (.bool false)) w61))) (fun ch w => Kfn R ch [] w)))) (fun ch w => Kfn R ch [] w))) (
 R (.returned (.bool false)) w53))) (fun ch w => Kfn R ch [] w)))) (fun ch w => Kfn R ch [] w))) (
 R (.returned (.bool false)) w42)) (
 R (.returned (.bool false)) w42))) (fun ch w => Kfn R ch [] w)))) (fun ch w => Kfn R ch [] w)))) (fun ch w => Kfn R ch [] w)))) (fun ch w => Kfn R ch [] w)))
 doCall Tryz.prog (.func (.func 11) #[] #[]) #[.int .u8 code_1, .int .u8 o_2, .slice l_p3 l_n4 l_c5] w11 (retS (fun v66 w67 => ∃ (x65 : Bool), v66 = (.bool x65 : Value) ∧ (
 ifB x65 (
 K14 true w67) (
 K14 (!x9) w67))) (fun ch w => Kfn R ch [] w)))) (fun ch w => Kfn R ch [] w))
set_option maxRecDepth 100000 in
theorem sh4_ok (code_1 : Int) (o_2 : Int) (l_p3 : Option Addr) (l_n4 : Nat) (l_c5 : Nat) (key_6 : Int) (with_7 : Bool) {R : Ending → World → Prop} {w : World} : sh4 code_1 o_2 l_p3 l_n4 l_c5 key_6 with_7 R w → Calls Tryz.prog 4 #[.int .u8 code_1, .int .u8 o_2, .slice l_p3 l_n4 l_c5, .int .i64 key_6, .bool with_7] w R :=
  calls_of_eq (ann := fun _ => []) (fn := Tryz.f4) (c := bodyOf Tryz.f4) (args := #[.int .u8 code_1, .int .u8 o_2, .slice l_p3 l_n4 l_c5, .int .i64 key_6, .bool with_7]) 400 follows_mixed Tryz.func4 (by kernel_rfl) (by kernel_rfl)
end Go.Proofs.YthgckfeocalbdaaGreat
