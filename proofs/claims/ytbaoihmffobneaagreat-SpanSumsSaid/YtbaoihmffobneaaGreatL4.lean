/-
  Printed by a program (gen.py): what the functions of the program do, as formulas; each with the proof that its call is what the formula says.
-/
import Derived.Test.YtbaoihmffobneaaGreatPb
import Derived.Test.YtbaoihmffobneaaGreatProg
import Derived.Test.YtbaoihmffobneaaGreatPd
namespace Go.Proofs.YtbaoihmffobneaaGreat
open Go Go.Sh
set_option maxRecDepth 100000 in
/-- joinery/joinerylaw33.SpanTells -/
def sh4 (code_1 : Int) (o_2 : Int) (l_p3 : Option Addr) (l_n4 : Nat) (l_c5 : Nat) (lo_6 : Int) (hi_7 : Int) (R : Ending → World → Prop) (w : World) : Prop :=
 doCall Tryz.prog (.func (.func 9) #[] #[]) #[.int .u8 code_1] w (retS (fun v10 w11 => ∃ (x8 : Option Addr), ∃ (x9 : Bool), v10 = (.tuple #[.pointer x8, .bool x9] : Value) ∧ (
 let K14 : Bool → World → Prop := fun (x12 : Bool) (w13 : World) => 
 ifB x12 (
 let K17 : Bool → World → Prop := fun (x15 : Bool) (w16 : World) => 
 R (.returned (.bool x15)) w16
 doCall Tryz.prog (.func (.func 12) #[] #[]) #[.int .u8 code_1] w13 (retS (fun v19 w20 => ∃ (x18 : Bool), v19 = (.bool x18 : Value) ∧ (
 ifB (x9 == x18) (
 doCall Tryz.prog (.func (.func 29) #[] #[]) #[.int .u8 o_2, .int .i64 lo_6, .int .i64 hi_7] w20 (retS (fun v22 w23 => ∃ (x21 : Bool), v22 = (.bool x21 : Value) ∧ (
 ifB x21 (
 doCall Tryz.prog (.func (.func 30) #[] #[]) #[] w23 (retS (fun v25 w26 => ∃ (x24 : Bool), v25 = (.bool x24 : Value) ∧ (
 K17 x24 w26)) (fun ch w => Kfn R ch [] w))) (
 R (.returned (.bool false)) w23))) (fun ch w => Kfn R ch [] w))) (
 R (.returned (.bool false)) w20))) (fun ch w => Kfn R ch [] w))) (
 doCall Tryz.prog (.func (.func 15) #[] #[]) #[.slice l_p3 l_n4 l_c5] w13 (retS (fun v28 w29 => ∃ (x27 : Option Addr), v28 = (.pointer x27 : Value) ∧ (
 doCall Tryz.prog (.func (.func 31) #[] #[]) #[.pointer x8, .int .u8 o_2, .pointer x27, .int .i64 lo_6, .int .i64 hi_7] w29 (retS (fun v32 w33 => ∃ (x30 : Option Addr), ∃ (x31 : Int), v32 = (.tuple #[.pointer x30, .int .i64 x31] : Value) ∧ (
 doCall Tryz.prog (.func (.func 32) #[] #[]) #[.pointer x8, .int .u8 o_2, .pointer x27, .int .i64 lo_6, .int .i64 hi_7] w33 (retS (fun v36 w37 => ∃ (x34 : Option Addr), ∃ (x35 : Int), v36 = (.tuple #[.pointer x34, .int .i64 x35] : Value) ∧ (
 doCall Tryz.prog (.func (.func 33) #[] #[]) #[.int .u8 o_2, .int .i64 lo_6, .int .i64 hi_7] w37 (retS (fun v39 w40 => ∃ (x38 : Int), v39 = (.int .i64 x38 : Value) ∧ (
 ifB ((x38 : Int) != 0) (
 let K43 : Bool → World → Prop := fun (x41 : Bool) (w42 : World) => 
 R (.returned (.bool x41)) w42
 ifB ((x30).isNone) (
 ifB ((x34).isNone) (
 ifB ((x31 : Int) == x38) (
 ifB ((x35 : Int) == x38) (
 doCall Tryz.prog (.func (.func 29) #[] #[]) #[.int .u8 o_2, .int .i64 lo_6, .int .i64 hi_7] w40 (retS (fun v45 w46 => ∃ (x44 : Bool), v45 = (.bool x44 : Value) ∧ (
 ifB x44 (
 doCall Tryz.prog (.func (.func 30) #[] #[]) #[] w46 (retS (fun v48 w49 => ∃ (x47 : Bool), v48 = (.bool x47 : Value) ∧ (
 K43 x47 w49)) (fun ch w => Kfn R ch [] w))) (
 R (.returned (.bool false)) w46))) (fun ch w => Kfn R ch [] w))) (
 R (.returned (.bool false)) w40)) (
 R (.returned (.bool false)) w40)) (
 R (.returned (.bool false)) w40)) (
 R (.returned (.bool false)) w40)) (
 doCall Tryz.prog (.func (.func 16) #[] #[]) #[.int .u8 code_1, .slice l_p3 l_n4 l_c5] w40 (retS (fun v53 w54 => ∃ (xp50 : Option Addr), ∃ (xn51 : Nat), ∃ (xc52 : Nat), v53 = (.slice xp50 xn51 xc52 : Value) ∧ (
 doCall Tryz.prog (.func (.func 34) #[] #[]) #[.int .u8 o_2, .slice xp50 xn51 xc52, .int .i64 lo_6, .int .i64 hi_7] w54 (retS (fun v61 w62 => ∃ (xp55 : Option Addr), ∃ (xn56 : Nat), ∃ (xc57 : Nat), ∃ (xp58 : Option Addr), ∃ (xn59 : Nat), ∃ (xc60 : Nat), v61 = (.tuple #[.slice xp55 xn56 xc57, .slice xp58 xn59 xc60] : Value) ∧ (
 let K65 : Bool → World → Prop := fun (x63 : Bool) (w64 : World) => 
 R (.returned (.bool x63)) w64
 ifB ((x31 : Int) == 0) (
 ifB ((x35 : Int) == 0) (
 doCall Tryz.prog (.func (.func 22) #[] #[]) #[.int .u8 code_1, .pointer x30, .slice xp55 xn56 xc57] w62 (retS (fun v67 w68 => ∃ (x66 : Bool), v67 = (.bool x66 : Value) ∧ (
 ifB x66 (
 doCall Tryz.prog (.func (.func 22) #[] #[]) #[.int .u8 code_1, .pointer x34, .slice xp58 xn59 xc60] w68 (retS (fun v70 w71 => ∃ (x69 : Bool), v70 = (.bool x69 : Value) ∧ (
 ifB x69 (
 doCall Tryz.prog (.func (.func 27) #[] #[]) #[.slice l_p3 l_n4 l_c5] w71 (retS (fun v75 w76 => ∃ (xp72 : Option Addr), ∃ (xn73 : Nat), ∃ (xc74 : Nat), v75 = (.slice xp72 xn73 xc74 : Value) ∧ (
 doCall Tryz.prog (.func (.func 26) #[] #[]) #[.pointer x27, .slice xp72 xn73 xc74] w76 (retS (fun v78 w79 => ∃ (x77 : Bool), v78 = (.bool x77 : Value) ∧ (
 ifB x77 (
 doCall Tryz.prog (.func (.func 29) #[] #[]) #[.int .u8 o_2, .int .i64 lo_6, .int .i64 hi_7] w79 (retS (fun v81 w82 => ∃ (x80 : Bool), v81 = (.bool x80 : Value) ∧ (
 ifB x80 (
 doCall Tryz.prog (.func (.func 30) #[] #[]) #[] w82 (retS (fun v84 w85 => ∃ (x83 : Bool), v84 = (.bool x83 : Value) ∧ (
 K65 x83 w85)) (fun ch w => Kfn R ch [] w))) (
 R (.returned (.bool false)) w82))) (fun ch w => Kfn R ch [] w))) (
 R (.returned (.bool false)) w79))) (fun ch w => Kfn R ch [] w)))) (fun ch w => Kfn R ch [] w))) (
 R (.returned (.bool false)) w71))) (fun ch w => Kfn R ch [] w))) (
 R (.returned (.bool false)) w68))) (fun ch w => Kfn R ch [] w))) (
 R (.returned (.bool false)) w62)) (
 R (.returned (.bool false)) w62))) (fun ch w => Kfn R ch [] w)))) (fun ch w => Kfn R ch [] w))))) (fun ch w => Kfn R ch [] w)))) (fun ch w => Kfn R ch [] w)))) (fun ch w => Kfn R ch [] w)))) (fun ch w => Kfn R ch [] w)))
 doCall Tryz.prog (.func (.func 28) #[] #[]) #[.int .u8 code_1, .int .u8 o_2, .slice l_p3 l_n4 l_c5] w11 (retS (fun v87 w88 => ∃ (x86 : Bool), v87 = (.bool x86 : Value) ∧ (
 ifB x86 (
 K14 true w88) (
 K14 (!x9) w88))) (fun ch w => Kfn R ch [] w)))) (fun ch w => Kfn R ch [] w))
set_option maxRecDepth 100000 in
theorem sh4_ok (code_1 : Int) (o_2 : Int) (l_p3 : Option Addr) (l_n4 : Nat) (l_c5 : Nat) (lo_6 : Int) (hi_7 : Int) {R : Ending → World → Prop} {w : World} : sh4 code_1 o_2 l_p3 l_n4 l_c5 lo_6 hi_7 R w → Calls Tryz.prog 4 #[.int .u8 code_1, .int .u8 o_2, .slice l_p3 l_n4 l_c5, .int .i64 lo_6, .int .i64 hi_7] w R :=
  calls_of_eq (ann := fun _ => []) (fn := Tryz.f4) (c := bodyOf Tryz.f4) (args := #[.int .u8 code_1, .int .u8 o_2, .slice l_p3 l_n4 l_c5, .int .i64 lo_6, .int .i64 hi_7]) 400 follows_mixed Tryz.func4 (by kernel_rfl) (by kernel_rfl)
end Go.Proofs.YtbaoihmffobneaaGreat
