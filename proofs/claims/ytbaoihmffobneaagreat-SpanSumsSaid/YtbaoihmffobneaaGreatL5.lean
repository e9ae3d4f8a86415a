/-
  Printed by a program (gen.py): what the functions of the program do, as formulas; each with the proof that its call is what the formula says.
-/
import Derived.Test.YtbaoihmffobneaaGreatPb
import Derived.Test.YtbaoihmffobneaaGreatProg
import Derived.Test.YtbaoihmffobneaaGreatPd
namespace Go.Proofs.YtbaoihmffobneaaGreat
open Go Go.Sh
set_option maxRecDepth 100000 in
/-- joinery/joinerylaw33.SpanSums -/
def sh5 (o_1 : Int) (l_p2 : Option Addr) (l_n3 : Nat) (l_c4 : Nat) (lo_5 : Int) (hi_6 : Int) (R : Ending → World → Prop) (w : World) : Prop :=
 let K8 : World → Prop := fun (w7 : World) => 
 doCall Tryz.prog (.func (.func 15) #[] #[]) #[.slice l_p2 l_n3 l_c4] w7 (retS (fun v10 w11 => ∃ (x9 : Option Addr), v10 = (.pointer x9 : Value) ∧ (
 doCall Tryz.prog (.func (.func 38) #[] #[]) #[.int .u8 o_1, .pointer x9, .int .i64 lo_5, .int .i64 hi_6] w11 (retS (fun v14 w15 => ∃ (x12 : Int), ∃ (x13 : Int), v14 = (.tuple #[.int .i64 x12, .int .i64 x13] : Value) ∧ (
 doCall Tryz.prog (.func (.func 39) #[] #[]) #[.int .u8 o_1, .pointer x9, .int .i64 lo_5, .int .i64 hi_6] w15 (retS (fun v18 w19 => ∃ (x16 : Int), ∃ (x17 : Int), v18 = (.tuple #[.int .i64 x16, .int .i64 x17] : Value) ∧ (
 doCall Tryz.prog (.func (.func 33) #[] #[]) #[.int .u8 o_1, .int .i64 lo_5, .int .i64 hi_6] w19 (retS (fun v21 w22 => ∃ (x20 : Int), v21 = (.int .i64 x20 : Value) ∧ (
 ifB ((x20 : Int) != 0) (
 let K25 : Bool → World → Prop := fun (x23 : Bool) (w24 : World) => 
 R (.returned (.bool x23)) w24
 ifB ((x12 : Int) == 0) (
 ifB ((x16 : Int) == 0) (
 ifB ((x13 : Int) == x20) (
 ifB ((x17 : Int) == x20) (
 doCall Tryz.prog (.func (.func 30) #[] #[]) #[] w22 (retS (fun v27 w28 => ∃ (x26 : Bool), v27 = (.bool x26 : Value) ∧ (
 K25 x26 w28)) (fun ch w => Kfn R ch [] w))) (
 R (.returned (.bool false)) w22)) (
 R (.returned (.bool false)) w22)) (
 R (.returned (.bool false)) w22)) (
 R (.returned (.bool false)) w22)) (
 doCall Tryz.prog (.func (.func 40) #[] #[]) #[.slice l_p2 l_n3 l_c4] w22 (retS (fun v32 w33 => ∃ (xp29 : Option Addr), ∃ (xn30 : Nat), ∃ (xc31 : Nat), v32 = (.slice xp29 xn30 xc31 : Value) ∧ (
 doCall Tryz.prog (.func (.func 34) #[] #[]) #[.int .u8 o_1, .slice xp29 xn30 xc31, .int .i64 lo_5, .int .i64 hi_6] w33 (retS (fun v40 w41 => ∃ (xp34 : Option Addr), ∃ (xn35 : Nat), ∃ (xc36 : Nat), ∃ (xp37 : Option Addr), ∃ (xn38 : Nat), ∃ (xc39 : Nat), v40 = (.tuple #[.slice xp34 xn35 xc36, .slice xp37 xn38 xc39] : Value) ∧ (
 let K44 : Bool → World → Prop := fun (x42 : Bool) (w43 : World) => 
 R (.returned (.bool x42)) w43
 ifB ((x13 : Int) == 0) (
 ifB ((x17 : Int) == 0) (
 ifB ((x12 : Int) == ((xn35 : Nat) : Int)) (
 doCall Tryz.prog (.func (.func 41) #[] #[]) #[.slice xp34 xn35 xc36] w41 (retS (fun v46 w47 => ∃ (x45 : Int), v46 = (.int .i64 x45 : Value) ∧ (
 ifB ((x16 : Int) == x45) (
 doCall Tryz.prog (.func (.func 30) #[] #[]) #[] w47 (retS (fun v49 w50 => ∃ (x48 : Bool), v49 = (.bool x48 : Value) ∧ (
 K44 x48 w50)) (fun ch w => Kfn R ch [] w))) (
 R (.returned (.bool false)) w47))) (fun ch w => Kfn R ch [] w))) (
 R (.returned (.bool false)) w41)) (
 R (.returned (.bool false)) w41)) (
 R (.returned (.bool false)) w41))) (fun ch w => Kfn R ch [] w)))) (fun ch w => Kfn R ch [] w))))) (fun ch w => Kfn R ch [] w)))) (fun ch w => Kfn R ch [] w)))) (fun ch w => Kfn R ch [] w)))) (fun ch w => Kfn R ch [] w))
 let K53 : Bool → World → Prop := fun (x51 : Bool) (w52 : World) => 
 ifB x51 (
 let K56 : Bool → World → Prop := fun (x54 : Bool) (w55 : World) => 
 R (.returned (.bool x54)) w55
 doCall Tryz.prog (.func (.func 29) #[] #[]) #[.int .u8 o_1, .int .i64 lo_5, .int .i64 hi_6] w52 (retS (fun v58 w59 => ∃ (x57 : Bool), v58 = (.bool x57 : Value) ∧ (
 ifB x57 (
 doCall Tryz.prog (.func (.func 30) #[] #[]) #[] w59 (retS (fun v61 w62 => ∃ (x60 : Bool), v61 = (.bool x60 : Value) ∧ (
 K56 x60 w62)) (fun ch w => Kfn R ch [] w))) (
 R (.returned (.bool false)) w59))) (fun ch w => Kfn R ch [] w))) (
 K8 w52)
 doCall Tryz.prog (.func (.func 35) #[] #[]) #[.slice l_p2 l_n3 l_c4] w (retS (fun v64 w65 => ∃ (x63 : Bool), v64 = (.bool x63 : Value) ∧ (
 ifB x63 (
 K53 true w65) (
 doCall Tryz.prog (.func (.func 36) #[] #[]) #[.int .u8 o_1] w65 (retS (fun v67 w68 => ∃ (x66 : Bool), v67 = (.bool x66 : Value) ∧ (
 ifB x66 (
 doCall Tryz.prog (.func (.func 37) #[] #[]) #[.int .u8 o_1, .slice l_p2 l_n3 l_c4] w68 (retS (fun v70 w71 => ∃ (x69 : Bool), v70 = (.bool x69 : Value) ∧ (
 K53 (!x69) w71)) (fun ch w => Kfn R ch [] w))) (
 K8 w68))) (fun ch w => Kfn R ch [] w))))) (fun ch w => Kfn R ch [] w))
set_option maxRecDepth 100000 in
theorem sh5_ok (o_1 : Int) (l_p2 : Option Addr) (l_n3 : Nat) (l_c4 : Nat) (lo_5 : Int) (hi_6 : Int) {R : Ending → World → Prop} {w : World} : sh5 o_1 l_p2 l_n3 l_c4 lo_5 hi_6 R w → Calls Tryz.prog 5 #[.int .u8 o_1, .slice l_p2 l_n3 l_c4, .int .i64 lo_5, .int .i64 hi_6] w R :=
  calls_of_eq (ann := fun _ => []) (fn := Tryz.f5) (c := bodyOf Tryz.f5) (args := #[.int .u8 o_1, .slice l_p2 l_n3 l_c4, .int .i64 lo_5, .int .i64 hi_6]) 400 follows_mixed Tryz.func5 (by kernel_rfl) (by kernel_rfl)
end Go.Proofs.YtbaoihmffobneaaGreat
