/-
  Printed by a program (gen.py): what the functions of the program do, as formulas; each with the proof that its call is what the formula says.
-/
import Derived.Test.YtinkkhcffoikmaaCd
import Derived.Test.YtinkkhcffoikmaaProg
import Derived.Test.YtinkkhcffoikmaaS1
namespace Go.Proofs.Ytinkkhcffoikmaa
open Go Go.Sh
set_option maxRecDepth 100000 in
/-- joinery/joinerylaw05.RowsetCut -/
def sh12 (o_1 : Int) (l_p2 : Option Addr) (l_n3 : Nat) (l_c4 : Nat) (lo_5 : Int) (hi_6 : Int) (R : Ending → World → Prop) (w : World) : Prop :=
 ifB (decide ((((l_n3 : Nat) : Int) : Int) > 150)) (
 doCall Try.prog (.func (.func 53) #[] #[]) #[] w (retS (fun v8 w9 => ∃ (x7 : Bool), v8 = (.bool x7 : Value) ∧ (
 R (.returned (.bool x7)) w9)) (fun ch w => Kfn R ch [] w))) (
 7 ≠ (0 : Int) ∧ (
 doCall Try.prog (.func (.func 54) #[] #[]) #[.int .u8 (IntKind.wrap .u8 (1 + (Int.tmod o_1 7))), .slice l_p2 l_n3 l_c4, .slice none 0 0, .slice none 0 0] w (retS (fun v20 w21 => ∃ (xp10 : Option Addr), ∃ (xn11 : Nat), ∃ (xc12 : Nat), ∃ (xp13 : Option Addr), ∃ (xn14 : Nat), ∃ (xc15 : Nat), ∃ (xp16 : Option Addr), ∃ (xn17 : Nat), ∃ (xc18 : Nat), ∃ (x19 : Bool), v20 = (.tuple #[.slice xp10 xn11 xc12, .slice xp13 xn14 xc15, .slice xp16 xn17 xc18, .bool x19] : Value) ∧ (
 ifB (!x19) (
 R (.returned (.bool false)) w21) (
 doCall Try.prog (.func (.func 66) #[] #[]) #[.int .u8 (IntKind.wrap .u8 (1 + (Int.tmod o_1 7))), .slice xp10 xn11 xc12, .int .i64 lo_5] w21 (retS (fun v30 w31 => ∃ (xp22 : Option Addr), ∃ (xn23 : Nat), ∃ (xc24 : Nat), ∃ (x25 : Int), ∃ (x26 : Bool), ∃ (xp27 : Option Addr), ∃ (xn28 : Nat), ∃ (xc29 : Nat), v30 = (.tuple #[.slice xp22 xn23 xc24, .int .i64 x25, .bool x26, .slice xp27 xn28 xc29] : Value) ∧ (
 doCall Try.prog (.func (.func 42) #[] #[]) #[.slice xp22 xn23 xc24] w31 (retS (fun v35 w36 => ∃ (xp32 : Option Addr), ∃ (xn33 : Nat), ∃ (xc34 : Nat), v35 = (.slice xp32 xn33 xc34 : Value) ∧ (
 let K41 : (Option Addr) → Nat → Nat → World → Prop := fun (whole_p37 : Option Addr) (whole_n38 : Nat) (whole_c39 : Nat) (w40 : World) => 
 doSl whole_p37 whole_c39 2 (((xn23 : Nat) : Int)) (((whole_n38 : Nat) : Int)) (fun p42 n43 c44 =>
 doCall Try.prog (.func (.func 42) #[] #[]) #[.slice p42 n43 c44] w40 (retS (fun v48 w49 => ∃ (xp45 : Option Addr), ∃ (xn46 : Nat), ∃ (xc47 : Nat), v48 = (.slice xp45 xn46 xc47 : Value) ∧ (
 doGo Try.prog (.builtin .append #[33, 33] 33 #[false, false]) #[.slice whole_p37 whole_n38 whole_c39, .slice xp27 xn28 xc29] w49 (retS (fun v53 w54 => ∃ (xp50 : Option Addr), ∃ (xn51 : Nat), ∃ (xc52 : Nat), v53 = (.slice xp50 xn51 xc52 : Value) ∧ (
 doCall Try.prog (.func (.func 50) #[] #[]) #[.slice xp50 xn51 xc52, .slice xp10 xn11 xc12] w54 (retS (fun v56 w57 => ∃ (x55 : Bool), v56 = (.bool x55 : Value) ∧ (
 ifB (!x55) (
 R (.returned (.bool false)) w57) (
 doGo Try.prog (.builtin .append #[33, 33] 33 #[false, false]) #[.slice xp45 xn46 xc47, .slice xp27 xn28 xc29] w57 (retS (fun v61 w62 => ∃ (xp58 : Option Addr), ∃ (xn59 : Nat), ∃ (xc60 : Nat), v61 = (.slice xp58 xn59 xc60 : Value) ∧ (
 doCall Try.prog (.func (.func 66) #[] #[]) #[.int .u8 (IntKind.wrap .u8 (1 + (Int.tmod o_1 7))), .slice xp58 xn59 xc60, .int .i64 hi_6] w62 (retS (fun v71 w72 => ∃ (xp63 : Option Addr), ∃ (xn64 : Nat), ∃ (xc65 : Nat), ∃ (x66 : Int), ∃ (x67 : Bool), ∃ (xp68 : Option Addr), ∃ (xn69 : Nat), ∃ (xc70 : Nat), v71 = (.tuple #[.slice xp63 xn64 xc65, .int .i64 x66, .bool x67, .slice xp68 xn69 xc70] : Value) ∧ (
 let K77 : (Option Addr) → Nat → Nat → World → Prop := fun (c_p73 : Option Addr) (c_n74 : Nat) (c_c75 : Nat) (w76 : World) => 
 doCall Try.prog (.func (.func 64) #[] #[]) #[.int .u8 (IntKind.wrap .u8 (1 + (Int.tmod o_1 7))), .slice xp10 xn11 xc12, .int .i64 lo_5, .int .i64 hi_6] w76 (retS (fun v82 w83 => ∃ (xp78 : Option Addr), ∃ (xn79 : Nat), ∃ (xc80 : Nat), ∃ (x81 : Int), v82 = (.tuple #[.slice xp78 xn79 xc80, .int .i64 x81] : Value) ∧ (
 let K86 : Bool → World → Prop := fun (x84 : Bool) (w85 : World) => 
 R (.returned (.bool x84)) w85
 ifB ((x81 : Int) == 0) (
 doCall Try.prog (.func (.func 50) #[] #[]) #[.slice xp78 xn79 xc80, .slice c_p73 c_n74 c_c75] w83 (retS (fun v88 w89 => ∃ (x87 : Bool), v88 = (.bool x87 : Value) ∧ (
 ifB x87 (
 doCall Try.prog (.func (.func 53) #[] #[]) #[] w89 (retS (fun v91 w92 => ∃ (x90 : Bool), v91 = (.bool x90 : Value) ∧ (
 K86 x90 w92)) (fun ch w => Kfn R ch [] w))) (
 R (.returned (.bool false)) w89))) (fun ch w => Kfn R ch [] w))) (
 R (.returned (.bool false)) w83))) (fun ch w => Kfn R ch [] w))
 ifB x67 (
 doCall Try.prog (.func (.func 42) #[] #[]) #[.slice xp63 xn64 xc65] w72 (retS (fun v96 w97 => ∃ (xp93 : Option Addr), ∃ (xn94 : Nat), ∃ (xc95 : Nat), v96 = (.slice xp93 xn94 xc95 : Value) ∧ (
 doAl (.cells #[.int .i64 hi_6, .int .i64 x66] 38) w97 (fun b98 w99 =>
 doGo Try.prog (.builtin .append #[33, 33] 33 #[false, false]) #[.slice xp93 xn94 xc95, .slice (some (blk b98)) 1 1] w99 (retS (fun v103 w104 => ∃ (xp100 : Option Addr), ∃ (xn101 : Nat), ∃ (xc102 : Nat), v103 = (.slice xp100 xn101 xc102 : Value) ∧ (
 K77 xp100 xn101 xc102 w104)) (fun ch w => Kfn R ch [] w))))) (fun ch w => Kfn R ch [] w))) (
 K77 xp63 xn64 xc65 w72))) (fun ch w => Kfn R ch [] w)))) (fun ch w => Kfn R ch [] w))))) (fun ch w => Kfn R ch [] w)))) (fun ch w => Kfn R ch [] w)))) (fun ch w => Kfn R ch [] w)))
 ifB x26 (
 doAl (.cells #[.int .i64 lo_5, .int .i64 x25] 38) w36 (fun b105 w106 =>
 doGo Try.prog (.builtin .append #[33, 33] 33 #[false, false]) #[.slice xp32 xn33 xc34, .slice (some (blk b105)) 1 1] w106 (retS (fun v110 w111 => ∃ (xp107 : Option Addr), ∃ (xn108 : Nat), ∃ (xc109 : Nat), v110 = (.slice xp107 xn108 xc109 : Value) ∧ (
 K41 xp107 xn108 xc109 w111)) (fun ch w => Kfn R ch [] w)))) (
 K41 xp32 xn33 xc34 w36))) (fun ch w => Kfn R ch [] w)))) (fun ch w => Kfn R ch [] w))))) (fun ch w => Kfn R ch [] w))))
set_option maxRecDepth 100000 in
theorem sh12_ok (o_1 : Int) (l_p2 : Option Addr) (l_n3 : Nat) (l_c4 : Nat) (lo_5 : Int) (hi_6 : Int) {R : Ending → World → Prop} {w : World} : sh12 o_1 l_p2 l_n3 l_c4 lo_5 hi_6 R w → Calls Try.prog 12 #[.int .u8 o_1, .slice l_p2 l_n3 l_c4, .int .i64 lo_5, .int .i64 hi_6] w R :=
  calls_of_eq (ann := fun _ => []) (fn := Try.f12) (c := bodyOf Try.f12) (args := #[.int .u8 o_1, .slice l_p2 l_n3 l_c4, .int .i64 lo_5, .int .i64 hi_6]) 400 follows_mixed Try.func12 (by kernel_rfl) (by kernel_rfl)
end Go.Proofs.Ytinkkhcffoikmaa
