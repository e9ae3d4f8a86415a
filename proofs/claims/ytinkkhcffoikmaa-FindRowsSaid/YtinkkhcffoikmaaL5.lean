/-
  Printed by a program (gen.py): what the functions of the program do, as formulas; each with the proof that its call is what the formula says.
-/
import Derived.Test.YtinkkhcffoikmaaCd
import Derived.Test.YtinkkhcffoikmaaProg
import Derived.Test.YtinkkhcffoikmaaS1
namespace Go.Proofs.Ytinkkhcffoikmaa
open Go Go.Sh
set_option maxRecDepth 100000 in
/-- joinery/joinerylaw25.FindRows -/
def sh5 (o_1 : Int) (l_p2 : Option Addr) (l_n3 : Nat) (l_c4 : Nat) (picks_p5 : Option Addr) (picks_n6 : Nat) (picks_c7 : Nat) (key_8 : Int) (R : Ending → World → Prop) (w : World) : Prop :=
 let K11 : Bool → World → Prop := fun (x9 : Bool) (w10 : World) => 
 ifB x9 (
 doCall Try.prog (.func (.func 26) #[] #[]) #[] w10 (retS (fun v13 w14 => ∃ (x12 : Bool), v13 = (.bool x12 : Value) ∧ (
 R (.returned (.bool x12)) w14)) (fun ch w => Kfn R ch [] w))) (
 7 ≠ (0 : Int) ∧ (
 doCall Try.prog (.func (.func 23) #[] #[]) #[.int .u8 (IntKind.wrap .u8 (1 + (Int.tmod o_1 7))), .int .u8 2, .slice l_p2 l_n3 l_c4] w10 (retS (fun v19 w20 => ∃ (xp15 : Option Addr), ∃ (xn16 : Nat), ∃ (xc17 : Nat), ∃ (x18 : Int), v19 = (.tuple #[.slice xp15 xn16 xc17, .int .i64 x18] : Value) ∧ (
 ifB ((x18 : Int) != 0) (
 R (.returned (.bool false)) w20) (
 doCall Try.prog (.func (.func 24) #[] #[]) #[.slice xp15 xn16 xc17, .slice picks_p5 picks_n6 picks_c7] w20 (retS (fun v24 w25 => ∃ (xp21 : Option Addr), ∃ (xn22 : Nat), ∃ (xc23 : Nat), v24 = (.slice xp21 xn22 xc23 : Value) ∧ (
 doCall Try.prog (.func (.func 15) #[] #[]) #[.slice xp21 xn22 xc23] w25 (retS (fun v27 w28 => ∃ (x26 : Option Addr), v27 = (.pointer x26 : Value) ∧ (
 doCall Try.prog (.func (.func 27) #[] #[]) #[.int .u8 (IntKind.wrap .u8 (1 + (Int.tmod o_1 7))), .pointer x26, .int .i64 key_8] w28 (retS (fun v31 w32 => ∃ (x29 : Int), ∃ (x30 : Bool), v31 = (.tuple #[.int .i64 x29, .bool x30] : Value) ∧ (
 doCall Try.prog (.func (.func 28) #[] #[]) #[.int .u8 (IntKind.wrap .u8 (1 + (Int.tmod o_1 7))), .slice xp15 xn16 xc17, .int .i64 key_8] w32 (retS (fun v35 w36 => ∃ (x33 : Int), ∃ (x34 : Bool), v35 = (.tuple #[.int .i64 x33, .bool x34] : Value) ∧ (
 doCall Try.prog (.func (.func 29) #[] #[]) #[.int .u8 (IntKind.wrap .u8 (1 + (Int.tmod o_1 7))), .pointer x26, .int .i64 key_8] w36 (retS (fun v40 w41 => ∃ (x37 : Int), ∃ (x38 : Int), ∃ (x39 : Bool), v40 = (.tuple #[.agg #[.int .i64 x37, .int .i64 x38], .bool x39] : Value) ∧ (
 doAl (.cells #[.int .i64 0, .int .i64 0] 38) w41 (fun b42 w43 =>
 doSt ((blk b42).add 0) (.int .i64 x37) w43 (fun w44 =>
 doSt ((blk b42).add 1) (.int .i64 x38) w44 (fun w45 =>
 doCall Try.prog (.func (.func 30) #[] #[]) #[.int .u8 (IntKind.wrap .u8 (1 + (Int.tmod o_1 7))), .slice xp15 xn16 xc17, .int .i64 key_8] w45 (retS (fun v49 w50 => ∃ (x46 : Int), ∃ (x47 : Int), ∃ (x48 : Bool), v49 = (.tuple #[.agg #[.int .i64 x46, .int .i64 x47], .bool x48] : Value) ∧ (
 doAl (.cells #[.int .i64 0, .int .i64 0] 38) w50 (fun b51 w52 =>
 doSt ((blk b51).add 0) (.int .i64 x46) w52 (fun w53 =>
 doSt ((blk b51).add 1) (.int .i64 x47) w53 (fun w54 =>
 doCall Try.prog (.func (.func 31) #[] #[]) #[.int .u8 (IntKind.wrap .u8 (1 + (Int.tmod o_1 7))), .pointer x26, .int .i64 key_8] w54 (retS (fun v58 w59 => ∃ (x55 : Int), ∃ (x56 : Int), ∃ (x57 : Bool), v58 = (.tuple #[.agg #[.int .i64 x55, .int .i64 x56], .bool x57] : Value) ∧ (
 doAl (.cells #[.int .i64 0, .int .i64 0] 38) w59 (fun b60 w61 =>
 doSt ((blk b60).add 0) (.int .i64 x55) w61 (fun w62 =>
 doSt ((blk b60).add 1) (.int .i64 x56) w62 (fun w63 =>
 doCall Try.prog (.func (.func 32) #[] #[]) #[.int .u8 (IntKind.wrap .u8 (1 + (Int.tmod o_1 7))), .slice xp15 xn16 xc17, .int .i64 key_8] w63 (retS (fun v67 w68 => ∃ (x64 : Int), ∃ (x65 : Int), ∃ (x66 : Bool), v67 = (.tuple #[.agg #[.int .i64 x64, .int .i64 x65], .bool x66] : Value) ∧ (
 doAl (.cells #[.int .i64 0, .int .i64 0] 38) w68 (fun b69 w70 =>
 doSt ((blk b69).add 0) (.int .i64 x64) w70 (fun w71 =>
 doSt ((blk b69).add 1) (.int .i64 x65) w71 (fun w72 =>
 doCall Try.prog (.func (.func 33) #[] #[]) #[.pointer x26] w72 (retS (fun v76 w77 => ∃ (x73 : Int), ∃ (x74 : Int), ∃ (x75 : Bool), v76 = (.tuple #[.agg #[.int .i64 x73, .int .i64 x74], .bool x75] : Value) ∧ (
 doAl (.cells #[.int .i64 0, .int .i64 0] 38) w77 (fun b78 w79 =>
 doSt ((blk b78).add 0) (.int .i64 x73) w79 (fun w80 =>
 doSt ((blk b78).add 1) (.int .i64 x74) w80 (fun w81 =>
 doCall Try.prog (.func (.func 34) #[] #[]) #[.pointer x26] w81 (retS (fun v85 w86 => ∃ (x82 : Int), ∃ (x83 : Int), ∃ (x84 : Bool), v85 = (.tuple #[.agg #[.int .i64 x82, .int .i64 x83], .bool x84] : Value) ∧ (
 doAl (.cells #[.int .i64 0, .int .i64 0] 38) w86 (fun b87 w88 =>
 doSt ((blk b87).add 0) (.int .i64 x82) w88 (fun w89 =>
 doSt ((blk b87).add 1) (.int .i64 x83) w89 (fun w90 =>
 let K93 : Bool → World → Prop := fun (x91 : Bool) (w92 : World) => 
 ifB x91 (
 R (.returned (.bool false)) w92) (
 let K95 : World → Prop := fun (w94 : World) => 
 doCall Try.prog (.func (.func 35) #[] #[]) #[.int .u8 (IntKind.wrap .u8 (1 + (Int.tmod o_1 7))), .pointer x26, .int .i64 key_8] w94 (retS (fun v99 w100 => ∃ (xp96 : Option Addr), ∃ (xn97 : Nat), ∃ (xc98 : Nat), v99 = (.slice xp96 xn97 xc98 : Value) ∧ (
 let K103 : Bool → World → Prop := fun (x101 : Bool) (w102 : World) => 
 R (.returned (.bool x101)) w102
 doCall Try.prog (.func (.func 36) #[] #[]) #[.slice xp21 xn22 xc23] w100 (retS (fun v105 w106 => ∃ (x104 : Int), v105 = (.int .i64 x104 : Value) ∧ (
 ifB (decide ((((xn97 : Nat) : Int) : Int) ≤ x104)) (
 ifB (decide ((((xn97 : Nat) : Int) : Int) > 0)) (
 doIx xp96 xn97 1 (IntKind.wrap .i64 (((xn97 : Nat) : Int) - 1)) (fun a107 =>
 ∃ (x108 : Int), World.cell? w106 a107 = some (.int .i64 x108) ∧ (
 ifB (x30 == ((x108 : Int) == key_8)) (
 doCall Try.prog (.func (.func 26) #[] #[]) #[] w106 (retS (fun v110 w111 => ∃ (x109 : Bool), v110 = (.bool x109 : Value) ∧ (
 K103 x109 w111)) (fun ch w => Kfn R ch [] w))) (
 R (.returned (.bool false)) w106)))) (
 ifB (x30 == false) (
 doCall Try.prog (.func (.func 26) #[] #[]) #[] w106 (retS (fun v113 w114 => ∃ (x112 : Bool), v113 = (.bool x112 : Value) ∧ (
 K103 x112 w114)) (fun ch w => Kfn R ch [] w))) (
 R (.returned (.bool false)) w106))) (
 R (.returned (.bool false)) w106))) (fun ch w => Kfn R ch [] w)))) (fun ch w => Kfn R ch [] w))
 let K117 : Bool → World → Prop := fun (x115 : Bool) (w116 : World) => 
 ifB x115 (
 R (.returned (.bool false)) w116) (
 K95 w116)
 doDr w92 (fun w119 =>
 ∃ (C118 : World → Prop), C118 w119 ∧ (
 ifB x75 (
 ∃ (x120 : Int), (∀ w, C118 w → World.cell? w ((blk b78).add 0) = some (.int .i64 x120)) ∧ (
 ∃ (x121 : Int), (∀ w, C118 w → World.cell? w ((blk b78).add 1) = some (.int .i64 x121)) ∧ (
 doIx xp15 xn16 2 (0) (fun a122 =>
 ∃ (x123 : Int), (∀ w, C118 w → World.cell? w (a122.add 0) = some (.int .i64 x123)) ∧ (
 ∃ (x124 : Int), (∀ w, C118 w → World.cell? w (a122.add 1) = some (.int .i64 x124)) ∧ (
 ifB (!(((x120 : Int) == x123) && (((x121 : Int) == x124) && true))) (
 R (.returned (.bool false)) w119) (
 ∃ (x125 : Int), (∀ w, C118 w → World.cell? w ((blk b87).add 0) = some (.int .i64 x125)) ∧ (
 ∃ (x126 : Int), (∀ w, C118 w → World.cell? w ((blk b87).add 1) = some (.int .i64 x126)) ∧ (
 doIx xp15 xn16 2 (IntKind.wrap .i64 (((xn16 : Nat) : Int) - 1)) (fun a127 =>
 ∃ (x128 : Int), (∀ w, C118 w → World.cell? w (a127.add 0) = some (.int .i64 x128)) ∧ (
 ∃ (x129 : Int), (∀ w, C118 w → World.cell? w (a127.add 1) = some (.int .i64 x129)) ∧ (
 K117 (!(((x125 : Int) == x128) && (((x126 : Int) == x129) && true))) w119)))))))))))) (
 K95 w119))))
 ifB ((x29 : Int) != x33) (
 R (.returned (.bool false)) w90) (
 ifB (!(x30 == x34)) (
 R (.returned (.bool false)) w90) (
 ∃ (x130 : Int), World.cell? w90 ((blk b42).add 0) = some (.int .i64 x130) ∧ (
 ∃ (x131 : Int), World.cell? w90 ((blk b42).add 1) = some (.int .i64 x131) ∧ (
 ∃ (x132 : Int), World.cell? w90 ((blk b51).add 0) = some (.int .i64 x132) ∧ (
 ∃ (x133 : Int), World.cell? w90 ((blk b51).add 1) = some (.int .i64 x133) ∧ (
 ifB (!(((x130 : Int) == x132) && (((x131 : Int) == x133) && true))) (
 R (.returned (.bool false)) w90) (
 ifB (!(x39 == x48)) (
 R (.returned (.bool false)) w90) (
 ∃ (x134 : Int), World.cell? w90 ((blk b60).add 0) = some (.int .i64 x134) ∧ (
 ∃ (x135 : Int), World.cell? w90 ((blk b60).add 1) = some (.int .i64 x135) ∧ (
 ∃ (x136 : Int), World.cell? w90 ((blk b69).add 0) = some (.int .i64 x136) ∧ (
 ∃ (x137 : Int), World.cell? w90 ((blk b69).add 1) = some (.int .i64 x137) ∧ (
 ifB (!(((x134 : Int) == x136) && (((x135 : Int) == x137) && true))) (
 R (.returned (.bool false)) w90) (
 ifB (!(x57 == x66)) (
 R (.returned (.bool false)) w90) (
 ifB (!(x75 == (decide ((((xn16 : Nat) : Int) : Int) > 0)))) (
 R (.returned (.bool false)) w90) (
 K93 (!(x84 == x75)) w90)))))))))))))))))))) (fun ch w => Kfn R ch [] w))))))) (fun ch w => Kfn R ch [] w))))))) (fun ch w => Kfn R ch [] w))))))) (fun ch w => Kfn R ch [] w))))))) (fun ch w => Kfn R ch [] w))))))) (fun ch w => Kfn R ch [] w)))) (fun ch w => Kfn R ch [] w)))) (fun ch w => Kfn R ch [] w)))) (fun ch w => Kfn R ch [] w)))) (fun ch w => Kfn R ch [] w))))) (fun ch w => Kfn R ch [] w))))
 ifB (decide ((((l_n3 : Nat) : Int) : Int) > 150)) (
 doCall Try.prog (.func (.func 26) #[] #[]) #[] w (retS (fun v139 w140 => ∃ (x138 : Bool), v139 = (.bool x138 : Value) ∧ (
 R (.returned (.bool x138)) w140)) (fun ch w => Kfn R ch [] w))) (
 K11 (decide ((((picks_n6 : Nat) : Int) : Int) > 300)) w)
set_option maxRecDepth 100000 in
theorem sh5_ok (o_1 : Int) (l_p2 : Option Addr) (l_n3 : Nat) (l_c4 : Nat) (picks_p5 : Option Addr) (picks_n6 : Nat) (picks_c7 : Nat) (key_8 : Int) {R : Ending → World → Prop} {w : World} : sh5 o_1 l_p2 l_n3 l_c4 picks_p5 picks_n6 picks_c7 key_8 R w → Calls Try.prog 5 #[.int .u8 o_1, .slice l_p2 l_n3 l_c4, .slice picks_p5 picks_n6 picks_c7, .int .i64 key_8] w R :=
  calls_of_eq (ann := fun _ => []) (fn := Try.f5) (c := bodyOf Try.f5) (args := #[.int .u8 o_1, .slice l_p2 l_n3 l_c4, .slice picks_p5 picks_n6 picks_c7, .int .i64 key_8]) 400 follows_mixed Try.func5 (by kernel_rfl) (by kernel_rfl)
end Go.Proofs.Ytinkkhcffoikmaa
