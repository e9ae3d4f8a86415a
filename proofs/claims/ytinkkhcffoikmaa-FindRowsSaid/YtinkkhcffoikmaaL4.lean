/-
  Printed by a program (gen.py): what the functions of the program do, as formulas; each with the proof that its call is what the formula says.
-/
import Derived.Test.YtinkkhcffoikmaaCd
import Derived.Test.YtinkkhcffoikmaaProg
import Derived.Test.YtinkkhcffoikmaaS1
namespace Go.Proofs.Ytinkkhcffoikmaa
open Go Go.Sh
set_option maxRecDepth 100000 in
/-- joinery/joinerylaw32.RankRows -/
def sh4 (o_1 : Int) (l_p2 : Option Addr) (l_n3 : Nat) (l_c4 : Nat) (picks_p5 : Option Addr) (picks_n6 : Nat) (picks_c7 : Nat) (key_8 : Int) (R : Ending → World → Prop) (w : World) : Prop :=
 let K11 : Bool → World → Prop := fun (x9 : Bool) (w10 : World) => 
 ifB x9 (
 doCall Try.prog (.func (.func 14) #[] #[]) #[] w10 (retS (fun v13 w14 => ∃ (x12 : Bool), v13 = (.bool x12 : Value) ∧ (
 R (.returned (.bool x12)) w14)) (fun ch w => Kfn R ch [] w))) (
 7 ≠ (0 : Int) ∧ (
 doCall Try.prog (.func (.func 23) #[] #[]) #[.int .u8 (IntKind.wrap .u8 (1 + (Int.tmod o_1 7))), .int .u8 2, .slice l_p2 l_n3 l_c4] w10 (retS (fun v19 w20 => ∃ (xp15 : Option Addr), ∃ (xn16 : Nat), ∃ (xc17 : Nat), ∃ (x18 : Int), v19 = (.tuple #[.slice xp15 xn16 xc17, .int .i64 x18] : Value) ∧ (
 ifB ((x18 : Int) != 0) (
 R (.returned (.bool false)) w20) (
 doCall Try.prog (.func (.func 24) #[] #[]) #[.slice xp15 xn16 xc17, .slice picks_p5 picks_n6 picks_c7] w20 (retS (fun v24 w25 => ∃ (xp21 : Option Addr), ∃ (xn22 : Nat), ∃ (xc23 : Nat), v24 = (.slice xp21 xn22 xc23 : Value) ∧ (
 doCall Try.prog (.func (.func 15) #[] #[]) #[.slice xp21 xn22 xc23] w25 (retS (fun v27 w28 => ∃ (x26 : Option Addr), v27 = (.pointer x26 : Value) ∧ (
 doCall Try.prog (.func (.func 17) #[] #[]) #[.int .u8 (IntKind.wrap .u8 (1 + (Int.tmod o_1 7))), .pointer x26, .int .i64 key_8] w28 (retS (fun v31 w32 => ∃ (x29 : Int), ∃ (x30 : Bool), v31 = (.tuple #[.int .i64 x29, .bool x30] : Value) ∧ (
 doCall Try.prog (.func (.func 25) #[] #[]) #[.int .u8 (IntKind.wrap .u8 (1 + (Int.tmod o_1 7))), .slice xp15 xn16 xc17, .int .i64 key_8] w32 (retS (fun v35 w36 => ∃ (x33 : Int), ∃ (x34 : Bool), v35 = (.tuple #[.int .i64 x33, .bool x34] : Value) ∧ (
 let K39 : Bool → World → Prop := fun (x37 : Bool) (w38 : World) => 
 ifB x37 (
 R (.returned (.bool false)) w38) (
 let K41 : World → Prop := fun (w40 : World) => 
 ∃ (I42 : List Value → World → Prop) (μ43 : List Value → World → Nat), I42 [.slice none 0 0, .int .i64 0] w40 ∧ (∀ (places_p46 : Option Addr), ∀ (places_n47 : Nat), ∀ (places_c48 : Nat), ∀ (i_49 : Int), ∀ (_j44 : Nat → Value) (w45 : World), I42 [.slice places_p46 places_n47 places_c48, .int .i64 i_49] w45 → (
 ifB (decide ((i_49 : Int) < ((xn16 : Nat) : Int))) (
 doIx xp15 xn16 2 (i_49) (fun a50 =>
 ∃ (x51 : Int), World.cell? w45 (a50.add 0) = some (.int .i64 x51) ∧ (
 doCall Try.prog (.func (.func 17) #[] #[]) #[.int .u8 (IntKind.wrap .u8 (1 + (Int.tmod o_1 7))), .pointer x26, .int .i64 x51] w45 (retS (fun v54 w55 => ∃ (x52 : Int), ∃ (x53 : Bool), v54 = (.tuple #[.int .i64 x52, .bool x53] : Value) ∧ (
 let K58 : Bool → World → Prop := fun (x56 : Bool) (w57 : World) => 
 ifB x56 (
 R (.returned (.bool false)) w57) (
 doAl (.cells #[.int .i64 i_49] 3) w57 (fun b59 w60 =>
 doGo Try.prog (.builtin .append #[24, 24] 24 #[false, false]) #[.slice places_p46 places_n47 places_c48, .slice (some (blk b59)) 1 1] w60 (retS (fun v64 w65 => ∃ (xp61 : Option Addr), ∃ (xn62 : Nat), ∃ (xc63 : Nat), v64 = (.slice xp61 xn62 xc63 : Value) ∧ (
 I42 [.slice xp61 xn62 xc63, .int .i64 (IntKind.wrap .i64 (i_49 + 1))] w65 ∧ μ43 [.slice xp61 xn62 xc63, .int .i64 (IntKind.wrap .i64 (i_49 + 1))] w65 < μ43 [.slice places_p46 places_n47 places_c48, .int .i64 i_49] w45)) (fun ch w => Kfn R ch [] w))))
 ifB ((x52 : Int) != i_49) (
 R (.returned (.bool false)) w55) (
 K58 (!x53) w55))) (fun ch w => Kfn R ch [] w))))) (
 doCall Try.prog (.func (.func 19) #[] #[]) #[.pointer x26, .slice places_p46 places_n47 places_c48] w45 (retS (fun v70 w71 => ∃ (xp66 : Option Addr), ∃ (xn67 : Nat), ∃ (xc68 : Nat), ∃ (x69 : Int), v70 = (.tuple #[.slice xp66 xn67 xc68, .int .i64 x69] : Value) ∧ (
 doAl (.cells #[.int .i64 ((xn16 : Nat) : Int)] 3) w71 (fun b72 w73 =>
 doGo Try.prog (.builtin .append #[24, 24] 24 #[false, false]) #[.slice places_p46 places_n47 places_c48, .slice (some (blk b72)) 1 1] w73 (retS (fun v77 w78 => ∃ (xp74 : Option Addr), ∃ (xn75 : Nat), ∃ (xc76 : Nat), v77 = (.slice xp74 xn75 xc76 : Value) ∧ (
 doCall Try.prog (.func (.func 19) #[] #[]) #[.pointer x26, .slice xp74 xn75 xc76] w78 (retS (fun v83 w84 => ∃ (xp79 : Option Addr), ∃ (xn80 : Nat), ∃ (xc81 : Nat), ∃ (x82 : Int), v83 = (.tuple #[.slice xp79 xn80 xc81, .int .i64 x82] : Value) ∧ (
 let K87 : Bool → World → Prop := fun (x85 : Bool) (w86 : World) => 
 R (.returned (.bool x85)) w86
 ifB ((x69 : Int) == 0) (
 doCall Try.prog (.func (.func 22) #[] #[]) #[.slice xp66 xn67 xc68, .slice xp15 xn16 xc17] w84 (retS (fun v89 w90 => ∃ (x88 : Bool), v89 = (.bool x88 : Value) ∧ (
 ifB x88 (
 ifB ((x82 : Int) == 320) (
 doCall Try.prog (.func (.func 14) #[] #[]) #[] w90 (retS (fun v92 w93 => ∃ (x91 : Bool), v92 = (.bool x91 : Value) ∧ (
 K87 x91 w93)) (fun ch w => Kfn R ch [] w))) (
 R (.returned (.bool false)) w90)) (
 R (.returned (.bool false)) w90))) (fun ch w => Kfn R ch [] w))) (
 R (.returned (.bool false)) w84))) (fun ch w => Kfn R ch [] w)))) (fun ch w => Kfn R ch [] w))))) (fun ch w => Kfn R ch [] w)))))
 ifB x30 (
 doCall Try.prog (.func (.func 20) #[] #[]) #[.pointer x26, .int .i64 x29] w38 (retS (fun v97 w98 => ∃ (x94 : Int), ∃ (x95 : Int), ∃ (x96 : Int), v97 = (.tuple #[.agg #[.int .i64 x94, .int .i64 x95], .int .i64 x96] : Value) ∧ (
 doAl (.cells #[.int .i64 0, .int .i64 0] 38) w98 (fun b99 w100 =>
 doSt ((blk b99).add 0) (.int .i64 x94) w100 (fun w101 =>
 doSt ((blk b99).add 1) (.int .i64 x95) w101 (fun w102 =>
 let K105 : Bool → World → Prop := fun (x103 : Bool) (w104 : World) => 
 ifB x103 (
 R (.returned (.bool false)) w104) (
 K41 w104)
 ifB ((x96 : Int) != 0) (
 R (.returned (.bool false)) w102) (
 ∃ (x106 : Int), World.cell? w102 ((blk b99).add 0) = some (.int .i64 x106) ∧ (
 K105 ((x106 : Int) != key_8) w102))))))) (fun ch w => Kfn R ch [] w))) (
 K41 w38))
 ifB ((x29 : Int) != x33) (
 R (.returned (.bool false)) w36) (
 K39 (!(x30 == x34)) w36))) (fun ch w => Kfn R ch [] w)))) (fun ch w => Kfn R ch [] w)))) (fun ch w => Kfn R ch [] w)))) (fun ch w => Kfn R ch [] w))))) (fun ch w => Kfn R ch [] w))))
 ifB (decide ((((l_n3 : Nat) : Int) : Int) > 100)) (
 doCall Try.prog (.func (.func 14) #[] #[]) #[] w (retS (fun v108 w109 => ∃ (x107 : Bool), v108 = (.bool x107 : Value) ∧ (
 R (.returned (.bool x107)) w109)) (fun ch w => Kfn R ch [] w))) (
 K11 (decide ((((picks_n6 : Nat) : Int) : Int) > 200)) w)
set_option maxRecDepth 100000 in
theorem sh4_ok (o_1 : Int) (l_p2 : Option Addr) (l_n3 : Nat) (l_c4 : Nat) (picks_p5 : Option Addr) (picks_n6 : Nat) (picks_c7 : Nat) (key_8 : Int) {R : Ending → World → Prop} {w : World} : sh4 o_1 l_p2 l_n3 l_c4 picks_p5 picks_n6 picks_c7 key_8 R w → Calls Try.prog 4 #[.int .u8 o_1, .slice l_p2 l_n3 l_c4, .slice picks_p5 picks_n6 picks_c7, .int .i64 key_8] w R :=
  calls_of_eq (ann := fun i => if i = 0 then [(18, .slice none 0 0), (19, .int .i64 0)] else []) (fn := Try.f4) (c := bodyOf Try.f4) (args := #[.int .u8 o_1, .slice l_p2 l_n3 l_c4, .slice picks_p5 picks_n6 picks_c7, .int .i64 key_8]) 400 follows_mixed Try.func4 (by kernel_rfl) (by kernel_rfl)
end Go.Proofs.Ytinkkhcffoikmaa
