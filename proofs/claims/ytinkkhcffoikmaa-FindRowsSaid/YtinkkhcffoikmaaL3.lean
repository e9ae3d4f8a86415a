/-
  Printed by a program (gen.py): what the functions of the program do, as formulas; each with the proof that its call is what the formula says.
-/
import Derived.Test.YtinkkhcffoikmaaCd
import Derived.Test.YtinkkhcffoikmaaProg
import Derived.Test.YtinkkhcffoikmaaS1
namespace Go.Proofs.Ytinkkhcffoikmaa
open Go Go.Sh
set_option maxRecDepth 100000 in
/-- joinery/joinerylaw32.RankTells -/
def sh3 (l_p1 : Option Addr) (l_n2 : Nat) (l_c3 : Nat) (o_4 : Int) (keys_p5 : Option Addr) (keys_n6 : Nat) (keys_c7 : Nat) (places_p8 : Option Addr) (places_n9 : Nat) (places_c10 : Nat) (R : Ending → World → Prop) (w : World) : Prop :=
 let K13 : Bool → World → Prop := fun (x11 : Bool) (w12 : World) => 
 ifB x11 (
 doCall Try.prog (.func (.func 14) #[] #[]) #[] w12 (retS (fun v15 w16 => ∃ (x14 : Bool), v15 = (.bool x14 : Value) ∧ (
 R (.returned (.bool x14)) w16)) (fun ch w => Kfn R ch [] w))) (
 doCall Try.prog (.func (.func 15) #[] #[]) #[.slice l_p1 l_n2 l_c3] w12 (retS (fun v18 w19 => ∃ (x17 : Option Addr), v18 = (.pointer x17 : Value) ∧ (
 doCall Try.prog (.func (.func 16) #[] #[]) #[.int .u8 o_4, .pointer x17, .slice keys_p5 keys_n6 keys_c7] w19 (retS (fun v23 w24 => ∃ (xp20 : Option Addr), ∃ (xn21 : Nat), ∃ (xc22 : Nat), v23 = (.slice xp20 xn21 xc22 : Value) ∧ (
 ifB ((((xn21 : Nat) : Int) : Int) != ((keys_n6 : Nat) : Int)) (
 R (.returned (.bool false)) w24) (
 ∃ (I25 : List Value → World → Prop) (μ26 : List Value → World → Nat), I25 [.int .i64 0] w24 ∧ (∀ (i_29 : Int), ∀ (_j27 : Nat → Value) (w28 : World), I25 [.int .i64 i_29] w28 → (
 ifB (decide ((i_29 : Int) < ((keys_n6 : Nat) : Int))) (
 doIx keys_p5 keys_n6 1 (i_29) (fun a30 =>
 ∃ (x31 : Int), World.cell? w28 a30 = some (.int .i64 x31) ∧ (
 doCall Try.prog (.func (.func 17) #[] #[]) #[.int .u8 o_4, .pointer x17, .int .i64 x31] w28 (retS (fun v34 w35 => ∃ (x32 : Int), ∃ (x33 : Bool), v34 = (.tuple #[.int .i64 x32, .bool x33] : Value) ∧ (
 doIx keys_p5 keys_n6 1 (i_29) (fun a36 =>
 ∃ (x37 : Int), World.cell? w35 a36 = some (.int .i64 x37) ∧ (
 doCall Try.prog (.func (.func 18) #[] #[]) #[.int .u8 o_4, .slice l_p1 l_n2 l_c3, .int .i64 x37] w35 (retS (fun v40 w41 => ∃ (x38 : Int), ∃ (x39 : Bool), v40 = (.tuple #[.int .i64 x38, .bool x39] : Value) ∧ (
 let K44 : Bool → World → Prop := fun (x42 : Bool) (w43 : World) => 
 ifB x42 (
 R (.returned (.bool false)) w43) (
 I25 [.int .i64 (IntKind.wrap .i64 (i_29 + 1))] w43 ∧ μ26 [.int .i64 (IntKind.wrap .i64 (i_29 + 1))] w43 < μ26 [.int .i64 i_29] w28)
 ifB ((x32 : Int) != x38) (
 R (.returned (.bool false)) w41) (
 ifB (!(x33 == x39)) (
 R (.returned (.bool false)) w41) (
 doIx xp20 xn21 1 (i_29) (fun a45 =>
 ∃ (x46 : Int), World.cell? w41 a45 = some (.int .i64 x46) ∧ (
 K44 ((x46 : Int) != x38) w41)))))) (fun ch w => Kfn R ch [] w)))))) (fun ch w => Kfn R ch [] w))))) (
 doCall Try.prog (.func (.func 19) #[] #[]) #[.pointer x17, .slice places_p8 places_n9 places_c10] w28 (retS (fun v51 w52 => ∃ (xp47 : Option Addr), ∃ (xn48 : Nat), ∃ (xc49 : Nat), ∃ (x50 : Int), v51 = (.tuple #[.slice xp47 xn48 xc49, .int .i64 x50] : Value) ∧ (
 ∃ (I53 : List Value → World → Prop) (μ54 : List Value → World → Nat), I53 [.int .i64 0, .slice none 0 0, .int .i64 0] w52 ∧ (∀ (first_57 : Int), ∀ (want_p58 : Option Addr), ∀ (want_n59 : Nat), ∀ (want_c60 : Nat), ∀ (i_61 : Int), ∀ (_j55 : Nat → Value) (w56 : World), I53 [.int .i64 first_57, .slice want_p58 want_n59 want_c60, .int .i64 i_61] w56 → (
 ifB (decide ((i_61 : Int) < ((places_n9 : Nat) : Int))) (
 doIx places_p8 places_n9 1 (i_61) (fun a62 =>
 ∃ (x63 : Int), World.cell? w56 a62 = some (.int .i64 x63) ∧ (
 doCall Try.prog (.func (.func 20) #[] #[]) #[.pointer x17, .int .i64 x63] w56 (retS (fun v67 w68 => ∃ (x64 : Int), ∃ (x65 : Int), ∃ (x66 : Int), v67 = (.tuple #[.agg #[.int .i64 x64, .int .i64 x65], .int .i64 x66] : Value) ∧ (
 doAl (.cells #[.int .i64 0, .int .i64 0] 38) w68 (fun b69 w70 =>
 doSt ((blk b69).add 0) (.int .i64 x64) w70 (fun w71 =>
 doSt ((blk b69).add 1) (.int .i64 x65) w71 (fun w72 =>
 doIx places_p8 places_n9 1 (i_61) (fun a73 =>
 ∃ (x74 : Int), World.cell? w72 a73 = some (.int .i64 x74) ∧ (
 doCall Try.prog (.func (.func 21) #[] #[]) #[.slice l_p1 l_n2 l_c3, .int .i64 x74] w72 (retS (fun v78 w79 => ∃ (x75 : Int), ∃ (x76 : Int), ∃ (x77 : Int), v78 = (.tuple #[.agg #[.int .i64 x75, .int .i64 x76], .int .i64 x77] : Value) ∧ (
 doAl (.cells #[.int .i64 0, .int .i64 0] 38) w79 (fun b80 w81 =>
 doSt ((blk b80).add 0) (.int .i64 x75) w81 (fun w82 =>
 doSt ((blk b80).add 1) (.int .i64 x76) w82 (fun w83 =>
 let K86 : Bool → World → Prop := fun (x84 : Bool) (w85 : World) => 
 ifB x84 (
 R (.returned (.bool false)) w85) (
 let K89 : Int → World → Prop := fun (first_87 : Int) (w88 : World) => 
 ∃ (x90 : Int), World.cell? w88 ((blk b80).add 0) = some (.int .i64 x90) ∧ (
 ∃ (x91 : Int), World.cell? w88 ((blk b80).add 1) = some (.int .i64 x91) ∧ (
 doAl (.cells #[.int .i64 x90, .int .i64 x91] 38) w88 (fun b92 w93 =>
 doGo Try.prog (.builtin .append #[33, 33] 33 #[false, false]) #[.slice want_p58 want_n59 want_c60, .slice (some (blk b92)) 1 1] w93 (retS (fun v97 w98 => ∃ (xp94 : Option Addr), ∃ (xn95 : Nat), ∃ (xc96 : Nat), v97 = (.slice xp94 xn95 xc96 : Value) ∧ (
 I53 [.int .i64 first_87, .slice xp94 xn95 xc96, .int .i64 (IntKind.wrap .i64 (i_61 + 1))] w98 ∧ μ54 [.int .i64 first_87, .slice xp94 xn95 xc96, .int .i64 (IntKind.wrap .i64 (i_61 + 1))] w98 < μ54 [.int .i64 first_57, .slice want_p58 want_n59 want_c60, .int .i64 i_61] w56)) (fun ch w => Kfn R ch [] w)))))
 ifB ((first_57 : Int) == 0) (
 K89 x77 w85) (
 K89 first_57 w85))
 ∃ (x99 : Int), World.cell? w83 ((blk b69).add 0) = some (.int .i64 x99) ∧ (
 ∃ (x100 : Int), World.cell? w83 ((blk b69).add 1) = some (.int .i64 x100) ∧ (
 ∃ (x101 : Int), World.cell? w83 ((blk b80).add 0) = some (.int .i64 x101) ∧ (
 ∃ (x102 : Int), World.cell? w83 ((blk b80).add 1) = some (.int .i64 x102) ∧ (
 ifB (!(((x99 : Int) == x101) && (((x100 : Int) == x102) && true))) (
 R (.returned (.bool false)) w83) (
 K86 ((x66 : Int) != x77) w83)))))))))) (fun ch w => Kfn R ch [] w))))))))) (fun ch w => Kfn R ch [] w))))) (
 let K107 : (Option Addr) → Nat → Nat → World → Prop := fun (want_p103 : Option Addr) (want_n104 : Nat) (want_c105 : Nat) (w106 : World) => 
 let K110 : Bool → World → Prop := fun (x108 : Bool) (w109 : World) => 
 R (.returned (.bool x108)) w109
 ifB ((x50 : Int) == first_57) (
 doCall Try.prog (.func (.func 22) #[] #[]) #[.slice xp47 xn48 xc49, .slice want_p103 want_n104 want_c105] w106 (retS (fun v112 w113 => ∃ (x111 : Bool), v112 = (.bool x111 : Value) ∧ (
 ifB x111 (
 doCall Try.prog (.func (.func 14) #[] #[]) #[] w113 (retS (fun v115 w116 => ∃ (x114 : Bool), v115 = (.bool x114 : Value) ∧ (
 K110 x114 w116)) (fun ch w => Kfn R ch [] w))) (
 R (.returned (.bool false)) w113))) (fun ch w => Kfn R ch [] w))) (
 R (.returned (.bool false)) w106)
 ifB ((first_57 : Int) != 0) (
 K107 none 0 0 w56) (
 K107 want_p58 want_n59 want_c60 w56)))))) (fun ch w => Kfn R ch [] w)))))))) (fun ch w => Kfn R ch [] w)))) (fun ch w => Kfn R ch [] w)))
 doCall Try.prog (.func (.func 13) #[] #[]) #[.slice l_p1 l_n2 l_c3] w (retS (fun v118 w119 => ∃ (x117 : Bool), v118 = (.bool x117 : Value) ∧ (
 ifB x117 (
 doCall Try.prog (.func (.func 14) #[] #[]) #[] w119 (retS (fun v121 w122 => ∃ (x120 : Bool), v121 = (.bool x120 : Value) ∧ (
 R (.returned (.bool x120)) w122)) (fun ch w => Kfn R ch [] w))) (
 ifB (decide ((((keys_n6 : Nat) : Int) : Int) > 50)) (
 doCall Try.prog (.func (.func 14) #[] #[]) #[] w119 (retS (fun v124 w125 => ∃ (x123 : Bool), v124 = (.bool x123 : Value) ∧ (
 R (.returned (.bool x123)) w125)) (fun ch w => Kfn R ch [] w))) (
 K13 (decide ((((places_n9 : Nat) : Int) : Int) > 50)) w119)))) (fun ch w => Kfn R ch [] w))
set_option maxRecDepth 100000 in
theorem sh3_ok (l_p1 : Option Addr) (l_n2 : Nat) (l_c3 : Nat) (o_4 : Int) (keys_p5 : Option Addr) (keys_n6 : Nat) (keys_c7 : Nat) (places_p8 : Option Addr) (places_n9 : Nat) (places_c10 : Nat) {R : Ending → World → Prop} {w : World} : sh3 l_p1 l_n2 l_c3 o_4 keys_p5 keys_n6 keys_c7 places_p8 places_n9 places_c10 R w → Calls Try.prog 3 #[.slice l_p1 l_n2 l_c3, .int .u8 o_4, .slice keys_p5 keys_n6 keys_c7, .slice places_p8 places_n9 places_c10] w R :=
  calls_of_eq (ann := fun i => if i = 2 then [(18, .int .i64 0), (19, .slice none 0 0), (20, .int .i64 0)] else if i = 0 then [(11, .int .i64 0)] else []) (fn := Try.f3) (c := bodyOf Try.f3) (args := #[.slice l_p1 l_n2 l_c3, .int .u8 o_4, .slice keys_p5 keys_n6 keys_c7, .slice places_p8 places_n9 places_c10]) 400 follows_mixed Try.func3 (by kernel_rfl) (by kernel_rfl)
end Go.Proofs.Ytinkkhcffoikmaa
