/-
  Printed by a program (gen.py): what the functions of the program do, as formulas; each with the proof that its call is what the formula says.
-/
import Derived.Test.YtinkkhcffoikmaaCd
import Derived.Test.YtinkkhcffoikmaaProg
import Derived.Test.YtinkkhcffoikmaaS1
namespace Go.Proofs.Ytinkkhcffoikmaa
open Go Go.Sh
set_option maxRecDepth 100000 in
/-- joinery/joinerylaw05.RowsetTells -/
def sh11 (o_1 : Int) (p_2 : Int) (a_p3 : Option Addr) (a_n4 : Nat) (a_c5 : Nat) (b_p6 : Option Addr) (b_n7 : Nat) (b_c8 : Nat) (lo_9 : Int) (hi_10 : Int) (R : Ending → World → Prop) (w : World) : Prop :=
 let K13 : Bool → World → Prop := fun (x11 : Bool) (w12 : World) => 
 ifB x11 (
 doCall Try.prog (.func (.func 53) #[] #[]) #[] w12 (retS (fun v15 w16 => ∃ (x14 : Bool), v15 = (.bool x14 : Value) ∧ (
 R (.returned (.bool x14)) w16)) (fun ch w => Kfn R ch [] w))) (
 doCall Try.prog (.func (.func 42) #[] #[]) #[.slice a_p3 a_n4 a_c5] w12 (retS (fun v20 w21 => ∃ (xp17 : Option Addr), ∃ (xn18 : Nat), ∃ (xc19 : Nat), v20 = (.slice xp17 xn18 xc19 : Value) ∧ (
 doCall Try.prog (.func (.func 42) #[] #[]) #[.slice b_p6 b_n7 b_c8] w21 (retS (fun v25 w26 => ∃ (xp22 : Option Addr), ∃ (xn23 : Nat), ∃ (xc24 : Nat), v25 = (.slice xp22 xn23 xc24 : Value) ∧ (
 doCall Try.prog (.func (.func 59) #[] #[]) #[.int .u8 o_1, .int .u8 p_2, .slice xp17 xn18 xc19] w26 (retS (fun v31 w32 => ∃ (xp27 : Option Addr), ∃ (xn28 : Nat), ∃ (xc29 : Nat), ∃ (x30 : Int), v31 = (.tuple #[.slice xp27 xn28 xc29, .int .i64 x30] : Value) ∧ (
 doCall Try.prog (.func (.func 23) #[] #[]) #[.int .u8 o_1, .int .u8 p_2, .slice a_p3 a_n4 a_c5] w32 (retS (fun v37 w38 => ∃ (xp33 : Option Addr), ∃ (xn34 : Nat), ∃ (xc35 : Nat), ∃ (x36 : Int), v37 = (.tuple #[.slice xp33 xn34 xc35, .int .i64 x36] : Value) ∧ (
 let K41 : Bool → World → Prop := fun (x39 : Bool) (w40 : World) => 
 ifB x39 (
 R (.returned (.bool false)) w40) (
 doCall Try.prog (.func (.func 55) #[] #[]) #[.int .u8 o_1, .int .u8 p_2, .slice xp17 xn18 xc19, .slice xp22 xn23 xc24] w40 (retS (fun v46 w47 => ∃ (xp42 : Option Addr), ∃ (xn43 : Nat), ∃ (xc44 : Nat), ∃ (x45 : Int), v46 = (.tuple #[.slice xp42 xn43 xc44, .int .i64 x45] : Value) ∧ (
 doCall Try.prog (.func (.func 60) #[] #[]) #[.int .u8 o_1, .int .u8 p_2, .slice a_p3 a_n4 a_c5, .slice b_p6 b_n7 b_c8] w47 (retS (fun v52 w53 => ∃ (xp48 : Option Addr), ∃ (xn49 : Nat), ∃ (xc50 : Nat), ∃ (x51 : Int), v52 = (.tuple #[.slice xp48 xn49 xc50, .int .i64 x51] : Value) ∧ (
 let K56 : Bool → World → Prop := fun (x54 : Bool) (w55 : World) => 
 ifB x54 (
 R (.returned (.bool false)) w55) (
 doCall Try.prog (.func (.func 56) #[] #[]) #[.int .u8 o_1, .int .u8 p_2, .slice xp17 xn18 xc19, .slice xp22 xn23 xc24] w55 (retS (fun v61 w62 => ∃ (xp57 : Option Addr), ∃ (xn58 : Nat), ∃ (xc59 : Nat), ∃ (x60 : Int), v61 = (.tuple #[.slice xp57 xn58 xc59, .int .i64 x60] : Value) ∧ (
 doCall Try.prog (.func (.func 61) #[] #[]) #[.int .u8 o_1, .int .u8 p_2, .slice a_p3 a_n4 a_c5, .slice b_p6 b_n7 b_c8] w62 (retS (fun v67 w68 => ∃ (xp63 : Option Addr), ∃ (xn64 : Nat), ∃ (xc65 : Nat), ∃ (x66 : Int), v67 = (.tuple #[.slice xp63 xn64 xc65, .int .i64 x66] : Value) ∧ (
 let K71 : Bool → World → Prop := fun (x69 : Bool) (w70 : World) => 
 ifB x69 (
 R (.returned (.bool false)) w70) (
 doCall Try.prog (.func (.func 57) #[] #[]) #[.int .u8 o_1, .slice xp17 xn18 xc19, .slice xp22 xn23 xc24] w70 (retS (fun v76 w77 => ∃ (xp72 : Option Addr), ∃ (xn73 : Nat), ∃ (xc74 : Nat), ∃ (x75 : Int), v76 = (.tuple #[.slice xp72 xn73 xc74, .int .i64 x75] : Value) ∧ (
 doCall Try.prog (.func (.func 62) #[] #[]) #[.int .u8 o_1, .slice a_p3 a_n4 a_c5, .slice b_p6 b_n7 b_c8] w77 (retS (fun v82 w83 => ∃ (xp78 : Option Addr), ∃ (xn79 : Nat), ∃ (xc80 : Nat), ∃ (x81 : Int), v82 = (.tuple #[.slice xp78 xn79 xc80, .int .i64 x81] : Value) ∧ (
 let K86 : Bool → World → Prop := fun (x84 : Bool) (w85 : World) => 
 ifB x84 (
 R (.returned (.bool false)) w85) (
 doCall Try.prog (.func (.func 58) #[] #[]) #[.int .u8 o_1, .slice xp17 xn18 xc19, .slice xp22 xn23 xc24] w85 (retS (fun v91 w92 => ∃ (xp87 : Option Addr), ∃ (xn88 : Nat), ∃ (xc89 : Nat), ∃ (x90 : Int), v91 = (.tuple #[.slice xp87 xn88 xc89, .int .i64 x90] : Value) ∧ (
 doCall Try.prog (.func (.func 63) #[] #[]) #[.int .u8 o_1, .slice a_p3 a_n4 a_c5, .slice b_p6 b_n7 b_c8] w92 (retS (fun v97 w98 => ∃ (xp93 : Option Addr), ∃ (xn94 : Nat), ∃ (xc95 : Nat), ∃ (x96 : Int), v97 = (.tuple #[.slice xp93 xn94 xc95, .int .i64 x96] : Value) ∧ (
 let K101 : Bool → World → Prop := fun (x99 : Bool) (w100 : World) => 
 ifB x99 (
 R (.returned (.bool false)) w100) (
 doCall Try.prog (.func (.func 64) #[] #[]) #[.int .u8 o_1, .slice xp17 xn18 xc19, .int .i64 lo_9, .int .i64 hi_10] w100 (retS (fun v106 w107 => ∃ (xp102 : Option Addr), ∃ (xn103 : Nat), ∃ (xc104 : Nat), ∃ (x105 : Int), v106 = (.tuple #[.slice xp102 xn103 xc104, .int .i64 x105] : Value) ∧ (
 doCall Try.prog (.func (.func 65) #[] #[]) #[.int .u8 o_1, .slice a_p3 a_n4 a_c5, .int .i64 lo_9, .int .i64 hi_10] w107 (retS (fun v112 w113 => ∃ (xp108 : Option Addr), ∃ (xn109 : Nat), ∃ (xc110 : Nat), ∃ (x111 : Int), v112 = (.tuple #[.slice xp108 xn109 xc110, .int .i64 x111] : Value) ∧ (
 doCall Try.prog (.func (.func 66) #[] #[]) #[.int .u8 o_1, .slice xp17 xn18 xc19, .int .i64 lo_9] w113 (retS (fun v122 w123 => ∃ (xp114 : Option Addr), ∃ (xn115 : Nat), ∃ (xc116 : Nat), ∃ (x117 : Int), ∃ (x118 : Bool), ∃ (xp119 : Option Addr), ∃ (xn120 : Nat), ∃ (xc121 : Nat), v122 = (.tuple #[.slice xp114 xn115 xc116, .int .i64 x117, .bool x118, .slice xp119 xn120 xc121] : Value) ∧ (
 doCall Try.prog (.func (.func 67) #[] #[]) #[.int .u8 o_1, .slice a_p3 a_n4 a_c5, .int .i64 lo_9] w123 (retS (fun v132 w133 => ∃ (xp124 : Option Addr), ∃ (xn125 : Nat), ∃ (xc126 : Nat), ∃ (x127 : Int), ∃ (x128 : Bool), ∃ (xp129 : Option Addr), ∃ (xn130 : Nat), ∃ (xc131 : Nat), v132 = (.tuple #[.slice xp124 xn125 xc126, .int .i64 x127, .bool x128, .slice xp129 xn130 xc131] : Value) ∧ (
 let K136 : Bool → World → Prop := fun (x134 : Bool) (w135 : World) => 
 R (.returned (.bool x134)) w135
 doCall Try.prog (.func (.func 50) #[] #[]) #[.slice xp102 xn103 xc104, .slice xp108 xn109 xc110] w133 (retS (fun v138 w139 => ∃ (x137 : Bool), v138 = (.bool x137 : Value) ∧ (
 ifB x137 (
 ifB ((x105 : Int) == x111) (
 doCall Try.prog (.func (.func 50) #[] #[]) #[.slice xp114 xn115 xc116, .slice xp124 xn125 xc126] w139 (retS (fun v141 w142 => ∃ (x140 : Bool), v141 = (.bool x140 : Value) ∧ (
 ifB x140 (
 ifB ((x117 : Int) == x127) (
 ifB (x118 == x128) (
 doCall Try.prog (.func (.func 50) #[] #[]) #[.slice xp119 xn120 xc121, .slice xp129 xn130 xc131] w142 (retS (fun v144 w145 => ∃ (x143 : Bool), v144 = (.bool x143 : Value) ∧ (
 ifB x143 (
 doCall Try.prog (.func (.func 50) #[] #[]) #[.slice xp17 xn18 xc19, .slice a_p3 a_n4 a_c5] w145 (retS (fun v147 w148 => ∃ (x146 : Bool), v147 = (.bool x146 : Value) ∧ (
 ifB x146 (
 doCall Try.prog (.func (.func 50) #[] #[]) #[.slice xp22 xn23 xc24, .slice b_p6 b_n7 b_c8] w148 (retS (fun v150 w151 => ∃ (x149 : Bool), v150 = (.bool x149 : Value) ∧ (
 ifB x149 (
 doCall Try.prog (.func (.func 53) #[] #[]) #[] w151 (retS (fun v153 w154 => ∃ (x152 : Bool), v153 = (.bool x152 : Value) ∧ (
 K136 x152 w154)) (fun ch w => Kfn R ch [] w))) (
 R (.returned (.bool false)) w151))) (fun ch w => Kfn R ch [] w))) (
 R (.returned (.bool false)) w148))) (fun ch w => Kfn R ch [] w))) (
 R (.returned (.bool false)) w145))) (fun ch w => Kfn R ch [] w))) (
 R (.returned (.bool false)) w142)) (
 R (.returned (.bool false)) w142)) (
 R (.returned (.bool false)) w142))) (fun ch w => Kfn R ch [] w))) (
 R (.returned (.bool false)) w139)) (
 R (.returned (.bool false)) w139))) (fun ch w => Kfn R ch [] w)))) (fun ch w => Kfn R ch [] w)))) (fun ch w => Kfn R ch [] w)))) (fun ch w => Kfn R ch [] w)))) (fun ch w => Kfn R ch [] w)))
 doCall Try.prog (.func (.func 50) #[] #[]) #[.slice xp87 xn88 xc89, .slice xp93 xn94 xc95] w98 (retS (fun v156 w157 => ∃ (x155 : Bool), v156 = (.bool x155 : Value) ∧ (
 ifB (!x155) (
 R (.returned (.bool false)) w157) (
 K101 ((x90 : Int) != x96) w157))) (fun ch w => Kfn R ch [] w)))) (fun ch w => Kfn R ch [] w)))) (fun ch w => Kfn R ch [] w)))
 doCall Try.prog (.func (.func 50) #[] #[]) #[.slice xp72 xn73 xc74, .slice xp78 xn79 xc80] w83 (retS (fun v159 w160 => ∃ (x158 : Bool), v159 = (.bool x158 : Value) ∧ (
 ifB (!x158) (
 R (.returned (.bool false)) w160) (
 K86 ((x75 : Int) != x81) w160))) (fun ch w => Kfn R ch [] w)))) (fun ch w => Kfn R ch [] w)))) (fun ch w => Kfn R ch [] w)))
 doCall Try.prog (.func (.func 50) #[] #[]) #[.slice xp57 xn58 xc59, .slice xp63 xn64 xc65] w68 (retS (fun v162 w163 => ∃ (x161 : Bool), v162 = (.bool x161 : Value) ∧ (
 ifB (!x161) (
 R (.returned (.bool false)) w163) (
 K71 ((x60 : Int) != x66) w163))) (fun ch w => Kfn R ch [] w)))) (fun ch w => Kfn R ch [] w)))) (fun ch w => Kfn R ch [] w)))
 doCall Try.prog (.func (.func 50) #[] #[]) #[.slice xp42 xn43 xc44, .slice xp48 xn49 xc50] w53 (retS (fun v165 w166 => ∃ (x164 : Bool), v165 = (.bool x164 : Value) ∧ (
 ifB (!x164) (
 R (.returned (.bool false)) w166) (
 K56 ((x45 : Int) != x51) w166))) (fun ch w => Kfn R ch [] w)))) (fun ch w => Kfn R ch [] w)))) (fun ch w => Kfn R ch [] w)))
 doCall Try.prog (.func (.func 50) #[] #[]) #[.slice xp27 xn28 xc29, .slice xp33 xn34 xc35] w38 (retS (fun v168 w169 => ∃ (x167 : Bool), v168 = (.bool x167 : Value) ∧ (
 ifB (!x167) (
 R (.returned (.bool false)) w169) (
 K41 ((x30 : Int) != x36) w169))) (fun ch w => Kfn R ch [] w)))) (fun ch w => Kfn R ch [] w)))) (fun ch w => Kfn R ch [] w)))) (fun ch w => Kfn R ch [] w)))) (fun ch w => Kfn R ch [] w)))
 ifB (decide ((((a_n4 : Nat) : Int) : Int) > 150)) (
 doCall Try.prog (.func (.func 53) #[] #[]) #[] w (retS (fun v171 w172 => ∃ (x170 : Bool), v171 = (.bool x170 : Value) ∧ (
 R (.returned (.bool x170)) w172)) (fun ch w => Kfn R ch [] w))) (
 K13 (decide ((((b_n7 : Nat) : Int) : Int) > 150)) w)
set_option maxRecDepth 100000 in
theorem sh11_ok (o_1 : Int) (p_2 : Int) (a_p3 : Option Addr) (a_n4 : Nat) (a_c5 : Nat) (b_p6 : Option Addr) (b_n7 : Nat) (b_c8 : Nat) (lo_9 : Int) (hi_10 : Int) {R : Ending → World → Prop} {w : World} : sh11 o_1 p_2 a_p3 a_n4 a_c5 b_p6 b_n7 b_c8 lo_9 hi_10 R w → Calls Try.prog 11 #[.int .u8 o_1, .int .u8 p_2, .slice a_p3 a_n4 a_c5, .slice b_p6 b_n7 b_c8, .int .i64 lo_9, .int .i64 hi_10] w R :=
  calls_of_eq (ann := fun _ => []) (fn := Try.f11) (c := bodyOf Try.f11) (args := #[.int .u8 o_1, .int .u8 p_2, .slice a_p3 a_n4 a_c5, .slice b_p6 b_n7 b_c8, .int .i64 lo_9, .int .i64 hi_10]) 400 follows_mixed Try.func11 (by kernel_rfl) (by kernel_rfl)
end Go.Proofs.Ytinkkhcffoikmaa
