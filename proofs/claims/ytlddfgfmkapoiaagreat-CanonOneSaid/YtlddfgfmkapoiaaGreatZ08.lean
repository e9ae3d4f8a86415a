/-
  Printed by a program (gen.py): what the functions of the program do, as formulas; each with the proof that its call is what the formula says.
-/
import Derived.Test.YtlddfgfmkapoiaaGreatZ02
import Derived.Test.YtlddfgfmkapoiaaGreatProg
import Derived.Test.YtlddfgfmkapoiaaGreatZ04

namespace Go.Proofs.YtlddfgfmkapoiaaGreat
open Go Go.Sh
set_option maxRecDepth 100000 in
/-- (*joinery/node.Node).Tag -/
def sh196 (n_1 : Option Addr) (R : Ending → World → Prop) (w : World) : Prop :=
 doCall Tryz.prog (.func (.func 166) #[] #[]) #[.pointer n_1] w (retS (fun v7 w8 => ∃ (x2 : Int), ∃ (x3 : Int), ∃ (x4 : Int), ∃ (x5 : Int), ∃ (x6 : Int), v7 = (.agg #[.int .i64 x2, .int .i64 x3, .int .i64 x4, .int .u64 x5, .int .i64 x6] : Value) ∧ (
 R (.returned (.int .u64 x5)) w8)) (fun ch w => Kfn R ch [] w))
set_option maxRecDepth 100000 in
theorem sh196_ok (n_1 : Option Addr) {R : Ending → World → Prop} {w : World} : sh196 n_1 R w → Calls Tryz.prog 196 #[.pointer n_1] w R :=
  calls_of_eq (ann := fun _ => []) (fn := Tryz.f196) (c := bodyOf Tryz.f196) (args := #[.pointer n_1]) 400 follows_mixed Tryz.func196 (by kernel_rfl) (by kernel_rfl)
set_option maxRecDepth 100000 in
/-- joinery/mix.steps -/
def sh197 (back_1 : Bool) (R : Ending → World → Prop) (w : World) : Prop :=
 doAl (.cells #[.bool back_1] 4) w (fun b2 w3 =>
 doCall Tryz.prog (.func (.func 254) #[] #[]) #[] w3 (retS (fun v10 w11 => ∃ (x4 : Int), ∃ (x5 : Int), ∃ (x6 : Int), ∃ (x7 : Int), ∃ (x8 : Int), ∃ (x9 : Int), v10 = (.agg #[.int .i64 x4, .int .u64 x5, .int .i64 x6, .int .u64 x7, .int .i64 x8, .int .u64 x9] : Value) ∧ (
 doAl (.cells #[.int .i64 0, .int .u64 0, .int .i64 0, .int .u64 0, .int .i64 0, .int .u64 0] 320) w11 (fun b12 w13 =>
 doSt ((blk b12).add 0) (.int .i64 x4) w13 (fun w14 =>
 doSt ((blk b12).add 1) (.int .u64 x5) w14 (fun w15 =>
 doSt ((blk b12).add 2) (.int .i64 x6) w15 (fun w16 =>
 doSt ((blk b12).add 3) (.int .u64 x7) w16 (fun w17 =>
 doSt ((blk b12).add 4) (.int .i64 x8) w17 (fun w18 =>
 doSt ((blk b12).add 5) (.int .u64 x9) w18 (fun w19 =>
 R (.returned (.func (.func 255) #[] #[.pointer (some (blk b2)), .pointer (some (blk b12))])) w19))))))))) (fun ch w => Kfn R ch [] w)))
set_option maxRecDepth 100000 in
theorem sh197_ok (back_1 : Bool) {R : Ending → World → Prop} {w : World} : sh197 back_1 R w → Calls Tryz.prog 197 #[.bool back_1] w R :=
  calls_of_eq (ann := fun _ => []) (fn := Tryz.f197) (c := bodyOf Tryz.f197) (args := #[.bool back_1]) 400 follows_mixed Tryz.func197 (by kernel_rfl) (by kernel_rfl)
set_option maxRecDepth 100000 in
/-- math/bits.RotateLeft64 -/
def sh198 (x_1 : Int) (k_2 : Int) (R : Ending → World → Prop) (w : World) : Prop :=
 (0 : Int) ≤ (bAnd .u64 (IntKind.wrap .u64 k_2) 63) ∧ (
 (0 : Int) ≤ (IntKind.wrap .u64 (64 - (bAnd .u64 (IntKind.wrap .u64 k_2) 63))) ∧ (
 R (.returned (.int .u64 (bOr .u64 (IntKind.wrap .u64 (x_1 * 2 ^ (min ((bAnd .u64 (IntKind.wrap .u64 k_2) 63) : Int).toNat (IntKind.bits .u64)))) (Int.fdiv x_1 (2 ^ (min ((IntKind.wrap .u64 (64 - (bAnd .u64 (IntKind.wrap .u64 k_2) 63))) : Int).toNat (IntKind.bits .u64))))))) w))
set_option maxRecDepth 100000 in
theorem sh198_ok (x_1 : Int) (k_2 : Int) {R : Ending → World → Prop} {w : World} : sh198 x_1 k_2 R w → Calls Tryz.prog 198 #[.int .u64 x_1, .int .i64 k_2] w R :=
  calls_of_eq (ann := fun _ => []) (fn := Tryz.f198) (c := bodyOf Tryz.f198) (args := #[.int .u64 x_1, .int .i64 k_2]) 400 follows_mixed Tryz.func198 (by kernel_rfl) (by kernel_rfl)
set_option maxRecDepth 100000 in
/-- joinery/canon.unlike$1 -/
def sh201 (yield_f1 : Fn) (yield_x2 : Array Value) (yield_c3 : Array Value) (x4 : Addr) (x5 : Addr) (x6 : Addr) (x7 : Addr) (R : Ending → World → Prop) (w : World) : Prop :=
 doAl (.cells #[.func yield_f1 yield_x2 yield_c3] 103) w (fun b8 w9 =>
 doAl (.cells #[.nilFunc] 74) w9 (fun b10 w11 =>
 doSt ((blk b10).add 0) (.func (.func 202) #[] #[.pointer (some (blk b10)), .pointer (some (blk b8)), .pointer (some x4), .pointer (some x5)]) w11 (fun w12 =>
 ∃ (xf13 : Fn), ∃ (xx14 : Array Value), ∃ (xc15 : Array Value), World.cell? w12 (blk b10) = some (.func xf13 xx14 xc15) ∧ (
 ∃ (x16 : Option Addr), World.cell? w12 x6 = some (.pointer x16) ∧ (
 ∃ (x17 : Option Addr), World.cell? w12 x7 = some (.pointer x17) ∧ (
 doCall Tryz.prog (.func xf13 xx14 xc15) #[.pointer x16, .pointer x17] w12 (retS (fun v19 w20 => ∃ (x18 : Bool), v19 = (.bool x18 : Value) ∧ (
 R (.returned (.tuple #[])) w20)) (fun ch w => Kfn R ch [] w))))))))
set_option maxRecDepth 100000 in
theorem sh201_ok (yield_f1 : Fn) (yield_x2 : Array Value) (yield_c3 : Array Value) (x4 : Addr) (x5 : Addr) (x6 : Addr) (x7 : Addr) {R : Ending → World → Prop} {w : World} : sh201 yield_f1 yield_x2 yield_c3 x4 x5 x6 x7 R w → Calls Tryz.prog 201 #[.func yield_f1 yield_x2 yield_c3, .pointer (some x4), .pointer (some x5), .pointer (some x6), .pointer (some x7)] w R :=
  calls_of_eq (ann := fun _ => []) (fn := Tryz.f201) (c := bodyOf Tryz.f201) (args := #[.func yield_f1 yield_x2 yield_c3, .pointer (some x4), .pointer (some x5), .pointer (some x6), .pointer (some x7)]) 400 follows_mixed Tryz.func201 (by kernel_rfl) (by kernel_rfl)
set_option maxRecDepth 100000 in
/-- joinery/canon.unlike$1$1 -/
def sh202 (a_1 : Option Addr) (b_2 : Option Addr) (x3 : Addr) (x4 : Addr) (x5 : Addr) (x6 : Addr) (R : Ending → World → Prop) (w : World) : Prop :=
 doPE Tryz.prog .eql 35 (.tmp 15) (.tmp 16) (.pointer a_1) (.pointer b_2) w (fun b7 =>
 ifB b7 (
 R (.returned (.bool true)) w) (
 ifB ((a_1).isNone) (
 let K10 : Bool → World → Prop := fun (x8 : Bool) (w9 : World) => 
 R (.returned (.bool x8)) w9
 doDr w (fun w12 =>
 ∃ (C11 : World → Prop), C11 w12 ∧ (
 ∃ (xf13 : Fn), ∃ (xx14 : Array Value), ∃ (xc15 : Array Value), (∀ w, C11 w → World.cell? w x3 = some (.func xf13 xx14 xc15)) ∧ (
 doCall Tryz.prog (.func (.func 123) #[] #[]) #[.pointer b_2] w12 (retS (fun v17 w18 => ∃ (x16 : Option Addr), v17 = (.pointer x16 : Value) ∧ (
 C11 w18 ∧ (
 doCall Tryz.prog (.func xf13 xx14 xc15) #[.pointer none, .pointer x16] w18 (retS (fun v20 w21 => ∃ (x19 : Bool), v20 = (.bool x19 : Value) ∧ (
 C11 w21 ∧ (
 ifB x19 (
 ∃ (xf22 : Fn), ∃ (xx23 : Array Value), ∃ (xc24 : Array Value), (∀ w, C11 w → World.cell? w x4 = some (.func xf22 xx23 xc24)) ∧ (
 doCall Tryz.prog (.func (.func 108) #[] #[]) #[.pointer b_2] w21 (retS (fun v26 w27 => ∃ (x25 : Int), v26 = (.int .i64 x25 : Value) ∧ (
 C11 w27 ∧ (
 doCall Tryz.prog (.func xf22 xx23 xc24) #[.int .i64 x25] w27 (retS (fun v29 w30 => ∃ (x28 : Bool), v29 = (.bool x28 : Value) ∧ (
 C11 w30 ∧ (
 ifB x28 (
 ∃ (xf31 : Fn), ∃ (xx32 : Array Value), ∃ (xc33 : Array Value), (∀ w, C11 w → World.cell? w x3 = some (.func xf31 xx32 xc33)) ∧ (
 doCall Tryz.prog (.func (.func 125) #[] #[]) #[.pointer b_2] w30 (retS (fun v35 w36 => ∃ (x34 : Option Addr), v35 = (.pointer x34 : Value) ∧ (
 C11 w36 ∧ (
 doCall Tryz.prog (.func xf31 xx32 xc33) #[.pointer none, .pointer x34] w36 (retS (fun v38 w39 => ∃ (x37 : Bool), v38 = (.bool x37 : Value) ∧ (
 C11 w39 ∧ (
 K10 x37 w39))) (fun ch w => Kfn R ch [] w))))) (fun ch w => Kfn R ch [] w)))) (
 R (.returned (.bool false)) w30)))) (fun ch w => Kfn R ch [] w))))) (fun ch w => Kfn R ch [] w)))) (
 R (.returned (.bool false)) w21)))) (fun ch w => Kfn R ch [] w))))) (fun ch w => Kfn R ch [] w)))))) (
 ifB ((b_2).isNone) (
 let K42 : Bool → World → Prop := fun (x40 : Bool) (w41 : World) => 
 R (.returned (.bool x40)) w41
 doDr w (fun w44 =>
 ∃ (C43 : World → Prop), C43 w44 ∧ (
 ∃ (xf45 : Fn), ∃ (xx46 : Array Value), ∃ (xc47 : Array Value), (∀ w, C43 w → World.cell? w x3 = some (.func xf45 xx46 xc47)) ∧ (
 doCall Tryz.prog (.func (.func 123) #[] #[]) #[.pointer a_1] w44 (retS (fun v49 w50 => ∃ (x48 : Option Addr), v49 = (.pointer x48 : Value) ∧ (
 C43 w50 ∧ (
 doCall Tryz.prog (.func xf45 xx46 xc47) #[.pointer x48, .pointer none] w50 (retS (fun v52 w53 => ∃ (x51 : Bool), v52 = (.bool x51 : Value) ∧ (
 C43 w53 ∧ (
 ifB x51 (
 ∃ (xf54 : Fn), ∃ (xx55 : Array Value), ∃ (xc56 : Array Value), (∀ w, C43 w → World.cell? w x4 = some (.func xf54 xx55 xc56)) ∧ (
 doCall Tryz.prog (.func (.func 108) #[] #[]) #[.pointer a_1] w53 (retS (fun v58 w59 => ∃ (x57 : Int), v58 = (.int .i64 x57 : Value) ∧ (
 C43 w59 ∧ (
 doCall Tryz.prog (.func xf54 xx55 xc56) #[.int .i64 x57] w59 (retS (fun v61 w62 => ∃ (x60 : Bool), v61 = (.bool x60 : Value) ∧ (
 C43 w62 ∧ (
 ifB x60 (
 ∃ (xf63 : Fn), ∃ (xx64 : Array Value), ∃ (xc65 : Array Value), (∀ w, C43 w → World.cell? w x3 = some (.func xf63 xx64 xc65)) ∧ (
 doCall Tryz.prog (.func (.func 125) #[] #[]) #[.pointer a_1] w62 (retS (fun v67 w68 => ∃ (x66 : Option Addr), v67 = (.pointer x66 : Value) ∧ (
 C43 w68 ∧ (
 doCall Tryz.prog (.func xf63 xx64 xc65) #[.pointer x66, .pointer none] w68 (retS (fun v70 w71 => ∃ (x69 : Bool), v70 = (.bool x69 : Value) ∧ (
 C43 w71 ∧ (
 K42 x69 w71))) (fun ch w => Kfn R ch [] w))))) (fun ch w => Kfn R ch [] w)))) (
 R (.returned (.bool false)) w62)))) (fun ch w => Kfn R ch [] w))))) (fun ch w => Kfn R ch [] w)))) (
 R (.returned (.bool false)) w53)))) (fun ch w => Kfn R ch [] w))))) (fun ch w => Kfn R ch [] w)))))) (
 let K77 : (Option Addr) → Addr → Bool → (Option Addr) → World → Prop := fun (l_72 : Option Addr) (x_73 : Addr) (is_74 : Bool) (r_75 : Option Addr) (w76 : World) => 
 let K80 : Bool → World → Prop := fun (x78 : Bool) (w79 : World) => 
 R (.returned (.bool x78)) w79
 doDr w76 (fun w82 =>
 ∃ (C81 : World → Prop), C81 w82 ∧ (
 ∃ (xf83 : Fn), ∃ (xx84 : Array Value), ∃ (xc85 : Array Value), (∀ w, C81 w → World.cell? w x3 = some (.func xf83 xx84 xc85)) ∧ (
 doCall Tryz.prog (.func (.func 123) #[] #[]) #[.pointer a_1] w82 (retS (fun v87 w88 => ∃ (x86 : Option Addr), v87 = (.pointer x86 : Value) ∧ (
 C81 w88 ∧ (
 doCall Tryz.prog (.func xf83 xx84 xc85) #[.pointer x86, .pointer l_72] w88 (retS (fun v90 w91 => ∃ (x89 : Bool), v90 = (.bool x89 : Value) ∧ (
 C81 w91 ∧ (
 ifB x89 (
 ifB is_74 (
 ∃ (x92 : Int), (∀ w, C81 w → World.cell? w (x_73.add 1) = some (.int .i64 x92)) ∧ (
 doCall Tryz.prog (.func (.func 126) #[] #[]) #[.pointer a_1] w91 (retS (fun v94 w95 => ∃ (x93 : Int), v94 = (.int .i64 x93 : Value) ∧ (
 C81 w95 ∧ (
 ifB ((x92 : Int) == x93) (
 ∃ (xf96 : Fn), ∃ (xx97 : Array Value), ∃ (xc98 : Array Value), (∀ w, C81 w → World.cell? w x3 = some (.func xf96 xx97 xc98)) ∧ (
 doCall Tryz.prog (.func (.func 125) #[] #[]) #[.pointer a_1] w95 (retS (fun v100 w101 => ∃ (x99 : Option Addr), v100 = (.pointer x99 : Value) ∧ (
 C81 w101 ∧ (
 doCall Tryz.prog (.func xf96 xx97 xc98) #[.pointer x99, .pointer r_75] w101 (retS (fun v103 w104 => ∃ (x102 : Bool), v103 = (.bool x102 : Value) ∧ (
 C81 w104 ∧ (
 K80 x102 w104))) (fun ch w => Kfn R ch [] w))))) (fun ch w => Kfn R ch [] w)))) (
 ∃ (xf105 : Fn), ∃ (xx106 : Array Value), ∃ (xc107 : Array Value), (∀ w, C81 w → World.cell? w x4 = some (.func xf105 xx106 xc107)) ∧ (
 doCall Tryz.prog (.func (.func 108) #[] #[]) #[.pointer a_1] w95 (retS (fun v109 w110 => ∃ (x108 : Int), v109 = (.int .i64 x108 : Value) ∧ (
 C81 w110 ∧ (
 doCall Tryz.prog (.func xf105 xx106 xc107) #[.int .i64 x108] w110 (retS (fun v112 w113 => ∃ (x111 : Bool), v112 = (.bool x111 : Value) ∧ (
 C81 w113 ∧ (
 ifB x111 (
 ∃ (xf114 : Fn), ∃ (xx115 : Array Value), ∃ (xc116 : Array Value), (∀ w, C81 w → World.cell? w x3 = some (.func xf114 xx115 xc116)) ∧ (
 doCall Tryz.prog (.func (.func 125) #[] #[]) #[.pointer a_1] w113 (retS (fun v118 w119 => ∃ (x117 : Option Addr), v118 = (.pointer x117 : Value) ∧ (
 C81 w119 ∧ (
 doCall Tryz.prog (.func xf114 xx115 xc116) #[.pointer x117, .pointer r_75] w119 (retS (fun v121 w122 => ∃ (x120 : Bool), v121 = (.bool x120 : Value) ∧ (
 C81 w122 ∧ (
 K80 x120 w122))) (fun ch w => Kfn R ch [] w))))) (fun ch w => Kfn R ch [] w)))) (
 R (.returned (.bool false)) w113)))) (fun ch w => Kfn R ch [] w))))) (fun ch w => Kfn R ch [] w))))))) (fun ch w => Kfn R ch [] w)))) (
 ∃ (xf123 : Fn), ∃ (xx124 : Array Value), ∃ (xc125 : Array Value), (∀ w, C81 w → World.cell? w x4 = some (.func xf123 xx124 xc125)) ∧ (
 doCall Tryz.prog (.func (.func 108) #[] #[]) #[.pointer a_1] w91 (retS (fun v127 w128 => ∃ (x126 : Int), v127 = (.int .i64 x126 : Value) ∧ (
 C81 w128 ∧ (
 doCall Tryz.prog (.func xf123 xx124 xc125) #[.int .i64 x126] w128 (retS (fun v130 w131 => ∃ (x129 : Bool), v130 = (.bool x129 : Value) ∧ (
 C81 w131 ∧ (
 ifB x129 (
 ∃ (xf132 : Fn), ∃ (xx133 : Array Value), ∃ (xc134 : Array Value), (∀ w, C81 w → World.cell? w x3 = some (.func xf132 xx133 xc134)) ∧ (
 doCall Tryz.prog (.func (.func 125) #[] #[]) #[.pointer a_1] w131 (retS (fun v136 w137 => ∃ (x135 : Option Addr), v136 = (.pointer x135 : Value) ∧ (
 C81 w137 ∧ (
 doCall Tryz.prog (.func xf132 xx133 xc134) #[.pointer x135, .pointer r_75] w137 (retS (fun v139 w140 => ∃ (x138 : Bool), v139 = (.bool x138 : Value) ∧ (
 C81 w140 ∧ (
 K80 x138 w140))) (fun ch w => Kfn R ch [] w))))) (fun ch w => Kfn R ch [] w)))) (
 R (.returned (.bool false)) w131)))) (fun ch w => Kfn R ch [] w))))) (fun ch w => Kfn R ch [] w))))) (
 R (.returned (.bool false)) w91)))) (fun ch w => Kfn R ch [] w))))) (fun ch w => Kfn R ch [] w)))))
 doDr w (fun w142 =>
 ∃ (C141 : World → Prop), C141 w142 ∧ (
 ∃ (x143 : Option Addr), (∀ w, C141 w → World.cell? w x5 = some (.pointer x143)) ∧ (
 ∃ (x144 : Int), (∀ w, C141 w → World.cell? w x6 = some (.int .u8 x144)) ∧ (
 (doCall Tryz.prog (.func (.func 108) #[] #[]) #[.pointer a_1] w142 (retS (fun v146 w147 => ∃ (x145 : Int), v146 = (.int .i64 x145 : Value) ∧ (
 C141 w147 ∧ (
 (doCall Tryz.prog (.func (.func 89) #[] #[]) #[.pointer x143, .int .u8 x144, .pointer b_2, .int .i64 x145] w147 (retS (fun v155 w156 => ∃ (x148 : Option Addr), ∃ (x149 : Int), ∃ (x150 : Int), ∃ (x151 : Int), ∃ (x152 : Bool), ∃ (x153 : Option Addr), ∃ (x154 : Int), v155 = (.tuple #[.pointer x148, .agg #[.int .i64 x149, .int .i64 x150, .int .u64 x151], .bool x152, .pointer x153, .int .i64 x154] : Value) ∧ (
 doAl (.cells #[.int .i64 0, .int .i64 0, .int .u64 0] 114) w156 (fun b157 w158 =>
 C141 w158 ∧ (
 doSt ((blk b157).add 0) (.int .i64 x149) w158 (fun w159 =>
 doSt ((blk b157).add 1) (.int .i64 x150) w159 (fun w160 =>
 doSt ((blk b157).add 2) (.int .u64 x151) w160 (fun w161 =>
 K77 x148 (blk b157) x152 x153 w161))))))) (fun ch w => Kfn R ch [] w))) ∧ (doAl (.cells #[.int .i64 0, .int .i64 0, .int .u64 0] 114) w147 (fun b162 w163 =>
 C141 w163 ∧ (
 doCall Tryz.prog (.func (.func 89) #[] #[]) #[.pointer x143, .int .u8 x144, .pointer b_2, .int .i64 x145] w163 (retS (fun v171 w172 => ∃ (x164 : Option Addr), ∃ (x165 : Int), ∃ (x166 : Int), ∃ (x167 : Int), ∃ (x168 : Bool), ∃ (x169 : Option Addr), ∃ (x170 : Int), v171 = (.tuple #[.pointer x164, .agg #[.int .i64 x165, .int .i64 x166, .int .u64 x167], .bool x168, .pointer x169, .int .i64 x170] : Value) ∧ (
 doSt ((blk b162).add 0) (.int .i64 x165) w172 (fun w173 =>
 doSt ((blk b162).add 1) (.int .i64 x166) w173 (fun w174 =>
 doSt ((blk b162).add 2) (.int .u64 x167) w174 (fun w175 =>
 K77 x164 (blk b162) x168 x169 w175))))) (fun ch w => Kfn R ch [] w)))))))) (fun ch w => Kfn R ch [] w))) ∧ (doAl (.cells #[.int .i64 0, .int .i64 0, .int .u64 0] 114) w142 (fun b176 w177 =>
 C141 w177 ∧ (
 doCall Tryz.prog (.func (.func 108) #[] #[]) #[.pointer a_1] w177 (retS (fun v179 w180 => ∃ (x178 : Int), v179 = (.int .i64 x178 : Value) ∧ (
 C141 w180 ∧ (
 doCall Tryz.prog (.func (.func 89) #[] #[]) #[.pointer x143, .int .u8 x144, .pointer b_2, .int .i64 x178] w180 (retS (fun v188 w189 => ∃ (x181 : Option Addr), ∃ (x182 : Int), ∃ (x183 : Int), ∃ (x184 : Int), ∃ (x185 : Bool), ∃ (x186 : Option Addr), ∃ (x187 : Int), v188 = (.tuple #[.pointer x181, .agg #[.int .i64 x182, .int .i64 x183, .int .u64 x184], .bool x185, .pointer x186, .int .i64 x187] : Value) ∧ (
 doSt ((blk b176).add 0) (.int .i64 x182) w189 (fun w190 =>
 doSt ((blk b176).add 1) (.int .i64 x183) w190 (fun w191 =>
 doSt ((blk b176).add 2) (.int .u64 x184) w191 (fun w192 =>
 K77 x181 (blk b176) x185 x186 w192))))) (fun ch w => Kfn R ch [] w))))) (fun ch w => Kfn R ch [] w)))))))))))))
set_option maxRecDepth 100000 in
theorem sh202_ok (a_1 : Option Addr) (b_2 : Option Addr) (x3 : Addr) (x4 : Addr) (x5 : Addr) (x6 : Addr) {R : Ending → World → Prop} {w : World} : sh202 a_1 b_2 x3 x4 x5 x6 R w → Calls Tryz.prog 202 #[.pointer a_1, .pointer b_2, .pointer (some x3), .pointer (some x4), .pointer (some x5), .pointer (some x6)] w R :=
  calls_of_eq (ann := fun _ => []) (fn := Tryz.f202) (c := bodyOf Tryz.f202) (args := #[.pointer a_1, .pointer b_2, .pointer (some x3), .pointer (some x4), .pointer (some x5), .pointer (some x6)]) 400 follows_mixed Tryz.func202 (by kernel_rfl) (by kernel_rfl)
set_option maxRecDepth 100000 in
/-- joinery/fold.kinds -/
def sh210  (R : Ending → World → Prop) (w : World) : Prop :=
 doAl (.map #[] 0) w (fun b1 w2 =>
 doMu Tryz.prog 282 (.map (some b1)) (.int .u8 1) (.agg #[.func (.func 260) #[] #[]]) w2 (fun w3 =>
 doMu Tryz.prog 282 (.map (some b1)) (.int .u8 2) (.agg #[.func (.func 261) #[] #[]]) w3 (fun w4 =>
 doMu Tryz.prog 282 (.map (some b1)) (.int .u8 3) (.agg #[.func (.func 262) #[] #[]]) w4 (fun w5 =>
 R (.returned (.map (some b1))) w5))))
set_option maxRecDepth 100000 in
theorem sh210_ok  {R : Ending → World → Prop} {w : World} : sh210  R w → Calls Tryz.prog 210 #[] w R :=
  calls_of_eq (ann := fun _ => []) (fn := Tryz.f210) (c := bodyOf Tryz.f210) (args := #[]) 400 follows_mixed Tryz.func210 (by kernel_rfl) (by kernel_rfl)
set_option maxRecDepth 100000 in
/-- joinery/cut.Join2 -/
def sh211 (s_1 : Option Addr) (l_2 : Option Addr) (r_3 : Option Addr) (R : Ending → World → Prop) (w : World) : Prop :=
 doCall Tryz.prog (.func (.func 263) #[] #[]) #[.pointer s_1, .pointer l_2] w (retS (fun v9 w10 => ∃ (x4 : Option Addr), ∃ (x5 : Int), ∃ (x6 : Int), ∃ (x7 : Int), ∃ (x8 : Bool), v9 = (.tuple #[.pointer x4, .agg #[.int .i64 x5, .int .i64 x6, .int .u64 x7], .bool x8] : Value) ∧ (
 doAl (.cells #[.int .i64 0, .int .i64 0, .int .u64 0] 114) w10 (fun b11 w12 =>
 doSt ((blk b11).add 0) (.int .i64 x5) w12 (fun w13 =>
 doSt ((blk b11).add 1) (.int .i64 x6) w13 (fun w14 =>
 doSt ((blk b11).add 2) (.int .u64 x7) w14 (fun w15 =>
 ifB (!x8) (
 doCall Tryz.prog (.func (.func 162) #[] #[]) #[.pointer s_1, .pointer r_3] w15 (retS (fun v17 w18 => ∃ (x16 : Option Addr), v17 = (.pointer x16 : Value) ∧ (
 R (.returned (.pointer x16)) w18)) (fun ch w => Kfn R ch [] w))) (
 ∃ (x19 : Int), World.cell? w15 ((blk b11).add 0) = some (.int .i64 x19) ∧ (
 ∃ (x20 : Int), World.cell? w15 ((blk b11).add 1) = some (.int .i64 x20) ∧ (
 ∃ (x21 : Int), World.cell? w15 ((blk b11).add 2) = some (.int .u64 x21) ∧ (
 doCall Tryz.prog (.func (.func 106) #[] #[]) #[.pointer s_1, .pointer x4, .agg #[.int .i64 x19, .int .i64 x20, .int .u64 x21], .pointer r_3] w15 (retS (fun v23 w24 => ∃ (x22 : Option Addr), v23 = (.pointer x22 : Value) ∧ (
 R (.returned (.pointer x22)) w24)) (fun ch w => Kfn R ch [] w)))))))))))) (fun ch w => Kfn R ch [] w))
set_option maxRecDepth 100000 in
theorem sh211_ok (s_1 : Option Addr) (l_2 : Option Addr) (r_3 : Option Addr) {R : Ending → World → Prop} {w : World} : sh211 s_1 l_2 r_3 R w → Calls Tryz.prog 211 #[.pointer s_1, .pointer l_2, .pointer r_3] w R :=
  calls_of_eq (ann := fun _ => []) (fn := Tryz.f211) (c := bodyOf Tryz.f211) (args := #[.pointer s_1, .pointer l_2, .pointer r_3]) 400 follows_mixed Tryz.func211 (by kernel_rfl) (by kernel_rfl)
set_option maxRecDepth 100000 in
/-- joinery/union.both$1 -/
def sh212 (a_1 : Option Addr) (b_2 : Option Addr) (x3 : Addr) (x4 : Addr) (x5 : Addr) (x6 : Addr) (R : Ending → World → Prop) (w : World) : Prop :=
 ifB ((a_1).isNone) (
 R (.returned (.pointer b_2)) w) (
 ifB ((b_2).isNone) (
 ∃ (x7 : Option Addr), World.cell? w x3 = some (.pointer x7) ∧ (
 doCall Tryz.prog (.func (.func 162) #[] #[]) #[.pointer x7, .pointer a_1] w (retS (fun v9 w10 => ∃ (x8 : Option Addr), v9 = (.pointer x8 : Value) ∧ (
 R (.returned (.pointer x8)) w10)) (fun ch w => Kfn R ch [] w)))) (
 let K16 : (Option Addr) → Addr → Bool → (Option Addr) → World → Prop := fun (l_11 : Option Addr) (y_12 : Addr) (is_13 : Bool) (r_14 : Option Addr) (w15 : World) => 
 doDr w15 (fun w18 =>
 ∃ (C17 : World → Prop), C17 w18 ∧ (
 ∃ (x19 : Option Addr), (∀ w, C17 w → World.cell? w x3 = some (.pointer x19)) ∧ (
 ∃ (xf20 : Fn), ∃ (xx21 : Array Value), ∃ (xc22 : Array Value), (∀ w, C17 w → World.cell? w x5 = some (.func xf20 xx21 xc22)) ∧ (
 ∃ (xf23 : Fn), ∃ (xx24 : Array Value), ∃ (xc25 : Array Value), (∀ w, C17 w → World.cell? w x6 = some (.func xf23 xx24 xc25)) ∧ (
 ∃ (x26 : Option Addr), (∀ w, C17 w → World.cell? w x3 = some (.pointer x26)) ∧ (
 ∃ (x27 : Int), (∀ w, C17 w → World.cell? w (y_12.add 0) = some (.int .i64 x27)) ∧ (
 ∃ (x28 : Int), (∀ w, C17 w → World.cell? w (y_12.add 1) = some (.int .i64 x28)) ∧ (
 ∃ (x29 : Int), (∀ w, C17 w → World.cell? w (y_12.add 2) = some (.int .u64 x29)) ∧ (
 ∃ (xf30 : Fn), ∃ (xx31 : Array Value), ∃ (xc32 : Array Value), (∀ w, C17 w → World.cell? w x5 = some (.func xf30 xx31 xc32)) ∧ (
 doCall Tryz.prog (.func (.func 123) #[] #[]) #[.pointer a_1] w18 (retS (fun v34 w35 => ∃ (x33 : Option Addr), v34 = (.pointer x33 : Value) ∧ (
 C17 w35 ∧ (
 doCall Tryz.prog (.func xf20 xx21 xc22) #[.pointer x33, .pointer l_11] w35 (retS (fun v37 w38 => ∃ (x36 : Option Addr), v37 = (.pointer x36 : Value) ∧ (
 C17 w38 ∧ (
 doCall Tryz.prog (.func (.func 213) #[] #[]) #[.pointer x26, .pointer a_1] w38 (retS (fun v42 w43 => ∃ (x39 : Int), ∃ (x40 : Int), ∃ (x41 : Int), v42 = (.agg #[.int .i64 x39, .int .i64 x40, .int .u64 x41] : Value) ∧ (
 C17 w43 ∧ (
 doCall Tryz.prog (.func xf23 xx24 xc25) #[.agg #[.int .i64 x39, .int .i64 x40, .int .u64 x41], .agg #[.int .i64 x27, .int .i64 x28, .int .u64 x29], .bool is_13] w43 (retS (fun v47 w48 => ∃ (x44 : Int), ∃ (x45 : Int), ∃ (x46 : Int), v47 = (.agg #[.int .i64 x44, .int .i64 x45, .int .u64 x46] : Value) ∧ (
 C17 w48 ∧ (
 doCall Tryz.prog (.func (.func 125) #[] #[]) #[.pointer a_1] w48 (retS (fun v50 w51 => ∃ (x49 : Option Addr), v50 = (.pointer x49 : Value) ∧ (
 C17 w51 ∧ (
 doCall Tryz.prog (.func xf30 xx31 xc32) #[.pointer x49, .pointer r_14] w51 (retS (fun v53 w54 => ∃ (x52 : Option Addr), v53 = (.pointer x52 : Value) ∧ (
 C17 w54 ∧ (
 doCall Tryz.prog (.func (.func 106) #[] #[]) #[.pointer x19, .pointer x36, .agg #[.int .i64 x44, .int .i64 x45, .int .u64 x46], .pointer x52] w54 (retS (fun v56 w57 => ∃ (x55 : Option Addr), v56 = (.pointer x55 : Value) ∧ (
 C17 w57 ∧ (
 R (.returned (.pointer x55)) w57))) (fun ch w => Kfn R ch [] w))))) (fun ch w => Kfn R ch [] w))))) (fun ch w => Kfn R ch [] w))))) (fun ch w => Kfn R ch [] w))))) (fun ch w => Kfn R ch [] w))))) (fun ch w => Kfn R ch [] w))))) (fun ch w => Kfn R ch [] w))))))))))))
 doDr w (fun w59 =>
 ∃ (C58 : World → Prop), C58 w59 ∧ (
 ∃ (x60 : Option Addr), (∀ w, C58 w → World.cell? w x3 = some (.pointer x60)) ∧ (
 ∃ (x61 : Int), (∀ w, C58 w → World.cell? w x4 = some (.int .u8 x61)) ∧ (
 (doCall Tryz.prog (.func (.func 108) #[] #[]) #[.pointer a_1] w59 (retS (fun v63 w64 => ∃ (x62 : Int), v63 = (.int .i64 x62 : Value) ∧ (
 C58 w64 ∧ (
 (doCall Tryz.prog (.func (.func 89) #[] #[]) #[.pointer x60, .int .u8 x61, .pointer b_2, .int .i64 x62] w64 (retS (fun v72 w73 => ∃ (x65 : Option Addr), ∃ (x66 : Int), ∃ (x67 : Int), ∃ (x68 : Int), ∃ (x69 : Bool), ∃ (x70 : Option Addr), ∃ (x71 : Int), v72 = (.tuple #[.pointer x65, .agg #[.int .i64 x66, .int .i64 x67, .int .u64 x68], .bool x69, .pointer x70, .int .i64 x71] : Value) ∧ (
 doAl (.cells #[.int .i64 0, .int .i64 0, .int .u64 0] 114) w73 (fun b74 w75 =>
 C58 w75 ∧ (
 doSt ((blk b74).add 0) (.int .i64 x66) w75 (fun w76 =>
 doSt ((blk b74).add 1) (.int .i64 x67) w76 (fun w77 =>
 doSt ((blk b74).add 2) (.int .u64 x68) w77 (fun w78 =>
 K16 x65 (blk b74) x69 x70 w78))))))) (fun ch w => Kfn R ch [] w))) ∧ (doAl (.cells #[.int .i64 0, .int .i64 0, .int .u64 0] 114) w64 (fun b79 w80 =>
 C58 w80 ∧ (
 doCall Tryz.prog (.func (.func 89) #[] #[]) #[.pointer x60, .int .u8 x61, .pointer b_2, .int .i64 x62] w80 (retS (fun v88 w89 => ∃ (x81 : Option Addr), ∃ (x82 : Int), ∃ (x83 : Int), ∃ (x84 : Int), ∃ (x85 : Bool), ∃ (x86 : Option Addr), ∃ (x87 : Int), v88 = (.tuple #[.pointer x81, .agg #[.int .i64 x82, .int .i64 x83, .int .u64 x84], .bool x85, .pointer x86, .int .i64 x87] : Value) ∧ (
 doSt ((blk b79).add 0) (.int .i64 x82) w89 (fun w90 =>
 doSt ((blk b79).add 1) (.int .i64 x83) w90 (fun w91 =>
 doSt ((blk b79).add 2) (.int .u64 x84) w91 (fun w92 =>
 K16 x81 (blk b79) x85 x86 w92))))) (fun ch w => Kfn R ch [] w)))))))) (fun ch w => Kfn R ch [] w))) ∧ (doAl (.cells #[.int .i64 0, .int .i64 0, .int .u64 0] 114) w59 (fun b93 w94 =>
 C58 w94 ∧ (
 doCall Tryz.prog (.func (.func 108) #[] #[]) #[.pointer a_1] w94 (retS (fun v96 w97 => ∃ (x95 : Int), v96 = (.int .i64 x95 : Value) ∧ (
 C58 w97 ∧ (
 doCall Tryz.prog (.func (.func 89) #[] #[]) #[.pointer x60, .int .u8 x61, .pointer b_2, .int .i64 x95] w97 (retS (fun v105 w106 => ∃ (x98 : Option Addr), ∃ (x99 : Int), ∃ (x100 : Int), ∃ (x101 : Int), ∃ (x102 : Bool), ∃ (x103 : Option Addr), ∃ (x104 : Int), v105 = (.tuple #[.pointer x98, .agg #[.int .i64 x99, .int .i64 x100, .int .u64 x101], .bool x102, .pointer x103, .int .i64 x104] : Value) ∧ (
 doSt ((blk b93).add 0) (.int .i64 x99) w106 (fun w107 =>
 doSt ((blk b93).add 1) (.int .i64 x100) w107 (fun w108 =>
 doSt ((blk b93).add 2) (.int .u64 x101) w108 (fun w109 =>
 K16 x98 (blk b93) x102 x103 w109))))) (fun ch w => Kfn R ch [] w))))) (fun ch w => Kfn R ch [] w)))))))))))
set_option maxRecDepth 100000 in
theorem sh212_ok (a_1 : Option Addr) (b_2 : Option Addr) (x3 : Addr) (x4 : Addr) (x5 : Addr) (x6 : Addr) {R : Ending → World → Prop} {w : World} : sh212 a_1 b_2 x3 x4 x5 x6 R w → Calls Tryz.prog 212 #[.pointer a_1, .pointer b_2, .pointer (some x3), .pointer (some x4), .pointer (some x5), .pointer (some x6)] w R :=
  calls_of_eq (ann := fun _ => []) (fn := Tryz.f212) (c := bodyOf Tryz.f212) (args := #[.pointer a_1, .pointer b_2, .pointer (some x3), .pointer (some x4), .pointer (some x5), .pointer (some x6)]) 400 follows_mixed Tryz.func212 (by kernel_rfl) (by kernel_rfl)
set_option maxRecDepth 100000 in
/-- (*joinery/scheme.Scheme).Item -/
def sh213 (s_1 : Option Addr) (t_2 : Option Addr) (R : Ending → World → Prop) (w : World) : Prop :=
 doAl (.cells #[.int .i64 0, .int .i64 0, .int .u64 0] 114) w (fun b3 w4 =>
 let K7 : Bool → World → Prop := fun (x5 : Bool) (w6 : World) => 
 ifB x5 (
 doSt ((blk b3).add 0) (.int .i64 0) w6 (fun w8 =>
 doSt ((blk b3).add 1) (.int .i64 0) w8 (fun w9 =>
 doSt ((blk b3).add 2) (.int .u64 0) w9 (fun w10 =>
 ∃ (x11 : Int), World.cell? w10 ((blk b3).add 0) = some (.int .i64 x11) ∧ (
 ∃ (x12 : Int), World.cell? w10 ((blk b3).add 1) = some (.int .i64 x12) ∧ (
 ∃ (x13 : Int), World.cell? w10 ((blk b3).add 2) = some (.int .u64 x13) ∧ (
 R (.returned (.agg #[.int .i64 x11, .int .i64 x12, .int .u64 x13])) w10))))))) (
 doCall Tryz.prog (.func (.func 108) #[] #[]) #[.pointer t_2] w6 (retS (fun v15 w16 => ∃ (x14 : Int), v15 = (.int .i64 x14 : Value) ∧ (
 doCall Tryz.prog (.func (.func 126) #[] #[]) #[.pointer t_2] w16 (retS (fun v18 w19 => ∃ (x17 : Int), v18 = (.int .i64 x17 : Value) ∧ (
 doAl (.cells #[.int .i64 0, .int .i64 0, .int .u64 0] 114) w19 (fun b20 w21 =>
 doSt ((blk b20).add 0) (.int .i64 x14) w21 (fun w22 =>
 doSt ((blk b20).add 1) (.int .i64 x17) w22 (fun w23 =>
 doSt ((blk b20).add 2) (.int .u64 0) w23 (fun w24 =>
 let K26 : World → Prop := fun (w25 : World) => 
 ∃ (x27 : Int), World.cell? w25 ((blk b20).add 0) = some (.int .i64 x27) ∧ (
 ∃ (x28 : Int), World.cell? w25 ((blk b20).add 1) = some (.int .i64 x28) ∧ (
 ∃ (x29 : Int), World.cell? w25 ((blk b20).add 2) = some (.int .u64 x29) ∧ (
 doSt ((blk b3).add 0) (.int .i64 x27) w25 (fun w30 =>
 doSt ((blk b3).add 1) (.int .i64 x28) w30 (fun w31 =>
 doSt ((blk b3).add 2) (.int .u64 x29) w31 (fun w32 =>
 ∃ (x33 : Int), World.cell? w32 ((blk b3).add 0) = some (.int .i64 x33) ∧ (
 ∃ (x34 : Int), World.cell? w32 ((blk b3).add 1) = some (.int .i64 x34) ∧ (
 ∃ (x35 : Int), World.cell? w32 ((blk b3).add 2) = some (.int .u64 x35) ∧ (
 R (.returned (.agg #[.int .i64 x33, .int .i64 x34, .int .u64 x35])) w32)))))))))
 doCall Tryz.prog (.func (.func 188) #[] #[]) #[.pointer s_1] w24 (retS (fun v56 w57 => ∃ (x36 : ByteArray), ∃ (xf37 : Fn), ∃ (xx38 : Array Value), ∃ (xc39 : Array Value), ∃ (xf40 : Fn), ∃ (xx41 : Array Value), ∃ (xc42 : Array Value), ∃ (xf43 : Fn), ∃ (xx44 : Array Value), ∃ (xc45 : Array Value), ∃ (xf46 : Fn), ∃ (xx47 : Array Value), ∃ (xc48 : Array Value), ∃ (xf49 : Fn), ∃ (xx50 : Array Value), ∃ (xc51 : Array Value), ∃ (xf52 : Fn), ∃ (xx53 : Array Value), ∃ (xc54 : Array Value), ∃ (x55 : Bool), v56 = (.agg #[.string x36, .func xf37 xx38 xc39, .func xf40 xx41 xc42, .func xf43 xx44 xc45, .func xf46 xx47 xc48, .func xf49 xx50 xc51, .func xf52 xx53 xc54, .bool x55] : Value) ∧ (
 ifB x55 (
 doCall Tryz.prog (.func (.func 196) #[] #[]) #[.pointer t_2] w57 (retS (fun v59 w60 => ∃ (x58 : Int), v59 = (.int .u64 x58 : Value) ∧ (
 doSt (((blk b20).add 2).add 0) (.int .u64 x58) w60 (fun w61 =>
 K26 w61))) (fun ch w => Kfn R ch [] w))) (
 K26 w57))) (fun ch w => Kfn R ch [] w)))))))) (fun ch w => Kfn R ch [] w)))) (fun ch w => Kfn R ch [] w)))
 ifB ((s_1).isNone) (
 K7 true w4) (
 K7 ((t_2).isNone) w4))
set_option maxRecDepth 100000 in
theorem sh213_ok (s_1 : Option Addr) (t_2 : Option Addr) {R : Ending → World → Prop} {w : World} : sh213 s_1 t_2 R w → Calls Tryz.prog 213 #[.pointer s_1, .pointer t_2] w R :=
  calls_of_eq (ann := fun _ => []) (fn := Tryz.f213) (c := bodyOf Tryz.f213) (args := #[.pointer s_1, .pointer t_2]) 400 follows_mixed Tryz.func213 (by kernel_rfl) (by kernel_rfl)
end Go.Proofs.YtlddfgfmkapoiaaGreat

