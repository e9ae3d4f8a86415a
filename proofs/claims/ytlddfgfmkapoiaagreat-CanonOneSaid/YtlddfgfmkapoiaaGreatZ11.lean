/-
  Printed by a program (gen.py): what the functions of the program do, as formulas; each with the proof that its call is what the formula says.
-/
/-
  Printed by a program (gen.py): what the functions of the program do, as formulas; each with the proof that its call is what the formula says.
-/
import Derived.Test.YtlddfgfmkapoiaaGreatZ02
import Derived.Test.YtlddfgfmkapoiaaGreatProg
import Derived.Test.YtlddfgfmkapoiaaGreatZ04

namespace Go.Proofs.YtlddfgfmkapoiaaGreat
open Go Go.Sh
set_option maxRecDepth 100000 in
/-- joinery/cut.end -/
def sh307 (s_1 : Option Addr) (w_f2 : Fn) (w_x3 : Array Value) (w_c4 : Array Value) (w_f5 : Fn) (w_x6 : Array Value) (w_c7 : Array Value) (w_f8 : Fn) (w_x9 : Array Value) (w_c10 : Array Value) (t_11 : Option Addr) (R : Ending → World → Prop) (w : World) : Prop :=
 doAl (.cells #[.func w_f2 w_x3 w_c4, .func w_f5 w_x6 w_c7, .func w_f8 w_x9 w_c10] 352) w (fun b12 w13 =>
 doAl (.cells #[.int .i64 0, .int .i64 0, .int .u64 0] 114) w13 (fun b14 w15 =>
 ∃ (xf16 : Fn), ∃ (xx17 : Array Value), ∃ (xc18 : Array Value), World.cell? w15 ((blk b12).add 0) = some (.func xf16 xx17 xc18) ∧ (
 doCall Tryz.prog (.func xf16 xx17 xc18) #[.pointer t_11] w15 (retS (fun v20 w21 => ∃ (x19 : Option Addr), v20 = (.pointer x19 : Value) ∧ (
 ifB ((x19).isNone) (
 ∃ (xf22 : Fn), ∃ (xx23 : Array Value), ∃ (xc24 : Array Value), World.cell? w21 ((blk b12).add 1) = some (.func xf22 xx23 xc24) ∧ (
 doCall Tryz.prog (.func xf22 xx23 xc24) #[.pointer t_11] w21 (retS (fun v26 w27 => ∃ (x25 : Option Addr), v26 = (.pointer x25 : Value) ∧ (
 doCall Tryz.prog (.func (.func 162) #[] #[]) #[.pointer s_1, .pointer x25] w27 (retS (fun v29 w30 => ∃ (x28 : Option Addr), v29 = (.pointer x28 : Value) ∧ (
 doCall Tryz.prog (.func (.func 213) #[] #[]) #[.pointer s_1, .pointer t_11] w30 (retS (fun v34 w35 => ∃ (x31 : Int), ∃ (x32 : Int), ∃ (x33 : Int), v34 = (.agg #[.int .i64 x31, .int .i64 x32, .int .u64 x33] : Value) ∧ (
 doSt ((blk b14).add 0) (.int .i64 x31) w35 (fun w36 =>
 doSt ((blk b14).add 1) (.int .i64 x32) w36 (fun w37 =>
 doSt ((blk b14).add 2) (.int .u64 x33) w37 (fun w38 =>
 ∃ (x39 : Int), World.cell? w38 ((blk b14).add 0) = some (.int .i64 x39) ∧ (
 ∃ (x40 : Int), World.cell? w38 ((blk b14).add 1) = some (.int .i64 x40) ∧ (
 ∃ (x41 : Int), World.cell? w38 ((blk b14).add 2) = some (.int .u64 x41) ∧ (
 R (.returned (.tuple #[.pointer x28, .agg #[.int .i64 x39, .int .i64 x40, .int .u64 x41]])) w38)))))))) (fun ch w => Kfn R ch [] w)))) (fun ch w => Kfn R ch [] w)))) (fun ch w => Kfn R ch [] w)))) (
 let K45 : (Option Addr) → Addr → World → Prop := fun (rest_42 : Option Addr) (x_43 : Addr) (w44 : World) => 
 doDr w44 (fun w47 =>
 ∃ (C46 : World → Prop), C46 w47 ∧ (
 ∃ (xf48 : Fn), ∃ (xx49 : Array Value), ∃ (xc50 : Array Value), (∀ w, C46 w → World.cell? w ((blk b12).add 2) = some (.func xf48 xx49 xc50)) ∧ (
 ∃ (xf51 : Fn), ∃ (xx52 : Array Value), ∃ (xc53 : Array Value), (∀ w, C46 w → World.cell? w ((blk b12).add 1) = some (.func xf51 xx52 xc53)) ∧ (
 ∃ (x54 : Int), (∀ w, C46 w → World.cell? w (x_43.add 0) = some (.int .i64 x54)) ∧ (
 ∃ (x55 : Int), (∀ w, C46 w → World.cell? w (x_43.add 1) = some (.int .i64 x55)) ∧ (
 ∃ (x56 : Int), (∀ w, C46 w → World.cell? w (x_43.add 2) = some (.int .u64 x56)) ∧ (
 doCall Tryz.prog (.func (.func 213) #[] #[]) #[.pointer s_1, .pointer t_11] w47 (retS (fun v60 w61 => ∃ (x57 : Int), ∃ (x58 : Int), ∃ (x59 : Int), v60 = (.agg #[.int .i64 x57, .int .i64 x58, .int .u64 x59] : Value) ∧ (
 C46 w61 ∧ (
 doCall Tryz.prog (.func xf51 xx52 xc53) #[.pointer t_11] w61 (retS (fun v63 w64 => ∃ (x62 : Option Addr), v63 = (.pointer x62 : Value) ∧ (
 C46 w64 ∧ (
 doCall Tryz.prog (.func xf48 xx49 xc50) #[.pointer rest_42, .agg #[.int .i64 x57, .int .i64 x58, .int .u64 x59], .pointer x62] w64 (retS (fun v66 w67 => ∃ (x65 : Option Addr), v66 = (.pointer x65 : Value) ∧ (
 C46 w67 ∧ (
 doSt ((blk b14).add 0) (.int .i64 x54) w67 (fun w68 =>
 doSt ((blk b14).add 1) (.int .i64 x55) w68 (fun w69 =>
 doSt ((blk b14).add 2) (.int .u64 x56) w69 (fun w70 =>
 ∃ (x71 : Int), World.cell? w70 ((blk b14).add 0) = some (.int .i64 x71) ∧ (
 ∃ (x72 : Int), World.cell? w70 ((blk b14).add 1) = some (.int .i64 x72) ∧ (
 ∃ (x73 : Int), World.cell? w70 ((blk b14).add 2) = some (.int .u64 x73) ∧ (
 R (.returned (.tuple #[.pointer x65, .agg #[.int .i64 x71, .int .i64 x72, .int .u64 x73]])) w70))))))))) (fun ch w => Kfn R ch [] w))))) (fun ch w => Kfn R ch [] w))))) (fun ch w => Kfn R ch [] w)))))))))
 doDr w21 (fun w75 =>
 ∃ (C74 : World → Prop), C74 w75 ∧ (
 ∃ (xf76 : Fn), ∃ (xx77 : Array Value), ∃ (xc78 : Array Value), (∀ w, C74 w → World.cell? w ((blk b12).add 0) = some (.func xf76 xx77 xc78)) ∧ (
 ∃ (xf79 : Fn), ∃ (xx80 : Array Value), ∃ (xc81 : Array Value), (∀ w, C74 w → World.cell? w ((blk b12).add 1) = some (.func xf79 xx80 xc81)) ∧ (
 ∃ (xf82 : Fn), ∃ (xx83 : Array Value), ∃ (xc84 : Array Value), (∀ w, C74 w → World.cell? w ((blk b12).add 2) = some (.func xf82 xx83 xc84)) ∧ (
 ∃ (xf85 : Fn), ∃ (xx86 : Array Value), ∃ (xc87 : Array Value), (∀ w, C74 w → World.cell? w ((blk b12).add 0) = some (.func xf85 xx86 xc87)) ∧ (
 (doCall Tryz.prog (.func xf85 xx86 xc87) #[.pointer t_11] w75 (retS (fun v89 w90 => ∃ (x88 : Option Addr), v89 = (.pointer x88 : Value) ∧ (
 C74 w90 ∧ (
 (doCall Tryz.prog (.func (.func 307) #[] #[]) #[.pointer s_1, .agg #[.func xf76 xx77 xc78, .func xf79 xx80 xc81, .func xf82 xx83 xc84], .pointer x88] w90 (retS (fun v95 w96 => ∃ (x91 : Option Addr), ∃ (x92 : Int), ∃ (x93 : Int), ∃ (x94 : Int), v95 = (.tuple #[.pointer x91, .agg #[.int .i64 x92, .int .i64 x93, .int .u64 x94]] : Value) ∧ (
 C74 w96 ∧ (
 doAl (.cells #[.int .i64 0, .int .i64 0, .int .u64 0] 114) w96 (fun b97 w98 =>
 C74 w98 ∧ (
 doSt ((blk b97).add 0) (.int .i64 x92) w98 (fun w99 =>
 doSt ((blk b97).add 1) (.int .i64 x93) w99 (fun w100 =>
 doSt ((blk b97).add 2) (.int .u64 x94) w100 (fun w101 =>
 K45 x91 (blk b97) w101)))))))) (fun ch w => Kfn R ch [] w))) ∧ (doAl (.cells #[.int .i64 0, .int .i64 0, .int .u64 0] 114) w90 (fun b102 w103 =>
 C74 w103 ∧ (
 doCall Tryz.prog (.func (.func 307) #[] #[]) #[.pointer s_1, .agg #[.func xf76 xx77 xc78, .func xf79 xx80 xc81, .func xf82 xx83 xc84], .pointer x88] w103 (retS (fun v108 w109 => ∃ (x104 : Option Addr), ∃ (x105 : Int), ∃ (x106 : Int), ∃ (x107 : Int), v108 = (.tuple #[.pointer x104, .agg #[.int .i64 x105, .int .i64 x106, .int .u64 x107]] : Value) ∧ (
 C74 w109 ∧ (
 doSt ((blk b102).add 0) (.int .i64 x105) w109 (fun w110 =>
 doSt ((blk b102).add 1) (.int .i64 x106) w110 (fun w111 =>
 doSt ((blk b102).add 2) (.int .u64 x107) w111 (fun w112 =>
 K45 x104 (blk b102) w112)))))) (fun ch w => Kfn R ch [] w)))))))) (fun ch w => Kfn R ch [] w))) ∧ (doAl (.cells #[.int .i64 0, .int .i64 0, .int .u64 0] 114) w75 (fun b113 w114 =>
 C74 w114 ∧ (
 doCall Tryz.prog (.func xf85 xx86 xc87) #[.pointer t_11] w114 (retS (fun v116 w117 => ∃ (x115 : Option Addr), v116 = (.pointer x115 : Value) ∧ (
 C74 w117 ∧ (
 doCall Tryz.prog (.func (.func 307) #[] #[]) #[.pointer s_1, .agg #[.func xf76 xx77 xc78, .func xf79 xx80 xc81, .func xf82 xx83 xc84], .pointer x115] w117 (retS (fun v122 w123 => ∃ (x118 : Option Addr), ∃ (x119 : Int), ∃ (x120 : Int), ∃ (x121 : Int), v122 = (.tuple #[.pointer x118, .agg #[.int .i64 x119, .int .i64 x120, .int .u64 x121]] : Value) ∧ (
 C74 w123 ∧ (
 doSt ((blk b113).add 0) (.int .i64 x119) w123 (fun w124 =>
 doSt ((blk b113).add 1) (.int .i64 x120) w124 (fun w125 =>
 doSt ((blk b113).add 2) (.int .u64 x121) w125 (fun w126 =>
 K45 x118 (blk b113) w126)))))) (fun ch w => Kfn R ch [] w))))) (fun ch w => Kfn R ch [] w)))))))))))))) (fun ch w => Kfn R ch [] w)))))
set_option maxRecDepth 100000 in
theorem sh307_ok (s_1 : Option Addr) (w_f2 : Fn) (w_x3 : Array Value) (w_c4 : Array Value) (w_f5 : Fn) (w_x6 : Array Value) (w_c7 : Array Value) (w_f8 : Fn) (w_x9 : Array Value) (w_c10 : Array Value) (t_11 : Option Addr) {R : Ending → World → Prop} {w : World} : sh307 s_1 w_f2 w_x3 w_c4 w_f5 w_x6 w_c7 w_f8 w_x9 w_c10 t_11 R w → Calls Tryz.prog 307 #[.pointer s_1, .agg #[.func w_f2 w_x3 w_c4, .func w_f5 w_x6 w_c7, .func w_f8 w_x9 w_c10], .pointer t_11] w R :=
  calls_of_eq (ann := fun _ => []) (fn := Tryz.f307) (c := bodyOf Tryz.f307) (args := #[.pointer s_1, .agg #[.func w_f2 w_x3 w_c4, .func w_f5 w_x6 w_c7, .func w_f8 w_x9 w_c10], .pointer t_11]) 400 follows_mixed Tryz.func307 (by kernel_rfl) (by kernel_rfl)
set_option maxRecDepth 100000 in
/-- joinery/cut.to -/
def sh308 (s_1 : Option Addr) (last_2 : Bool) (R : Ending → World → Prop) (w : World) : Prop :=
 doAl (.cells #[.pointer s_1] 25) w (fun b3 w4 =>
 doAl (.cells #[.nilFunc, .nilFunc, .nilFunc] 352) w4 (fun b5 w6 =>
 ifB last_2 (
 doSt ((blk b5).add 0) (.func (.func 125) #[] #[]) w6 (fun w7 =>
 doSt ((blk b5).add 1) (.func (.func 123) #[] #[]) w7 (fun w8 =>
 doSt ((blk b5).add 2) (.func (.func 339) #[] #[.pointer (some (blk b3))]) w8 (fun w9 =>
 ∃ (xf10 : Fn), ∃ (xx11 : Array Value), ∃ (xc12 : Array Value), World.cell? w9 ((blk b5).add 0) = some (.func xf10 xx11 xc12) ∧ (
 ∃ (xf13 : Fn), ∃ (xx14 : Array Value), ∃ (xc15 : Array Value), World.cell? w9 ((blk b5).add 1) = some (.func xf13 xx14 xc15) ∧ (
 ∃ (xf16 : Fn), ∃ (xx17 : Array Value), ∃ (xc18 : Array Value), World.cell? w9 ((blk b5).add 2) = some (.func xf16 xx17 xc18) ∧ (
 R (.returned (.agg #[.func xf10 xx11 xc12, .func xf13 xx14 xc15, .func xf16 xx17 xc18])) w9))))))) (
 ∃ (x19 : Option Addr), World.cell? w6 (blk b3) = some (.pointer x19) ∧ (
 doSt ((blk b5).add 0) (.func (.func 123) #[] #[]) w6 (fun w20 =>
 doSt ((blk b5).add 1) (.func (.func 125) #[] #[]) w20 (fun w21 =>
 doSt ((blk b5).add 2) (.func (.func 106) #[.pointer x19] #[]) w21 (fun w22 =>
 ∃ (xf23 : Fn), ∃ (xx24 : Array Value), ∃ (xc25 : Array Value), World.cell? w22 ((blk b5).add 0) = some (.func xf23 xx24 xc25) ∧ (
 ∃ (xf26 : Fn), ∃ (xx27 : Array Value), ∃ (xc28 : Array Value), World.cell? w22 ((blk b5).add 1) = some (.func xf26 xx27 xc28) ∧ (
 ∃ (xf29 : Fn), ∃ (xx30 : Array Value), ∃ (xc31 : Array Value), World.cell? w22 ((blk b5).add 2) = some (.func xf29 xx30 xc31) ∧ (
 R (.returned (.agg #[.func xf23 xx24 xc25, .func xf26 xx27 xc28, .func xf29 xx30 xc31])) w22))))))))))
set_option maxRecDepth 100000 in
theorem sh308_ok (s_1 : Option Addr) (last_2 : Bool) {R : Ending → World → Prop} {w : World} : sh308 s_1 last_2 R w → Calls Tryz.prog 308 #[.pointer s_1, .bool last_2] w R :=
  calls_of_eq (ann := fun _ => []) (fn := Tryz.f308) (c := bodyOf Tryz.f308) (args := #[.pointer s_1, .bool last_2]) 400 follows_mixed Tryz.func308 (by kernel_rfl) (by kernel_rfl)
set_option maxRecDepth 100000 in
/-- joinery/avljoin.right$1 -/
def sh309 (in_1 : Option Addr) (pair_2 : Option Addr) (out_3 : Option Addr) (R : Ending → World → Prop) (w : World) : Prop :=
 doCall Tryz.prog (.func (.func 108) #[] #[]) #[.pointer pair_2] w (retS (fun v5 w6 => ∃ (x4 : Int), v5 = (.int .i64 x4 : Value) ∧ (
 doCall Tryz.prog (.func (.func 126) #[] #[]) #[.pointer pair_2] w6 (retS (fun v8 w9 => ∃ (x7 : Int), v8 = (.int .i64 x7 : Value) ∧ (
 doCall Tryz.prog (.func (.func 265) #[] #[]) #[.pointer in_1, .int .i64 x4, .int .i64 x7, .pointer out_3] w9 (retS (fun v11 w12 => ∃ (x10 : Option Addr), v11 = (.pointer x10 : Value) ∧ (
 R (.returned (.pointer x10)) w12)) (fun ch w => Kfn R ch [] w)))) (fun ch w => Kfn R ch [] w)))) (fun ch w => Kfn R ch [] w))
set_option maxRecDepth 100000 in
theorem sh309_ok (in_1 : Option Addr) (pair_2 : Option Addr) (out_3 : Option Addr) {R : Ending → World → Prop} {w : World} : sh309 in_1 pair_2 out_3 R w → Calls Tryz.prog 309 #[.pointer in_1, .pointer pair_2, .pointer out_3] w R :=
  calls_of_eq (ann := fun _ => []) (fn := Tryz.f309) (c := bodyOf Tryz.f309) (args := #[.pointer in_1, .pointer pair_2, .pointer out_3]) 400 follows_mixed Tryz.func309 (by kernel_rfl) (by kernel_rfl)
set_option maxRecDepth 100000 in
/-- (joinery/avljoin.side).inward -/
def sh310 (s_f1 : Fn) (s_x2 : Array Value) (s_c3 : Array Value) (s_f4 : Fn) (s_x5 : Array Value) (s_c6 : Array Value) (s_f7 : Fn) (s_x8 : Array Value) (s_c9 : Array Value) (t_10 : Option Addr) (R : Ending → World → Prop) (w : World) : Prop :=
 doAl (.cells #[.func s_f1 s_x2 s_c3, .func s_f4 s_x5 s_c6, .func s_f7 s_x8 s_c9] 331) w (fun b11 w12 =>
 ∃ (xf13 : Fn), ∃ (xx14 : Array Value), ∃ (xc15 : Array Value), World.cell? w12 ((blk b11).add 1) = some (.func xf13 xx14 xc15) ∧ (
 doCall Tryz.prog (.func xf13 xx14 xc15) #[.pointer t_10] w12 (retS (fun v17 w18 => ∃ (x16 : Option Addr), v17 = (.pointer x16 : Value) ∧ (
 doDr w18 (fun w20 =>
 ∃ (C19 : World → Prop), C19 w20 ∧ (
 ∃ (xf21 : Fn), ∃ (xx22 : Array Value), ∃ (xc23 : Array Value), (∀ w, C19 w → World.cell? w ((blk b11).add 2) = some (.func xf21 xx22 xc23)) ∧ (
 ∃ (xf24 : Fn), ∃ (xx25 : Array Value), ∃ (xc26 : Array Value), (∀ w, C19 w → World.cell? w ((blk b11).add 2) = some (.func xf24 xx25 xc26)) ∧ (
 ∃ (xf27 : Fn), ∃ (xx28 : Array Value), ∃ (xc29 : Array Value), (∀ w, C19 w → World.cell? w ((blk b11).add 0) = some (.func xf27 xx28 xc29)) ∧ (
 ∃ (xf30 : Fn), ∃ (xx31 : Array Value), ∃ (xc32 : Array Value), (∀ w, C19 w → World.cell? w ((blk b11).add 0) = some (.func xf30 xx31 xc32)) ∧ (
 ∃ (xf33 : Fn), ∃ (xx34 : Array Value), ∃ (xc35 : Array Value), (∀ w, C19 w → World.cell? w ((blk b11).add 1) = some (.func xf33 xx34 xc35)) ∧ (
 doCall Tryz.prog (.func xf27 xx28 xc29) #[.pointer t_10] w20 (retS (fun v37 w38 => ∃ (x36 : Option Addr), v37 = (.pointer x36 : Value) ∧ (
 C19 w38 ∧ (
 doCall Tryz.prog (.func xf30 xx31 xc32) #[.pointer x16] w38 (retS (fun v40 w41 => ∃ (x39 : Option Addr), v40 = (.pointer x39 : Value) ∧ (
 C19 w41 ∧ (
 doCall Tryz.prog (.func xf24 xx25 xc26) #[.pointer x36, .pointer t_10, .pointer x39] w41 (retS (fun v43 w44 => ∃ (x42 : Option Addr), v43 = (.pointer x42 : Value) ∧ (
 C19 w44 ∧ (
 doCall Tryz.prog (.func xf33 xx34 xc35) #[.pointer x16] w44 (retS (fun v46 w47 => ∃ (x45 : Option Addr), v46 = (.pointer x45 : Value) ∧ (
 C19 w47 ∧ (
 doCall Tryz.prog (.func xf21 xx22 xc23) #[.pointer x42, .pointer x16, .pointer x45] w47 (retS (fun v49 w50 => ∃ (x48 : Option Addr), v49 = (.pointer x48 : Value) ∧ (
 C19 w50 ∧ (
 R (.returned (.pointer x48)) w50))) (fun ch w => Kfn R ch [] w))))) (fun ch w => Kfn R ch [] w))))) (fun ch w => Kfn R ch [] w))))) (fun ch w => Kfn R ch [] w))))) (fun ch w => Kfn R ch [] w))))))))))) (fun ch w => Kfn R ch [] w))))
set_option maxRecDepth 100000 in
theorem sh310_ok (s_f1 : Fn) (s_x2 : Array Value) (s_c3 : Array Value) (s_f4 : Fn) (s_x5 : Array Value) (s_c6 : Array Value) (s_f7 : Fn) (s_x8 : Array Value) (s_c9 : Array Value) (t_10 : Option Addr) {R : Ending → World → Prop} {w : World} : sh310 s_f1 s_x2 s_c3 s_f4 s_x5 s_c6 s_f7 s_x8 s_c9 t_10 R w → Calls Tryz.prog 310 #[.agg #[.func s_f1 s_x2 s_c3, .func s_f4 s_x5 s_c6, .func s_f7 s_x8 s_c9], .pointer t_10] w R :=
  calls_of_eq (ann := fun _ => []) (fn := Tryz.f310) (c := bodyOf Tryz.f310) (args := #[.agg #[.func s_f1 s_x2 s_c3, .func s_f4 s_x5 s_c6, .func s_f7 s_x8 s_c9], .pointer t_10]) 400 follows_mixed Tryz.func310 (by kernel_rfl) (by kernel_rfl)
set_option maxRecDepth 100000 in
/-- (joinery/avljoin.side).outward -/
def sh311 (s_f1 : Fn) (s_x2 : Array Value) (s_c3 : Array Value) (s_f4 : Fn) (s_x5 : Array Value) (s_c6 : Array Value) (s_f7 : Fn) (s_x8 : Array Value) (s_c9 : Array Value) (t_10 : Option Addr) (R : Ending → World → Prop) (w : World) : Prop :=
 doAl (.cells #[.func s_f1 s_x2 s_c3, .func s_f4 s_x5 s_c6, .func s_f7 s_x8 s_c9] 331) w (fun b11 w12 =>
 ∃ (xf13 : Fn), ∃ (xx14 : Array Value), ∃ (xc15 : Array Value), World.cell? w12 ((blk b11).add 0) = some (.func xf13 xx14 xc15) ∧ (
 doCall Tryz.prog (.func xf13 xx14 xc15) #[.pointer t_10] w12 (retS (fun v17 w18 => ∃ (x16 : Option Addr), v17 = (.pointer x16 : Value) ∧ (
 doDr w18 (fun w20 =>
 ∃ (C19 : World → Prop), C19 w20 ∧ (
 ∃ (xf21 : Fn), ∃ (xx22 : Array Value), ∃ (xc23 : Array Value), (∀ w, C19 w → World.cell? w ((blk b11).add 2) = some (.func xf21 xx22 xc23)) ∧ (
 ∃ (xf24 : Fn), ∃ (xx25 : Array Value), ∃ (xc26 : Array Value), (∀ w, C19 w → World.cell? w ((blk b11).add 0) = some (.func xf24 xx25 xc26)) ∧ (
 ∃ (xf27 : Fn), ∃ (xx28 : Array Value), ∃ (xc29 : Array Value), (∀ w, C19 w → World.cell? w ((blk b11).add 2) = some (.func xf27 xx28 xc29)) ∧ (
 ∃ (xf30 : Fn), ∃ (xx31 : Array Value), ∃ (xc32 : Array Value), (∀ w, C19 w → World.cell? w ((blk b11).add 1) = some (.func xf30 xx31 xc32)) ∧ (
 ∃ (xf33 : Fn), ∃ (xx34 : Array Value), ∃ (xc35 : Array Value), (∀ w, C19 w → World.cell? w ((blk b11).add 1) = some (.func xf33 xx34 xc35)) ∧ (
 doCall Tryz.prog (.func xf24 xx25 xc26) #[.pointer x16] w20 (retS (fun v37 w38 => ∃ (x36 : Option Addr), v37 = (.pointer x36 : Value) ∧ (
 C19 w38 ∧ (
 doCall Tryz.prog (.func xf30 xx31 xc32) #[.pointer x16] w38 (retS (fun v40 w41 => ∃ (x39 : Option Addr), v40 = (.pointer x39 : Value) ∧ (
 C19 w41 ∧ (
 doCall Tryz.prog (.func xf33 xx34 xc35) #[.pointer t_10] w41 (retS (fun v43 w44 => ∃ (x42 : Option Addr), v43 = (.pointer x42 : Value) ∧ (
 C19 w44 ∧ (
 doCall Tryz.prog (.func xf27 xx28 xc29) #[.pointer x39, .pointer t_10, .pointer x42] w44 (retS (fun v46 w47 => ∃ (x45 : Option Addr), v46 = (.pointer x45 : Value) ∧ (
 C19 w47 ∧ (
 doCall Tryz.prog (.func xf21 xx22 xc23) #[.pointer x36, .pointer x16, .pointer x45] w47 (retS (fun v49 w50 => ∃ (x48 : Option Addr), v49 = (.pointer x48 : Value) ∧ (
 C19 w50 ∧ (
 R (.returned (.pointer x48)) w50))) (fun ch w => Kfn R ch [] w))))) (fun ch w => Kfn R ch [] w))))) (fun ch w => Kfn R ch [] w))))) (fun ch w => Kfn R ch [] w))))) (fun ch w => Kfn R ch [] w))))))))))) (fun ch w => Kfn R ch [] w))))
set_option maxRecDepth 100000 in
theorem sh311_ok (s_f1 : Fn) (s_x2 : Array Value) (s_c3 : Array Value) (s_f4 : Fn) (s_x5 : Array Value) (s_c6 : Array Value) (s_f7 : Fn) (s_x8 : Array Value) (s_c9 : Array Value) (t_10 : Option Addr) {R : Ending → World → Prop} {w : World} : sh311 s_f1 s_x2 s_c3 s_f4 s_x5 s_c6 s_f7 s_x8 s_c9 t_10 R w → Calls Tryz.prog 311 #[.agg #[.func s_f1 s_x2 s_c3, .func s_f4 s_x5 s_c6, .func s_f7 s_x8 s_c9], .pointer t_10] w R :=
  calls_of_eq (ann := fun _ => []) (fn := Tryz.f311) (c := bodyOf Tryz.f311) (args := #[.agg #[.func s_f1 s_x2 s_c3, .func s_f4 s_x5 s_c6, .func s_f7 s_x8 s_c9], .pointer t_10]) 400 follows_mixed Tryz.func311 (by kernel_rfl) (by kernel_rfl)
set_option maxRecDepth 100000 in
/-- joinery/avljoin.left$1 -/
def sh312 (in_1 : Option Addr) (pair_2 : Option Addr) (out_3 : Option Addr) (R : Ending → World → Prop) (w : World) : Prop :=
 doCall Tryz.prog (.func (.func 108) #[] #[]) #[.pointer pair_2] w (retS (fun v5 w6 => ∃ (x4 : Int), v5 = (.int .i64 x4 : Value) ∧ (
 doCall Tryz.prog (.func (.func 126) #[] #[]) #[.pointer pair_2] w6 (retS (fun v8 w9 => ∃ (x7 : Int), v8 = (.int .i64 x7 : Value) ∧ (
 doCall Tryz.prog (.func (.func 265) #[] #[]) #[.pointer out_3, .int .i64 x4, .int .i64 x7, .pointer in_1] w9 (retS (fun v11 w12 => ∃ (x10 : Option Addr), v11 = (.pointer x10 : Value) ∧ (
 R (.returned (.pointer x10)) w12)) (fun ch w => Kfn R ch [] w)))) (fun ch w => Kfn R ch [] w)))) (fun ch w => Kfn R ch [] w))
set_option maxRecDepth 100000 in
theorem sh312_ok (in_1 : Option Addr) (pair_2 : Option Addr) (out_3 : Option Addr) {R : Ending → World → Prop} {w : World} : sh312 in_1 pair_2 out_3 R w → Calls Tryz.prog 312 #[.pointer in_1, .pointer pair_2, .pointer out_3] w R :=
  calls_of_eq (ann := fun _ => []) (fn := Tryz.f312) (c := bodyOf Tryz.f312) (args := #[.pointer in_1, .pointer pair_2, .pointer out_3]) 400 follows_mixed Tryz.func312 (by kernel_rfl) (by kernel_rfl)
set_option maxRecDepth 100000 in
/-- joinery/rb.over -/
def sh318 (high_1 : Int) (is_2 : Bool) (R : Ending → World → Prop) (w : World) : Prop :=
 doAl (.cells #[.int .u64 0, .int .u64 0] 357) w (fun b3 w4 =>
 ifB is_2 (
 doSt ((blk b3).add 0) (.int .u64 1) w4 (fun w5 =>
 doSt ((blk b3).add 1) (.int .u64 high_1) w5 (fun w6 =>
 ∃ (x7 : Int), World.cell? w6 ((blk b3).add 0) = some (.int .u64 x7) ∧ (
 ∃ (x8 : Int), World.cell? w6 ((blk b3).add 1) = some (.int .u64 x8) ∧ (
 R (.returned (.agg #[.int .u64 x7, .int .u64 x8])) w6))))) (
 doSt ((blk b3).add 0) (.int .u64 0) w4 (fun w9 =>
 doSt ((blk b3).add 1) (.int .u64 (IntKind.wrap .u64 (high_1 + 1))) w9 (fun w10 =>
 ∃ (x11 : Int), World.cell? w10 ((blk b3).add 0) = some (.int .u64 x11) ∧ (
 ∃ (x12 : Int), World.cell? w10 ((blk b3).add 1) = some (.int .u64 x12) ∧ (
 R (.returned (.agg #[.int .u64 x11, .int .u64 x12])) w10))))))
set_option maxRecDepth 100000 in
theorem sh318_ok (high_1 : Int) (is_2 : Bool) {R : Ending → World → Prop} {w : World} : sh318 high_1 is_2 R w → Calls Tryz.prog 318 #[.int .u64 high_1, .bool is_2] w R :=
  calls_of_eq (ann := fun _ => []) (fn := Tryz.f318) (c := bodyOf Tryz.f318) (args := #[.int .u64 high_1, .bool is_2]) 400 follows_mixed Tryz.func318 (by kernel_rfl) (by kernel_rfl)
set_option maxRecDepth 100000 in
/-- joinery/rb.of -/
def sh319 (t_1 : Option Addr) (R : Ending → World → Prop) (w : World) : Prop :=
 doAl (.cells #[.int .u64 0, .int .u64 0] 357) w (fun b2 w3 =>
 doCall Tryz.prog (.func (.func 196) #[] #[]) #[.pointer t_1] w3 (retS (fun v5 w6 => ∃ (x4 : Int), v5 = (.int .u64 x4 : Value) ∧ (
 2 ≠ (0 : Int) ∧ (
 doCall Tryz.prog (.func (.func 196) #[] #[]) #[.pointer t_1] w6 (retS (fun v8 w9 => ∃ (x7 : Int), v8 = (.int .u64 x7 : Value) ∧ (
 2 ≠ (0 : Int) ∧ (
 doSt ((blk b2).add 0) (.int .u64 (Int.tmod x4 2)) w9 (fun w10 =>
 doSt ((blk b2).add 1) (.int .u64 (IntKind.wrap .u64 (Int.tdiv x7 2))) w10 (fun w11 =>
 ∃ (x12 : Int), World.cell? w11 ((blk b2).add 0) = some (.int .u64 x12) ∧ (
 ∃ (x13 : Int), World.cell? w11 ((blk b2).add 1) = some (.int .u64 x13) ∧ (
 R (.returned (.agg #[.int .u64 x12, .int .u64 x13])) w11))))))) (fun ch w => Kfn R ch [] w))))) (fun ch w => Kfn R ch [] w)))
set_option maxRecDepth 100000 in
theorem sh319_ok (t_1 : Option Addr) {R : Ending → World → Prop} {w : World} : sh319 t_1 R w → Calls Tryz.prog 319 #[.pointer t_1] w R :=
  calls_of_eq (ann := fun _ => []) (fn := Tryz.f319) (c := bodyOf Tryz.f319) (args := #[.pointer t_1]) 400 follows_mixed Tryz.func319 (by kernel_rfl) (by kernel_rfl)
set_option maxRecDepth 100000 in
/-- (joinery/rb.what).tag -/
def sh320 (w_1 : Int) (w_2 : Int) (R : Ending → World → Prop) (w : World) : Prop :=
 doAl (.cells #[.int .u64 w_1, .int .u64 w_2] 357) w (fun b3 w4 =>
 ∃ (x5 : Int), World.cell? w4 ((blk b3).add 1) = some (.int .u64 x5) ∧ (
 ∃ (x6 : Int), World.cell? w4 ((blk b3).add 0) = some (.int .u64 x6) ∧ (
 R (.returned (.int .u64 (IntKind.wrap .u64 ((IntKind.wrap .u64 (2 * x5)) + x6)))) w4)))
set_option maxRecDepth 100000 in
theorem sh320_ok (w_1 : Int) (w_2 : Int) {R : Ending → World → Prop} {w : World} : sh320 w_1 w_2 R w → Calls Tryz.prog 320 #[.agg #[.int .u64 w_1, .int .u64 w_2]] w R :=
  calls_of_eq (ann := fun _ => []) (fn := Tryz.f320) (c := bodyOf Tryz.f320) (args := #[.agg #[.int .u64 w_1, .int .u64 w_2]]) 400 follows_mixed Tryz.func320 (by kernel_rfl) (by kernel_rfl)
set_option maxRecDepth 100000 in
/-- (joinery/wbjoin.side).make -/
def sh322 (s_1 : Int) (in_2 : Option Addr) (pair_3 : Option Addr) (out_4 : Option Addr) (R : Ending → World → Prop) (w : World) : Prop :=
 doAl (.cells #[.pointer none, .pointer none] 376) w (fun b5 w6 =>
 doSt ((blk b5).add 0) (.pointer in_2) w6 (fun w7 =>
 doSt ((blk b5).add 1) (.pointer out_4) w7 (fun w8 =>
 doDr w8 (fun w10 =>
 ∃ (C9 : World → Prop), C9 w10 ∧ (
 doIx (some (blk b5)) 2 1 (s_1) (fun a11 =>
 ∃ (x12 : Option Addr), (∀ w, C9 w → World.cell? w a11 = some (.pointer x12)) ∧ (
 doCall Tryz.prog (.func (.func 323) #[] #[]) #[.int .i64 s_1] w10 (retS (fun v14 w15 => ∃ (x13 : Int), v14 = (.int .i64 x13 : Value) ∧ (
 C9 w15 ∧ (
 doIx (some (blk b5)) 2 1 (x13) (fun a16 =>
 ∃ (x17 : Option Addr), (∀ w, C9 w → World.cell? w a16 = some (.pointer x17)) ∧ (
 doCall Tryz.prog (.func (.func 108) #[] #[]) #[.pointer pair_3] w15 (retS (fun v19 w20 => ∃ (x18 : Int), v19 = (.int .i64 x18 : Value) ∧ (
 C9 w20 ∧ (
 doCall Tryz.prog (.func (.func 126) #[] #[]) #[.pointer pair_3] w20 (retS (fun v22 w23 => ∃ (x21 : Int), v22 = (.int .i64 x21 : Value) ∧ (
 C9 w23 ∧ (
 doCall Tryz.prog (.func (.func 276) #[] #[]) #[.pointer x17, .int .i64 x18, .int .i64 x21, .pointer x12] w23 (retS (fun v25 w26 => ∃ (x24 : Option Addr), v25 = (.pointer x24 : Value) ∧ (
 R (.returned (.pointer x24)) w26)) (fun ch w => Kfn R ch [] w))))) (fun ch w => Kfn R ch [] w))))) (fun ch w => Kfn R ch [] w))))))) (fun ch w => Kfn R ch [] w)))))))))
set_option maxRecDepth 100000 in
theorem sh322_ok (s_1 : Int) (in_2 : Option Addr) (pair_3 : Option Addr) (out_4 : Option Addr) {R : Ending → World → Prop} {w : World} : sh322 s_1 in_2 pair_3 out_4 R w → Calls Tryz.prog 322 #[.int .i64 s_1, .pointer in_2, .pointer pair_3, .pointer out_4] w R :=
  calls_of_eq (ann := fun _ => []) (fn := Tryz.f322) (c := bodyOf Tryz.f322) (args := #[.int .i64 s_1, .pointer in_2, .pointer pair_3, .pointer out_4]) 400 follows_mixed Tryz.func322 (by kernel_rfl) (by kernel_rfl)
set_option maxRecDepth 100000 in
/-- (joinery/wbjoin.side).other -/
def sh323 (s_1 : Int) (R : Ending → World → Prop) (w : World) : Prop :=
 R (.returned (.int .i64 (IntKind.wrap .i64 (1 - s_1)))) w
set_option maxRecDepth 100000 in
theorem sh323_ok (s_1 : Int) {R : Ending → World → Prop} {w : World} : sh323 s_1 R w → Calls Tryz.prog 323 #[.int .i64 s_1] w R :=
  calls_of_eq (ann := fun _ => []) (fn := Tryz.f323) (c := bodyOf Tryz.f323) (args := #[.int .i64 s_1]) 400 follows_mixed Tryz.func323 (by kernel_rfl) (by kernel_rfl)
set_option maxRecDepth 100000 in
/-- (joinery/wbjoin.side).at -/
def sh324 (s_1 : Int) (t_2 : Option Addr) (R : Ending → World → Prop) (w : World) : Prop :=
 doCall Tryz.prog (.func (.func 343) #[] #[]) #[.pointer t_2] w (retS (fun v5 w6 => ∃ (x3 : Option Addr), ∃ (x4 : Option Addr), v5 = (.agg #[.pointer x3, .pointer x4] : Value) ∧ (
 doIxV Tryz.prog 376 (.agg #[.pointer x3, .pointer x4]) (.int .i64 s_1) (fun v7 => ∃ (x8 : Option Addr), v7 = (.pointer x8 : Value) ∧ (
 R (.returned (.pointer x8)) w6)))) (fun ch w => Kfn R ch [] w))
set_option maxRecDepth 100000 in
theorem sh324_ok (s_1 : Int) (t_2 : Option Addr) {R : Ending → World → Prop} {w : World} : sh324 s_1 t_2 R w → Calls Tryz.prog 324 #[.int .i64 s_1, .pointer t_2] w R :=
  calls_of_eq (ann := fun _ => []) (fn := Tryz.f324) (c := bodyOf Tryz.f324) (args := #[.int .i64 s_1, .pointer t_2]) 400 follows_mixed Tryz.func324 (by kernel_rfl) (by kernel_rfl)
end Go.Proofs.YtlddfgfmkapoiaaGreat

namespace Go.Proofs.YtlddfgfmkapoiaaGreat
open Go Go.Sh
set_option maxRecDepth 100000 in
/-- (joinery/wbjoin.side).once -/
def sh325 (s_1 : Int) (in_2 : Option Addr) (t_3 : Option Addr) (x_4 : Option Addr) (R : Ending → World → Prop) (w : World) : Prop :=
 doCall Tryz.prog (.func (.func 323) #[] #[]) #[.int .i64 s_1] w (retS (fun v6 w7 => ∃ (x5 : Int), v6 = (.int .i64 x5 : Value) ∧ (
 doCall Tryz.prog (.func (.func 324) #[] #[]) #[.int .i64 x5, .pointer x_4] w7 (retS (fun v9 w10 => ∃ (x8 : Option Addr), v9 = (.pointer x8 : Value) ∧ (
 doCall Tryz.prog (.func (.func 322) #[] #[]) #[.int .i64 s_1, .pointer in_2, .pointer t_3, .pointer x8] w10 (retS (fun v12 w13 => ∃ (x11 : Option Addr), v12 = (.pointer x11 : Value) ∧ (
 doCall Tryz.prog (.func (.func 324) #[] #[]) #[.int .i64 s_1, .pointer x_4] w13 (retS (fun v15 w16 => ∃ (x14 : Option Addr), v15 = (.pointer x14 : Value) ∧ (
 doCall Tryz.prog (.func (.func 322) #[] #[]) #[.int .i64 s_1, .pointer x11, .pointer x_4, .pointer x14] w16 (retS (fun v18 w19 => ∃ (x17 : Option Addr), v18 = (.pointer x17 : Value) ∧ (
 R (.returned (.pointer x17)) w19)) (fun ch w => Kfn R ch [] w)))) (fun ch w => Kfn R ch [] w)))) (fun ch w => Kfn R ch [] w)))) (fun ch w => Kfn R ch [] w)))) (fun ch w => Kfn R ch [] w))
set_option maxRecDepth 100000 in
theorem sh325_ok (s_1 : Int) (in_2 : Option Addr) (t_3 : Option Addr) (x_4 : Option Addr) {R : Ending → World → Prop} {w : World} : sh325 s_1 in_2 t_3 x_4 R w → Calls Tryz.prog 325 #[.int .i64 s_1, .pointer in_2, .pointer t_3, .pointer x_4] w R :=
  calls_of_eq (ann := fun _ => []) (fn := Tryz.f325) (c := bodyOf Tryz.f325) (args := #[.int .i64 s_1, .pointer in_2, .pointer t_3, .pointer x_4]) 400 follows_mixed Tryz.func325 (by kernel_rfl) (by kernel_rfl)
set_option maxRecDepth 100000 in
/-- (joinery/wbjoin.side).twice -/
def sh326 (s_1 : Int) (in_2 : Option Addr) (t_3 : Option Addr) (x_4 : Option Addr) (R : Ending → World → Prop) (w : World) : Prop :=
 doCall Tryz.prog (.func (.func 323) #[] #[]) #[.int .i64 s_1] w (retS (fun v6 w7 => ∃ (x5 : Int), v6 = (.int .i64 x5 : Value) ∧ (
 doCall Tryz.prog (.func (.func 324) #[] #[]) #[.int .i64 x5, .pointer x_4] w7 (retS (fun v9 w10 => ∃ (x8 : Option Addr), v9 = (.pointer x8 : Value) ∧ (
 doCall Tryz.prog (.func (.func 323) #[] #[]) #[.int .i64 s_1] w10 (retS (fun v12 w13 => ∃ (x11 : Int), v12 = (.int .i64 x11 : Value) ∧ (
 doCall Tryz.prog (.func (.func 324) #[] #[]) #[.int .i64 x11, .pointer x8] w13 (retS (fun v15 w16 => ∃ (x14 : Option Addr), v15 = (.pointer x14 : Value) ∧ (
 doCall Tryz.prog (.func (.func 322) #[] #[]) #[.int .i64 s_1, .pointer in_2, .pointer t_3, .pointer x14] w16 (retS (fun v18 w19 => ∃ (x17 : Option Addr), v18 = (.pointer x17 : Value) ∧ (
 doCall Tryz.prog (.func (.func 324) #[] #[]) #[.int .i64 s_1, .pointer x8] w19 (retS (fun v21 w22 => ∃ (x20 : Option Addr), v21 = (.pointer x20 : Value) ∧ (
 doCall Tryz.prog (.func (.func 324) #[] #[]) #[.int .i64 s_1, .pointer x_4] w22 (retS (fun v24 w25 => ∃ (x23 : Option Addr), v24 = (.pointer x23 : Value) ∧ (
 doCall Tryz.prog (.func (.func 322) #[] #[]) #[.int .i64 s_1, .pointer x20, .pointer x_4, .pointer x23] w25 (retS (fun v27 w28 => ∃ (x26 : Option Addr), v27 = (.pointer x26 : Value) ∧ (
 doCall Tryz.prog (.func (.func 322) #[] #[]) #[.int .i64 s_1, .pointer x17, .pointer x8, .pointer x26] w28 (retS (fun v30 w31 => ∃ (x29 : Option Addr), v30 = (.pointer x29 : Value) ∧ (
 R (.returned (.pointer x29)) w31)) (fun ch w => Kfn R ch [] w)))) (fun ch w => Kfn R ch [] w)))) (fun ch w => Kfn R ch [] w)))) (fun ch w => Kfn R ch [] w)))) (fun ch w => Kfn R ch [] w)))) (fun ch w => Kfn R ch [] w)))) (fun ch w => Kfn R ch [] w)))) (fun ch w => Kfn R ch [] w)))) (fun ch w => Kfn R ch [] w))
set_option maxRecDepth 100000 in
theorem sh326_ok (s_1 : Int) (in_2 : Option Addr) (t_3 : Option Addr) (x_4 : Option Addr) {R : Ending → World → Prop} {w : World} : sh326 s_1 in_2 t_3 x_4 R w → Calls Tryz.prog 326 #[.int .i64 s_1, .pointer in_2, .pointer t_3, .pointer x_4] w R :=
  calls_of_eq (ann := fun _ => []) (fn := Tryz.f326) (c := bodyOf Tryz.f326) (args := #[.int .i64 s_1, .pointer in_2, .pointer t_3, .pointer x_4]) 400 follows_mixed Tryz.func326 (by kernel_rfl) (by kernel_rfl)
set_option maxRecDepth 100000 in
/-- joinery/wb.within[int] -/
def sh327 (least_1 : Int) (most_2 : Int) (l_p3 : Option Addr) (l_n4 : Nat) (_l_c5 : Nat) (R : Ending → World → Prop) (w : World) : Prop :=
 ∃ (I6 : List Value → World → Prop) (μ7 : List Value → World → Nat), I6 [.int .i64 0] w ∧ (∀ (x10 : Int), ∀ (_j8 : Nat → Value) (w9 : World), I6 [.int .i64 x10] w9 → (
 ifB (decide ((x10 : Int) < ((l_n4 : Nat) : Int))) (
 doIx l_p3 l_n4 1 (x10) (fun a11 =>
 ∃ (x12 : Int), World.cell? w9 a11 = some (.int .i64 x12) ∧ (
 let K15 : Bool → World → Prop := fun (x13 : Bool) (w14 : World) => 
 ifB x13 (
 R (.returned (.bool false)) w14) (
 I6 [.int .i64 (IntKind.wrap .i64 (x10 + 1))] w14 ∧ μ7 [.int .i64 (IntKind.wrap .i64 (x10 + 1))] w14 < μ7 [.int .i64 x10] w9)
 ifB (decide ((x12 : Int) < least_1)) (
 R (.returned (.bool false)) w9) (
 K15 (decide ((x12 : Int) > most_2)) w9)))) (
 R (.returned (.bool true)) w9)))
set_option maxRecDepth 100000 in
theorem sh327_ok (least_1 : Int) (most_2 : Int) (l_p3 : Option Addr) (l_n4 : Nat) (l_c5 : Nat) {R : Ending → World → Prop} {w : World} : sh327 least_1 most_2 l_p3 l_n4 l_c5 R w → Calls Tryz.prog 327 #[.int .i64 least_1, .int .i64 most_2, .slice l_p3 l_n4 l_c5] w R :=
  calls_of_eq (ann := fun i => if i = 0 then [(11, .int .i64 0)] else []) (fn := Tryz.f327) (c := bodyOf Tryz.f327) (args := #[.int .i64 least_1, .int .i64 most_2, .slice l_p3 l_n4 l_c5]) 400 follows_mixed Tryz.func327 (by kernel_rfl) (by kernel_rfl)
set_option maxRecDepth 100000 in
/-- math/bits.Reverse64 -/
def sh328 (x_1 : Int) (R : Ending → World → Prop) (w : World) : Prop :=
 (0 : Int) ≤ 1 ∧ (
 (0 : Int) ≤ 1 ∧ (
 (0 : Int) ≤ 2 ∧ (
 (0 : Int) ≤ 2 ∧ (
 (0 : Int) ≤ 4 ∧ (
 (0 : Int) ≤ 4 ∧ (
 doCall Tryz.prog (.func (.func 344) #[] #[]) #[.int .u64 (bOr .u64 (bAnd .u64 (Int.fdiv (bOr .u64 (bAnd .u64 (Int.fdiv (bOr .u64 (bAnd .u64 (Int.fdiv x_1 (2 ^ (min (1 : Int).toNat (IntKind.bits .u64)))) 6148914691236517205) (IntKind.wrap .u64 ((bAnd .u64 x_1 6148914691236517205) * 2 ^ (min (1 : Int).toNat (IntKind.bits .u64))))) (2 ^ (min (2 : Int).toNat (IntKind.bits .u64)))) 3689348814741910323) (IntKind.wrap .u64 ((bAnd .u64 (bOr .u64 (bAnd .u64 (Int.fdiv x_1 (2 ^ (min (1 : Int).toNat (IntKind.bits .u64)))) 6148914691236517205) (IntKind.wrap .u64 ((bAnd .u64 x_1 6148914691236517205) * 2 ^ (min (1 : Int).toNat (IntKind.bits .u64))))) 3689348814741910323) * 2 ^ (min (2 : Int).toNat (IntKind.bits .u64))))) (2 ^ (min (4 : Int).toNat (IntKind.bits .u64)))) 1085102592571150095) (IntKind.wrap .u64 ((bAnd .u64 (bOr .u64 (bAnd .u64 (Int.fdiv (bOr .u64 (bAnd .u64 (Int.fdiv x_1 (2 ^ (min (1 : Int).toNat (IntKind.bits .u64)))) 6148914691236517205) (IntKind.wrap .u64 ((bAnd .u64 x_1 6148914691236517205) * 2 ^ (min (1 : Int).toNat (IntKind.bits .u64))))) (2 ^ (min (2 : Int).toNat (IntKind.bits .u64)))) 3689348814741910323) (IntKind.wrap .u64 ((bAnd .u64 (bOr .u64 (bAnd .u64 (Int.fdiv x_1 (2 ^ (min (1 : Int).toNat (IntKind.bits .u64)))) 6148914691236517205) (IntKind.wrap .u64 ((bAnd .u64 x_1 6148914691236517205) * 2 ^ (min (1 : Int).toNat (IntKind.bits .u64))))) 3689348814741910323) * 2 ^ (min (2 : Int).toNat (IntKind.bits .u64))))) 1085102592571150095) * 2 ^ (min (4 : Int).toNat (IntKind.bits .u64)))))] w (retS (fun v3 w4 => ∃ (x2 : Int), v3 = (.int .u64 x2 : Value) ∧ (
 R (.returned (.int .u64 x2)) w4)) (fun ch w => Kfn R ch [] w))))))))
set_option maxRecDepth 100000 in
theorem sh328_ok (x_1 : Int) {R : Ending → World → Prop} {w : World} : sh328 x_1 R w → Calls Tryz.prog 328 #[.int .u64 x_1] w R :=
  calls_of_eq (ann := fun _ => []) (fn := Tryz.f328) (c := bodyOf Tryz.f328) (args := #[.int .u64 x_1]) 400 follows_mixed Tryz.func328 (by kernel_rfl) (by kernel_rfl)
set_option maxRecDepth 100000 in
/-- slices.rotateCmpFunc[joinery/api.Pair] -/
def sh330 (data_p1 : Option Addr) (data_n2 : Nat) (data_c3 : Nat) (a_4 : Int) (m_5 : Int) (b_6 : Int) (cmp_f7 : Fn) (cmp_x8 : Array Value) (cmp_c9 : Array Value) (R : Ending → World → Prop) (w : World) : Prop :=
 ∃ (I10 : List Value → World → Prop) (μ11 : List Value → World → Nat), I10 [.int .i64 (IntKind.wrap .i64 (m_5 - a_4)), .int .i64 (IntKind.wrap .i64 (b_6 - m_5))] w ∧ (∀ (i_14 : Int), ∀ (j_15 : Int), ∀ (_j12 : Nat → Value) (w13 : World), I10 [.int .i64 i_14, .int .i64 j_15] w13 → (
 ifB ((i_14 : Int) != j_15) (
 ifB (decide ((i_14 : Int) > j_15)) (
 doCall Tryz.prog (.func (.func 345) #[] #[]) #[.slice data_p1 data_n2 data_c3, .int .i64 (IntKind.wrap .i64 (m_5 - i_14)), .int .i64 m_5, .int .i64 j_15, .func cmp_f7 cmp_x8 cmp_c9] w13 (retS (fun v16 w17 => v16 = (.tuple #[] : Value) ∧ (
 I10 [.int .i64 (IntKind.wrap .i64 (i_14 - j_15)), .int .i64 j_15] w17 ∧ μ11 [.int .i64 (IntKind.wrap .i64 (i_14 - j_15)), .int .i64 j_15] w17 < μ11 [.int .i64 i_14, .int .i64 j_15] w13)) (fun ch w => Kfn R ch [] w))) (
 doCall Tryz.prog (.func (.func 345) #[] #[]) #[.slice data_p1 data_n2 data_c3, .int .i64 (IntKind.wrap .i64 (m_5 - i_14)), .int .i64 (IntKind.wrap .i64 ((IntKind.wrap .i64 (m_5 + j_15)) - i_14)), .int .i64 i_14, .func cmp_f7 cmp_x8 cmp_c9] w13 (retS (fun v18 w19 => v18 = (.tuple #[] : Value) ∧ (
 I10 [.int .i64 i_14, .int .i64 (IntKind.wrap .i64 (j_15 - i_14))] w19 ∧ μ11 [.int .i64 i_14, .int .i64 (IntKind.wrap .i64 (j_15 - i_14))] w19 < μ11 [.int .i64 i_14, .int .i64 j_15] w13)) (fun ch w => Kfn R ch [] w)))) (
 doCall Tryz.prog (.func (.func 345) #[] #[]) #[.slice data_p1 data_n2 data_c3, .int .i64 (IntKind.wrap .i64 (m_5 - i_14)), .int .i64 m_5, .int .i64 i_14, .func cmp_f7 cmp_x8 cmp_c9] w13 (retS (fun v20 w21 => v20 = (.tuple #[] : Value) ∧ (
 R (.returned (.tuple #[])) w21)) (fun ch w => Kfn R ch [] w)))))
set_option maxRecDepth 100000 in
theorem sh330_ok (data_p1 : Option Addr) (data_n2 : Nat) (data_c3 : Nat) (a_4 : Int) (m_5 : Int) (b_6 : Int) (cmp_f7 : Fn) (cmp_x8 : Array Value) (cmp_c9 : Array Value) {R : Ending → World → Prop} {w : World} : sh330 data_p1 data_n2 data_c3 a_4 m_5 b_6 cmp_f7 cmp_x8 cmp_c9 R w → Calls Tryz.prog 330 #[.slice data_p1 data_n2 data_c3, .int .i64 a_4, .int .i64 m_5, .int .i64 b_6, .func cmp_f7 cmp_x8 cmp_c9] w R :=
  calls_of_eq (ann := fun i => if i = 0 then [(10, .int .i64 0), (11, .int .i64 0)] else []) (fn := Tryz.f330) (c := bodyOf Tryz.f330) (args := #[.slice data_p1 data_n2 data_c3, .int .i64 a_4, .int .i64 m_5, .int .i64 b_6, .func cmp_f7 cmp_x8 cmp_c9]) 400 follows_mixed Tryz.func330 (by kernel_rfl) (by kernel_rfl)
set_option maxRecDepth 100000 in
/-- joinery/cut.to$1 -/
def sh339 (there_1 : Option Addr) (x_2 : Int) (x_3 : Int) (x_4 : Int) (others_5 : Option Addr) (x6 : Addr) (R : Ending → World → Prop) (w : World) : Prop :=
 doAl (.cells #[.int .i64 x_2, .int .i64 x_3, .int .u64 x_4] 114) w (fun b7 w8 =>
 ∃ (x9 : Option Addr), World.cell? w8 x6 = some (.pointer x9) ∧ (
 ∃ (x10 : Int), World.cell? w8 ((blk b7).add 0) = some (.int .i64 x10) ∧ (
 ∃ (x11 : Int), World.cell? w8 ((blk b7).add 1) = some (.int .i64 x11) ∧ (
 ∃ (x12 : Int), World.cell? w8 ((blk b7).add 2) = some (.int .u64 x12) ∧ (
 doCall Tryz.prog (.func (.func 106) #[] #[]) #[.pointer x9, .pointer others_5, .agg #[.int .i64 x10, .int .i64 x11, .int .u64 x12], .pointer there_1] w8 (retS (fun v14 w15 => ∃ (x13 : Option Addr), v14 = (.pointer x13 : Value) ∧ (
 R (.returned (.pointer x13)) w15)) (fun ch w => Kfn R ch [] w)))))))
set_option maxRecDepth 100000 in
theorem sh339_ok (there_1 : Option Addr) (x_2 : Int) (x_3 : Int) (x_4 : Int) (others_5 : Option Addr) (x6 : Addr) {R : Ending → World → Prop} {w : World} : sh339 there_1 x_2 x_3 x_4 others_5 x6 R w → Calls Tryz.prog 339 #[.pointer there_1, .agg #[.int .i64 x_2, .int .i64 x_3, .int .u64 x_4], .pointer others_5, .pointer (some x6)] w R :=
  calls_of_eq (ann := fun _ => []) (fn := Tryz.f339) (c := bodyOf Tryz.f339) (args := #[.pointer there_1, .agg #[.int .i64 x_2, .int .i64 x_3, .int .u64 x_4], .pointer others_5, .pointer (some x6)]) 400 follows_mixed Tryz.func339 (by kernel_rfl) (by kernel_rfl)
set_option maxRecDepth 100000 in
/-- joinery/wbjoin.of -/
def sh343 (t_1 : Option Addr) (R : Ending → World → Prop) (w : World) : Prop :=
 doAl (.cells #[.pointer none, .pointer none] 376) w (fun b2 w3 =>
 doCall Tryz.prog (.func (.func 123) #[] #[]) #[.pointer t_1] w3 (retS (fun v5 w6 => ∃ (x4 : Option Addr), v5 = (.pointer x4 : Value) ∧ (
 doCall Tryz.prog (.func (.func 125) #[] #[]) #[.pointer t_1] w6 (retS (fun v8 w9 => ∃ (x7 : Option Addr), v8 = (.pointer x7 : Value) ∧ (
 doSt ((blk b2).add 0) (.pointer x4) w9 (fun w10 =>
 doSt ((blk b2).add 1) (.pointer x7) w10 (fun w11 =>
 ∃ (x12 : Option Addr), World.cell? w11 ((blk b2).add 0) = some (.pointer x12) ∧ (
 ∃ (x13 : Option Addr), World.cell? w11 ((blk b2).add 1) = some (.pointer x13) ∧ (
 R (.returned (.agg #[.pointer x12, .pointer x13])) w11)))))) (fun ch w => Kfn R ch [] w)))) (fun ch w => Kfn R ch [] w)))
set_option maxRecDepth 100000 in
theorem sh343_ok (t_1 : Option Addr) {R : Ending → World → Prop} {w : World} : sh343 t_1 R w → Calls Tryz.prog 343 #[.pointer t_1] w R :=
  calls_of_eq (ann := fun _ => []) (fn := Tryz.f343) (c := bodyOf Tryz.f343) (args := #[.pointer t_1]) 400 follows_mixed Tryz.func343 (by kernel_rfl) (by kernel_rfl)
set_option maxRecDepth 100000 in
/-- math/bits.ReverseBytes64 -/
def sh344 (x_1 : Int) (R : Ending → World → Prop) (w : World) : Prop :=
 (0 : Int) ≤ 8 ∧ (
 (0 : Int) ≤ 8 ∧ (
 (0 : Int) ≤ 16 ∧ (
 (0 : Int) ≤ 16 ∧ (
 (0 : Int) ≤ 32 ∧ (
 (0 : Int) ≤ 32 ∧ (
 R (.returned (.int .u64 (bOr .u64 (Int.fdiv (bOr .u64 (bAnd .u64 (Int.fdiv (bOr .u64 (bAnd .u64 (Int.fdiv x_1 (2 ^ (min (8 : Int).toNat (IntKind.bits .u64)))) 71777214294589695) (IntKind.wrap .u64 ((bAnd .u64 x_1 71777214294589695) * 2 ^ (min (8 : Int).toNat (IntKind.bits .u64))))) (2 ^ (min (16 : Int).toNat (IntKind.bits .u64)))) 281470681808895) (IntKind.wrap .u64 ((bAnd .u64 (bOr .u64 (bAnd .u64 (Int.fdiv x_1 (2 ^ (min (8 : Int).toNat (IntKind.bits .u64)))) 71777214294589695) (IntKind.wrap .u64 ((bAnd .u64 x_1 71777214294589695) * 2 ^ (min (8 : Int).toNat (IntKind.bits .u64))))) 281470681808895) * 2 ^ (min (16 : Int).toNat (IntKind.bits .u64))))) (2 ^ (min (32 : Int).toNat (IntKind.bits .u64)))) (IntKind.wrap .u64 ((bOr .u64 (bAnd .u64 (Int.fdiv (bOr .u64 (bAnd .u64 (Int.fdiv x_1 (2 ^ (min (8 : Int).toNat (IntKind.bits .u64)))) 71777214294589695) (IntKind.wrap .u64 ((bAnd .u64 x_1 71777214294589695) * 2 ^ (min (8 : Int).toNat (IntKind.bits .u64))))) (2 ^ (min (16 : Int).toNat (IntKind.bits .u64)))) 281470681808895) (IntKind.wrap .u64 ((bAnd .u64 (bOr .u64 (bAnd .u64 (Int.fdiv x_1 (2 ^ (min (8 : Int).toNat (IntKind.bits .u64)))) 71777214294589695) (IntKind.wrap .u64 ((bAnd .u64 x_1 71777214294589695) * 2 ^ (min (8 : Int).toNat (IntKind.bits .u64))))) 281470681808895) * 2 ^ (min (16 : Int).toNat (IntKind.bits .u64))))) * 2 ^ (min (32 : Int).toNat (IntKind.bits .u64))))))) w))))))
set_option maxRecDepth 100000 in
theorem sh344_ok (x_1 : Int) {R : Ending → World → Prop} {w : World} : sh344 x_1 R w → Calls Tryz.prog 344 #[.int .u64 x_1] w R :=
  calls_of_eq (ann := fun _ => []) (fn := Tryz.f344) (c := bodyOf Tryz.f344) (args := #[.int .u64 x_1]) 400 follows_mixed Tryz.func344 (by kernel_rfl) (by kernel_rfl)
set_option maxRecDepth 100000 in
/-- slices.swapRangeCmpFunc[joinery/api.Pair] -/
def sh345 (data_p1 : Option Addr) (data_n2 : Nat) (_data_c3 : Nat) (a_4 : Int) (b_5 : Int) (n_6 : Int) (_cmp_f7 : Fn) (_cmp_x8 : Array Value) (_cmp_c9 : Array Value) (R : Ending → World → Prop) (w : World) : Prop :=
 ∃ (I10 : List Value → World → Prop) (μ11 : List Value → World → Nat), I10 [.int .i64 0] w ∧ (∀ (i_14 : Int), ∀ (_j12 : Nat → Value) (w13 : World), I10 [.int .i64 i_14] w13 → (
 ifB (decide ((i_14 : Int) < n_6)) (
 doDr w13 (fun w16 =>
 ∃ (C15 : World → Prop), C15 w16 ∧ (
 doIx data_p1 data_n2 2 (IntKind.wrap .i64 (b_5 + i_14)) (fun a17 =>
 ∃ (x18 : Int), (∀ w, C15 w → World.cell? w (a17.add 0) = some (.int .i64 x18)) ∧ (
 ∃ (x19 : Int), (∀ w, C15 w → World.cell? w (a17.add 1) = some (.int .i64 x19)) ∧ (
 doIx data_p1 data_n2 2 (IntKind.wrap .i64 (a_4 + i_14)) (fun a20 =>
 ∃ (x21 : Int), (∀ w, C15 w → World.cell? w (a20.add 0) = some (.int .i64 x21)) ∧ (
 ∃ (x22 : Int), (∀ w, C15 w → World.cell? w (a20.add 1) = some (.int .i64 x22)) ∧ (
 doIx data_p1 data_n2 2 (IntKind.wrap .i64 (a_4 + i_14)) (fun a23 =>
 doSt (a23.add 0) (.int .i64 x18) w16 (fun w24 =>
 doSt (a23.add 1) (.int .i64 x19) w24 (fun w25 =>
 doIx data_p1 data_n2 2 (IntKind.wrap .i64 (b_5 + i_14)) (fun a26 =>
 doSt (a26.add 0) (.int .i64 x21) w25 (fun w27 =>
 doSt (a26.add 1) (.int .i64 x22) w27 (fun w28 =>
 I10 [.int .i64 (IntKind.wrap .i64 (i_14 + 1))] w28 ∧ μ11 [.int .i64 (IntKind.wrap .i64 (i_14 + 1))] w28 < μ11 [.int .i64 i_14] w13))))))))))))))) (
 R (.returned (.tuple #[])) w13)))
set_option maxRecDepth 100000 in
theorem sh345_ok (data_p1 : Option Addr) (data_n2 : Nat) (data_c3 : Nat) (a_4 : Int) (b_5 : Int) (n_6 : Int) (cmp_f7 : Fn) (cmp_x8 : Array Value) (cmp_c9 : Array Value) {R : Ending → World → Prop} {w : World} : sh345 data_p1 data_n2 data_c3 a_4 b_5 n_6 cmp_f7 cmp_x8 cmp_c9 R w → Calls Tryz.prog 345 #[.slice data_p1 data_n2 data_c3, .int .i64 a_4, .int .i64 b_5, .int .i64 n_6, .func cmp_f7 cmp_x8 cmp_c9] w R :=
  calls_of_eq (ann := fun i => if i = 0 then [(10, .int .i64 0)] else []) (fn := Tryz.f345) (c := bodyOf Tryz.f345) (args := #[.slice data_p1 data_n2 data_c3, .int .i64 a_4, .int .i64 b_5, .int .i64 n_6, .func cmp_f7 cmp_x8 cmp_c9]) 400 follows_mixed Tryz.func345 (by kernel_rfl) (by kernel_rfl)
end Go.Proofs.YtlddfgfmkapoiaaGreat

