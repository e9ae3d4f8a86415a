/-
  Printed by a program (gen.py): what the functions of the program do, as formulas; each with the proof that its call is what the formula says.
-/
import Derived.Test.YtlddfgfmkapoiaaGreatZ02
import Derived.Test.YtlddfgfmkapoiaaGreatProg
import Derived.Test.YtlddfgfmkapoiaaGreatZ05

namespace Go.Proofs.YtlddfgfmkapoiaaGreat
open Go Go.Sh
set_option maxRecDepth 100000 in
/-- joinery/rowset.Sort$1 -/
def sh175 (a_1 : Int) (a_2 : Int) (b_3 : Int) (b_4 : Int) (x5 : Addr) (R : Ending → World → Prop) (w : World) : Prop :=
 doAl (.cells #[.int .i64 a_1, .int .i64 a_2] 46) w (fun b6 w7 =>
 doAl (.cells #[.int .i64 b_3, .int .i64 b_4] 46) w7 (fun b8 w9 =>
 ∃ (x10 : Int), World.cell? w9 x5 = some (.int .u8 x10) ∧ (
 ∃ (x11 : Int), World.cell? w9 ((blk b6).add 0) = some (.int .i64 x11) ∧ (
 ∃ (x12 : Int), World.cell? w9 ((blk b8).add 0) = some (.int .i64 x12) ∧ (
 doCall Tryz.prog (.func (.func 176) #[] #[]) #[.int .u8 x10, .int .i64 x11, .int .i64 x12] w9 (retS (fun v14 w15 => ∃ (x13 : Int), v14 = (.int .i64 x13 : Value) ∧ (
 R (.returned (.int .i64 x13)) w15)) (fun ch w => Kfn R ch [] w)))))))
set_option maxRecDepth 100000 in
theorem sh175_ok (a_1 : Int) (a_2 : Int) (b_3 : Int) (b_4 : Int) (x5 : Addr) {R : Ending → World → Prop} {w : World} : sh175 a_1 a_2 b_3 b_4 x5 R w → Calls Tryz.prog 175 #[.agg #[.int .i64 a_1, .int .i64 a_2], .agg #[.int .i64 b_3, .int .i64 b_4], .pointer (some x5)] w R :=
  calls_of_eq (ann := fun _ => []) (fn := Tryz.f175) (c := bodyOf Tryz.f175) (args := #[.agg #[.int .i64 a_1, .int .i64 a_2], .agg #[.int .i64 b_3, .int .i64 b_4], .pointer (some x5)]) 400 follows_mixed Tryz.func175 (by kernel_rfl) (by kernel_rfl)
set_option maxRecDepth 100000 in
/-- joinery/order.Compare -/
def sh176 (o_1 : Int) (a_2 : Int) (b_3 : Int) (R : Ending → World → Prop) (w : World) : Prop :=
 doCall Tryz.prog (.func (.func 215) #[] #[]) #[.int .u8 o_1, .int .i64 a_2] w (retS (fun v6 w7 => ∃ (x4 : Int), ∃ (x5 : Int), v6 = (.tuple #[.int .u64 x4, .int .i64 x5] : Value) ∧ (
 doCall Tryz.prog (.func (.func 215) #[] #[]) #[.int .u8 o_1, .int .i64 b_3] w7 (retS (fun v10 w11 => ∃ (x8 : Int), ∃ (x9 : Int), v10 = (.tuple #[.int .u64 x8, .int .i64 x9] : Value) ∧ (
 ifB ((x5 : Int) != 0) (
 R (.returned (.int .i64 0)) w11) (
 doCall Tryz.prog (.func (.func 217) #[] #[]) #[.int .u64 x4, .int .u64 x8] w11 (retS (fun v13 w14 => ∃ (x12 : Int), v13 = (.int .i64 x12 : Value) ∧ (
 R (.returned (.int .i64 x12)) w14)) (fun ch w => Kfn R ch [] w))))) (fun ch w => Kfn R ch [] w)))) (fun ch w => Kfn R ch [] w))
set_option maxRecDepth 100000 in
theorem sh176_ok (o_1 : Int) (a_2 : Int) (b_3 : Int) {R : Ending → World → Prop} {w : World} : sh176 o_1 a_2 b_3 R w → Calls Tryz.prog 176 #[.int .u8 o_1, .int .i64 a_2, .int .i64 b_3] w R :=
  calls_of_eq (ann := fun _ => []) (fn := Tryz.f176) (c := bodyOf Tryz.f176) (args := #[.int .u8 o_1, .int .i64 a_2, .int .i64 b_3]) 400 follows_mixed Tryz.func176 (by kernel_rfl) (by kernel_rfl)
set_option maxRecDepth 100000 in
/-- joinery/joineryref04.Put -/
def sh177 (o_1 : Int) (p_2 : Int) (l_p3 : Option Addr) (l_n4 : Nat) (l_c5 : Nat) (x_6 : Int) (x_7 : Int) (R : Ending → World → Prop) (w : World) : Prop :=
 doAl (.cells #[.int .i64 x_6, .int .i64 x_7] 46) w (fun b8 w9 =>
 let K12 : Bool → World → Prop := fun (x10 : Bool) (w11 : World) => 
 ifB x10 (
 R (.returned (.tuple #[.slice none 0 0, .int .i64 2])) w11) (
 ∃ (x13 : Int), World.cell? w11 ((blk b8).add 0) = some (.int .i64 x13) ∧ (
 doCall Tryz.prog (.func (.func 237) #[] #[]) #[.int .u8 o_1, .slice l_p3 l_n4 l_c5, .int .i64 x13] w11 (retS (fun v16 w17 => ∃ (x14 : Int), ∃ (x15 : Bool), v16 = (.tuple #[.int .i64 x14, .bool x15] : Value) ∧ (
 doSl l_p3 l_c5 2 (0) (x14) (fun p18 n19 c20 =>
 doGo Tryz.prog (.builtin .append #[22, 22] 22 #[true, false]) #[.slice none 0 0, .slice p18 n19 c20] w17 (retS (fun v24 w25 => ∃ (xp21 : Option Addr), ∃ (xn22 : Nat), ∃ (xc23 : Nat), v24 = (.slice xp21 xn22 xc23 : Value) ∧ (
 let K28 : Int → World → Prop := fun (i_26 : Int) (w27 : World) => 
 doDr w27 (fun w30 =>
 ∃ (C29 : World → Prop), C29 w30 ∧ (
 ∃ (x31 : Int), (∀ w, C29 w → World.cell? w ((blk b8).add 0) = some (.int .i64 x31)) ∧ (
 ∃ (x32 : Int), (∀ w, C29 w → World.cell? w ((blk b8).add 1) = some (.int .i64 x32)) ∧ (
 doSl l_p3 l_c5 2 (i_26) (((l_n4 : Nat) : Int)) (fun p33 n34 c35 =>
 doAl (.cells #[.int .i64 x31, .int .i64 x32] 46) w30 (fun b36 w37 =>
 doGo Tryz.prog (.builtin .append #[22, 22] 22 #[false, false]) #[.slice xp21 xn22 xc23, .slice (some (blk b36)) 1 1] w37 (retS (fun v41 w42 => ∃ (xp38 : Option Addr), ∃ (xn39 : Nat), ∃ (xc40 : Nat), v41 = (.slice xp38 xn39 xc40 : Value) ∧ (
 C29 w42 ∧ (
 doGo Tryz.prog (.builtin .append #[22, 22] 22 #[false, false]) #[.slice xp38 xn39 xc40, .slice p33 n34 c35] w42 (retS (fun v46 w47 => ∃ (xp43 : Option Addr), ∃ (xn44 : Nat), ∃ (xc45 : Nat), v46 = (.slice xp43 xn44 xc45 : Value) ∧ (
 C29 w47 ∧ (
 R (.returned (.tuple #[.slice xp43 xn44 xc45, .int .i64 0])) w47))) (fun ch w => Kfn R ch [] w))))) (fun ch w => Kfn R ch [] w))))))))
 ifB x15 (
 doDr w25 (fun w49 =>
 ∃ (C48 : World → Prop), C48 w49 ∧ (
 doIx l_p3 l_n4 2 (x14) (fun a50 =>
 ∃ (x51 : Int), (∀ w, C48 w → World.cell? w (a50.add 1) = some (.int .i64 x51)) ∧ (
 ∃ (x52 : Int), (∀ w, C48 w → World.cell? w ((blk b8).add 1) = some (.int .i64 x52)) ∧ (
 doCall Tryz.prog (.func (.func 238) #[] #[]) #[.int .u8 p_2, .int .i64 x51, .int .i64 x52] w49 (retS (fun v54 w55 => ∃ (x53 : Int), v54 = (.int .i64 x53 : Value) ∧ (
 doSt (((blk b8).add 1).add 0) (.int .i64 x53) w55 (fun w56 =>
 K28 (IntKind.wrap .i64 (x14 + 1)) w56))) (fun ch w => Kfn R ch [] w)))))))) (
 K28 x14 w25))) (fun ch w => Kfn R ch [] w))))) (fun ch w => Kfn R ch [] w))))
 doCall Tryz.prog (.func (.func 30) #[] #[]) #[.int .u8 o_1, .slice l_p3 l_n4 l_c5] w9 (retS (fun v58 w59 => ∃ (x57 : Bool), v58 = (.bool x57 : Value) ∧ (
 ifB (!x57) (
 R (.returned (.tuple #[.slice none 0 0, .int .i64 2])) w59) (
 doCall Tryz.prog (.func (.func 17) #[] #[]) #[.int .u8 p_2] w59 (retS (fun v61 w62 => ∃ (x60 : Bool), v61 = (.bool x60 : Value) ∧ (
 K12 (!x60) w62)) (fun ch w => Kfn R ch [] w))))) (fun ch w => Kfn R ch [] w)))
set_option maxRecDepth 100000 in
theorem sh177_ok (o_1 : Int) (p_2 : Int) (l_p3 : Option Addr) (l_n4 : Nat) (l_c5 : Nat) (x_6 : Int) (x_7 : Int) {R : Ending → World → Prop} {w : World} : sh177 o_1 p_2 l_p3 l_n4 l_c5 x_6 x_7 R w → Calls Tryz.prog 177 #[.int .u8 o_1, .int .u8 p_2, .slice l_p3 l_n4 l_c5, .agg #[.int .i64 x_6, .int .i64 x_7]] w R :=
  calls_of_eq (ann := fun _ => []) (fn := Tryz.f177) (c := bodyOf Tryz.f177) (args := #[.int .u8 o_1, .int .u8 p_2, .slice l_p3 l_n4 l_c5, .agg #[.int .i64 x_6, .int .i64 x_7]]) 400 follows_mixed Tryz.func177 (by kernel_rfl) (by kernel_rfl)
set_option maxRecDepth 100000 in
/-- joinery/joinerylaw09.see -/
def sh178 (t_1 : Option Addr) (l_p2 : Option Addr) (l_n3 : Nat) (l_c4 : Nat) (deep_5 : Int) (R : Ending → World → Prop) (w : World) : Prop :=
 ifB ((t_1).isNone) (
 R (.returned (.tuple #[.slice l_p2 l_n3 l_c4, .bool true])) w) (
 let K8 : Bool → World → Prop := fun (x6 : Bool) (w7 : World) => 
 ifB x6 (
 R (.returned (.tuple #[.slice l_p2 l_n3 l_c4, .bool false])) w7) (
 doCall Tryz.prog (.func (.func 108) #[] #[]) #[.pointer t_1] w7 (retS (fun v10 w11 => ∃ (x9 : Int), v10 = (.int .i64 x9 : Value) ∧ (
 doCall Tryz.prog (.func (.func 126) #[] #[]) #[.pointer t_1] w11 (retS (fun v13 w14 => ∃ (x12 : Int), v13 = (.int .i64 x12 : Value) ∧ (
 doCall Tryz.prog (.func (.func 196) #[] #[]) #[.pointer t_1] w14 (retS (fun v16 w17 => ∃ (x15 : Int), v16 = (.int .u64 x15 : Value) ∧ (
 doCall Tryz.prog (.func (.func 91) #[] #[]) #[.pointer t_1] w17 (retS (fun v19 w20 => ∃ (x18 : Int), v19 = (.int .i64 x18 : Value) ∧ (
 doCall Tryz.prog (.func (.func 107) #[] #[]) #[.pointer t_1] w20 (retS (fun v22 w23 => ∃ (x21 : Int), v22 = (.int .i64 x21 : Value) ∧ (
 doCall Tryz.prog (.func (.func 123) #[] #[]) #[.pointer t_1] w23 (retS (fun v25 w26 => ∃ (x24 : Option Addr), v25 = (.pointer x24 : Value) ∧ (
 doCall Tryz.prog (.func (.func 125) #[] #[]) #[.pointer t_1] w26 (retS (fun v28 w29 => ∃ (x27 : Option Addr), v28 = (.pointer x27 : Value) ∧ (
 doAl (.cells #[.int .i64 x9, .int .i64 x12, .int .i64 x21, .int .i64 x18, .int .u64 x15, .bool (!(x24).isNone), .bool (!(x27).isNone)] 150) w29 (fun b30 w31 =>
 doGo Tryz.prog (.builtin .append #[57, 57] 57 #[false, false]) #[.slice l_p2 l_n3 l_c4, .slice (some (blk b30)) 1 1] w31 (retS (fun v35 w36 => ∃ (xp32 : Option Addr), ∃ (xn33 : Nat), ∃ (xc34 : Nat), v35 = (.slice xp32 xn33 xc34 : Value) ∧ (
 doCall Tryz.prog (.func (.func 123) #[] #[]) #[.pointer t_1] w36 (retS (fun v38 w39 => ∃ (x37 : Option Addr), v38 = (.pointer x37 : Value) ∧ (
 doCall Tryz.prog (.func (.func 178) #[] #[]) #[.pointer x37, .slice xp32 xn33 xc34, .int .i64 (IntKind.wrap .i64 (deep_5 + 1))] w39 (retS (fun v44 w45 => ∃ (xp40 : Option Addr), ∃ (xn41 : Nat), ∃ (xc42 : Nat), ∃ (x43 : Bool), v44 = (.tuple #[.slice xp40 xn41 xc42, .bool x43] : Value) ∧ (
 ifB (!x43) (
 R (.returned (.tuple #[.slice xp40 xn41 xc42, .bool false])) w45) (
 doCall Tryz.prog (.func (.func 125) #[] #[]) #[.pointer t_1] w45 (retS (fun v47 w48 => ∃ (x46 : Option Addr), v47 = (.pointer x46 : Value) ∧ (
 doCall Tryz.prog (.func (.func 178) #[] #[]) #[.pointer x46, .slice xp40 xn41 xc42, .int .i64 (IntKind.wrap .i64 (deep_5 + 1))] w48 (retS (fun v53 w54 => ∃ (xp49 : Option Addr), ∃ (xn50 : Nat), ∃ (xc51 : Nat), ∃ (x52 : Bool), v53 = (.tuple #[.slice xp49 xn50 xc51, .bool x52] : Value) ∧ (
 R (.returned (.tuple #[.slice xp49 xn50 xc51, .bool x52])) w54)) (fun ch w => Kfn R ch [] w)))) (fun ch w => Kfn R ch [] w))))) (fun ch w => Kfn R ch [] w)))) (fun ch w => Kfn R ch [] w)))) (fun ch w => Kfn R ch [] w))))) (fun ch w => Kfn R ch [] w)))) (fun ch w => Kfn R ch [] w)))) (fun ch w => Kfn R ch [] w)))) (fun ch w => Kfn R ch [] w)))) (fun ch w => Kfn R ch [] w)))) (fun ch w => Kfn R ch [] w)))) (fun ch w => Kfn R ch [] w)))
 ifB (decide ((((l_n3 : Nat) : Int) : Int) > 5000)) (
 R (.returned (.tuple #[.slice l_p2 l_n3 l_c4, .bool false])) w) (
 K8 (decide ((deep_5 : Int) > 2000)) w))
set_option maxRecDepth 100000 in
theorem sh178_ok (t_1 : Option Addr) (l_p2 : Option Addr) (l_n3 : Nat) (l_c4 : Nat) (deep_5 : Int) {R : Ending → World → Prop} {w : World} : sh178 t_1 l_p2 l_n3 l_c4 deep_5 R w → Calls Tryz.prog 178 #[.pointer t_1, .slice l_p2 l_n3 l_c4, .int .i64 deep_5] w R :=
  calls_of_eq (ann := fun _ => []) (fn := Tryz.f178) (c := bodyOf Tryz.f178) (args := #[.pointer t_1, .slice l_p2 l_n3 l_c4, .int .i64 deep_5]) 400 follows_mixed Tryz.func178 (by kernel_rfl) (by kernel_rfl)
set_option maxRecDepth 100000 in
/-- joinery/joineryref22.May -/
def sh179 (code_1 : Int) (l_p2 : Option Addr) (l_n3 : Nat) (l_c4 : Nat) (R : Ending → World → Prop) (w : World) : Prop :=
 doCall Tryz.prog (.func (.func 239) #[] #[]) #[.int .u8 code_1, .slice l_p2 l_n3 l_c4] w (retS (fun v7 w8 => ∃ (x5 : Int), ∃ (x6 : Int), v7 = (.tuple #[.int .i64 x5, .int .i64 x6] : Value) ∧ (
 R (.returned (.bool ((x6 : Int) == 0))) w8)) (fun ch w => Kfn R ch [] w))
set_option maxRecDepth 100000 in
theorem sh179_ok (code_1 : Int) (l_p2 : Option Addr) (l_n3 : Nat) (l_c4 : Nat) {R : Ending → World → Prop} {w : World} : sh179 code_1 l_p2 l_n3 l_c4 R w → Calls Tryz.prog 179 #[.int .u8 code_1, .slice l_p2 l_n3 l_c4] w R :=
  calls_of_eq (ann := fun _ => []) (fn := Tryz.f179) (c := bodyOf Tryz.f179) (args := #[.int .u8 code_1, .slice l_p2 l_n3 l_c4]) 400 follows_mixed Tryz.func179 (by kernel_rfl) (by kernel_rfl)
set_option maxRecDepth 100000 in
/-- joinery/row.two -/
def sh182 (l_p1 : Option Addr) (l_n2 : Nat) (l_c3 : Nat) (R : Ending → World → Prop) (w : World) : Prop :=
 doAl (.cells #[.slice l_p1 l_n2 l_c3] 22) w (fun b4 w5 =>
 R (.returned (.func (.func 242) #[] #[.pointer (some (blk b4))])) w5)
set_option maxRecDepth 100000 in
theorem sh182_ok (l_p1 : Option Addr) (l_n2 : Nat) (l_c3 : Nat) {R : Ending → World → Prop} {w : World} : sh182 l_p1 l_n2 l_c3 R w → Calls Tryz.prog 182 #[.slice l_p1 l_n2 l_c3] w R :=
  calls_of_eq (ann := fun _ => []) (fn := Tryz.f182) (c := bodyOf Tryz.f182) (args := #[.slice l_p1 l_n2 l_c3]) 400 follows_mixed Tryz.func182 (by kernel_rfl) (by kernel_rfl)
set_option maxRecDepth 100000 in
/-- (*sync/atomic.Uint64).Add -/
def sh187 (x_1 : Option Addr) (delta_2 : Int) (R : Ending → World → Prop) (w : World) : Prop :=
 ∃ (q3 : Addr), x_1 = some q3 ∧ (
 doCall Tryz.prog (.func (.func 243) #[] #[]) #[.pointer (some (q3.add 0)), .int .u64 delta_2] w (retS (fun v5 w6 => ∃ (x4 : Int), v5 = (.int .u64 x4 : Value) ∧ (
 R (.returned (.int .u64 x4)) w6)) (fun ch w => Kfn R ch [] w)))
set_option maxRecDepth 100000 in
theorem sh187_ok (x_1 : Option Addr) (delta_2 : Int) {R : Ending → World → Prop} {w : World} : sh187 x_1 delta_2 R w → Calls Tryz.prog 187 #[.pointer x_1, .int .u64 delta_2] w R :=
  calls_of_eq (ann := fun _ => []) (fn := Tryz.f187) (c := bodyOf Tryz.f187) (args := #[.pointer x_1, .int .u64 delta_2]) 400 follows_mixed Tryz.func187 (by kernel_rfl) (by kernel_rfl)
set_option maxRecDepth 100000 in
/-- (*joinery/scheme.Scheme).face -/
def sh188 (s_1 : Option Addr) (R : Ending → World → Prop) (w : World) : Prop :=
 doAl (.cells #[.pointer s_1] 25) w (fun b2 w3 =>
 doAl (.cells #[.string (⟨#[]⟩ : ByteArray), .nilFunc, .nilFunc, .nilFunc, .nilFunc, .nilFunc, .nilFunc, .bool false] 226) w3 (fun b4 w5 =>
 ∃ (x6 : Option Addr), World.cell? w5 (blk b2) = some (.pointer x6) ∧ (
 ∃ (q7 : Addr), x6 = some q7 ∧ (
 doCall Tryz.prog (.func (.func 244) #[] #[]) #[.pointer (some (q7.add 1)), .func (.func 245) #[] #[.pointer (some (blk b2))]] w5 (retS (fun v8 w9 => v8 = (.tuple #[] : Value) ∧ (
 ∃ (x10 : Option Addr), World.cell? w9 (blk b2) = some (.pointer x10) ∧ (
 ∃ (q11 : Addr), x10 = some q11 ∧ (
 ∃ (x12 : ByteArray), World.cell? w9 ((q11.add 4).add 0) = some (.string x12) ∧ (
 ∃ (xf13 : Fn), ∃ (xx14 : Array Value), ∃ (xc15 : Array Value), World.cell? w9 ((q11.add 4).add 1) = some (.func xf13 xx14 xc15) ∧ (
 ∃ (xf16 : Fn), ∃ (xx17 : Array Value), ∃ (xc18 : Array Value), World.cell? w9 ((q11.add 4).add 2) = some (.func xf16 xx17 xc18) ∧ (
 ∃ (xf19 : Fn), ∃ (xx20 : Array Value), ∃ (xc21 : Array Value), World.cell? w9 ((q11.add 4).add 3) = some (.func xf19 xx20 xc21) ∧ (
 ∃ (xf22 : Fn), ∃ (xx23 : Array Value), ∃ (xc24 : Array Value), World.cell? w9 ((q11.add 4).add 4) = some (.func xf22 xx23 xc24) ∧ (
 ∃ (xf25 : Fn), ∃ (xx26 : Array Value), ∃ (xc27 : Array Value), World.cell? w9 ((q11.add 4).add 5) = some (.func xf25 xx26 xc27) ∧ (
 ∃ (xf28 : Fn), ∃ (xx29 : Array Value), ∃ (xc30 : Array Value), World.cell? w9 ((q11.add 4).add 6) = some (.func xf28 xx29 xc30) ∧ (
 ∃ (x31 : Bool), World.cell? w9 ((q11.add 4).add 7) = some (.bool x31) ∧ (
 doSt ((blk b4).add 0) (.string x12) w9 (fun w32 =>
 doSt ((blk b4).add 1) (.func xf13 xx14 xc15) w32 (fun w33 =>
 doSt ((blk b4).add 2) (.func xf16 xx17 xc18) w33 (fun w34 =>
 doSt ((blk b4).add 3) (.func xf19 xx20 xc21) w34 (fun w35 =>
 doSt ((blk b4).add 4) (.func xf22 xx23 xc24) w35 (fun w36 =>
 doSt ((blk b4).add 5) (.func xf25 xx26 xc27) w36 (fun w37 =>
 doSt ((blk b4).add 6) (.func xf28 xx29 xc30) w37 (fun w38 =>
 doSt ((blk b4).add 7) (.bool x31) w38 (fun w39 =>
 ∃ (x40 : ByteArray), World.cell? w39 ((blk b4).add 0) = some (.string x40) ∧ (
 ∃ (xf41 : Fn), ∃ (xx42 : Array Value), ∃ (xc43 : Array Value), World.cell? w39 ((blk b4).add 1) = some (.func xf41 xx42 xc43) ∧ (
 ∃ (xf44 : Fn), ∃ (xx45 : Array Value), ∃ (xc46 : Array Value), World.cell? w39 ((blk b4).add 2) = some (.func xf44 xx45 xc46) ∧ (
 ∃ (xf47 : Fn), ∃ (xx48 : Array Value), ∃ (xc49 : Array Value), World.cell? w39 ((blk b4).add 3) = some (.func xf47 xx48 xc49) ∧ (
 ∃ (xf50 : Fn), ∃ (xx51 : Array Value), ∃ (xc52 : Array Value), World.cell? w39 ((blk b4).add 4) = some (.func xf50 xx51 xc52) ∧ (
 ∃ (xf53 : Fn), ∃ (xx54 : Array Value), ∃ (xc55 : Array Value), World.cell? w39 ((blk b4).add 5) = some (.func xf53 xx54 xc55) ∧ (
 ∃ (xf56 : Fn), ∃ (xx57 : Array Value), ∃ (xc58 : Array Value), World.cell? w39 ((blk b4).add 6) = some (.func xf56 xx57 xc58) ∧ (
 ∃ (x59 : Bool), World.cell? w39 ((blk b4).add 7) = some (.bool x59) ∧ (
 R (.returned (.agg #[.string x40, .func xf41 xx42 xc43, .func xf44 xx45 xc46, .func xf47 xx48 xc49, .func xf50 xx51 xc52, .func xf53 xx54 xc55, .func xf56 xx57 xc58, .bool x59])) w39)))))))))))))))))))))))))))) (fun ch w => Kfn R ch [] w))))))
set_option maxRecDepth 100000 in
theorem sh188_ok (s_1 : Option Addr) {R : Ending → World → Prop} {w : World} : sh188 s_1 R w → Calls Tryz.prog 188 #[.pointer s_1] w R :=
  calls_of_eq (ann := fun _ => []) (fn := Tryz.f188) (c := bodyOf Tryz.f188) (args := #[.pointer s_1]) 400 follows_mixed Tryz.func188 (by kernel_rfl) (by kernel_rfl)
set_option maxRecDepth 100000 in
/-- joinery/joineryref09.ends -/
def sh189 (l_p1 : Option Addr) (l_n2 : Nat) (l_c3 : Nat) (at_4 : Int) (deep_5 : Int) (R : Ending → World → Prop) (w : World) : Prop :=
 let K8 : Bool → World → Prop := fun (x6 : Bool) (w7 : World) => 
 ifB x6 (
 R (.returned (.int .i64 (-1))) w7) (
 let K11 : Int → World → Prop := fun (n_9 : Int) (w10 : World) => 
 let K14 : Int → World → Prop := fun (n_12 : Int) (w13 : World) => 
 R (.returned (.int .i64 n_12)) w13
 doIx l_p1 l_n2 7 (at_4) (fun a15 =>
 ∃ (x16 : Bool), World.cell? w10 (a15.add 6) = some (.bool x16) ∧ (
 ifB x16 (
 doCall Tryz.prog (.func (.func 189) #[] #[]) #[.slice l_p1 l_n2 l_c3, .int .i64 (IntKind.wrap .i64 (at_4 + n_9)), .int .i64 (IntKind.wrap .i64 (deep_5 + 1))] w10 (retS (fun v18 w19 => ∃ (x17 : Int), v18 = (.int .i64 x17 : Value) ∧ (
 ifB (decide ((x17 : Int) < 0)) (
 R (.returned (.int .i64 (-1))) w19) (
 K14 (IntKind.wrap .i64 (n_9 + x17)) w19))) (fun ch w => Kfn R ch [] w))) (
 K14 n_9 w10)))
 doIx l_p1 l_n2 7 (at_4) (fun a20 =>
 ∃ (x21 : Bool), World.cell? w7 (a20.add 5) = some (.bool x21) ∧ (
 ifB x21 (
 doCall Tryz.prog (.func (.func 189) #[] #[]) #[.slice l_p1 l_n2 l_c3, .int .i64 (IntKind.wrap .i64 (at_4 + 1)), .int .i64 (IntKind.wrap .i64 (deep_5 + 1))] w7 (retS (fun v23 w24 => ∃ (x22 : Int), v23 = (.int .i64 x22 : Value) ∧ (
 ifB (decide ((x22 : Int) < 0)) (
 R (.returned (.int .i64 (-1))) w24) (
 K11 (IntKind.wrap .i64 (1 + x22)) w24))) (fun ch w => Kfn R ch [] w))) (
 K11 1 w7))))
 ifB (decide ((at_4 : Int) ≥ ((l_n2 : Nat) : Int))) (
 R (.returned (.int .i64 (-1))) w) (
 K8 (decide ((deep_5 : Int) > 5000)) w)
set_option maxRecDepth 100000 in
theorem sh189_ok (l_p1 : Option Addr) (l_n2 : Nat) (l_c3 : Nat) (at_4 : Int) (deep_5 : Int) {R : Ending → World → Prop} {w : World} : sh189 l_p1 l_n2 l_c3 at_4 deep_5 R w → Calls Tryz.prog 189 #[.slice l_p1 l_n2 l_c3, .int .i64 at_4, .int .i64 deep_5] w R :=
  calls_of_eq (ann := fun _ => []) (fn := Tryz.f189) (c := bodyOf Tryz.f189) (args := #[.slice l_p1 l_n2 l_c3, .int .i64 at_4, .int .i64 deep_5]) 400 follows_mixed Tryz.func189 (by kernel_rfl) (by kernel_rfl)
set_option maxRecDepth 100000 in
/-- joinery/joineryref20.item -/
def sh190 (x_1 : Int) (x_2 : Int) (x_3 : Int) (x_4 : Int) (x_5 : Int) (x_6 : Bool) (x_7 : Bool) (R : Ending → World → Prop) (w : World) : Prop :=
 doAl (.cells #[.int .i64 x_1, .int .i64 x_2, .int .i64 x_3, .int .i64 x_4, .int .u64 x_5, .bool x_6, .bool x_7] 150) w (fun b8 w9 =>
 doAl (.cells #[.int .i64 0, .int .i64 0, .int .u64 0] 114) w9 (fun b10 w11 =>
 ∃ (x12 : Int), World.cell? w11 ((blk b8).add 0) = some (.int .i64 x12) ∧ (
 ∃ (x13 : Int), World.cell? w11 ((blk b8).add 1) = some (.int .i64 x13) ∧ (
 ∃ (x14 : Int), World.cell? w11 ((blk b8).add 4) = some (.int .u64 x14) ∧ (
 doSt ((blk b10).add 0) (.int .i64 x12) w11 (fun w15 =>
 doSt ((blk b10).add 1) (.int .i64 x13) w15 (fun w16 =>
 doSt ((blk b10).add 2) (.int .u64 x14) w16 (fun w17 =>
 ∃ (x18 : Int), World.cell? w17 ((blk b10).add 0) = some (.int .i64 x18) ∧ (
 ∃ (x19 : Int), World.cell? w17 ((blk b10).add 1) = some (.int .i64 x19) ∧ (
 ∃ (x20 : Int), World.cell? w17 ((blk b10).add 2) = some (.int .u64 x20) ∧ (
 R (.returned (.agg #[.int .i64 x18, .int .i64 x19, .int .u64 x20])) w17)))))))))))
set_option maxRecDepth 100000 in
theorem sh190_ok (x_1 : Int) (x_2 : Int) (x_3 : Int) (x_4 : Int) (x_5 : Int) (x_6 : Bool) (x_7 : Bool) {R : Ending → World → Prop} {w : World} : sh190 x_1 x_2 x_3 x_4 x_5 x_6 x_7 R w → Calls Tryz.prog 190 #[.agg #[.int .i64 x_1, .int .i64 x_2, .int .i64 x_3, .int .i64 x_4, .int .u64 x_5, .bool x_6, .bool x_7]] w R :=
  calls_of_eq (ann := fun _ => []) (fn := Tryz.f190) (c := bodyOf Tryz.f190) (args := #[.agg #[.int .i64 x_1, .int .i64 x_2, .int .i64 x_3, .int .i64 x_4, .int .u64 x_5, .bool x_6, .bool x_7]]) 400 follows_mixed Tryz.func190 (by kernel_rfl) (by kernel_rfl)
set_option maxRecDepth 100000 in
/-- joinery/joineryref26.Insert -/
def sh191 (o_1 : Int) (p_2 : Int) (l_p3 : Option Addr) (l_n4 : Nat) (l_c5 : Nat) (x_6 : Int) (x_7 : Int) (x_8 : Int) (R : Ending → World → Prop) (w : World) : Prop :=
 doAl (.cells #[.int .i64 x_6, .int .i64 x_7, .int .u64 x_8] 114) w (fun b9 w10 =>
 ∃ (x11 : Int), World.cell? w10 ((blk b9).add 0) = some (.int .i64 x11) ∧ (
 doCall Tryz.prog (.func (.func 246) #[] #[]) #[.int .u8 o_1, .slice l_p3 l_n4 l_c5, .int .i64 x11] w10 (retS (fun v22 w23 => ∃ (xp12 : Option Addr), ∃ (xn13 : Nat), ∃ (xc14 : Nat), ∃ (x15 : Int), ∃ (x16 : Int), ∃ (x17 : Int), ∃ (x18 : Bool), ∃ (xp19 : Option Addr), ∃ (xn20 : Nat), ∃ (xc21 : Nat), v22 = (.tuple #[.slice xp12 xn13 xc14, .agg #[.int .i64 x15, .int .i64 x16, .int .u64 x17], .bool x18, .slice xp19 xn20 xc21] : Value) ∧ (
 doAl (.cells #[.int .i64 0, .int .i64 0, .int .u64 0] 114) w23 (fun b24 w25 =>
 doSt ((blk b24).add 0) (.int .i64 x15) w25 (fun w26 =>
 doSt ((blk b24).add 1) (.int .i64 x16) w26 (fun w27 =>
 doSt ((blk b24).add 2) (.int .u64 x17) w27 (fun w28 =>
 let K30 : World → Prop := fun (w29 : World) => 
 doGo Tryz.prog (.builtin .append #[40, 40] 40 #[true, false]) #[.slice none 0 0, .slice xp12 xn13 xc14] w29 (retS (fun v34 w35 => ∃ (xp31 : Option Addr), ∃ (xn32 : Nat), ∃ (xc33 : Nat), v34 = (.slice xp31 xn32 xc33 : Value) ∧ (
 ∃ (x36 : Int), World.cell? w35 ((blk b9).add 0) = some (.int .i64 x36) ∧ (
 ∃ (x37 : Int), World.cell? w35 ((blk b9).add 1) = some (.int .i64 x37) ∧ (
 ∃ (x38 : Int), World.cell? w35 ((blk b9).add 2) = some (.int .u64 x38) ∧ (
 doAl (.cells #[.int .i64 x36, .int .i64 x37, .int .u64 x38] 114) w35 (fun b39 w40 =>
 doGo Tryz.prog (.builtin .append #[40, 40] 40 #[false, false]) #[.slice xp31 xn32 xc33, .slice (some (blk b39)) 1 1] w40 (retS (fun v44 w45 => ∃ (xp41 : Option Addr), ∃ (xn42 : Nat), ∃ (xc43 : Nat), v44 = (.slice xp41 xn42 xc43 : Value) ∧ (
 doDr w45 (fun w47 =>
 ∃ (C46 : World → Prop), C46 w47 ∧ (
 ∃ (x48 : Int), (∀ w, C46 w → World.cell? w ((blk b24).add 1) = some (.int .i64 x48)) ∧ (
 doGo Tryz.prog (.builtin .append #[40, 40] 40 #[false, false]) #[.slice xp41 xn42 xc43, .slice xp19 xn20 xc21] w47 (retS (fun v52 w53 => ∃ (xp49 : Option Addr), ∃ (xn50 : Nat), ∃ (xc51 : Nat), v52 = (.slice xp49 xn50 xc51 : Value) ∧ (
 C46 w53 ∧ (
 R (.returned (.tuple #[.slice xp49 xn50 xc51, .int .i64 x48, .bool x18])) w53))) (fun ch w => Kfn R ch [] w))))))) (fun ch w => Kfn R ch [] w)))))))) (fun ch w => Kfn R ch [] w))
 ifB x18 (
 doDr w28 (fun w55 =>
 ∃ (C54 : World → Prop), C54 w55 ∧ (
 ∃ (x56 : Int), (∀ w, C54 w → World.cell? w ((blk b24).add 0) = some (.int .i64 x56)) ∧ (
 ∃ (x57 : Int), (∀ w, C54 w → World.cell? w ((blk b24).add 1) = some (.int .i64 x57)) ∧ (
 ∃ (x58 : Int), (∀ w, C54 w → World.cell? w ((blk b9).add 1) = some (.int .i64 x58)) ∧ (
 ∃ (x59 : Int), (∀ w, C54 w → World.cell? w ((blk b24).add 2) = some (.int .u64 x59)) ∧ (
 doCall Tryz.prog (.func (.func 238) #[] #[]) #[.int .u8 p_2, .int .i64 x57, .int .i64 x58] w55 (retS (fun v61 w62 => ∃ (x60 : Int), v61 = (.int .i64 x60 : Value) ∧ (
 C54 w62 ∧ (
 doSt ((blk b9).add 0) (.int .i64 x56) w62 (fun w63 =>
 doSt ((blk b9).add 1) (.int .i64 x60) w63 (fun w64 =>
 doSt ((blk b9).add 2) (.int .u64 x59) w64 (fun w65 =>
 K30 w65)))))) (fun ch w => Kfn R ch [] w))))))))) (
 K30 w28))))))) (fun ch w => Kfn R ch [] w))))
set_option maxRecDepth 100000 in
theorem sh191_ok (o_1 : Int) (p_2 : Int) (l_p3 : Option Addr) (l_n4 : Nat) (l_c5 : Nat) (x_6 : Int) (x_7 : Int) (x_8 : Int) {R : Ending → World → Prop} {w : World} : sh191 o_1 p_2 l_p3 l_n4 l_c5 x_6 x_7 x_8 R w → Calls Tryz.prog 191 #[.int .u8 o_1, .int .u8 p_2, .slice l_p3 l_n4 l_c5, .agg #[.int .i64 x_6, .int .i64 x_7, .int .u64 x_8]] w R :=
  calls_of_eq (ann := fun _ => []) (fn := Tryz.f191) (c := bodyOf Tryz.f191) (args := #[.int .u8 o_1, .int .u8 p_2, .slice l_p3 l_n4 l_c5, .agg #[.int .i64 x_6, .int .i64 x_7, .int .u64 x_8]]) 400 follows_mixed Tryz.func191 (by kernel_rfl) (by kernel_rfl)
set_option maxRecDepth 100000 in
/-- joinery/joineryref20.Above -/
def sh192 (a_1 : Int) (a_2 : Int) (a_3 : Int) (b_4 : Int) (b_5 : Int) (b_6 : Int) (R : Ending → World → Prop) (w : World) : Prop :=
 doAl (.cells #[.int .i64 a_1, .int .i64 a_2, .int .u64 a_3] 114) w (fun b7 w8 =>
 doAl (.cells #[.int .i64 b_4, .int .i64 b_5, .int .u64 b_6] 114) w8 (fun b9 w10 =>
 let K13 : Bool → World → Prop := fun (x11 : Bool) (w12 : World) => 
 R (.returned (.bool x11)) w12
 ∃ (x14 : Int), World.cell? w10 ((blk b7).add 2) = some (.int .u64 x14) ∧ (
 ∃ (x15 : Int), World.cell? w10 ((blk b9).add 2) = some (.int .u64 x15) ∧ (
 ifB (decide ((x14 : Int) > x15)) (
 R (.returned (.bool true)) w10) (
 ∃ (x16 : Int), World.cell? w10 ((blk b7).add 2) = some (.int .u64 x16) ∧ (
 ∃ (x17 : Int), World.cell? w10 ((blk b9).add 2) = some (.int .u64 x17) ∧ (
 ifB ((x16 : Int) == x17) (
 ∃ (x18 : Int), World.cell? w10 ((blk b7).add 0) = some (.int .i64 x18) ∧ (
 ∃ (x19 : Int), World.cell? w10 ((blk b9).add 0) = some (.int .i64 x19) ∧ (
 K13 (decide ((x18 : Int) > x19)) w10))) (
 R (.returned (.bool false)) w10))))))))
set_option maxRecDepth 100000 in
theorem sh192_ok (a_1 : Int) (a_2 : Int) (a_3 : Int) (b_4 : Int) (b_5 : Int) (b_6 : Int) {R : Ending → World → Prop} {w : World} : sh192 a_1 a_2 a_3 b_4 b_5 b_6 R w → Calls Tryz.prog 192 #[.agg #[.int .i64 a_1, .int .i64 a_2, .int .u64 a_3], .agg #[.int .i64 b_4, .int .i64 b_5, .int .u64 b_6]] w R :=
  calls_of_eq (ann := fun _ => []) (fn := Tryz.f192) (c := bodyOf Tryz.f192) (args := #[.agg #[.int .i64 a_1, .int .i64 a_2, .int .u64 a_3], .agg #[.int .i64 b_4, .int .i64 b_5, .int .u64 b_6]]) 400 follows_mixed Tryz.func192 (by kernel_rfl) (by kernel_rfl)
set_option maxRecDepth 100000 in
/-- (*joinery/node.Node).Tag -/
def sh196 (n_1 : Option Addr) (R : Ending → World → Prop) (w : World) : Prop :=
 doCall Tryz.prog (.func (.func 166) #[] #[]) #[.pointer n_1] w (retS (fun v7 w8 => ∃ (x2 : Int), ∃ (x3 : Int), ∃ (x4 : Int), ∃ (x5 : Int), ∃ (x6 : Int), v7 = (.agg #[.int .i64 x2, .int .i64 x3, .int .i64 x4, .int .u64 x5, .int .i64 x6] : Value) ∧ (
 R (.returned (.int .u64 x5)) w8)) (fun ch w => Kfn R ch [] w))
set_option maxRecDepth 100000 in
theorem sh196_ok (n_1 : Option Addr) {R : Ending → World → Prop} {w : World} : sh196 n_1 R w → Calls Tryz.prog 196 #[.pointer n_1] w R :=
  calls_of_eq (ann := fun _ => []) (fn := Tryz.f196) (c := bodyOf Tryz.f196) (args := #[.pointer n_1]) 400 follows_mixed Tryz.func196 (by kernel_rfl) (by kernel_rfl)
set_option maxRecDepth 100000 in
/-- joinery/mix.steps -/
def sh197 (back_1 : Bool) (R : Ending → World → Prop) (w : World) : Prop :=
 doAl (.cells #[.bool back_1] 4) w (fun b2 w3 =>
 doCall Tryz.prog (.func (.func 254) #[] #[]) #[] w3 (retS (fun v10 w11 => ∃ (x4 : Int), ∃ (x5 : Int), ∃ (x6 : Int), ∃ (x7 : Int), ∃ (x8 : Int), ∃ (x9 : Int), v10 = (.agg #[.int .i64 x4, .int .u64 x5, .int .i64 x6, .int .u64 x7, .int .i64 x8, .int .u64 x9] : Value) ∧ (
 doAl (.cells #[.int .i64 0, .int .u64 0, .int .i64 0, .int .u64 0, .int .i64 0, .int .u64 0] 320) w11 (fun b12 w13 =>
 doSt ((blk b12).add 0) (.int .i64 x4) w13 (fun w14 =>
 doSt ((blk b12).add 1) (.int .u64 x5) w14 (fun w15 =>
 doSt ((blk b12).add 2) (.int .i64 x6) w15 (fun w16 =>
 doSt ((blk b12).add 3) (.int .u64 x7) w16 (fun w17 =>
 doSt ((blk b12).add 4) (.int .i64 x8) w17 (fun w18 =>
 doSt ((blk b12).add 5) (.int .u64 x9) w18 (fun w19 =>
 R (.returned (.func (.func 255) #[] #[.pointer (some (blk b2)), .pointer (some (blk b12))])) w19))))))))) (fun ch w => Kfn R ch [] w)))
set_option maxRecDepth 100000 in
theorem sh197_ok (back_1 : Bool) {R : Ending → World → Prop} {w : World} : sh197 back_1 R w → Calls Tryz.prog 197 #[.bool back_1] w R :=
  calls_of_eq (ann := fun _ => []) (fn := Tryz.f197) (c := bodyOf Tryz.f197) (args := #[.bool back_1]) 400 follows_mixed Tryz.func197 (by kernel_rfl) (by kernel_rfl)
set_option maxRecDepth 100000 in
/-- math/bits.RotateLeft64 -/
def sh198 (x_1 : Int) (k_2 : Int) (R : Ending → World → Prop) (w : World) : Prop :=
 (0 : Int) ≤ (bAnd .u64 (IntKind.wrap .u64 k_2) 63) ∧ (
 (0 : Int) ≤ (IntKind.wrap .u64 (64 - (bAnd .u64 (IntKind.wrap .u64 k_2) 63))) ∧ (
 R (.returned (.int .u64 (bOr .u64 (IntKind.wrap .u64 (x_1 * 2 ^ (min ((bAnd .u64 (IntKind.wrap .u64 k_2) 63) : Int).toNat (IntKind.bits .u64)))) (Int.fdiv x_1 (2 ^ (min ((IntKind.wrap .u64 (64 - (bAnd .u64 (IntKind.wrap .u64 k_2) 63))) : Int).toNat (IntKind.bits .u64))))))) w))
set_option maxRecDepth 100000 in
theorem sh198_ok (x_1 : Int) (k_2 : Int) {R : Ending → World → Prop} {w : World} : sh198 x_1 k_2 R w → Calls Tryz.prog 198 #[.int .u64 x_1, .int .i64 k_2] w R :=
  calls_of_eq (ann := fun _ => []) (fn := Tryz.f198) (c := bodyOf Tryz.f198) (args := #[.int .u64 x_1, .int .i64 k_2]) 400 follows_mixed Tryz.func198 (by kernel_rfl) (by kernel_rfl)
end Go.Proofs.YtlddfgfmkapoiaaGreat

