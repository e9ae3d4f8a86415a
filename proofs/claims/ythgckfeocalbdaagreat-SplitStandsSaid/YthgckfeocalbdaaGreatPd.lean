/-
  Printed by a program (gen.py): what the functions of the program do, as formulas; each with the proof that its call is what the formula says.
-/
/-
  Printed by a program (gen.py): what the functions of the program do, as formulas; each with the proof that its call is what the formula says.
-/
/-
  Printed by a program (gen.py): what the functions of the program do, as formulas; each with the proof that its call is what the formula says.
-/
import Derived.Test.YthgckfeocalbdaaGreatPb
import Derived.Test.YthgckfeocalbdaaGreatProg

namespace Go.Proofs.YthgckfeocalbdaaGreat
open Go Go.Sh
theorem follows_mixed : Tryz.prog.follows .mixedOrders = true := by kernel_rfl
set_option maxRecDepth 100000 in
/-- joinery/joinerylaw22.Of -/
def sh10 (code_1 : Int) (R : Ending → World → Prop) (w : World) : Prop :=
 doCall Tryz.prog (.func (.func 47) #[] #[]) #[.int .u8 code_1] w (retS (fun v4 w5 => ∃ (x2 : Option Addr), ∃ (x3 : Int), v4 = (.tuple #[.pointer x2, .int .i64 x3] : Value) ∧ (
 let K8 : Bool → World → Prop := fun (x6 : Bool) (w7 : World) => 
 R (.returned (.tuple #[.pointer x2, .bool x6])) w7
 ifB ((x3 : Int) == 0) (
 K8 (!(x2).isNone) w5) (
 R (.returned (.tuple #[.pointer x2, .bool false])) w5))) (fun ch w => Kfn R ch [] w))
set_option maxRecDepth 100000 in
theorem sh10_ok (code_1 : Int) {R : Ending → World → Prop} {w : World} : sh10 code_1 R w → Calls Tryz.prog 10 #[.int .u8 code_1] w R :=
  calls_of_eq (ann := fun _ => []) (fn := Tryz.f10) (c := bodyOf Tryz.f10) (args := #[.int .u8 code_1]) 400 follows_mixed Tryz.func10 (by kernel_rfl) (by kernel_rfl)
set_option maxRecDepth 100000 in
/-- joinery/joinerylaw24.Long -/
def sh11 (code_1 : Int) (o_2 : Int) (l_p3 : Option Addr) (l_n4 : Nat) (l_c5 : Nat) (R : Ending → World → Prop) (w : World) : Prop :=
 let K8 : Bool → World → Prop := fun (x6 : Bool) (w7 : World) => 
 R (.returned (.bool x6)) w7
 doCall Tryz.prog (.func (.func 48) #[] #[]) #[.slice l_p3 l_n4 l_c5] w (retS (fun v10 w11 => ∃ (x9 : Bool), v10 = (.bool x9 : Value) ∧ (
 ifB x9 (
 R (.returned (.bool true)) w11) (
 doCall Tryz.prog (.func (.func 49) #[] #[]) #[.int .u8 code_1, .int .u8 o_2, .slice l_p3 l_n4 l_c5] w11 (retS (fun v13 w14 => ∃ (x12 : Bool), v13 = (.bool x12 : Value) ∧ (
 K8 (!x12) w14)) (fun ch w => Kfn R ch [] w))))) (fun ch w => Kfn R ch [] w))
set_option maxRecDepth 100000 in
theorem sh11_ok (code_1 : Int) (o_2 : Int) (l_p3 : Option Addr) (l_n4 : Nat) (l_c5 : Nat) {R : Ending → World → Prop} {w : World} : sh11 code_1 o_2 l_p3 l_n4 l_c5 R w → Calls Tryz.prog 11 #[.int .u8 code_1, .int .u8 o_2, .slice l_p3 l_n4 l_c5] w R :=
  calls_of_eq (ann := fun _ => []) (fn := Tryz.f11) (c := bodyOf Tryz.f11) (args := #[.int .u8 code_1, .int .u8 o_2, .slice l_p3 l_n4 l_c5]) 400 follows_mixed Tryz.func11 (by kernel_rfl) (by kernel_rfl)
set_option maxRecDepth 100000 in
/-- joinery/joineryref22.Is -/
def sh12 (code_1 : Int) (R : Ending → World → Prop) (w : World) : Prop :=
 let K4 : Bool → World → Prop := fun (x2 : Bool) (w3 : World) => 
 R (.returned (.bool x2)) w3
 ifB (decide ((code_1 : Int) ≥ 1)) (
 K4 (decide ((code_1 : Int) ≤ 4)) w) (
 R (.returned (.bool false)) w)
set_option maxRecDepth 100000 in
theorem sh12_ok (code_1 : Int) {R : Ending → World → Prop} {w : World} : sh12 code_1 R w → Calls Tryz.prog 12 #[.int .u8 code_1] w R :=
  calls_of_eq (ann := fun _ => []) (fn := Tryz.f12) (c := bodyOf Tryz.f12) (args := #[.int .u8 code_1]) 400 follows_mixed Tryz.func12 (by kernel_rfl) (by kernel_rfl)
set_option maxRecDepth 100000 in
/-- joinery/joinerylaw09.Make -/
def sh15 (l_p1 : Option Addr) (l_n2 : Nat) (l_c3 : Nat) (R : Ending → World → Prop) (w : World) : Prop :=
 ifB ((((l_n2 : Nat) : Int) : Int) == 0) (
 R (.returned (.pointer none)) w) (
 doCall Tryz.prog (.func (.func 52) #[] #[]) #[.slice l_p1 l_n2 l_c3] w (retS (fun v17 w18 => ∃ (x4 : Int), ∃ (x5 : Int), ∃ (x6 : Int), ∃ (x7 : Int), ∃ (x8 : Int), ∃ (x9 : Bool), ∃ (x10 : Bool), ∃ (xp11 : Option Addr), ∃ (xn12 : Nat), ∃ (xc13 : Nat), ∃ (xp14 : Option Addr), ∃ (xn15 : Nat), ∃ (xc16 : Nat), v17 = (.tuple #[.agg #[.int .i64 x4, .int .i64 x5, .int .i64 x6, .int .i64 x7, .int .u64 x8, .bool x9, .bool x10], .slice xp11 xn12 xc13, .slice xp14 xn15 xc16] : Value) ∧ (
 doAl (.cells #[.int .i64 0, .int .i64 0, .int .i64 0, .int .i64 0, .int .u64 0, .bool false, .bool false] 84) w18 (fun b19 w20 =>
 doSt ((blk b19).add 0) (.int .i64 x4) w20 (fun w21 =>
 doSt ((blk b19).add 1) (.int .i64 x5) w21 (fun w22 =>
 doSt ((blk b19).add 2) (.int .i64 x6) w22 (fun w23 =>
 doSt ((blk b19).add 3) (.int .i64 x7) w23 (fun w24 =>
 doSt ((blk b19).add 4) (.int .u64 x8) w24 (fun w25 =>
 doSt ((blk b19).add 5) (.bool x9) w25 (fun w26 =>
 doSt ((blk b19).add 6) (.bool x10) w26 (fun w27 =>
 doDr w27 (fun w29 =>
 ∃ (C28 : World → Prop), C28 w29 ∧ (
 ∃ (x30 : Int), (∀ w, C28 w → World.cell? w ((blk b19).add 0) = some (.int .i64 x30)) ∧ (
 ∃ (x31 : Int), (∀ w, C28 w → World.cell? w ((blk b19).add 1) = some (.int .i64 x31)) ∧ (
 ∃ (x32 : Int), (∀ w, C28 w → World.cell? w ((blk b19).add 4) = some (.int .u64 x32)) ∧ (
 doCall Tryz.prog (.func (.func 15) #[] #[]) #[.slice xp11 xn12 xc13] w29 (retS (fun v34 w35 => ∃ (x33 : Option Addr), v34 = (.pointer x33 : Value) ∧ (
 C28 w35 ∧ (
 doCall Tryz.prog (.func (.func 15) #[] #[]) #[.slice xp14 xn15 xc16] w35 (retS (fun v37 w38 => ∃ (x36 : Option Addr), v37 = (.pointer x36 : Value) ∧ (
 C28 w38 ∧ (
 doCall Tryz.prog (.func (.func 27) #[] #[]) #[.pointer x33, .int .i64 x30, .int .i64 x31, .int .u64 x32, .pointer x36] w38 (retS (fun v40 w41 => ∃ (x39 : Option Addr), v40 = (.pointer x39 : Value) ∧ (
 R (.returned (.pointer x39)) w41)) (fun ch w => Kfn R ch [] w))))) (fun ch w => Kfn R ch [] w))))) (fun ch w => Kfn R ch [] w))))))))))))))))) (fun ch w => Kfn R ch [] w)))
set_option maxRecDepth 100000 in
theorem sh15_ok (l_p1 : Option Addr) (l_n2 : Nat) (l_c3 : Nat) {R : Ending → World → Prop} {w : World} : sh15 l_p1 l_n2 l_c3 R w → Calls Tryz.prog 15 #[.slice l_p1 l_n2 l_c3] w R :=
  calls_of_eq (ann := fun _ => []) (fn := Tryz.f15) (c := bodyOf Tryz.f15) (args := #[.slice l_p1 l_n2 l_c3]) 400 follows_mixed Tryz.func15 (by kernel_rfl) (by kernel_rfl)
set_option maxRecDepth 100000 in
/-- joinery/split.Split -/
def sh16 (s_1 : Option Addr) (o_2 : Int) (t_3 : Option Addr) (key_4 : Int) (R : Ending → World → Prop) (w : World) : Prop :=
 doAl (.cells #[.int .i64 0, .int .i64 0, .int .u64 0] 33) w (fun b5 w6 =>
 let K10 : Int → Value → World → Prop := fun (e_7 : Int) (d8 : Value) (w9 : World) => 
 let K13 : Bool → World → Prop := fun (x11 : Bool) (w12 : World) => 
 ifB x11 (
 doDr w12 (fun w15 =>
 ∃ (C14 : World → Prop), C14 w15 ∧ (
 ∃ (x16 : Int), (∀ w, C14 w → World.cell? w ((blk b5).add 0) = some (.int .i64 x16)) ∧ (
 ∃ (x17 : Int), (∀ w, C14 w → World.cell? w ((blk b5).add 1) = some (.int .i64 x17)) ∧ (
 ∃ (x18 : Int), (∀ w, C14 w → World.cell? w ((blk b5).add 2) = some (.int .u64 x18)) ∧ (
 doSt ((blk b5).add 0) (.int .i64 x16) w15 (fun w19 =>
 doSt ((blk b5).add 1) (.int .i64 x17) w19 (fun w20 =>
 doSt ((blk b5).add 2) (.int .u64 x18) w20 (fun w21 =>
 ∃ (x22 : Int), World.cell? w21 ((blk b5).add 0) = some (.int .i64 x22) ∧ (
 ∃ (x23 : Int), World.cell? w21 ((blk b5).add 1) = some (.int .i64 x23) ∧ (
 ∃ (x24 : Int), World.cell? w21 ((blk b5).add 2) = some (.int .u64 x24) ∧ (
 R (.returned (.tuple #[.pointer none, .agg #[.int .i64 x22, .int .i64 x23, .int .u64 x24], .bool false, .pointer none, .int .i64 2])) w21)))))))))))) (
 doCall Tryz.prog (.func (.func 54) #[] #[]) #[.pointer s_1, d8, .pointer t_3] w12 (retS (fun v31 w32 => ∃ (x25 : Option Addr), ∃ (x26 : Int), ∃ (x27 : Int), ∃ (x28 : Int), ∃ (x29 : Bool), ∃ (x30 : Option Addr), v31 = (.tuple #[.pointer x25, .agg #[.int .i64 x26, .int .i64 x27, .int .u64 x28], .bool x29, .pointer x30] : Value) ∧ (
 doSt ((blk b5).add 0) (.int .i64 x26) w32 (fun w33 =>
 doSt ((blk b5).add 1) (.int .i64 x27) w33 (fun w34 =>
 doSt ((blk b5).add 2) (.int .u64 x28) w34 (fun w35 =>
 doDr w35 (fun w37 =>
 ∃ (C36 : World → Prop), C36 w37 ∧ (
 ∃ (x38 : Int), (∀ w, C36 w → World.cell? w ((blk b5).add 0) = some (.int .i64 x38)) ∧ (
 ∃ (x39 : Int), (∀ w, C36 w → World.cell? w ((blk b5).add 1) = some (.int .i64 x39)) ∧ (
 ∃ (x40 : Int), (∀ w, C36 w → World.cell? w ((blk b5).add 2) = some (.int .u64 x40)) ∧ (
 doSt ((blk b5).add 0) (.int .i64 x38) w37 (fun w41 =>
 doSt ((blk b5).add 1) (.int .i64 x39) w41 (fun w42 =>
 doSt ((blk b5).add 2) (.int .u64 x40) w42 (fun w43 =>
 ∃ (x44 : Int), World.cell? w43 ((blk b5).add 0) = some (.int .i64 x44) ∧ (
 ∃ (x45 : Int), World.cell? w43 ((blk b5).add 1) = some (.int .i64 x45) ∧ (
 ∃ (x46 : Int), World.cell? w43 ((blk b5).add 2) = some (.int .u64 x46) ∧ (
 R (.returned (.tuple #[.pointer x25, .agg #[.int .i64 x44, .int .i64 x45, .int .u64 x46], .bool x29, .pointer x30, .int .i64 0])) w43)))))))))))))))) (fun ch w => Kfn R ch [] w)))
 ifB ((s_1).isNone) (
 K13 true w9) (
 K13 ((e_7 : Int) != 0) w9)
 doCall Tryz.prog (.func (.func 53) #[] #[]) #[.int .u8 o_2, .int .i64 key_4] w6 (retS (fun v51 w52 => (∃ (xf47 : Fn), ∃ (xx48 : Array Value), ∃ (xc49 : Array Value), ∃ (x50 : Int), v51 = (.tuple #[.func xf47 xx48 xc49, .int .i64 x50] : Value) ∧ (
 K10 x50 (.func xf47 xx48 xc49 : Value) w52)) ∨ (∃ (x53 : Int), v51 = (.tuple #[.nilFunc, .int .i64 x53] : Value) ∧ (
 K10 x53 (.nilFunc : Value) w52))) (fun ch w => Kfn R ch [] w)))
set_option maxRecDepth 100000 in
theorem sh16_ok (s_1 : Option Addr) (o_2 : Int) (t_3 : Option Addr) (key_4 : Int) {R : Ending → World → Prop} {w : World} : sh16 s_1 o_2 t_3 key_4 R w → Calls Tryz.prog 16 #[.pointer s_1, .int .u8 o_2, .pointer t_3, .int .i64 key_4] w R :=
  calls_of_eq (ann := fun _ => []) (fn := Tryz.f16) (c := bodyOf Tryz.f16) (args := #[.pointer s_1, .int .u8 o_2, .pointer t_3, .int .i64 key_4]) 400 follows_mixed Tryz.func16 (by kernel_rfl) (by kernel_rfl)
set_option maxRecDepth 100000 in
/-- joinery/joineryref24.Split -/
def sh17 (o_1 : Int) (l_p2 : Option Addr) (l_n3 : Nat) (_l_c4 : Nat) (key_5 : Int) (R : Ending → World → Prop) (w : World) : Prop :=
 doAl (.cells #[.int .i64 0, .int .i64 0, .int .u64 0] 33) w (fun b6 w7 =>
 doAl (.cells #[.int .i64 0, .int .i64 0, .int .u64 0] 33) w7 (fun b8 w9 =>
 doSt ((blk b8).add 0) (.int .i64 0) w9 (fun w10 =>
 doSt ((blk b8).add 1) (.int .i64 0) w10 (fun w11 =>
 doSt ((blk b8).add 2) (.int .u64 0) w11 (fun w12 =>
 ∃ (I13 : List Value → World → Prop) (μ14 : List Value → World → Nat), I13 [.slice none 0 0, .slice none 0 0, .bool false, .int .i64 0] w12 ∧ (∀ (a_p17 : Option Addr), ∀ (a_n18 : Nat), ∀ (a_c19 : Nat), ∀ (b_p20 : Option Addr), ∀ (b_n21 : Nat), ∀ (b_c22 : Nat), ∀ (is_23 : Bool), ∀ (i_24 : Int), ∀ (_j15 : Nat → Value) (w16 : World), I13 [.slice a_p17 a_n18 a_c19, .slice b_p20 b_n21 b_c22, .bool is_23, .int .i64 i_24] w16 → (
 ifB (decide ((i_24 : Int) < ((l_n3 : Nat) : Int))) (
 let K33 : (Option Addr) → Nat → Nat → (Option Addr) → Nat → Nat → Bool → World → Prop := fun (a_p25 : Option Addr) (a_n26 : Nat) (a_c27 : Nat) (b_p28 : Option Addr) (b_n29 : Nat) (b_c30 : Nat) (is_31 : Bool) (w32 : World) => 
 I13 [.slice a_p25 a_n26 a_c27, .slice b_p28 b_n29 b_c30, .bool is_31, .int .i64 (IntKind.wrap .i64 (i_24 + 1))] w32 ∧ μ14 [.slice a_p25 a_n26 a_c27, .slice b_p28 b_n29 b_c30, .bool is_31, .int .i64 (IntKind.wrap .i64 (i_24 + 1))] w32 < μ14 [.slice a_p17 a_n18 a_c19, .slice b_p20 b_n21 b_c22, .bool is_23, .int .i64 i_24] w16
 doIx l_p2 l_n3 3 (i_24) (fun a34 =>
 ∃ (x35 : Int), World.cell? w16 (a34.add 0) = some (.int .i64 x35) ∧ (
 doCall Tryz.prog (.func (.func 55) #[] #[]) #[.int .u8 o_1, .int .i64 x35, .int .i64 key_5] w16 (retS (fun v37 w38 => ∃ (x36 : Int), v37 = (.int .i64 x36 : Value) ∧ (
 let K43 : (Option Addr) → Nat → Nat → World → Prop := fun (a_p39 : Option Addr) (a_n40 : Nat) (a_c41 : Nat) (w42 : World) => 
 let K46 : Bool → World → Prop := fun (is_44 : Bool) (w45 : World) => 
 ifB (decide ((x36 : Int) > 0)) (
 doIx l_p2 l_n3 3 (i_24) (fun a47 =>
 ∃ (x48 : Int), World.cell? w45 (a47.add 0) = some (.int .i64 x48) ∧ (
 ∃ (x49 : Int), World.cell? w45 (a47.add 1) = some (.int .i64 x49) ∧ (
 ∃ (x50 : Int), World.cell? w45 (a47.add 2) = some (.int .u64 x50) ∧ (
 doAl (.cells #[.int .i64 x48, .int .i64 x49, .int .u64 x50] 33) w45 (fun b51 w52 =>
 doGo Tryz.prog (.builtin .append #[37, 37] 37 #[false, false]) #[.slice b_p20 b_n21 b_c22, .slice (some (blk b51)) 1 1] w52 (retS (fun v56 w57 => ∃ (xp53 : Option Addr), ∃ (xn54 : Nat), ∃ (xc55 : Nat), v56 = (.slice xp53 xn54 xc55 : Value) ∧ (
 K33 a_p39 a_n40 a_c41 xp53 xn54 xc55 is_44 w57)) (fun ch w => Kfn R ch [] w)))))))) (
 K33 a_p39 a_n40 a_c41 b_p20 b_n21 b_c22 is_44 w45)
 ifB ((x36 : Int) == 0) (
 doIx l_p2 l_n3 3 (i_24) (fun a58 =>
 ∃ (x59 : Int), World.cell? w42 (a58.add 0) = some (.int .i64 x59) ∧ (
 ∃ (x60 : Int), World.cell? w42 (a58.add 1) = some (.int .i64 x60) ∧ (
 ∃ (x61 : Int), World.cell? w42 (a58.add 2) = some (.int .u64 x61) ∧ (
 doSt ((blk b8).add 0) (.int .i64 x59) w42 (fun w62 =>
 doSt ((blk b8).add 1) (.int .i64 x60) w62 (fun w63 =>
 doSt ((blk b8).add 2) (.int .u64 x61) w63 (fun w64 =>
 K46 true w64)))))))) (
 K46 is_23 w42)
 ifB (decide ((x36 : Int) < 0)) (
 doIx l_p2 l_n3 3 (i_24) (fun a65 =>
 ∃ (x66 : Int), World.cell? w38 (a65.add 0) = some (.int .i64 x66) ∧ (
 ∃ (x67 : Int), World.cell? w38 (a65.add 1) = some (.int .i64 x67) ∧ (
 ∃ (x68 : Int), World.cell? w38 (a65.add 2) = some (.int .u64 x68) ∧ (
 doAl (.cells #[.int .i64 x66, .int .i64 x67, .int .u64 x68] 33) w38 (fun b69 w70 =>
 doGo Tryz.prog (.builtin .append #[37, 37] 37 #[false, false]) #[.slice a_p17 a_n18 a_c19, .slice (some (blk b69)) 1 1] w70 (retS (fun v74 w75 => ∃ (xp71 : Option Addr), ∃ (xn72 : Nat), ∃ (xc73 : Nat), v74 = (.slice xp71 xn72 xc73 : Value) ∧ (
 K43 xp71 xn72 xc73 w75)) (fun ch w => Kfn R ch [] w)))))))) (
 K43 a_p17 a_n18 a_c19 w38))) (fun ch w => Kfn R ch [] w))))) (
 doDr w16 (fun w77 =>
 ∃ (C76 : World → Prop), C76 w77 ∧ (
 ∃ (x78 : Int), (∀ w, C76 w → World.cell? w ((blk b8).add 0) = some (.int .i64 x78)) ∧ (
 ∃ (x79 : Int), (∀ w, C76 w → World.cell? w ((blk b8).add 1) = some (.int .i64 x79)) ∧ (
 ∃ (x80 : Int), (∀ w, C76 w → World.cell? w ((blk b8).add 2) = some (.int .u64 x80)) ∧ (
 doSt ((blk b6).add 0) (.int .i64 x78) w77 (fun w81 =>
 doSt ((blk b6).add 1) (.int .i64 x79) w81 (fun w82 =>
 doSt ((blk b6).add 2) (.int .u64 x80) w82 (fun w83 =>
 ∃ (x84 : Int), World.cell? w83 ((blk b6).add 0) = some (.int .i64 x84) ∧ (
 ∃ (x85 : Int), World.cell? w83 ((blk b6).add 1) = some (.int .i64 x85) ∧ (
 ∃ (x86 : Int), World.cell? w83 ((blk b6).add 2) = some (.int .u64 x86) ∧ (
 R (.returned (.tuple #[.slice a_p17 a_n18 a_c19, .agg #[.int .i64 x84, .int .i64 x85, .int .u64 x86], .bool is_23, .slice b_p20 b_n21 b_c22])) w83)))))))))))))))))))
set_option maxRecDepth 100000 in
theorem sh17_ok (o_1 : Int) (l_p2 : Option Addr) (l_n3 : Nat) (l_c4 : Nat) (key_5 : Int) {R : Ending → World → Prop} {w : World} : sh17 o_1 l_p2 l_n3 l_c4 key_5 R w → Calls Tryz.prog 17 #[.int .u8 o_1, .slice l_p2 l_n3 l_c4, .int .i64 key_5] w R :=
  calls_of_eq (ann := fun i => if i = 0 then [(10, .slice none 0 0), (11, .slice none 0 0), (13, .bool false), (14, .int .i64 0)] else []) (fn := Tryz.f17) (c := bodyOf Tryz.f17) (args := #[.int .u8 o_1, .slice l_p2 l_n3 l_c4, .int .i64 key_5]) 400 follows_mixed Tryz.func17 (by kernel_rfl) (by kernel_rfl)
set_option maxRecDepth 100000 in
/-- joinery/joineryref22.Items -/
def sh18 (code_1 : Int) (l_p2 : Option Addr) (l_n3 : Nat) (l_c4 : Nat) (R : Ending → World → Prop) (w : World) : Prop :=
 doCall Tryz.prog (.func (.func 56) #[] #[]) #[.slice l_p2 l_n3 l_c4] w (retS (fun v8 w9 => ∃ (xp5 : Option Addr), ∃ (xn6 : Nat), ∃ (xc7 : Nat), v8 = (.slice xp5 xn6 xc7 : Value) ∧ (
 let K11 : World → Prop := fun (w10 : World) => 
 R (.returned (.slice xp5 xn6 xc7)) w10
 ifB ((code_1 : Int) != 4) (
 ∃ (I12 : List Value → World → Prop) (μ13 : List Value → World → Nat), I12 [.int .i64 0] w9 ∧ (∀ (i_16 : Int), ∀ (_j14 : Nat → Value) (w15 : World), I12 [.int .i64 i_16] w15 → (
 ifB (decide ((i_16 : Int) < ((xn6 : Nat) : Int))) (
 doIx xp5 xn6 3 (i_16) (fun a17 =>
 doSt ((a17.add 2).add 0) (.int .u64 0) w15 (fun w18 =>
 I12 [.int .i64 (IntKind.wrap .i64 (i_16 + 1))] w18 ∧ μ13 [.int .i64 (IntKind.wrap .i64 (i_16 + 1))] w18 < μ13 [.int .i64 i_16] w15))) (
 K11 w15)))) (
 K11 w9))) (fun ch w => Kfn R ch [] w))
set_option maxRecDepth 100000 in
theorem sh18_ok (code_1 : Int) (l_p2 : Option Addr) (l_n3 : Nat) (l_c4 : Nat) {R : Ending → World → Prop} {w : World} : sh18 code_1 l_p2 l_n3 l_c4 R w → Calls Tryz.prog 18 #[.int .u8 code_1, .slice l_p2 l_n3 l_c4] w R :=
  calls_of_eq (ann := fun i => if i = 0 then [(6, .int .i64 0)] else []) (fn := Tryz.f18) (c := bodyOf Tryz.f18) (args := #[.int .u8 code_1, .slice l_p2 l_n3 l_c4]) 400 follows_mixed Tryz.func18 (by kernel_rfl) (by kernel_rfl)
set_option maxRecDepth 100000 in
/-- joinery/joinerylaw23.Has -/
def sh19 (code_1 : Int) (t_2 : Option Addr) (l_p3 : Option Addr) (l_n4 : Nat) (l_c5 : Nat) (R : Ending → World → Prop) (w : World) : Prop :=
 doCall Tryz.prog (.func (.func 57) #[] #[]) #[.pointer t_2] w (retS (fun v10 w11 => ∃ (xp6 : Option Addr), ∃ (xn7 : Nat), ∃ (xc8 : Nat), ∃ (x9 : Bool), v10 = (.tuple #[.slice xp6 xn7 xc8, .bool x9] : Value) ∧ (
 let K14 : Bool → World → Prop := fun (x12 : Bool) (w13 : World) => 
 R (.returned (.bool x12)) w13
 ifB x9 (
 doCall Tryz.prog (.func (.func 58) #[] #[]) #[.int .u8 code_1, .slice xp6 xn7 xc8, .slice l_p3 l_n4 l_c5] w11 (retS (fun v16 w17 => ∃ (x15 : Bool), v16 = (.bool x15 : Value) ∧ (
 K14 x15 w17)) (fun ch w => Kfn R ch [] w))) (
 R (.returned (.bool false)) w11))) (fun ch w => Kfn R ch [] w))
set_option maxRecDepth 100000 in
theorem sh19_ok (code_1 : Int) (t_2 : Option Addr) (l_p3 : Option Addr) (l_n4 : Nat) (l_c5 : Nat) {R : Ending → World → Prop} {w : World} : sh19 code_1 t_2 l_p3 l_n4 l_c5 R w → Calls Tryz.prog 19 #[.int .u8 code_1, .pointer t_2, .slice l_p3 l_n4 l_c5] w R :=
  calls_of_eq (ann := fun _ => []) (fn := Tryz.f19) (c := bodyOf Tryz.f19) (args := #[.int .u8 code_1, .pointer t_2, .slice l_p3 l_n4 l_c5]) 400 follows_mixed Tryz.func19 (by kernel_rfl) (by kernel_rfl)
set_option maxRecDepth 100000 in
/-- joinery/joinerylaw09.Is -/
def sh20 (t_1 : Option Addr) (l_p2 : Option Addr) (l_n3 : Nat) (l_c4 : Nat) (R : Ending → World → Prop) (w : World) : Prop :=
 doCall Tryz.prog (.func (.func 57) #[] #[]) #[.pointer t_1] w (retS (fun v9 w10 => ∃ (xp5 : Option Addr), ∃ (xn6 : Nat), ∃ (xc7 : Nat), ∃ (x8 : Bool), v9 = (.tuple #[.slice xp5 xn6 xc7, .bool x8] : Value) ∧ (
 let K13 : Bool → World → Prop := fun (x11 : Bool) (w12 : World) => 
 R (.returned (.bool x11)) w12
 ifB x8 (
 doCall Tryz.prog (.func (.func 59) #[] #[]) #[.slice xp5 xn6 xc7, .slice l_p2 l_n3 l_c4] w10 (retS (fun v15 w16 => ∃ (x14 : Bool), v15 = (.bool x14 : Value) ∧ (
 K13 x14 w16)) (fun ch w => Kfn R ch [] w))) (
 R (.returned (.bool false)) w10))) (fun ch w => Kfn R ch [] w))
set_option maxRecDepth 100000 in
theorem sh20_ok (t_1 : Option Addr) (l_p2 : Option Addr) (l_n3 : Nat) (l_c4 : Nat) {R : Ending → World → Prop} {w : World} : sh20 t_1 l_p2 l_n3 l_c4 R w → Calls Tryz.prog 20 #[.pointer t_1, .slice l_p2 l_n3 l_c4] w R :=
  calls_of_eq (ann := fun _ => []) (fn := Tryz.f20) (c := bodyOf Tryz.f20) (args := #[.pointer t_1, .slice l_p2 l_n3 l_c4]) 400 follows_mixed Tryz.func20 (by kernel_rfl) (by kernel_rfl)
set_option maxRecDepth 100000 in
/-- joinery/joineryref09.Of -/
def sh21 (l_p1 : Option Addr) (l_n2 : Nat) (l_c3 : Nat) (R : Ending → World → Prop) (w : World) : Prop :=
 ifB ((((l_n2 : Nat) : Int) : Int) == 0) (
 R (.returned (.slice none 0 0)) w) (
 doCall Tryz.prog (.func (.func 52) #[] #[]) #[.slice l_p1 l_n2 l_c3] w (retS (fun v17 w18 => ∃ (x4 : Int), ∃ (x5 : Int), ∃ (x6 : Int), ∃ (x7 : Int), ∃ (x8 : Int), ∃ (x9 : Bool), ∃ (x10 : Bool), ∃ (xp11 : Option Addr), ∃ (xn12 : Nat), ∃ (xc13 : Nat), ∃ (xp14 : Option Addr), ∃ (xn15 : Nat), ∃ (xc16 : Nat), v17 = (.tuple #[.agg #[.int .i64 x4, .int .i64 x5, .int .i64 x6, .int .i64 x7, .int .u64 x8, .bool x9, .bool x10], .slice xp11 xn12 xc13, .slice xp14 xn15 xc16] : Value) ∧ (
 doAl (.cells #[.int .i64 0, .int .i64 0, .int .i64 0, .int .i64 0, .int .u64 0, .bool false, .bool false] 84) w18 (fun b19 w20 =>
 doSt ((blk b19).add 0) (.int .i64 x4) w20 (fun w21 =>
 doSt ((blk b19).add 1) (.int .i64 x5) w21 (fun w22 =>
 doSt ((blk b19).add 2) (.int .i64 x6) w22 (fun w23 =>
 doSt ((blk b19).add 3) (.int .i64 x7) w23 (fun w24 =>
 doSt ((blk b19).add 4) (.int .u64 x8) w24 (fun w25 =>
 doSt ((blk b19).add 5) (.bool x9) w25 (fun w26 =>
 doSt ((blk b19).add 6) (.bool x10) w26 (fun w27 =>
 doSt (((blk b19).add 3).add 0) (.int .i64 ((l_n2 : Nat) : Int)) w27 (fun w28 =>
 doCall Tryz.prog (.func (.func 60) #[] #[]) #[.slice l_p1 l_n2 l_c3] w28 (retS (fun v30 w31 => ∃ (x29 : Int), v30 = (.int .i64 x29 : Value) ∧ (
 doSt (((blk b19).add 2).add 0) (.int .i64 x29) w31 (fun w32 =>
 let K37 : (Option Addr) → Nat → Nat → World → Prop := fun (out_p33 : Option Addr) (out_n34 : Nat) (out_c35 : Nat) (w36 : World) => 
 doCall Tryz.prog (.func (.func 21) #[] #[]) #[.slice xp14 xn15 xc16] w36 (retS (fun v41 w42 => ∃ (xp38 : Option Addr), ∃ (xn39 : Nat), ∃ (xc40 : Nat), v41 = (.slice xp38 xn39 xc40 : Value) ∧ (
 doGo Tryz.prog (.builtin .append #[22, 22] 22 #[false, false]) #[.slice out_p33 out_n34 out_c35, .slice xp38 xn39 xc40] w42 (retS (fun v46 w47 => ∃ (xp43 : Option Addr), ∃ (xn44 : Nat), ∃ (xc45 : Nat), v46 = (.slice xp43 xn44 xc45 : Value) ∧ (
 R (.returned (.slice xp43 xn44 xc45)) w47)) (fun ch w => Kfn R ch [] w)))) (fun ch w => Kfn R ch [] w))
 doDr w32 (fun w49 =>
 ∃ (C48 : World → Prop), C48 w49 ∧ (
 ∃ (x50 : Int), (∀ w, C48 w → World.cell? w ((blk b19).add 0) = some (.int .i64 x50)) ∧ (
 ∃ (x51 : Int), (∀ w, C48 w → World.cell? w ((blk b19).add 1) = some (.int .i64 x51)) ∧ (
 ∃ (x52 : Int), (∀ w, C48 w → World.cell? w ((blk b19).add 2) = some (.int .i64 x52)) ∧ (
 ∃ (x53 : Int), (∀ w, C48 w → World.cell? w ((blk b19).add 3) = some (.int .i64 x53)) ∧ (
 ∃ (x54 : Int), (∀ w, C48 w → World.cell? w ((blk b19).add 4) = some (.int .u64 x54)) ∧ (
 ∃ (x55 : Bool), (∀ w, C48 w → World.cell? w ((blk b19).add 5) = some (.bool x55)) ∧ (
 ∃ (x56 : Bool), (∀ w, C48 w → World.cell? w ((blk b19).add 6) = some (.bool x56)) ∧ (
 (doAl (.cells #[.int .i64 x50, .int .i64 x51, .int .i64 x52, .int .i64 x53, .int .u64 x54, .bool x55, .bool x56] 84) w49 (fun b57 w58 =>
 doCall Tryz.prog (.func (.func 21) #[] #[]) #[.slice xp11 xn12 xc13] w58 (retS (fun v62 w63 => ∃ (xp59 : Option Addr), ∃ (xn60 : Nat), ∃ (xc61 : Nat), v62 = (.slice xp59 xn60 xc61 : Value) ∧ (
 C48 w63 ∧ (
 doGo Tryz.prog (.builtin .append #[22, 22] 22 #[false, false]) #[.slice (some (blk b57)) 1 1, .slice xp59 xn60 xc61] w63 (retS (fun v67 w68 => ∃ (xp64 : Option Addr), ∃ (xn65 : Nat), ∃ (xc66 : Nat), v67 = (.slice xp64 xn65 xc66 : Value) ∧ (
 C48 w68 ∧ (
 K37 xp64 xn65 xc66 w68))) (fun ch w => Kfn R ch [] w))))) (fun ch w => Kfn R ch [] w)))) ∧ (doCall Tryz.prog (.func (.func 21) #[] #[]) #[.slice xp11 xn12 xc13] w49 (retS (fun v72 w73 => ∃ (xp69 : Option Addr), ∃ (xn70 : Nat), ∃ (xc71 : Nat), v72 = (.slice xp69 xn70 xc71 : Value) ∧ (
 C48 w73 ∧ (
 doAl (.cells #[.int .i64 x50, .int .i64 x51, .int .i64 x52, .int .i64 x53, .int .u64 x54, .bool x55, .bool x56] 84) w73 (fun b74 w75 =>
 doGo Tryz.prog (.builtin .append #[22, 22] 22 #[false, false]) #[.slice (some (blk b74)) 1 1, .slice xp69 xn70 xc71] w75 (retS (fun v79 w80 => ∃ (xp76 : Option Addr), ∃ (xn77 : Nat), ∃ (xc78 : Nat), v79 = (.slice xp76 xn77 xc78 : Value) ∧ (
 C48 w80 ∧ (
 K37 xp76 xn77 xc78 w80))) (fun ch w => Kfn R ch [] w)))))) (fun ch w => Kfn R ch [] w))))))))))))))) (fun ch w => Kfn R ch [] w))))))))))))) (fun ch w => Kfn R ch [] w)))
set_option maxRecDepth 100000 in
theorem sh21_ok (l_p1 : Option Addr) (l_n2 : Nat) (l_c3 : Nat) {R : Ending → World → Prop} {w : World} : sh21 l_p1 l_n2 l_c3 R w → Calls Tryz.prog 21 #[.slice l_p1 l_n2 l_c3] w R :=
  calls_of_eq (ann := fun _ => []) (fn := Tryz.f21) (c := bodyOf Tryz.f21) (args := #[.slice l_p1 l_n2 l_c3]) 400 follows_mixed Tryz.func21 (by kernel_rfl) (by kernel_rfl)
set_option maxRecDepth 100000 in
/-- joinery/split.Ahead -/
def sh22 (s_1 : Option Addr) (o_2 : Int) (t_3 : Option Addr) (key_4 : Int) (with_5 : Bool) (R : Ending → World → Prop) (w : World) : Prop :=
 doCall Tryz.prog (.func (.func 16) #[] #[]) #[.pointer s_1, .int .u8 o_2, .pointer t_3, .int .i64 key_4] w (retS (fun v13 w14 => ∃ (x6 : Option Addr), ∃ (x7 : Int), ∃ (x8 : Int), ∃ (x9 : Int), ∃ (x10 : Bool), ∃ (x11 : Option Addr), ∃ (x12 : Int), v13 = (.tuple #[.pointer x6, .agg #[.int .i64 x7, .int .i64 x8, .int .u64 x9], .bool x10, .pointer x11, .int .i64 x12] : Value) ∧ (
 doAl (.cells #[.int .i64 0, .int .i64 0, .int .u64 0] 33) w14 (fun b15 w16 =>
 doSt ((blk b15).add 0) (.int .i64 x7) w16 (fun w17 =>
 doSt ((blk b15).add 1) (.int .i64 x8) w17 (fun w18 =>
 doSt ((blk b15).add 2) (.int .u64 x9) w18 (fun w19 =>
 let K21 : World → Prop := fun (w20 : World) => 
 R (.returned (.tuple #[.pointer x6, .int .i64 x12])) w20
 let K24 : Bool → World → Prop := fun (x22 : Bool) (w23 : World) => 
 ifB x22 (
 ∃ (x25 : Int), World.cell? w23 ((blk b15).add 0) = some (.int .i64 x25) ∧ (
 ∃ (x26 : Int), World.cell? w23 ((blk b15).add 1) = some (.int .i64 x26) ∧ (
 ∃ (x27 : Int), World.cell? w23 ((blk b15).add 2) = some (.int .u64 x27) ∧ (
 doCall Tryz.prog (.func (.func 51) #[] #[]) #[.pointer s_1, .pointer x6, .agg #[.int .i64 x25, .int .i64 x26, .int .u64 x27], .pointer none] w23 (retS (fun v29 w30 => ∃ (x28 : Option Addr), v29 = (.pointer x28 : Value) ∧ (
 R (.returned (.tuple #[.pointer x28, .int .i64 x12])) w30)) (fun ch w => Kfn R ch [] w)))))) (
 K21 w23)
 ifB x10 (
 K24 with_5 w19) (
 K21 w19))))))) (fun ch w => Kfn R ch [] w))
set_option maxRecDepth 100000 in
theorem sh22_ok (s_1 : Option Addr) (o_2 : Int) (t_3 : Option Addr) (key_4 : Int) (with_5 : Bool) {R : Ending → World → Prop} {w : World} : sh22 s_1 o_2 t_3 key_4 with_5 R w → Calls Tryz.prog 22 #[.pointer s_1, .int .u8 o_2, .pointer t_3, .int .i64 key_4, .bool with_5] w R :=
  calls_of_eq (ann := fun _ => []) (fn := Tryz.f22) (c := bodyOf Tryz.f22) (args := #[.pointer s_1, .int .u8 o_2, .pointer t_3, .int .i64 key_4, .bool with_5]) 400 follows_mixed Tryz.func22 (by kernel_rfl) (by kernel_rfl)
set_option maxRecDepth 100000 in
/-- joinery/split.Behind -/
def sh23 (s_1 : Option Addr) (o_2 : Int) (t_3 : Option Addr) (key_4 : Int) (with_5 : Bool) (R : Ending → World → Prop) (w : World) : Prop :=
 doCall Tryz.prog (.func (.func 16) #[] #[]) #[.pointer s_1, .int .u8 o_2, .pointer t_3, .int .i64 key_4] w (retS (fun v13 w14 => ∃ (x6 : Option Addr), ∃ (x7 : Int), ∃ (x8 : Int), ∃ (x9 : Int), ∃ (x10 : Bool), ∃ (x11 : Option Addr), ∃ (x12 : Int), v13 = (.tuple #[.pointer x6, .agg #[.int .i64 x7, .int .i64 x8, .int .u64 x9], .bool x10, .pointer x11, .int .i64 x12] : Value) ∧ (
 doAl (.cells #[.int .i64 0, .int .i64 0, .int .u64 0] 33) w14 (fun b15 w16 =>
 doSt ((blk b15).add 0) (.int .i64 x7) w16 (fun w17 =>
 doSt ((blk b15).add 1) (.int .i64 x8) w17 (fun w18 =>
 doSt ((blk b15).add 2) (.int .u64 x9) w18 (fun w19 =>
 let K21 : World → Prop := fun (w20 : World) => 
 R (.returned (.tuple #[.pointer x11, .int .i64 x12])) w20
 let K24 : Bool → World → Prop := fun (x22 : Bool) (w23 : World) => 
 ifB x22 (
 ∃ (x25 : Int), World.cell? w23 ((blk b15).add 0) = some (.int .i64 x25) ∧ (
 ∃ (x26 : Int), World.cell? w23 ((blk b15).add 1) = some (.int .i64 x26) ∧ (
 ∃ (x27 : Int), World.cell? w23 ((blk b15).add 2) = some (.int .u64 x27) ∧ (
 doCall Tryz.prog (.func (.func 51) #[] #[]) #[.pointer s_1, .pointer none, .agg #[.int .i64 x25, .int .i64 x26, .int .u64 x27], .pointer none] w23 (retS (fun v29 w30 => ∃ (x28 : Option Addr), v29 = (.pointer x28 : Value) ∧ (
 doCall Tryz.prog (.func (.func 61) #[] #[]) #[.pointer s_1, .pointer x28, .pointer x11] w30 (retS (fun v32 w33 => ∃ (x31 : Option Addr), v32 = (.pointer x31 : Value) ∧ (
 R (.returned (.tuple #[.pointer x31, .int .i64 x12])) w33)) (fun ch w => Kfn R ch [] w)))) (fun ch w => Kfn R ch [] w)))))) (
 K21 w23)
 ifB x10 (
 K24 with_5 w19) (
 K21 w19))))))) (fun ch w => Kfn R ch [] w))
set_option maxRecDepth 100000 in
theorem sh23_ok (s_1 : Option Addr) (o_2 : Int) (t_3 : Option Addr) (key_4 : Int) (with_5 : Bool) {R : Ending → World → Prop} {w : World} : sh23 s_1 o_2 t_3 key_4 with_5 R w → Calls Tryz.prog 23 #[.pointer s_1, .int .u8 o_2, .pointer t_3, .int .i64 key_4, .bool with_5] w R :=
  calls_of_eq (ann := fun _ => []) (fn := Tryz.f23) (c := bodyOf Tryz.f23) (args := #[.pointer s_1, .int .u8 o_2, .pointer t_3, .int .i64 key_4, .bool with_5]) 400 follows_mixed Tryz.func23 (by kernel_rfl) (by kernel_rfl)
set_option maxRecDepth 100000 in
/-- joinery/joineryref24.Ahead -/
def sh24 (o_1 : Int) (l_p2 : Option Addr) (l_n3 : Nat) (l_c4 : Nat) (key_5 : Int) (with_6 : Bool) (R : Ending → World → Prop) (w : World) : Prop :=
 doCall Tryz.prog (.func (.func 17) #[] #[]) #[.int .u8 o_1, .slice l_p2 l_n3 l_c4, .int .i64 key_5] w (retS (fun v17 w18 => ∃ (xp7 : Option Addr), ∃ (xn8 : Nat), ∃ (xc9 : Nat), ∃ (x10 : Int), ∃ (x11 : Int), ∃ (x12 : Int), ∃ (x13 : Bool), ∃ (xp14 : Option Addr), ∃ (xn15 : Nat), ∃ (xc16 : Nat), v17 = (.tuple #[.slice xp7 xn8 xc9, .agg #[.int .i64 x10, .int .i64 x11, .int .u64 x12], .bool x13, .slice xp14 xn15 xc16] : Value) ∧ (
 doAl (.cells #[.int .i64 0, .int .i64 0, .int .u64 0] 33) w18 (fun b19 w20 =>
 doSt ((blk b19).add 0) (.int .i64 x10) w20 (fun w21 =>
 doSt ((blk b19).add 1) (.int .i64 x11) w21 (fun w22 =>
 doSt ((blk b19).add 2) (.int .u64 x12) w22 (fun w23 =>
 let K25 : World → Prop := fun (w24 : World) => 
 R (.returned (.slice xp7 xn8 xc9)) w24
 let K28 : Bool → World → Prop := fun (x26 : Bool) (w27 : World) => 
 ifB x26 (
 ∃ (x29 : Int), World.cell? w27 ((blk b19).add 0) = some (.int .i64 x29) ∧ (
 ∃ (x30 : Int), World.cell? w27 ((blk b19).add 1) = some (.int .i64 x30) ∧ (
 ∃ (x31 : Int), World.cell? w27 ((blk b19).add 2) = some (.int .u64 x31) ∧ (
 doAl (.cells #[.int .i64 x29, .int .i64 x30, .int .u64 x31] 33) w27 (fun b32 w33 =>
 doGo Tryz.prog (.builtin .append #[37, 37] 37 #[false, false]) #[.slice xp7 xn8 xc9, .slice (some (blk b32)) 1 1] w33 (retS (fun v37 w38 => ∃ (xp34 : Option Addr), ∃ (xn35 : Nat), ∃ (xc36 : Nat), v37 = (.slice xp34 xn35 xc36 : Value) ∧ (
 R (.returned (.slice xp34 xn35 xc36)) w38)) (fun ch w => Kfn R ch [] w))))))) (
 K25 w27)
 ifB x13 (
 K28 with_6 w23) (
 K25 w23))))))) (fun ch w => Kfn R ch [] w))
set_option maxRecDepth 100000 in
theorem sh24_ok (o_1 : Int) (l_p2 : Option Addr) (l_n3 : Nat) (l_c4 : Nat) (key_5 : Int) (with_6 : Bool) {R : Ending → World → Prop} {w : World} : sh24 o_1 l_p2 l_n3 l_c4 key_5 with_6 R w → Calls Tryz.prog 24 #[.int .u8 o_1, .slice l_p2 l_n3 l_c4, .int .i64 key_5, .bool with_6] w R :=
  calls_of_eq (ann := fun _ => []) (fn := Tryz.f24) (c := bodyOf Tryz.f24) (args := #[.int .u8 o_1, .slice l_p2 l_n3 l_c4, .int .i64 key_5, .bool with_6]) 400 follows_mixed Tryz.func24 (by kernel_rfl) (by kernel_rfl)
set_option maxRecDepth 100000 in
/-- joinery/joineryref24.Behind -/
def sh25 (o_1 : Int) (l_p2 : Option Addr) (l_n3 : Nat) (l_c4 : Nat) (key_5 : Int) (with_6 : Bool) (R : Ending → World → Prop) (w : World) : Prop :=
 doCall Tryz.prog (.func (.func 17) #[] #[]) #[.int .u8 o_1, .slice l_p2 l_n3 l_c4, .int .i64 key_5] w (retS (fun v17 w18 => ∃ (xp7 : Option Addr), ∃ (xn8 : Nat), ∃ (xc9 : Nat), ∃ (x10 : Int), ∃ (x11 : Int), ∃ (x12 : Int), ∃ (x13 : Bool), ∃ (xp14 : Option Addr), ∃ (xn15 : Nat), ∃ (xc16 : Nat), v17 = (.tuple #[.slice xp7 xn8 xc9, .agg #[.int .i64 x10, .int .i64 x11, .int .u64 x12], .bool x13, .slice xp14 xn15 xc16] : Value) ∧ (
 doAl (.cells #[.int .i64 0, .int .i64 0, .int .u64 0] 33) w18 (fun b19 w20 =>
 doSt ((blk b19).add 0) (.int .i64 x10) w20 (fun w21 =>
 doSt ((blk b19).add 1) (.int .i64 x11) w21 (fun w22 =>
 doSt ((blk b19).add 2) (.int .u64 x12) w22 (fun w23 =>
 let K25 : World → Prop := fun (w24 : World) => 
 R (.returned (.slice xp14 xn15 xc16)) w24
 let K28 : Bool → World → Prop := fun (x26 : Bool) (w27 : World) => 
 ifB x26 (
 ∃ (x29 : Int), World.cell? w27 ((blk b19).add 0) = some (.int .i64 x29) ∧ (
 ∃ (x30 : Int), World.cell? w27 ((blk b19).add 1) = some (.int .i64 x30) ∧ (
 ∃ (x31 : Int), World.cell? w27 ((blk b19).add 2) = some (.int .u64 x31) ∧ (
 doAl (.cells #[.int .i64 x29, .int .i64 x30, .int .u64 x31] 33) w27 (fun b32 w33 =>
 doGo Tryz.prog (.builtin .append #[37, 37] 37 #[false, false]) #[.slice (some (blk b32)) 1 1, .slice xp14 xn15 xc16] w33 (retS (fun v37 w38 => ∃ (xp34 : Option Addr), ∃ (xn35 : Nat), ∃ (xc36 : Nat), v37 = (.slice xp34 xn35 xc36 : Value) ∧ (
 R (.returned (.slice xp34 xn35 xc36)) w38)) (fun ch w => Kfn R ch [] w))))))) (
 K25 w27)
 ifB x13 (
 K28 with_6 w23) (
 K25 w23))))))) (fun ch w => Kfn R ch [] w))
set_option maxRecDepth 100000 in
theorem sh25_ok (o_1 : Int) (l_p2 : Option Addr) (l_n3 : Nat) (l_c4 : Nat) (key_5 : Int) (with_6 : Bool) {R : Ending → World → Prop} {w : World} : sh25 o_1 l_p2 l_n3 l_c4 key_5 with_6 R w → Calls Tryz.prog 25 #[.int .u8 o_1, .slice l_p2 l_n3 l_c4, .int .i64 key_5, .bool with_6] w R :=
  calls_of_eq (ann := fun _ => []) (fn := Tryz.f25) (c := bodyOf Tryz.f25) (args := #[.int .u8 o_1, .slice l_p2 l_n3 l_c4, .int .i64 key_5, .bool with_6]) 400 follows_mixed Tryz.func25 (by kernel_rfl) (by kernel_rfl)
set_option maxRecDepth 100000 in
/-- (*joinery/scheme.Scheme).Check -/
def sh26 (s_1 : Option Addr) (t_2 : Option Addr) (R : Ending → World → Prop) (w : World) : Prop :=
 ifB ((s_1).isNone) (
 R (.returned (.tuple #[.int .i64 0, .int .i64 1])) w) (
 doCall Tryz.prog (.func (.func 62) #[] #[]) #[.pointer s_1] w (retS (fun v23 w24 => ∃ (x3 : ByteArray), ∃ (xf4 : Fn), ∃ (xx5 : Array Value), ∃ (xc6 : Array Value), ∃ (xf7 : Fn), ∃ (xx8 : Array Value), ∃ (xc9 : Array Value), ∃ (xf10 : Fn), ∃ (xx11 : Array Value), ∃ (xc12 : Array Value), ∃ (xf13 : Fn), ∃ (xx14 : Array Value), ∃ (xc15 : Array Value), ∃ (xf16 : Fn), ∃ (xx17 : Array Value), ∃ (xc18 : Array Value), ∃ (xf19 : Fn), ∃ (xx20 : Array Value), ∃ (xc21 : Array Value), ∃ (x22 : Bool), v23 = (.agg #[.string x3, .func xf4 xx5 xc6, .func xf7 xx8 xc9, .func xf10 xx11 xc12, .func xf13 xx14 xc15, .func xf16 xx17 xc18, .func xf19 xx20 xc21, .bool x22] : Value) ∧ (
 doCall Tryz.prog (.func xf10 xx11 xc12) #[.pointer t_2] w24 (retS (fun v27 w28 => ∃ (x25 : Int), ∃ (x26 : Int), v27 = (.tuple #[.int .i64 x25, .int .i64 x26] : Value) ∧ (
 R (.returned (.tuple #[.int .i64 x25, .int .i64 x26])) w28)) (fun ch w => Kfn R ch [] w)))) (fun ch w => Kfn R ch [] w)))
set_option maxRecDepth 100000 in
theorem sh26_ok (s_1 : Option Addr) (t_2 : Option Addr) {R : Ending → World → Prop} {w : World} : sh26 s_1 t_2 R w → Calls Tryz.prog 26 #[.pointer s_1, .pointer t_2] w R :=
  calls_of_eq (ann := fun _ => []) (fn := Tryz.f26) (c := bodyOf Tryz.f26) (args := #[.pointer s_1, .pointer t_2]) 400 follows_mixed Tryz.func26 (by kernel_rfl) (by kernel_rfl)
set_option maxRecDepth 100000 in
/-- joinery/node.New -/
def sh27 (l_1 : Option Addr) (key_2 : Int) (val_3 : Int) (tag_4 : Int) (r_5 : Option Addr) (R : Ending → World → Prop) (w : World) : Prop :=
 doCall Tryz.prog (.func (.func 29) #[] #[]) #[.pointer l_1] w (retS (fun v7 w8 => ∃ (x6 : Int), v7 = (.int .i64 x6 : Value) ∧ (
 doCall Tryz.prog (.func (.func 29) #[] #[]) #[.pointer r_5] w8 (retS (fun v10 w11 => ∃ (x9 : Int), v10 = (.int .i64 x9 : Value) ∧ (
 doCall Tryz.prog (.func (.func 30) #[] #[]) #[.pointer l_1] w11 (retS (fun v13 w14 => ∃ (x12 : Int), v13 = (.int .i64 x12 : Value) ∧ (
 doCall Tryz.prog (.func (.func 30) #[] #[]) #[.pointer r_5] w14 (retS (fun v16 w17 => ∃ (x15 : Int), v16 = (.int .i64 x15 : Value) ∧ (
 doAl (.cells #[.int .i64 key_2, .int .i64 val_3, .int .i64 (IntKind.wrap .i64 ((IntKind.wrap .i64 (x12 + val_3)) + x15)), .int .u64 tag_4, .int .i64 (IntKind.wrap .i64 ((IntKind.wrap .i64 (x6 + 1)) + x9)), .pointer l_1, .pointer r_5] 110) w17 (fun b18 w19 =>
 R (.returned (.pointer (some (blk b18)))) w19))) (fun ch w => Kfn R ch [] w)))) (fun ch w => Kfn R ch [] w)))) (fun ch w => Kfn R ch [] w)))) (fun ch w => Kfn R ch [] w))
set_option maxRecDepth 100000 in
theorem sh27_ok (l_1 : Option Addr) (key_2 : Int) (val_3 : Int) (tag_4 : Int) (r_5 : Option Addr) {R : Ending → World → Prop} {w : World} : sh27 l_1 key_2 val_3 tag_4 r_5 R w → Calls Tryz.prog 27 #[.pointer l_1, .int .i64 key_2, .int .i64 val_3, .int .u64 tag_4, .pointer r_5] w R :=
  calls_of_eq (ann := fun _ => []) (fn := Tryz.f27) (c := bodyOf Tryz.f27) (args := #[.pointer l_1, .int .i64 key_2, .int .i64 val_3, .int .u64 tag_4, .pointer r_5]) 400 follows_mixed Tryz.func27 (by kernel_rfl) (by kernel_rfl)
set_option maxRecDepth 100000 in
/-- joinery/sound.Ahead -/
def sh28 (o_1 : Int) (a_2 : Option Addr) (b_3 : Option Addr) (R : Ending → World → Prop) (w : World) : Prop :=
 doCall Tryz.prog (.func (.func 63) #[] #[]) #[.int .u8 o_1, .pointer a_2] w (retS (fun v6 w7 => ∃ (x4 : Int), ∃ (x5 : Int), v6 = (.tuple #[.int .i64 x4, .int .i64 x5] : Value) ∧ (
 doCall Tryz.prog (.func (.func 63) #[] #[]) #[.int .u8 o_1, .pointer b_3] w7 (retS (fun v10 w11 => ∃ (x8 : Int), ∃ (x9 : Int), v10 = (.tuple #[.int .i64 x8, .int .i64 x9] : Value) ∧ (
 let K14 : Bool → World → Prop := fun (x12 : Bool) (w13 : World) => 
 ifB x12 (
 R (.returned (.bool false)) w13) (
 let K17 : Bool → World → Prop := fun (x15 : Bool) (w16 : World) => 
 R (.returned (.bool x15)) w16
 ifB ((a_2).isNone) (
 R (.returned (.bool true)) w13) (
 ifB ((b_3).isNone) (
 R (.returned (.bool true)) w13) (
 doCall Tryz.prog (.func (.func 65) #[] #[]) #[.pointer a_2, .func (.func 66) #[] #[]] w13 (retS (fun v19 w20 => ∃ (x18 : Option Addr), v19 = (.pointer x18 : Value) ∧ (
 doCall Tryz.prog (.func (.func 67) #[] #[]) #[.pointer x18] w20 (retS (fun v22 w23 => ∃ (x21 : Int), v22 = (.int .i64 x21 : Value) ∧ (
 doCall Tryz.prog (.func (.func 65) #[] #[]) #[.pointer b_3, .func (.func 68) #[] #[]] w23 (retS (fun v25 w26 => ∃ (x24 : Option Addr), v25 = (.pointer x24 : Value) ∧ (
 doCall Tryz.prog (.func (.func 67) #[] #[]) #[.pointer x24] w26 (retS (fun v28 w29 => ∃ (x27 : Int), v28 = (.int .i64 x27 : Value) ∧ (
 doCall Tryz.prog (.func (.func 64) #[] #[]) #[.int .u8 o_1, .int .i64 x21, .int .i64 x27] w29 (retS (fun v31 w32 => ∃ (x30 : Int), v31 = (.int .i64 x30 : Value) ∧ (
 K17 (decide ((x30 : Int) < 0)) w32)) (fun ch w => Kfn R ch [] w)))) (fun ch w => Kfn R ch [] w)))) (fun ch w => Kfn R ch [] w)))) (fun ch w => Kfn R ch [] w)))) (fun ch w => Kfn R ch [] w)))))
 ifB ((x5 : Int) != 0) (
 R (.returned (.bool false)) w11) (
 K14 ((x9 : Int) != 0) w11))) (fun ch w => Kfn R ch [] w)))) (fun ch w => Kfn R ch [] w))
set_option maxRecDepth 100000 in
theorem sh28_ok (o_1 : Int) (a_2 : Option Addr) (b_3 : Option Addr) {R : Ending → World → Prop} {w : World} : sh28 o_1 a_2 b_3 R w → Calls Tryz.prog 28 #[.int .u8 o_1, .pointer a_2, .pointer b_3] w R :=
  calls_of_eq (ann := fun _ => []) (fn := Tryz.f28) (c := bodyOf Tryz.f28) (args := #[.int .u8 o_1, .pointer a_2, .pointer b_3]) 400 follows_mixed Tryz.func28 (by kernel_rfl) (by kernel_rfl)
set_option maxRecDepth 100000 in
/-- (*joinery/node.Node).Size -/
def sh29 (n_1 : Option Addr) (R : Ending → World → Prop) (w : World) : Prop :=
 doCall Tryz.prog (.func (.func 69) #[] #[]) #[.pointer n_1] w (retS (fun v7 w8 => ∃ (x2 : Int), ∃ (x3 : Int), ∃ (x4 : Int), ∃ (x5 : Int), ∃ (x6 : Int), v7 = (.agg #[.int .i64 x2, .int .i64 x3, .int .i64 x4, .int .u64 x5, .int .i64 x6] : Value) ∧ (
 R (.returned (.int .i64 x6)) w8)) (fun ch w => Kfn R ch [] w))
set_option maxRecDepth 100000 in
theorem sh29_ok (n_1 : Option Addr) {R : Ending → World → Prop} {w : World} : sh29 n_1 R w → Calls Tryz.prog 29 #[.pointer n_1] w R :=
  calls_of_eq (ann := fun _ => []) (fn := Tryz.f29) (c := bodyOf Tryz.f29) (args := #[.pointer n_1]) 400 follows_mixed Tryz.func29 (by kernel_rfl) (by kernel_rfl)
end Go.Proofs.YthgckfeocalbdaaGreat

namespace Go.Proofs.YthgckfeocalbdaaGreat
open Go Go.Sh
set_option maxRecDepth 100000 in
/-- (*joinery/node.Node).Sum -/
def sh30 (n_1 : Option Addr) (R : Ending → World → Prop) (w : World) : Prop :=
 doCall Tryz.prog (.func (.func 69) #[] #[]) #[.pointer n_1] w (retS (fun v7 w8 => ∃ (x2 : Int), ∃ (x3 : Int), ∃ (x4 : Int), ∃ (x5 : Int), ∃ (x6 : Int), v7 = (.agg #[.int .i64 x2, .int .i64 x3, .int .i64 x4, .int .u64 x5, .int .i64 x6] : Value) ∧ (
 R (.returned (.int .i64 x4)) w8)) (fun ch w => Kfn R ch [] w))
set_option maxRecDepth 100000 in
theorem sh30_ok (n_1 : Option Addr) {R : Ending → World → Prop} {w : World} : sh30 n_1 R w → Calls Tryz.prog 30 #[.pointer n_1] w R :=
  calls_of_eq (ann := fun _ => []) (fn := Tryz.f30) (c := bodyOf Tryz.f30) (args := #[.pointer n_1]) 400 follows_mixed Tryz.func30 (by kernel_rfl) (by kernel_rfl)
set_option maxRecDepth 100000 in
/-- joinery/joineryref03.May -/
def sh31 (p_1 : Int) (R : Ending → World → Prop) (w : World) : Prop :=
 let K4 : Bool → World → Prop := fun (x2 : Bool) (w3 : World) => 
 R (.returned (.bool x2)) w3
 ifB ((p_1 : Int) == 1) (
 R (.returned (.bool true)) w) (
 ifB ((p_1 : Int) == 2) (
 R (.returned (.bool true)) w) (
 K4 ((p_1 : Int) == 3) w))
set_option maxRecDepth 100000 in
theorem sh31_ok (p_1 : Int) {R : Ending → World → Prop} {w : World} : sh31 p_1 R w → Calls Tryz.prog 31 #[.int .u8 p_1] w R :=
  calls_of_eq (ann := fun _ => []) (fn := Tryz.f31) (c := bodyOf Tryz.f31) (args := #[.int .u8 p_1]) 400 follows_mixed Tryz.func31 (by kernel_rfl) (by kernel_rfl)
set_option maxRecDepth 100000 in
/-- joinery/edit.Insert -/
def sh34 (s_1 : Option Addr) (o_2 : Int) (p_3 : Int) (t_4 : Option Addr) (x_5 : Int) (x_6 : Int) (x_7 : Int) (R : Ending → World → Prop) (w : World) : Prop :=
 doAl (.cells #[.int .u8 p_3] 5) w (fun b8 w9 =>
 doAl (.cells #[.int .i64 x_5, .int .i64 x_6, .int .u64 x_7] 33) w9 (fun b10 w11 =>
 ∃ (x12 : Int), World.cell? w11 (blk b8) = some (.int .u8 x12) ∧ (
 doCall Tryz.prog (.func (.func 71) #[] #[]) #[.int .u8 x12] w11 (retS (fun v14 w15 => ∃ (x13 : Bool), v14 = (.bool x13 : Value) ∧ (
 ifB (!x13) (
 R (.returned (.tuple #[.pointer none, .int .i64 0, .bool false, .int .i64 2])) w15) (
 ∃ (x16 : Int), World.cell? w15 ((blk b10).add 0) = some (.int .i64 x16) ∧ (
 doCall Tryz.prog (.func (.func 72) #[] #[]) #[.pointer s_1, .int .u8 o_2, .pointer t_4, .int .i64 x16, .func (.func 73) #[] #[.pointer (some (blk b10)), .pointer (some (blk b8))]] w15 (retS (fun v21 w22 => ∃ (x17 : Option Addr), ∃ (x18 : Int), ∃ (x19 : Bool), ∃ (x20 : Int), v21 = (.tuple #[.pointer x17, .int .i64 x18, .bool x19, .int .i64 x20] : Value) ∧ (
 R (.returned (.tuple #[.pointer x17, .int .i64 x18, .bool x19, .int .i64 x20])) w22)) (fun ch w => Kfn R ch [] w)))))) (fun ch w => Kfn R ch [] w)))))
set_option maxRecDepth 100000 in
theorem sh34_ok (s_1 : Option Addr) (o_2 : Int) (p_3 : Int) (t_4 : Option Addr) (x_5 : Int) (x_6 : Int) (x_7 : Int) {R : Ending → World → Prop} {w : World} : sh34 s_1 o_2 p_3 t_4 x_5 x_6 x_7 R w → Calls Tryz.prog 34 #[.pointer s_1, .int .u8 o_2, .int .u8 p_3, .pointer t_4, .agg #[.int .i64 x_5, .int .i64 x_6, .int .u64 x_7]] w R :=
  calls_of_eq (ann := fun _ => []) (fn := Tryz.f34) (c := bodyOf Tryz.f34) (args := #[.pointer s_1, .int .u8 o_2, .int .u8 p_3, .pointer t_4, .agg #[.int .i64 x_5, .int .i64 x_6, .int .u64 x_7]]) 400 follows_mixed Tryz.func34 (by kernel_rfl) (by kernel_rfl)
set_option maxRecDepth 100000 in
/-- joinery/joineryref26.Insert -/
def sh35 (o_1 : Int) (p_2 : Int) (l_p3 : Option Addr) (l_n4 : Nat) (l_c5 : Nat) (x_6 : Int) (x_7 : Int) (x_8 : Int) (R : Ending → World → Prop) (w : World) : Prop :=
 doAl (.cells #[.int .i64 x_6, .int .i64 x_7, .int .u64 x_8] 33) w (fun b9 w10 =>
 ∃ (x11 : Int), World.cell? w10 ((blk b9).add 0) = some (.int .i64 x11) ∧ (
 doCall Tryz.prog (.func (.func 17) #[] #[]) #[.int .u8 o_1, .slice l_p3 l_n4 l_c5, .int .i64 x11] w10 (retS (fun v22 w23 => ∃ (xp12 : Option Addr), ∃ (xn13 : Nat), ∃ (xc14 : Nat), ∃ (x15 : Int), ∃ (x16 : Int), ∃ (x17 : Int), ∃ (x18 : Bool), ∃ (xp19 : Option Addr), ∃ (xn20 : Nat), ∃ (xc21 : Nat), v22 = (.tuple #[.slice xp12 xn13 xc14, .agg #[.int .i64 x15, .int .i64 x16, .int .u64 x17], .bool x18, .slice xp19 xn20 xc21] : Value) ∧ (
 doAl (.cells #[.int .i64 0, .int .i64 0, .int .u64 0] 33) w23 (fun b24 w25 =>
 doSt ((blk b24).add 0) (.int .i64 x15) w25 (fun w26 =>
 doSt ((blk b24).add 1) (.int .i64 x16) w26 (fun w27 =>
 doSt ((blk b24).add 2) (.int .u64 x17) w27 (fun w28 =>
 let K30 : World → Prop := fun (w29 : World) => 
 doGo Tryz.prog (.builtin .append #[37, 37] 37 #[true, false]) #[.slice none 0 0, .slice xp12 xn13 xc14] w29 (retS (fun v34 w35 => ∃ (xp31 : Option Addr), ∃ (xn32 : Nat), ∃ (xc33 : Nat), v34 = (.slice xp31 xn32 xc33 : Value) ∧ (
 ∃ (x36 : Int), World.cell? w35 ((blk b9).add 0) = some (.int .i64 x36) ∧ (
 ∃ (x37 : Int), World.cell? w35 ((blk b9).add 1) = some (.int .i64 x37) ∧ (
 ∃ (x38 : Int), World.cell? w35 ((blk b9).add 2) = some (.int .u64 x38) ∧ (
 doAl (.cells #[.int .i64 x36, .int .i64 x37, .int .u64 x38] 33) w35 (fun b39 w40 =>
 doGo Tryz.prog (.builtin .append #[37, 37] 37 #[false, false]) #[.slice xp31 xn32 xc33, .slice (some (blk b39)) 1 1] w40 (retS (fun v44 w45 => ∃ (xp41 : Option Addr), ∃ (xn42 : Nat), ∃ (xc43 : Nat), v44 = (.slice xp41 xn42 xc43 : Value) ∧ (
 doDr w45 (fun w47 =>
 ∃ (C46 : World → Prop), C46 w47 ∧ (
 ∃ (x48 : Int), (∀ w, C46 w → World.cell? w ((blk b24).add 1) = some (.int .i64 x48)) ∧ (
 doGo Tryz.prog (.builtin .append #[37, 37] 37 #[false, false]) #[.slice xp41 xn42 xc43, .slice xp19 xn20 xc21] w47 (retS (fun v52 w53 => ∃ (xp49 : Option Addr), ∃ (xn50 : Nat), ∃ (xc51 : Nat), v52 = (.slice xp49 xn50 xc51 : Value) ∧ (
 C46 w53 ∧ (
 R (.returned (.tuple #[.slice xp49 xn50 xc51, .int .i64 x48, .bool x18])) w53))) (fun ch w => Kfn R ch [] w))))))) (fun ch w => Kfn R ch [] w)))))))) (fun ch w => Kfn R ch [] w))
 ifB x18 (
 doDr w28 (fun w55 =>
 ∃ (C54 : World → Prop), C54 w55 ∧ (
 ∃ (x56 : Int), (∀ w, C54 w → World.cell? w ((blk b24).add 0) = some (.int .i64 x56)) ∧ (
 ∃ (x57 : Int), (∀ w, C54 w → World.cell? w ((blk b24).add 1) = some (.int .i64 x57)) ∧ (
 ∃ (x58 : Int), (∀ w, C54 w → World.cell? w ((blk b9).add 1) = some (.int .i64 x58)) ∧ (
 ∃ (x59 : Int), (∀ w, C54 w → World.cell? w ((blk b24).add 2) = some (.int .u64 x59)) ∧ (
 doCall Tryz.prog (.func (.func 75) #[] #[]) #[.int .u8 p_2, .int .i64 x57, .int .i64 x58] w55 (retS (fun v61 w62 => ∃ (x60 : Int), v61 = (.int .i64 x60 : Value) ∧ (
 C54 w62 ∧ (
 doSt ((blk b9).add 0) (.int .i64 x56) w62 (fun w63 =>
 doSt ((blk b9).add 1) (.int .i64 x60) w63 (fun w64 =>
 doSt ((blk b9).add 2) (.int .u64 x59) w64 (fun w65 =>
 K30 w65)))))) (fun ch w => Kfn R ch [] w))))))))) (
 K30 w28))))))) (fun ch w => Kfn R ch [] w))))
set_option maxRecDepth 100000 in
theorem sh35_ok (o_1 : Int) (p_2 : Int) (l_p3 : Option Addr) (l_n4 : Nat) (l_c5 : Nat) (x_6 : Int) (x_7 : Int) (x_8 : Int) {R : Ending → World → Prop} {w : World} : sh35 o_1 p_2 l_p3 l_n4 l_c5 x_6 x_7 x_8 R w → Calls Tryz.prog 35 #[.int .u8 o_1, .int .u8 p_2, .slice l_p3 l_n4 l_c5, .agg #[.int .i64 x_6, .int .i64 x_7, .int .u64 x_8]] w R :=
  calls_of_eq (ann := fun _ => []) (fn := Tryz.f35) (c := bodyOf Tryz.f35) (args := #[.int .u8 o_1, .int .u8 p_2, .slice l_p3 l_n4 l_c5, .agg #[.int .i64 x_6, .int .i64 x_7, .int .u64 x_8]]) 400 follows_mixed Tryz.func35 (by kernel_rfl) (by kernel_rfl)
set_option maxRecDepth 100000 in
/-- joinery/edit.Delete -/
def sh36 (s_1 : Option Addr) (o_2 : Int) (t_3 : Option Addr) (key_4 : Int) (R : Ending → World → Prop) (w : World) : Prop :=
 doCall Tryz.prog (.func (.func 72) #[] #[]) #[.pointer s_1, .int .u8 o_2, .pointer t_3, .int .i64 key_4, .func (.func 76) #[] #[]] w (retS (fun v9 w10 => ∃ (x5 : Option Addr), ∃ (x6 : Int), ∃ (x7 : Bool), ∃ (x8 : Int), v9 = (.tuple #[.pointer x5, .int .i64 x6, .bool x7, .int .i64 x8] : Value) ∧ (
 R (.returned (.tuple #[.pointer x5, .int .i64 x6, .bool x7, .int .i64 x8])) w10)) (fun ch w => Kfn R ch [] w))
set_option maxRecDepth 100000 in
theorem sh36_ok (s_1 : Option Addr) (o_2 : Int) (t_3 : Option Addr) (key_4 : Int) {R : Ending → World → Prop} {w : World} : sh36 s_1 o_2 t_3 key_4 R w → Calls Tryz.prog 36 #[.pointer s_1, .int .u8 o_2, .pointer t_3, .int .i64 key_4] w R :=
  calls_of_eq (ann := fun _ => []) (fn := Tryz.f36) (c := bodyOf Tryz.f36) (args := #[.pointer s_1, .int .u8 o_2, .pointer t_3, .int .i64 key_4]) 400 follows_mixed Tryz.func36 (by kernel_rfl) (by kernel_rfl)
set_option maxRecDepth 100000 in
/-- joinery/joineryref26.Delete -/
def sh37 (o_1 : Int) (l_p2 : Option Addr) (l_n3 : Nat) (l_c4 : Nat) (key_5 : Int) (R : Ending → World → Prop) (w : World) : Prop :=
 doCall Tryz.prog (.func (.func 17) #[] #[]) #[.int .u8 o_1, .slice l_p2 l_n3 l_c4, .int .i64 key_5] w (retS (fun v16 w17 => ∃ (xp6 : Option Addr), ∃ (xn7 : Nat), ∃ (xc8 : Nat), ∃ (x9 : Int), ∃ (x10 : Int), ∃ (x11 : Int), ∃ (x12 : Bool), ∃ (xp13 : Option Addr), ∃ (xn14 : Nat), ∃ (xc15 : Nat), v16 = (.tuple #[.slice xp6 xn7 xc8, .agg #[.int .i64 x9, .int .i64 x10, .int .u64 x11], .bool x12, .slice xp13 xn14 xc15] : Value) ∧ (
 doAl (.cells #[.int .i64 0, .int .i64 0, .int .u64 0] 33) w17 (fun b18 w19 =>
 doSt ((blk b18).add 0) (.int .i64 x9) w19 (fun w20 =>
 doSt ((blk b18).add 1) (.int .i64 x10) w20 (fun w21 =>
 doSt ((blk b18).add 2) (.int .u64 x11) w21 (fun w22 =>
 doGo Tryz.prog (.builtin .append #[37, 37] 37 #[true, false]) #[.slice none 0 0, .slice xp6 xn7 xc8] w22 (retS (fun v26 w27 => ∃ (xp23 : Option Addr), ∃ (xn24 : Nat), ∃ (xc25 : Nat), v26 = (.slice xp23 xn24 xc25 : Value) ∧ (
 doDr w27 (fun w29 =>
 ∃ (C28 : World → Prop), C28 w29 ∧ (
 ∃ (x30 : Int), (∀ w, C28 w → World.cell? w ((blk b18).add 1) = some (.int .i64 x30)) ∧ (
 doGo Tryz.prog (.builtin .append #[37, 37] 37 #[false, false]) #[.slice xp23 xn24 xc25, .slice xp13 xn14 xc15] w29 (retS (fun v34 w35 => ∃ (xp31 : Option Addr), ∃ (xn32 : Nat), ∃ (xc33 : Nat), v34 = (.slice xp31 xn32 xc33 : Value) ∧ (
 C28 w35 ∧ (
 R (.returned (.tuple #[.slice xp31 xn32 xc33, .int .i64 x30, .bool x12])) w35))) (fun ch w => Kfn R ch [] w))))))) (fun ch w => Kfn R ch [] w)))))))) (fun ch w => Kfn R ch [] w))
set_option maxRecDepth 100000 in
theorem sh37_ok (o_1 : Int) (l_p2 : Option Addr) (l_n3 : Nat) (l_c4 : Nat) (key_5 : Int) {R : Ending → World → Prop} {w : World} : sh37 o_1 l_p2 l_n3 l_c4 key_5 R w → Calls Tryz.prog 37 #[.int .u8 o_1, .slice l_p2 l_n3 l_c4, .int .i64 key_5] w R :=
  calls_of_eq (ann := fun _ => []) (fn := Tryz.f37) (c := bodyOf Tryz.f37) (args := #[.int .u8 o_1, .slice l_p2 l_n3 l_c4, .int .i64 key_5]) 400 follows_mixed Tryz.func37 (by kernel_rfl) (by kernel_rfl)
set_option maxRecDepth 100000 in
/-- joinery/edit.Set -/
def sh38 (s_1 : Option Addr) (o_2 : Int) (t_3 : Option Addr) (key_4 : Int) (val_5 : Int) (R : Ending → World → Prop) (w : World) : Prop :=
 doAl (.cells #[.int .i64 val_5] 2) w (fun b6 w7 =>
 doCall Tryz.prog (.func (.func 72) #[] #[]) #[.pointer s_1, .int .u8 o_2, .pointer t_3, .int .i64 key_4, .func (.func 77) #[] #[.pointer (some (blk b6))]] w7 (retS (fun v12 w13 => ∃ (x8 : Option Addr), ∃ (x9 : Int), ∃ (x10 : Bool), ∃ (x11 : Int), v12 = (.tuple #[.pointer x8, .int .i64 x9, .bool x10, .int .i64 x11] : Value) ∧ (
 R (.returned (.tuple #[.pointer x8, .bool x10, .int .i64 x11])) w13)) (fun ch w => Kfn R ch [] w)))
set_option maxRecDepth 100000 in
theorem sh38_ok (s_1 : Option Addr) (o_2 : Int) (t_3 : Option Addr) (key_4 : Int) (val_5 : Int) {R : Ending → World → Prop} {w : World} : sh38 s_1 o_2 t_3 key_4 val_5 R w → Calls Tryz.prog 38 #[.pointer s_1, .int .u8 o_2, .pointer t_3, .int .i64 key_4, .int .i64 val_5] w R :=
  calls_of_eq (ann := fun _ => []) (fn := Tryz.f38) (c := bodyOf Tryz.f38) (args := #[.pointer s_1, .int .u8 o_2, .pointer t_3, .int .i64 key_4, .int .i64 val_5]) 400 follows_mixed Tryz.func38 (by kernel_rfl) (by kernel_rfl)
set_option maxRecDepth 100000 in
/-- joinery/joineryref26.Set -/
def sh39 (o_1 : Int) (l_p2 : Option Addr) (l_n3 : Nat) (l_c4 : Nat) (key_5 : Int) (val_6 : Int) (R : Ending → World → Prop) (w : World) : Prop :=
 doCall Tryz.prog (.func (.func 17) #[] #[]) #[.int .u8 o_1, .slice l_p2 l_n3 l_c4, .int .i64 key_5] w (retS (fun v17 w18 => ∃ (xp7 : Option Addr), ∃ (xn8 : Nat), ∃ (xc9 : Nat), ∃ (x10 : Int), ∃ (x11 : Int), ∃ (x12 : Int), ∃ (x13 : Bool), ∃ (xp14 : Option Addr), ∃ (xn15 : Nat), ∃ (xc16 : Nat), v17 = (.tuple #[.slice xp7 xn8 xc9, .agg #[.int .i64 x10, .int .i64 x11, .int .u64 x12], .bool x13, .slice xp14 xn15 xc16] : Value) ∧ (
 doAl (.cells #[.int .i64 0, .int .i64 0, .int .u64 0] 33) w18 (fun b19 w20 =>
 doSt ((blk b19).add 0) (.int .i64 x10) w20 (fun w21 =>
 doSt ((blk b19).add 1) (.int .i64 x11) w21 (fun w22 =>
 doSt ((blk b19).add 2) (.int .u64 x12) w22 (fun w23 =>
 doGo Tryz.prog (.builtin .append #[37, 37] 37 #[true, false]) #[.slice none 0 0, .slice xp7 xn8 xc9] w23 (retS (fun v27 w28 => ∃ (xp24 : Option Addr), ∃ (xn25 : Nat), ∃ (xc26 : Nat), v27 = (.slice xp24 xn25 xc26 : Value) ∧ (
 let K33 : (Option Addr) → Nat → Nat → World → Prop := fun (out_p29 : Option Addr) (out_n30 : Nat) (out_c31 : Nat) (w32 : World) => 
 doGo Tryz.prog (.builtin .append #[37, 37] 37 #[false, false]) #[.slice out_p29 out_n30 out_c31, .slice xp14 xn15 xc16] w32 (retS (fun v37 w38 => ∃ (xp34 : Option Addr), ∃ (xn35 : Nat), ∃ (xc36 : Nat), v37 = (.slice xp34 xn35 xc36 : Value) ∧ (
 R (.returned (.tuple #[.slice xp34 xn35 xc36, .bool x13])) w38)) (fun ch w => Kfn R ch [] w))
 ifB x13 (
 ∃ (x39 : Int), World.cell? w28 ((blk b19).add 0) = some (.int .i64 x39) ∧ (
 ∃ (x40 : Int), World.cell? w28 ((blk b19).add 2) = some (.int .u64 x40) ∧ (
 doAl (.cells #[.int .i64 x39, .int .i64 val_6, .int .u64 x40] 33) w28 (fun b41 w42 =>
 doGo Tryz.prog (.builtin .append #[37, 37] 37 #[false, false]) #[.slice xp24 xn25 xc26, .slice (some (blk b41)) 1 1] w42 (retS (fun v46 w47 => ∃ (xp43 : Option Addr), ∃ (xn44 : Nat), ∃ (xc45 : Nat), v46 = (.slice xp43 xn44 xc45 : Value) ∧ (
 K33 xp43 xn44 xc45 w47)) (fun ch w => Kfn R ch [] w)))))) (
 K33 xp24 xn25 xc26 w28))) (fun ch w => Kfn R ch [] w)))))))) (fun ch w => Kfn R ch [] w))
set_option maxRecDepth 100000 in
theorem sh39_ok (o_1 : Int) (l_p2 : Option Addr) (l_n3 : Nat) (l_c4 : Nat) (key_5 : Int) (val_6 : Int) {R : Ending → World → Prop} {w : World} : sh39 o_1 l_p2 l_n3 l_c4 key_5 val_6 R w → Calls Tryz.prog 39 #[.int .u8 o_1, .slice l_p2 l_n3 l_c4, .int .i64 key_5, .int .i64 val_6] w R :=
  calls_of_eq (ann := fun _ => []) (fn := Tryz.f39) (c := bodyOf Tryz.f39) (args := #[.int .u8 o_1, .slice l_p2 l_n3 l_c4, .int .i64 key_5, .int .i64 val_6]) 400 follows_mixed Tryz.func39 (by kernel_rfl) (by kernel_rfl)
set_option maxRecDepth 100000 in
/-- joinery/joinerylaw28.Long -/
def sh40 (code_1 : Int) (o_2 : Int) (l_p3 : Option Addr) (l_n4 : Nat) (l_c5 : Nat) (m_p6 : Option Addr) (m_n7 : Nat) (m_c8 : Nat) (R : Ending → World → Prop) (w : World) : Prop :=
 let K11 : Bool → World → Prop := fun (x9 : Bool) (w10 : World) => 
 R (.returned (.bool x9)) w10
 doCall Tryz.prog (.func (.func 11) #[] #[]) #[.int .u8 code_1, .int .u8 o_2, .slice l_p3 l_n4 l_c5] w (retS (fun v13 w14 => ∃ (x12 : Bool), v13 = (.bool x12 : Value) ∧ (
 ifB x12 (
 R (.returned (.bool true)) w14) (
 doCall Tryz.prog (.func (.func 11) #[] #[]) #[.int .u8 code_1, .int .u8 o_2, .slice m_p6 m_n7 m_c8] w14 (retS (fun v16 w17 => ∃ (x15 : Bool), v16 = (.bool x15 : Value) ∧ (
 K11 x15 w17)) (fun ch w => Kfn R ch [] w))))) (fun ch w => Kfn R ch [] w))
set_option maxRecDepth 100000 in
theorem sh40_ok (code_1 : Int) (o_2 : Int) (l_p3 : Option Addr) (l_n4 : Nat) (l_c5 : Nat) (m_p6 : Option Addr) (m_n7 : Nat) (m_c8 : Nat) {R : Ending → World → Prop} {w : World} : sh40 code_1 o_2 l_p3 l_n4 l_c5 m_p6 m_n7 m_c8 R w → Calls Tryz.prog 40 #[.int .u8 code_1, .int .u8 o_2, .slice l_p3 l_n4 l_c5, .slice m_p6 m_n7 m_c8] w R :=
  calls_of_eq (ann := fun _ => []) (fn := Tryz.f40) (c := bodyOf Tryz.f40) (args := #[.int .u8 code_1, .int .u8 o_2, .slice l_p3 l_n4 l_c5, .slice m_p6 m_n7 m_c8]) 400 follows_mixed Tryz.func40 (by kernel_rfl) (by kernel_rfl)
set_option maxRecDepth 100000 in
/-- joinery/union.Union -/
def sh43 (s_1 : Option Addr) (o_2 : Int) (p_3 : Int) (a_4 : Option Addr) (b_5 : Option Addr) (R : Ending → World → Prop) (w : World) : Prop :=
 doCall Tryz.prog (.func (.func 79) #[] #[]) #[.pointer s_1, .int .u8 o_2, .int .u8 p_3] w (retS (fun v7 w8 => ∃ (x6 : Bool), v7 = (.bool x6 : Value) ∧ (
 ifB (!x6) (
 R (.returned (.tuple #[.pointer none, .int .i64 2])) w8) (
 doCall Tryz.prog (.func (.func 80) #[] #[]) #[.pointer s_1, .int .u8 o_2, .func (.func 81) #[.int .u8 p_3] #[], .pointer a_4, .pointer b_5] w8 (retS (fun v10 w11 => ∃ (x9 : Option Addr), v10 = (.pointer x9 : Value) ∧ (
 R (.returned (.tuple #[.pointer x9, .int .i64 0])) w11)) (fun ch w => Kfn R ch [] w))))) (fun ch w => Kfn R ch [] w))
set_option maxRecDepth 100000 in
theorem sh43_ok (s_1 : Option Addr) (o_2 : Int) (p_3 : Int) (a_4 : Option Addr) (b_5 : Option Addr) {R : Ending → World → Prop} {w : World} : sh43 s_1 o_2 p_3 a_4 b_5 R w → Calls Tryz.prog 43 #[.pointer s_1, .int .u8 o_2, .int .u8 p_3, .pointer a_4, .pointer b_5] w R :=
  calls_of_eq (ann := fun _ => []) (fn := Tryz.f43) (c := bodyOf Tryz.f43) (args := #[.pointer s_1, .int .u8 o_2, .int .u8 p_3, .pointer a_4, .pointer b_5]) 400 follows_mixed Tryz.func43 (by kernel_rfl) (by kernel_rfl)
set_option maxRecDepth 100000 in
/-- joinery/joineryref28.Union -/
def sh44 (o_1 : Int) (p_2 : Int) (a_p3 : Option Addr) (a_n4 : Nat) (a_c5 : Nat) (b_p6 : Option Addr) (b_n7 : Nat) (_b_c8 : Nat) (R : Ending → World → Prop) (w : World) : Prop :=
 doGo Tryz.prog (.builtin .append #[37, 37] 37 #[true, false]) #[.slice none 0 0, .slice a_p3 a_n4 a_c5] w (retS (fun v12 w13 => ∃ (xp9 : Option Addr), ∃ (xn10 : Nat), ∃ (xc11 : Nat), v12 = (.slice xp9 xn10 xc11 : Value) ∧ (
 ∃ (I14 : List Value → World → Prop) (μ15 : List Value → World → Nat), I14 [.slice xp9 xn10 xc11, .int .i64 0] w13 ∧ (∀ (out_p18 : Option Addr), ∀ (out_n19 : Nat), ∀ (out_c20 : Nat), ∀ (i_21 : Int), ∀ (_j16 : Nat → Value) (w17 : World), I14 [.slice out_p18 out_n19 out_c20, .int .i64 i_21] w17 → (
 ifB (decide ((i_21 : Int) < ((b_n7 : Nat) : Int))) (
 doIx b_p6 b_n7 3 (i_21) (fun a22 =>
 ∃ (x23 : Int), World.cell? w17 (a22.add 0) = some (.int .i64 x23) ∧ (
 ∃ (x24 : Int), World.cell? w17 (a22.add 1) = some (.int .i64 x24) ∧ (
 ∃ (x25 : Int), World.cell? w17 (a22.add 2) = some (.int .u64 x25) ∧ (
 doCall Tryz.prog (.func (.func 35) #[] #[]) #[.int .u8 o_1, .int .u8 p_2, .slice out_p18 out_n19 out_c20, .agg #[.int .i64 x23, .int .i64 x24, .int .u64 x25]] w17 (retS (fun v31 w32 => ∃ (xp26 : Option Addr), ∃ (xn27 : Nat), ∃ (xc28 : Nat), ∃ (x29 : Int), ∃ (x30 : Bool), v31 = (.tuple #[.slice xp26 xn27 xc28, .int .i64 x29, .bool x30] : Value) ∧ (
 I14 [.slice xp26 xn27 xc28, .int .i64 (IntKind.wrap .i64 (i_21 + 1))] w32 ∧ μ15 [.slice xp26 xn27 xc28, .int .i64 (IntKind.wrap .i64 (i_21 + 1))] w32 < μ15 [.slice out_p18 out_n19 out_c20, .int .i64 i_21] w17)) (fun ch w => Kfn R ch [] w))))))) (
 R (.returned (.slice out_p18 out_n19 out_c20)) w17))))) (fun ch w => Kfn R ch [] w))
set_option maxRecDepth 100000 in
theorem sh44_ok (o_1 : Int) (p_2 : Int) (a_p3 : Option Addr) (a_n4 : Nat) (a_c5 : Nat) (b_p6 : Option Addr) (b_n7 : Nat) (b_c8 : Nat) {R : Ending → World → Prop} {w : World} : sh44 o_1 p_2 a_p3 a_n4 a_c5 b_p6 b_n7 b_c8 R w → Calls Tryz.prog 44 #[.int .u8 o_1, .int .u8 p_2, .slice a_p3 a_n4 a_c5, .slice b_p6 b_n7 b_c8] w R :=
  calls_of_eq (ann := fun i => if i = 0 then [(9, .slice none 0 0), (10, .int .i64 0)] else []) (fn := Tryz.f44) (c := bodyOf Tryz.f44) (args := #[.int .u8 o_1, .int .u8 p_2, .slice a_p3 a_n4 a_c5, .slice b_p6 b_n7 b_c8]) 400 follows_mixed Tryz.func44 (by kernel_rfl) (by kernel_rfl)
set_option maxRecDepth 100000 in
/-- joinery/union.Many -/
def sh45 (s_1 : Option Addr) (o_2 : Int) (p_3 : Int) (l_p4 : Option Addr) (l_n5 : Nat) (_l_c6 : Nat) (R : Ending → World → Prop) (w : World) : Prop :=
 doCall Tryz.prog (.func (.func 79) #[] #[]) #[.pointer s_1, .int .u8 o_2, .int .u8 p_3] w (retS (fun v8 w9 => ∃ (x7 : Bool), v8 = (.bool x7 : Value) ∧ (
 ifB (!x7) (
 R (.returned (.tuple #[.pointer none, .int .i64 2])) w9) (
 ∃ (I10 : List Value → World → Prop) (μ11 : List Value → World → Nat), I10 [.pointer none, .int .i64 0] w9 ∧ (∀ (t_14 : Option Addr), ∀ (x15 : Int), ∀ (_j12 : Nat → Value) (w13 : World), I10 [.pointer t_14, .int .i64 x15] w13 → (
 ifB (decide ((x15 : Int) < ((l_n5 : Nat) : Int))) (
 doIx l_p4 l_n5 1 (x15) (fun a16 =>
 ∃ (x17 : Option Addr), World.cell? w13 a16 = some (.pointer x17) ∧ (
 doCall Tryz.prog (.func (.func 80) #[] #[]) #[.pointer s_1, .int .u8 o_2, .func (.func 81) #[.int .u8 p_3] #[], .pointer t_14, .pointer x17] w13 (retS (fun v19 w20 => ∃ (x18 : Option Addr), v19 = (.pointer x18 : Value) ∧ (
 I10 [.pointer x18, .int .i64 (IntKind.wrap .i64 (x15 + 1))] w20 ∧ μ11 [.pointer x18, .int .i64 (IntKind.wrap .i64 (x15 + 1))] w20 < μ11 [.pointer t_14, .int .i64 x15] w13)) (fun ch w => Kfn R ch [] w))))) (
 R (.returned (.tuple #[.pointer t_14, .int .i64 0])) w13)))))) (fun ch w => Kfn R ch [] w))
set_option maxRecDepth 100000 in
theorem sh45_ok (s_1 : Option Addr) (o_2 : Int) (p_3 : Int) (l_p4 : Option Addr) (l_n5 : Nat) (l_c6 : Nat) {R : Ending → World → Prop} {w : World} : sh45 s_1 o_2 p_3 l_p4 l_n5 l_c6 R w → Calls Tryz.prog 45 #[.pointer s_1, .int .u8 o_2, .int .u8 p_3, .slice l_p4 l_n5 l_c6] w R :=
  calls_of_eq (ann := fun i => if i = 0 then [(8, .pointer none), (19, .int .i64 0)] else []) (fn := Tryz.f45) (c := bodyOf Tryz.f45) (args := #[.pointer s_1, .int .u8 o_2, .int .u8 p_3, .slice l_p4 l_n5 l_c6]) 400 follows_mixed Tryz.func45 (by kernel_rfl) (by kernel_rfl)
set_option maxRecDepth 100000 in
/-- joinery/joineryref28.Many -/
def sh46 (o_1 : Int) (p_2 : Int) (l_p3 : Option Addr) (l_n4 : Nat) (_l_c5 : Nat) (R : Ending → World → Prop) (w : World) : Prop :=
 ∃ (I6 : List Value → World → Prop) (μ7 : List Value → World → Nat), I6 [.slice none 0 0, .int .i64 0] w ∧ (∀ (out_p10 : Option Addr), ∀ (out_n11 : Nat), ∀ (out_c12 : Nat), ∀ (i_13 : Int), ∀ (_j8 : Nat → Value) (w9 : World), I6 [.slice out_p10 out_n11 out_c12, .int .i64 i_13] w9 → (
 ifB (decide ((i_13 : Int) < ((l_n4 : Nat) : Int))) (
 doIx l_p3 l_n4 1 (i_13) (fun a14 =>
 ∃ (xp15 : Option Addr), ∃ (xn16 : Nat), ∃ (xc17 : Nat), World.cell? w9 a14 = some (.slice xp15 xn16 xc17) ∧ (
 doCall Tryz.prog (.func (.func 44) #[] #[]) #[.int .u8 o_1, .int .u8 p_2, .slice out_p10 out_n11 out_c12, .slice xp15 xn16 xc17] w9 (retS (fun v21 w22 => ∃ (xp18 : Option Addr), ∃ (xn19 : Nat), ∃ (xc20 : Nat), v21 = (.slice xp18 xn19 xc20 : Value) ∧ (
 I6 [.slice xp18 xn19 xc20, .int .i64 (IntKind.wrap .i64 (i_13 + 1))] w22 ∧ μ7 [.slice xp18 xn19 xc20, .int .i64 (IntKind.wrap .i64 (i_13 + 1))] w22 < μ7 [.slice out_p10 out_n11 out_c12, .int .i64 i_13] w9)) (fun ch w => Kfn R ch [] w))))) (
 R (.returned (.slice out_p10 out_n11 out_c12)) w9)))
set_option maxRecDepth 100000 in
theorem sh46_ok (o_1 : Int) (p_2 : Int) (l_p3 : Option Addr) (l_n4 : Nat) (l_c5 : Nat) {R : Ending → World → Prop} {w : World} : sh46 o_1 p_2 l_p3 l_n4 l_c5 R w → Calls Tryz.prog 46 #[.int .u8 o_1, .int .u8 p_2, .slice l_p3 l_n4 l_c5] w R :=
  calls_of_eq (ann := fun i => if i = 0 then [(7, .slice none 0 0), (8, .int .i64 0)] else []) (fn := Tryz.f46) (c := bodyOf Tryz.f46) (args := #[.int .u8 o_1, .int .u8 p_2, .slice l_p3 l_n4 l_c5]) 400 follows_mixed Tryz.func46 (by kernel_rfl) (by kernel_rfl)
set_option maxRecDepth 100000 in
/-- joinery/scheme.Of -/
def sh47 (code_1 : Int) (R : Ending → World → Prop) (w : World) : Prop :=
 doCall Tryz.prog (.func (.func 82) #[] #[]) #[.int .u8 code_1] w (retS (fun v3 w4 => ∃ (x2 : Value), v3 = (x2 : Value) ∧ (
 doEqN Tryz.prog .eql 126 (.tmp 5) (.const (.nilIface)) (x2) (fun b5 =>
 ifB b5 (
 R (.returned (.tuple #[.pointer none, .int .i64 2])) w4) (
 doAl (.cells #[.int .u8 code_1, .int .u32 0, .int .i32 0, .int .u32 0, .string (⟨#[]⟩ : ByteArray), .nilFunc, .nilFunc, .nilFunc, .nilFunc, .nilFunc, .nilFunc, .bool false, .int .u64 0] 144) w4 (fun b6 w7 =>
 R (.returned (.tuple #[.pointer (some (blk b6)), .int .i64 0])) w7))))) (fun ch w => Kfn R ch [] w))
set_option maxRecDepth 100000 in
theorem sh47_ok (code_1 : Int) {R : Ending → World → Prop} {w : World} : sh47 code_1 R w → Calls Tryz.prog 47 #[.int .u8 code_1] w R :=
  calls_of_eq (ann := fun _ => []) (fn := Tryz.f47) (c := bodyOf Tryz.f47) (args := #[.int .u8 code_1]) 400 follows_mixed Tryz.func47 (by kernel_rfl) (by kernel_rfl)
set_option maxRecDepth 100000 in
/-- joinery/joinerylaw09.Long -/
def sh48 (l_p1 : Option Addr) (l_n2 : Nat) (l_c3 : Nat) (R : Ending → World → Prop) (w : World) : Prop :=
 let K6 : Bool → World → Prop := fun (x4 : Bool) (w5 : World) => 
 R (.returned (.bool x4)) w5
 ifB (decide ((((l_n2 : Nat) : Int) : Int) > 400)) (
 R (.returned (.bool true)) w) (
 doCall Tryz.prog (.func (.func 83) #[] #[]) #[.slice l_p1 l_n2 l_c3] w (retS (fun v8 w9 => ∃ (x7 : Bool), v8 = (.bool x7 : Value) ∧ (
 K6 (!x7) w9)) (fun ch w => Kfn R ch [] w)))
set_option maxRecDepth 100000 in
theorem sh48_ok (l_p1 : Option Addr) (l_n2 : Nat) (l_c3 : Nat) {R : Ending → World → Prop} {w : World} : sh48 l_p1 l_n2 l_c3 R w → Calls Tryz.prog 48 #[.slice l_p1 l_n2 l_c3] w R :=
  calls_of_eq (ann := fun _ => []) (fn := Tryz.f48) (c := bodyOf Tryz.f48) (args := #[.slice l_p1 l_n2 l_c3]) 400 follows_mixed Tryz.func48 (by kernel_rfl) (by kernel_rfl)
set_option maxRecDepth 100000 in
/-- joinery/joineryref24.Stands -/
def sh49 (code_1 : Int) (o_2 : Int) (l_p3 : Option Addr) (l_n4 : Nat) (l_c5 : Nat) (R : Ending → World → Prop) (w : World) : Prop :=
 let K8 : Bool → World → Prop := fun (x6 : Bool) (w7 : World) => 
 R (.returned (.bool x6)) w7
 doCall Tryz.prog (.func (.func 12) #[] #[]) #[.int .u8 code_1] w (retS (fun v10 w11 => ∃ (x9 : Bool), v10 = (.bool x9 : Value) ∧ (
 ifB x9 (
 doCall Tryz.prog (.func (.func 50) #[] #[]) #[.int .u8 o_2] w11 (retS (fun v13 w14 => ∃ (x12 : Bool), v13 = (.bool x12 : Value) ∧ (
 ifB x12 (
 doCall Tryz.prog (.func (.func 84) #[] #[]) #[.int .u8 code_1, .slice l_p3 l_n4 l_c5] w14 (retS (fun v16 w17 => ∃ (x15 : Bool), v16 = (.bool x15 : Value) ∧ (
 ifB x15 (
 doCall Tryz.prog (.func (.func 85) #[] #[]) #[.int .u8 o_2, .slice l_p3 l_n4 l_c5] w17 (retS (fun v19 w20 => ∃ (x18 : Bool), v19 = (.bool x18 : Value) ∧ (
 K8 x18 w20)) (fun ch w => Kfn R ch [] w))) (
 R (.returned (.bool false)) w17))) (fun ch w => Kfn R ch [] w))) (
 R (.returned (.bool false)) w14))) (fun ch w => Kfn R ch [] w))) (
 R (.returned (.bool false)) w11))) (fun ch w => Kfn R ch [] w))
set_option maxRecDepth 100000 in
theorem sh49_ok (code_1 : Int) (o_2 : Int) (l_p3 : Option Addr) (l_n4 : Nat) (l_c5 : Nat) {R : Ending → World → Prop} {w : World} : sh49 code_1 o_2 l_p3 l_n4 l_c5 R w → Calls Tryz.prog 49 #[.int .u8 code_1, .int .u8 o_2, .slice l_p3 l_n4 l_c5] w R :=
  calls_of_eq (ann := fun _ => []) (fn := Tryz.f49) (c := bodyOf Tryz.f49) (args := #[.int .u8 code_1, .int .u8 o_2, .slice l_p3 l_n4 l_c5]) 400 follows_mixed Tryz.func49 (by kernel_rfl) (by kernel_rfl)
set_option maxRecDepth 100000 in
/-- joinery/joineryref02.May -/
def sh50 (o_1 : Int) (R : Ending → World → Prop) (w : World) : Prop :=
 doCall Tryz.prog (.func (.func 70) #[] #[]) #[.int .u8 o_1] w (retS (fun v3 w4 => ∃ (x2 : Bool), v3 = (.bool x2 : Value) ∧ (
 R (.returned (.bool x2)) w4)) (fun ch w => Kfn R ch [] w))
set_option maxRecDepth 100000 in
theorem sh50_ok (o_1 : Int) {R : Ending → World → Prop} {w : World} : sh50 o_1 R w → Calls Tryz.prog 50 #[.int .u8 o_1] w R :=
  calls_of_eq (ann := fun _ => []) (fn := Tryz.f50) (c := bodyOf Tryz.f50) (args := #[.int .u8 o_1]) 400 follows_mixed Tryz.func50 (by kernel_rfl) (by kernel_rfl)
set_option maxRecDepth 100000 in
/-- (*joinery/scheme.Scheme).Join -/
def sh51 (s_1 : Option Addr) (l_2 : Option Addr) (x_3 : Int) (x_4 : Int) (x_5 : Int) (r_6 : Option Addr) (R : Ending → World → Prop) (w : World) : Prop :=
 doAl (.cells #[.int .i64 x_3, .int .i64 x_4, .int .u64 x_5] 33) w (fun b7 w8 =>
 ifB ((s_1).isNone) (
 R (.returned (.pointer none)) w8) (
 ∃ (q9 : Addr), s_1 = some q9 ∧ (
 doCall Tryz.prog (.func (.func 86) #[] #[]) #[.pointer (some (q9.add 12)), .int .u64 1] w8 (retS (fun v11 w12 => ∃ (x10 : Int), v11 = (.int .u64 x10 : Value) ∧ (
 doDr w12 (fun w14 =>
 ∃ (C13 : World → Prop), C13 w14 ∧ (
 ∃ (x15 : Int), (∀ w, C13 w → World.cell? w ((blk b7).add 0) = some (.int .i64 x15)) ∧ (
 ∃ (x16 : Int), (∀ w, C13 w → World.cell? w ((blk b7).add 1) = some (.int .i64 x16)) ∧ (
 ∃ (x17 : Int), (∀ w, C13 w → World.cell? w ((blk b7).add 2) = some (.int .u64 x17)) ∧ (
 doCall Tryz.prog (.func (.func 62) #[] #[]) #[.pointer s_1] w14 (retS (fun v38 w39 => ∃ (x18 : ByteArray), ∃ (xf19 : Fn), ∃ (xx20 : Array Value), ∃ (xc21 : Array Value), ∃ (xf22 : Fn), ∃ (xx23 : Array Value), ∃ (xc24 : Array Value), ∃ (xf25 : Fn), ∃ (xx26 : Array Value), ∃ (xc27 : Array Value), ∃ (xf28 : Fn), ∃ (xx29 : Array Value), ∃ (xc30 : Array Value), ∃ (xf31 : Fn), ∃ (xx32 : Array Value), ∃ (xc33 : Array Value), ∃ (xf34 : Fn), ∃ (xx35 : Array Value), ∃ (xc36 : Array Value), ∃ (x37 : Bool), v38 = (.agg #[.string x18, .func xf19 xx20 xc21, .func xf22 xx23 xc24, .func xf25 xx26 xc27, .func xf28 xx29 xc30, .func xf31 xx32 xc33, .func xf34 xx35 xc36, .bool x37] : Value) ∧ (
 C13 w39 ∧ (
 doCall Tryz.prog (.func xf19 xx20 xc21) #[.pointer l_2, .agg #[.int .i64 x15, .int .i64 x16, .int .u64 x17], .pointer r_6] w39 (retS (fun v41 w42 => ∃ (x40 : Option Addr), v41 = (.pointer x40 : Value) ∧ (
 R (.returned (.pointer x40)) w42)) (fun ch w => Kfn R ch [] w))))) (fun ch w => Kfn R ch [] w))))))))) (fun ch w => Kfn R ch [] w)))))
set_option maxRecDepth 100000 in
theorem sh51_ok (s_1 : Option Addr) (l_2 : Option Addr) (x_3 : Int) (x_4 : Int) (x_5 : Int) (r_6 : Option Addr) {R : Ending → World → Prop} {w : World} : sh51 s_1 l_2 x_3 x_4 x_5 r_6 R w → Calls Tryz.prog 51 #[.pointer s_1, .pointer l_2, .agg #[.int .i64 x_3, .int .i64 x_4, .int .u64 x_5], .pointer r_6] w R :=
  calls_of_eq (ann := fun _ => []) (fn := Tryz.f51) (c := bodyOf Tryz.f51) (args := #[.pointer s_1, .pointer l_2, .agg #[.int .i64 x_3, .int .i64 x_4, .int .u64 x_5], .pointer r_6]) 400 follows_mixed Tryz.func51 (by kernel_rfl) (by kernel_rfl)
end Go.Proofs.YthgckfeocalbdaaGreat

namespace Go.Proofs.YthgckfeocalbdaaGreat
open Go Go.Sh
set_option maxRecDepth 100000 in
/-- joinery/joineryref09.Parts -/
def sh52 (l_p1 : Option Addr) (l_n2 : Nat) (l_c3 : Nat) (R : Ending → World → Prop) (w : World) : Prop :=
 doAl (.cells #[.int .i64 0, .int .i64 0, .int .i64 0, .int .i64 0, .int .u64 0, .bool false, .bool false] 84) w (fun b4 w5 =>
 let K8 : Int → World → Prop := fun (n_6 : Int) (w7 : World) => 
 doDr w7 (fun w10 =>
 ∃ (C9 : World → Prop), C9 w10 ∧ (
 doIx l_p1 l_n2 7 (0) (fun a11 =>
 ∃ (x12 : Int), (∀ w, C9 w → World.cell? w (a11.add 0) = some (.int .i64 x12)) ∧ (
 ∃ (x13 : Int), (∀ w, C9 w → World.cell? w (a11.add 1) = some (.int .i64 x13)) ∧ (
 ∃ (x14 : Int), (∀ w, C9 w → World.cell? w (a11.add 2) = some (.int .i64 x14)) ∧ (
 ∃ (x15 : Int), (∀ w, C9 w → World.cell? w (a11.add 3) = some (.int .i64 x15)) ∧ (
 ∃ (x16 : Int), (∀ w, C9 w → World.cell? w (a11.add 4) = some (.int .u64 x16)) ∧ (
 ∃ (x17 : Bool), (∀ w, C9 w → World.cell? w (a11.add 5) = some (.bool x17)) ∧ (
 ∃ (x18 : Bool), (∀ w, C9 w → World.cell? w (a11.add 6) = some (.bool x18)) ∧ (
 doSl l_p1 l_c3 7 (1) (IntKind.wrap .i64 (1 + n_6)) (fun p19 n20 c21 =>
 doSl l_p1 l_c3 7 (IntKind.wrap .i64 (1 + n_6)) (((l_n2 : Nat) : Int)) (fun p22 n23 c24 =>
 doSt ((blk b4).add 0) (.int .i64 x12) w10 (fun w25 =>
 doSt ((blk b4).add 1) (.int .i64 x13) w25 (fun w26 =>
 doSt ((blk b4).add 2) (.int .i64 x14) w26 (fun w27 =>
 doSt ((blk b4).add 3) (.int .i64 x15) w27 (fun w28 =>
 doSt ((blk b4).add 4) (.int .u64 x16) w28 (fun w29 =>
 doSt ((blk b4).add 5) (.bool x17) w29 (fun w30 =>
 doSt ((blk b4).add 6) (.bool x18) w30 (fun w31 =>
 ∃ (x32 : Int), World.cell? w31 ((blk b4).add 0) = some (.int .i64 x32) ∧ (
 ∃ (x33 : Int), World.cell? w31 ((blk b4).add 1) = some (.int .i64 x33) ∧ (
 ∃ (x34 : Int), World.cell? w31 ((blk b4).add 2) = some (.int .i64 x34) ∧ (
 ∃ (x35 : Int), World.cell? w31 ((blk b4).add 3) = some (.int .i64 x35) ∧ (
 ∃ (x36 : Int), World.cell? w31 ((blk b4).add 4) = some (.int .u64 x36) ∧ (
 ∃ (x37 : Bool), World.cell? w31 ((blk b4).add 5) = some (.bool x37) ∧ (
 ∃ (x38 : Bool), World.cell? w31 ((blk b4).add 6) = some (.bool x38) ∧ (
 R (.returned (.tuple #[.agg #[.int .i64 x32, .int .i64 x33, .int .i64 x34, .int .i64 x35, .int .u64 x36, .bool x37, .bool x38], .slice p19 n20 c21, .slice p22 n23 c24])) w31))))))))))))))))))))))))))
 doIx l_p1 l_n2 7 (0) (fun a39 =>
 ∃ (x40 : Bool), World.cell? w5 (a39.add 5) = some (.bool x40) ∧ (
 ifB x40 (
 doCall Tryz.prog (.func (.func 87) #[] #[]) #[.slice l_p1 l_n2 l_c3, .int .i64 1, .int .i64 0] w5 (retS (fun v42 w43 => ∃ (x41 : Int), v42 = (.int .i64 x41 : Value) ∧ (
 K8 x41 w43)) (fun ch w => Kfn R ch [] w))) (
 K8 0 w5))))
set_option maxRecDepth 100000 in
theorem sh52_ok (l_p1 : Option Addr) (l_n2 : Nat) (l_c3 : Nat) {R : Ending → World → Prop} {w : World} : sh52 l_p1 l_n2 l_c3 R w → Calls Tryz.prog 52 #[.slice l_p1 l_n2 l_c3] w R :=
  calls_of_eq (ann := fun _ => []) (fn := Tryz.f52) (c := bodyOf Tryz.f52) (args := #[.slice l_p1 l_n2 l_c3]) 400 follows_mixed Tryz.func52 (by kernel_rfl) (by kernel_rfl)
set_option maxRecDepth 100000 in
/-- joinery/split.where -/
def sh53 (o_1 : Int) (key_2 : Int) (R : Ending → World → Prop) (w : World) : Prop :=
 doAl (.cells #[.int .u8 o_1] 5) w (fun b3 w4 =>
 ∃ (x5 : Int), World.cell? w4 (blk b3) = some (.int .u8 x5) ∧ (
 doCall Tryz.prog (.func (.func 88) #[] #[]) #[.int .u8 x5, .int .i64 key_2] w4 (retS (fun v8 w9 => ∃ (x6 : Int), ∃ (x7 : Int), v8 = (.tuple #[.int .u64 x6, .int .i64 x7] : Value) ∧ (
 doAl (.cells #[.int .u64 0] 31) w9 (fun b10 w11 =>
 doSt ((blk b10).add 0) (.int .u64 x6) w11 (fun w12 =>
 ifB ((x7 : Int) != 0) (
 R (.returned (.tuple #[.nilFunc, .int .i64 2])) w12) (
 R (.returned (.tuple #[.func (.func 89) #[] #[.pointer (some (blk b3)), .pointer (some (blk b10))], .int .i64 0])) w12))))) (fun ch w => Kfn R ch [] w))))
set_option maxRecDepth 100000 in
theorem sh53_ok (o_1 : Int) (key_2 : Int) {R : Ending → World → Prop} {w : World} : sh53 o_1 key_2 R w → Calls Tryz.prog 53 #[.int .u8 o_1, .int .i64 key_2] w R :=
  calls_of_eq (ann := fun _ => []) (fn := Tryz.f53) (c := bodyOf Tryz.f53) (args := #[.int .u8 o_1, .int .i64 key_2]) 400 follows_mixed Tryz.func53 (by kernel_rfl) (by kernel_rfl)
set_option maxRecDepth 100000 in
/-- joinery/joineryref02.Compare -/
def sh55 (o_1 : Int) (a_2 : Int) (b_3 : Int) (R : Ending → World → Prop) (w : World) : Prop :=
 let K6 : Bool → World → Prop := fun (x4 : Bool) (w5 : World) => 
 ifB x4 (
 R (.returned (.int .i64 0)) w5) (
 doCall Tryz.prog (.func (.func 93) #[] #[]) #[.int .u8 o_1, .int .i64 a_2] w5 (retS (fun v8 w9 => ∃ (x7 : Int), v8 = (.int .u64 x7 : Value) ∧ (
 doCall Tryz.prog (.func (.func 93) #[] #[]) #[.int .u8 o_1, .int .i64 b_3] w9 (retS (fun v11 w12 => ∃ (x10 : Int), v11 = (.int .u64 x10 : Value) ∧ (
 ifB (decide ((x7 : Int) < x10)) (
 R (.returned (.int .i64 (-1))) w12) (
 R (.returned (.int .i64 1)) w12))) (fun ch w => Kfn R ch [] w)))) (fun ch w => Kfn R ch [] w)))
 doCall Tryz.prog (.func (.func 70) #[] #[]) #[.int .u8 o_1] w (retS (fun v14 w15 => ∃ (x13 : Bool), v14 = (.bool x13 : Value) ∧ (
 ifB (!x13) (
 R (.returned (.int .i64 0)) w15) (
 doCall Tryz.prog (.func (.func 93) #[] #[]) #[.int .u8 o_1, .int .i64 a_2] w15 (retS (fun v17 w18 => ∃ (x16 : Int), v17 = (.int .u64 x16 : Value) ∧ (
 doCall Tryz.prog (.func (.func 93) #[] #[]) #[.int .u8 o_1, .int .i64 b_3] w18 (retS (fun v20 w21 => ∃ (x19 : Int), v20 = (.int .u64 x19 : Value) ∧ (
 K6 ((x16 : Int) == x19) w21)) (fun ch w => Kfn R ch [] w)))) (fun ch w => Kfn R ch [] w))))) (fun ch w => Kfn R ch [] w))
set_option maxRecDepth 100000 in
theorem sh55_ok (o_1 : Int) (a_2 : Int) (b_3 : Int) {R : Ending → World → Prop} {w : World} : sh55 o_1 a_2 b_3 R w → Calls Tryz.prog 55 #[.int .u8 o_1, .int .i64 a_2, .int .i64 b_3] w R :=
  calls_of_eq (ann := fun _ => []) (fn := Tryz.f55) (c := bodyOf Tryz.f55) (args := #[.int .u8 o_1, .int .i64 a_2, .int .i64 b_3]) 400 follows_mixed Tryz.func55 (by kernel_rfl) (by kernel_rfl)
set_option maxRecDepth 100000 in
/-- joinery/joineryref20.Items -/
def sh56 (l_p1 : Option Addr) (l_n2 : Nat) (l_c3 : Nat) (R : Ending → World → Prop) (w : World) : Prop :=
 ifB ((((l_n2 : Nat) : Int) : Int) == 0) (
 R (.returned (.slice none 0 0)) w) (
 doCall Tryz.prog (.func (.func 52) #[] #[]) #[.slice l_p1 l_n2 l_c3] w (retS (fun v17 w18 => ∃ (x4 : Int), ∃ (x5 : Int), ∃ (x6 : Int), ∃ (x7 : Int), ∃ (x8 : Int), ∃ (x9 : Bool), ∃ (x10 : Bool), ∃ (xp11 : Option Addr), ∃ (xn12 : Nat), ∃ (xc13 : Nat), ∃ (xp14 : Option Addr), ∃ (xn15 : Nat), ∃ (xc16 : Nat), v17 = (.tuple #[.agg #[.int .i64 x4, .int .i64 x5, .int .i64 x6, .int .i64 x7, .int .u64 x8, .bool x9, .bool x10], .slice xp11 xn12 xc13, .slice xp14 xn15 xc16] : Value) ∧ (
 doAl (.cells #[.int .i64 0, .int .i64 0, .int .i64 0, .int .i64 0, .int .u64 0, .bool false, .bool false] 84) w18 (fun b19 w20 =>
 doSt ((blk b19).add 0) (.int .i64 x4) w20 (fun w21 =>
 doSt ((blk b19).add 1) (.int .i64 x5) w21 (fun w22 =>
 doSt ((blk b19).add 2) (.int .i64 x6) w22 (fun w23 =>
 doSt ((blk b19).add 3) (.int .i64 x7) w23 (fun w24 =>
 doSt ((blk b19).add 4) (.int .u64 x8) w24 (fun w25 =>
 doSt ((blk b19).add 5) (.bool x9) w25 (fun w26 =>
 doSt ((blk b19).add 6) (.bool x10) w26 (fun w27 =>
 doDr w27 (fun w29 =>
 ∃ (C28 : World → Prop), C28 w29 ∧ (
 ∃ (x30 : Int), (∀ w, C28 w → World.cell? w ((blk b19).add 0) = some (.int .i64 x30)) ∧ (
 ∃ (x31 : Int), (∀ w, C28 w → World.cell? w ((blk b19).add 1) = some (.int .i64 x31)) ∧ (
 ∃ (x32 : Int), (∀ w, C28 w → World.cell? w ((blk b19).add 2) = some (.int .i64 x32)) ∧ (
 ∃ (x33 : Int), (∀ w, C28 w → World.cell? w ((blk b19).add 3) = some (.int .i64 x33)) ∧ (
 ∃ (x34 : Int), (∀ w, C28 w → World.cell? w ((blk b19).add 4) = some (.int .u64 x34)) ∧ (
 ∃ (x35 : Bool), (∀ w, C28 w → World.cell? w ((blk b19).add 5) = some (.bool x35)) ∧ (
 ∃ (x36 : Bool), (∀ w, C28 w → World.cell? w ((blk b19).add 6) = some (.bool x36)) ∧ (
 doCall Tryz.prog (.func (.func 56) #[] #[]) #[.slice xp11 xn12 xc13] w29 (retS (fun v40 w41 => ∃ (xp37 : Option Addr), ∃ (xn38 : Nat), ∃ (xc39 : Nat), v40 = (.slice xp37 xn38 xc39 : Value) ∧ (
 C28 w41 ∧ (
 doCall Tryz.prog (.func (.func 94) #[] #[]) #[.agg #[.int .i64 x30, .int .i64 x31, .int .i64 x32, .int .i64 x33, .int .u64 x34, .bool x35, .bool x36]] w41 (retS (fun v45 w46 => ∃ (x42 : Int), ∃ (x43 : Int), ∃ (x44 : Int), v45 = (.agg #[.int .i64 x42, .int .i64 x43, .int .u64 x44] : Value) ∧ (
 doAl (.cells #[.int .i64 x42, .int .i64 x43, .int .u64 x44] 33) w46 (fun b47 w48 =>
 C28 w48 ∧ (
 doGo Tryz.prog (.builtin .append #[37, 37] 37 #[false, false]) #[.slice xp37 xn38 xc39, .slice (some (blk b47)) 1 1] w48 (retS (fun v52 w53 => ∃ (xp49 : Option Addr), ∃ (xn50 : Nat), ∃ (xc51 : Nat), v52 = (.slice xp49 xn50 xc51 : Value) ∧ (
 C28 w53 ∧ (
 doCall Tryz.prog (.func (.func 56) #[] #[]) #[.slice xp14 xn15 xc16] w53 (retS (fun v57 w58 => ∃ (xp54 : Option Addr), ∃ (xn55 : Nat), ∃ (xc56 : Nat), v57 = (.slice xp54 xn55 xc56 : Value) ∧ (
 doGo Tryz.prog (.builtin .append #[37, 37] 37 #[false, false]) #[.slice xp49 xn50 xc51, .slice xp54 xn55 xc56] w58 (retS (fun v62 w63 => ∃ (xp59 : Option Addr), ∃ (xn60 : Nat), ∃ (xc61 : Nat), v62 = (.slice xp59 xn60 xc61 : Value) ∧ (
 R (.returned (.slice xp59 xn60 xc61)) w63)) (fun ch w => Kfn R ch [] w)))) (fun ch w => Kfn R ch [] w))))) (fun ch w => Kfn R ch [] w)))))) (fun ch w => Kfn R ch [] w))))) (fun ch w => Kfn R ch [] w))))))))))))))))))))) (fun ch w => Kfn R ch [] w)))
set_option maxRecDepth 100000 in
theorem sh56_ok (l_p1 : Option Addr) (l_n2 : Nat) (l_c3 : Nat) {R : Ending → World → Prop} {w : World} : sh56 l_p1 l_n2 l_c3 R w → Calls Tryz.prog 56 #[.slice l_p1 l_n2 l_c3] w R :=
  calls_of_eq (ann := fun _ => []) (fn := Tryz.f56) (c := bodyOf Tryz.f56) (args := #[.slice l_p1 l_n2 l_c3]) 400 follows_mixed Tryz.func56 (by kernel_rfl) (by kernel_rfl)
set_option maxRecDepth 100000 in
/-- joinery/joinerylaw09.See -/
def sh57 (t_1 : Option Addr) (R : Ending → World → Prop) (w : World) : Prop :=
 doCall Tryz.prog (.func (.func 95) #[] #[]) #[.pointer t_1, .slice none 0 0, .int .i64 0] w (retS (fun v6 w7 => ∃ (xp2 : Option Addr), ∃ (xn3 : Nat), ∃ (xc4 : Nat), ∃ (x5 : Bool), v6 = (.tuple #[.slice xp2 xn3 xc4, .bool x5] : Value) ∧ (
 R (.returned (.tuple #[.slice xp2 xn3 xc4, .bool x5])) w7)) (fun ch w => Kfn R ch [] w))
set_option maxRecDepth 100000 in
theorem sh57_ok (t_1 : Option Addr) {R : Ending → World → Prop} {w : World} : sh57 t_1 R w → Calls Tryz.prog 57 #[.pointer t_1] w R :=
  calls_of_eq (ann := fun _ => []) (fn := Tryz.f57) (c := bodyOf Tryz.f57) (args := #[.pointer t_1]) 400 follows_mixed Tryz.func57 (by kernel_rfl) (by kernel_rfl)
set_option maxRecDepth 100000 in
/-- joinery/joineryref22.Has -/
def sh58 (code_1 : Int) (t_p2 : Option Addr) (t_n3 : Nat) (t_c4 : Nat) (l_p5 : Option Addr) (l_n6 : Nat) (_l_c7 : Nat) (R : Ending → World → Prop) (w : World) : Prop :=
 let K10 : Bool → World → Prop := fun (x8 : Bool) (w9 : World) => 
 ifB x8 (
 R (.returned (.bool false)) w9) (
 doCall Tryz.prog (.func (.func 18) #[] #[]) #[.int .u8 code_1, .slice t_p2 t_n3 t_c4] w9 (retS (fun v14 w15 => ∃ (xp11 : Option Addr), ∃ (xn12 : Nat), ∃ (xc13 : Nat), v14 = (.slice xp11 xn12 xc13 : Value) ∧ (
 ifB ((((xn12 : Nat) : Int) : Int) != ((l_n6 : Nat) : Int)) (
 R (.returned (.bool false)) w15) (
 ∃ (I16 : List Value → World → Prop) (μ17 : List Value → World → Nat), I16 [.int .i64 0] w15 ∧ (∀ (i_20 : Int), ∀ (_j18 : Nat → Value) (w19 : World), I16 [.int .i64 i_20] w19 → (
 ifB (decide ((i_20 : Int) < ((l_n6 : Nat) : Int))) (
 let K22 : World → Prop := fun (w21 : World) => 
 I16 [.int .i64 (IntKind.wrap .i64 (i_20 + 1))] w21 ∧ μ17 [.int .i64 (IntKind.wrap .i64 (i_20 + 1))] w21 < μ17 [.int .i64 i_20] w19
 let K25 : Bool → World → Prop := fun (x23 : Bool) (w24 : World) => 
 ifB x23 (
 R (.returned (.bool false)) w24) (
 K22 w24)
 doDr w19 (fun w27 =>
 ∃ (C26 : World → Prop), C26 w27 ∧ (
 doIx xp11 xn12 3 (i_20) (fun a28 =>
 ∃ (x29 : Int), (∀ w, C26 w → World.cell? w (a28.add 0) = some (.int .i64 x29)) ∧ (
 doIx l_p5 l_n6 3 (i_20) (fun a30 =>
 ∃ (x31 : Int), (∀ w, C26 w → World.cell? w (a30.add 0) = some (.int .i64 x31)) ∧ (
 ifB ((x29 : Int) != x31) (
 R (.returned (.bool false)) w27) (
 doIx xp11 xn12 3 (i_20) (fun a32 =>
 ∃ (x33 : Int), (∀ w, C26 w → World.cell? w (a32.add 1) = some (.int .i64 x33)) ∧ (
 doIx l_p5 l_n6 3 (i_20) (fun a34 =>
 ∃ (x35 : Int), (∀ w, C26 w → World.cell? w (a34.add 1) = some (.int .i64 x35)) ∧ (
 ifB ((x33 : Int) != x35) (
 R (.returned (.bool false)) w27) (
 ifB ((code_1 : Int) == 4) (
 doIx xp11 xn12 3 (i_20) (fun a36 =>
 ∃ (x37 : Int), (∀ w, C26 w → World.cell? w (a36.add 2) = some (.int .u64 x37)) ∧ (
 doIx l_p5 l_n6 3 (i_20) (fun a38 =>
 ∃ (x39 : Int), (∀ w, C26 w → World.cell? w (a38.add 2) = some (.int .u64 x39)) ∧ (
 K25 ((x37 : Int) != x39) w27))))) (
 K22 w27)))))))))))))) (
 R (.returned (.bool true)) w19)))))) (fun ch w => Kfn R ch [] w)))
 doCall Tryz.prog (.func (.func 84) #[] #[]) #[.int .u8 code_1, .slice t_p2 t_n3 t_c4] w (retS (fun v41 w42 => ∃ (x40 : Bool), v41 = (.bool x40 : Value) ∧ (
 ifB (!x40) (
 R (.returned (.bool false)) w42) (
 doCall Tryz.prog (.func (.func 21) #[] #[]) #[.slice t_p2 t_n3 t_c4] w42 (retS (fun v46 w47 => ∃ (xp43 : Option Addr), ∃ (xn44 : Nat), ∃ (xc45 : Nat), v46 = (.slice xp43 xn44 xc45 : Value) ∧ (
 doCall Tryz.prog (.func (.func 59) #[] #[]) #[.slice t_p2 t_n3 t_c4, .slice xp43 xn44 xc45] w47 (retS (fun v49 w50 => ∃ (x48 : Bool), v49 = (.bool x48 : Value) ∧ (
 K10 (!x48) w50)) (fun ch w => Kfn R ch [] w)))) (fun ch w => Kfn R ch [] w))))) (fun ch w => Kfn R ch [] w))
set_option maxRecDepth 100000 in
theorem sh58_ok (code_1 : Int) (t_p2 : Option Addr) (t_n3 : Nat) (t_c4 : Nat) (l_p5 : Option Addr) (l_n6 : Nat) (l_c7 : Nat) {R : Ending → World → Prop} {w : World} : sh58 code_1 t_p2 t_n3 t_c4 l_p5 l_n6 l_c7 R w → Calls Tryz.prog 58 #[.int .u8 code_1, .slice t_p2 t_n3 t_c4, .slice l_p5 l_n6 l_c7] w R :=
  calls_of_eq (ann := fun i => if i = 0 then [(8, .int .i64 0)] else []) (fn := Tryz.f58) (c := bodyOf Tryz.f58) (args := #[.int .u8 code_1, .slice t_p2 t_n3 t_c4, .slice l_p5 l_n6 l_c7]) 400 follows_mixed Tryz.func58 (by kernel_rfl) (by kernel_rfl)
set_option maxRecDepth 100000 in
/-- joinery/joineryref09.Same -/
def sh59 (a_p1 : Option Addr) (a_n2 : Nat) (_a_c3 : Nat) (b_p4 : Option Addr) (b_n5 : Nat) (_b_c6 : Nat) (R : Ending → World → Prop) (w : World) : Prop :=
 ifB ((((a_n2 : Nat) : Int) : Int) != ((b_n5 : Nat) : Int)) (
 R (.returned (.bool false)) w) (
 ∃ (I7 : List Value → World → Prop) (μ8 : List Value → World → Nat), I7 [.int .i64 0] w ∧ (∀ (i_11 : Int), ∀ (_j9 : Nat → Value) (w10 : World), I7 [.int .i64 i_11] w10 → (
 ifB (decide ((i_11 : Int) < ((a_n2 : Nat) : Int))) (
 doDr w10 (fun w13 =>
 ∃ (C12 : World → Prop), C12 w13 ∧ (
 doIx a_p1 a_n2 7 (i_11) (fun a14 =>
 ∃ (x15 : Int), (∀ w, C12 w → World.cell? w (a14.add 0) = some (.int .i64 x15)) ∧ (
 ∃ (x16 : Int), (∀ w, C12 w → World.cell? w (a14.add 1) = some (.int .i64 x16)) ∧ (
 ∃ (x17 : Int), (∀ w, C12 w → World.cell? w (a14.add 2) = some (.int .i64 x17)) ∧ (
 ∃ (x18 : Int), (∀ w, C12 w → World.cell? w (a14.add 3) = some (.int .i64 x18)) ∧ (
 ∃ (x19 : Int), (∀ w, C12 w → World.cell? w (a14.add 4) = some (.int .u64 x19)) ∧ (
 ∃ (x20 : Bool), (∀ w, C12 w → World.cell? w (a14.add 5) = some (.bool x20)) ∧ (
 ∃ (x21 : Bool), (∀ w, C12 w → World.cell? w (a14.add 6) = some (.bool x21)) ∧ (
 doIx b_p4 b_n5 7 (i_11) (fun a22 =>
 ∃ (x23 : Int), (∀ w, C12 w → World.cell? w (a22.add 0) = some (.int .i64 x23)) ∧ (
 ∃ (x24 : Int), (∀ w, C12 w → World.cell? w (a22.add 1) = some (.int .i64 x24)) ∧ (
 ∃ (x25 : Int), (∀ w, C12 w → World.cell? w (a22.add 2) = some (.int .i64 x25)) ∧ (
 ∃ (x26 : Int), (∀ w, C12 w → World.cell? w (a22.add 3) = some (.int .i64 x26)) ∧ (
 ∃ (x27 : Int), (∀ w, C12 w → World.cell? w (a22.add 4) = some (.int .u64 x27)) ∧ (
 ∃ (x28 : Bool), (∀ w, C12 w → World.cell? w (a22.add 5) = some (.bool x28)) ∧ (
 ∃ (x29 : Bool), (∀ w, C12 w → World.cell? w (a22.add 6) = some (.bool x29)) ∧ (
 ifB (!(((x15 : Int) == x23) && (((x16 : Int) == x24) && (((x17 : Int) == x25) && (((x18 : Int) == x26) && (((x19 : Int) == x27) && ((x20 == x28) && ((x21 == x29) && true)))))))) (
 R (.returned (.bool false)) w13) (
 I7 [.int .i64 (IntKind.wrap .i64 (i_11 + 1))] w13 ∧ μ8 [.int .i64 (IntKind.wrap .i64 (i_11 + 1))] w13 < μ8 [.int .i64 i_11] w10)))))))))))))))))))) (
 R (.returned (.bool true)) w10))))
set_option maxRecDepth 100000 in
theorem sh59_ok (a_p1 : Option Addr) (a_n2 : Nat) (a_c3 : Nat) (b_p4 : Option Addr) (b_n5 : Nat) (b_c6 : Nat) {R : Ending → World → Prop} {w : World} : sh59 a_p1 a_n2 a_c3 b_p4 b_n5 b_c6 R w → Calls Tryz.prog 59 #[.slice a_p1 a_n2 a_c3, .slice b_p4 b_n5 b_c6] w R :=
  calls_of_eq (ann := fun i => if i = 0 then [(5, .int .i64 0)] else []) (fn := Tryz.f59) (c := bodyOf Tryz.f59) (args := #[.slice a_p1 a_n2 a_c3, .slice b_p4 b_n5 b_c6]) 400 follows_mixed Tryz.func59 (by kernel_rfl) (by kernel_rfl)
set_option maxRecDepth 100000 in
/-- joinery/joineryref09.Sum -/
def sh60 (l_p1 : Option Addr) (l_n2 : Nat) (_l_c3 : Nat) (R : Ending → World → Prop) (w : World) : Prop :=
 ∃ (I4 : List Value → World → Prop) (μ5 : List Value → World → Nat), I4 [.int .i64 0, .int .i64 0] w ∧ (∀ (n_8 : Int), ∀ (i_9 : Int), ∀ (_j6 : Nat → Value) (w7 : World), I4 [.int .i64 n_8, .int .i64 i_9] w7 → (
 ifB (decide ((i_9 : Int) < ((l_n2 : Nat) : Int))) (
 doIx l_p1 l_n2 7 (i_9) (fun a10 =>
 ∃ (x11 : Int), World.cell? w7 (a10.add 1) = some (.int .i64 x11) ∧ (
 I4 [.int .i64 (IntKind.wrap .i64 (n_8 + x11)), .int .i64 (IntKind.wrap .i64 (i_9 + 1))] w7 ∧ μ5 [.int .i64 (IntKind.wrap .i64 (n_8 + x11)), .int .i64 (IntKind.wrap .i64 (i_9 + 1))] w7 < μ5 [.int .i64 n_8, .int .i64 i_9] w7))) (
 R (.returned (.int .i64 n_8)) w7)))
set_option maxRecDepth 100000 in
theorem sh60_ok (l_p1 : Option Addr) (l_n2 : Nat) (l_c3 : Nat) {R : Ending → World → Prop} {w : World} : sh60 l_p1 l_n2 l_c3 R w → Calls Tryz.prog 60 #[.slice l_p1 l_n2 l_c3] w R :=
  calls_of_eq (ann := fun i => if i = 0 then [(3, .int .i64 0), (4, .int .i64 0)] else []) (fn := Tryz.f60) (c := bodyOf Tryz.f60) (args := #[.slice l_p1 l_n2 l_c3]) 400 follows_mixed Tryz.func60 (by kernel_rfl) (by kernel_rfl)
set_option maxRecDepth 100000 in
/-- joinery/cut.Join2 -/
def sh61 (s_1 : Option Addr) (l_2 : Option Addr) (r_3 : Option Addr) (R : Ending → World → Prop) (w : World) : Prop :=
 doCall Tryz.prog (.func (.func 96) #[] #[]) #[.pointer s_1, .pointer l_2] w (retS (fun v9 w10 => ∃ (x4 : Option Addr), ∃ (x5 : Int), ∃ (x6 : Int), ∃ (x7 : Int), ∃ (x8 : Bool), v9 = (.tuple #[.pointer x4, .agg #[.int .i64 x5, .int .i64 x6, .int .u64 x7], .bool x8] : Value) ∧ (
 doAl (.cells #[.int .i64 0, .int .i64 0, .int .u64 0] 33) w10 (fun b11 w12 =>
 doSt ((blk b11).add 0) (.int .i64 x5) w12 (fun w13 =>
 doSt ((blk b11).add 1) (.int .i64 x6) w13 (fun w14 =>
 doSt ((blk b11).add 2) (.int .u64 x7) w14 (fun w15 =>
 ifB (!x8) (
 doCall Tryz.prog (.func (.func 91) #[] #[]) #[.pointer s_1, .pointer r_3] w15 (retS (fun v17 w18 => ∃ (x16 : Option Addr), v17 = (.pointer x16 : Value) ∧ (
 R (.returned (.pointer x16)) w18)) (fun ch w => Kfn R ch [] w))) (
 ∃ (x19 : Int), World.cell? w15 ((blk b11).add 0) = some (.int .i64 x19) ∧ (
 ∃ (x20 : Int), World.cell? w15 ((blk b11).add 1) = some (.int .i64 x20) ∧ (
 ∃ (x21 : Int), World.cell? w15 ((blk b11).add 2) = some (.int .u64 x21) ∧ (
 doCall Tryz.prog (.func (.func 51) #[] #[]) #[.pointer s_1, .pointer x4, .agg #[.int .i64 x19, .int .i64 x20, .int .u64 x21], .pointer r_3] w15 (retS (fun v23 w24 => ∃ (x22 : Option Addr), v23 = (.pointer x22 : Value) ∧ (
 R (.returned (.pointer x22)) w24)) (fun ch w => Kfn R ch [] w)))))))))))) (fun ch w => Kfn R ch [] w))
set_option maxRecDepth 100000 in
theorem sh61_ok (s_1 : Option Addr) (l_2 : Option Addr) (r_3 : Option Addr) {R : Ending → World → Prop} {w : World} : sh61 s_1 l_2 r_3 R w → Calls Tryz.prog 61 #[.pointer s_1, .pointer l_2, .pointer r_3] w R :=
  calls_of_eq (ann := fun _ => []) (fn := Tryz.f61) (c := bodyOf Tryz.f61) (args := #[.pointer s_1, .pointer l_2, .pointer r_3]) 400 follows_mixed Tryz.func61 (by kernel_rfl) (by kernel_rfl)
set_option maxRecDepth 100000 in
/-- (*joinery/scheme.Scheme).face -/
def sh62 (s_1 : Option Addr) (R : Ending → World → Prop) (w : World) : Prop :=
 doAl (.cells #[.pointer s_1] 23) w (fun b2 w3 =>
 doAl (.cells #[.string (⟨#[]⟩ : ByteArray), .nilFunc, .nilFunc, .nilFunc, .nilFunc, .nilFunc, .nilFunc, .bool false] 105) w3 (fun b4 w5 =>
 ∃ (x6 : Option Addr), World.cell? w5 (blk b2) = some (.pointer x6) ∧ (
 ∃ (q7 : Addr), x6 = some q7 ∧ (
 doCall Tryz.prog (.func (.func 97) #[] #[]) #[.pointer (some (q7.add 1)), .func (.func 98) #[] #[.pointer (some (blk b2))]] w5 (retS (fun v8 w9 => v8 = (.tuple #[] : Value) ∧ (
 ∃ (x10 : Option Addr), World.cell? w9 (blk b2) = some (.pointer x10) ∧ (
 ∃ (q11 : Addr), x10 = some q11 ∧ (
 ∃ (x12 : ByteArray), World.cell? w9 ((q11.add 4).add 0) = some (.string x12) ∧ (
 ∃ (xf13 : Fn), ∃ (xx14 : Array Value), ∃ (xc15 : Array Value), World.cell? w9 ((q11.add 4).add 1) = some (.func xf13 xx14 xc15) ∧ (
 ∃ (xf16 : Fn), ∃ (xx17 : Array Value), ∃ (xc18 : Array Value), World.cell? w9 ((q11.add 4).add 2) = some (.func xf16 xx17 xc18) ∧ (
 ∃ (xf19 : Fn), ∃ (xx20 : Array Value), ∃ (xc21 : Array Value), World.cell? w9 ((q11.add 4).add 3) = some (.func xf19 xx20 xc21) ∧ (
 ∃ (xf22 : Fn), ∃ (xx23 : Array Value), ∃ (xc24 : Array Value), World.cell? w9 ((q11.add 4).add 4) = some (.func xf22 xx23 xc24) ∧ (
 ∃ (xf25 : Fn), ∃ (xx26 : Array Value), ∃ (xc27 : Array Value), World.cell? w9 ((q11.add 4).add 5) = some (.func xf25 xx26 xc27) ∧ (
 ∃ (xf28 : Fn), ∃ (xx29 : Array Value), ∃ (xc30 : Array Value), World.cell? w9 ((q11.add 4).add 6) = some (.func xf28 xx29 xc30) ∧ (
 ∃ (x31 : Bool), World.cell? w9 ((q11.add 4).add 7) = some (.bool x31) ∧ (
 doSt ((blk b4).add 0) (.string x12) w9 (fun w32 =>
 doSt ((blk b4).add 1) (.func xf13 xx14 xc15) w32 (fun w33 =>
 doSt ((blk b4).add 2) (.func xf16 xx17 xc18) w33 (fun w34 =>
 doSt ((blk b4).add 3) (.func xf19 xx20 xc21) w34 (fun w35 =>
 doSt ((blk b4).add 4) (.func xf22 xx23 xc24) w35 (fun w36 =>
 doSt ((blk b4).add 5) (.func xf25 xx26 xc27) w36 (fun w37 =>
 doSt ((blk b4).add 6) (.func xf28 xx29 xc30) w37 (fun w38 =>
 doSt ((blk b4).add 7) (.bool x31) w38 (fun w39 =>
 ∃ (x40 : ByteArray), World.cell? w39 ((blk b4).add 0) = some (.string x40) ∧ (
 ∃ (xf41 : Fn), ∃ (xx42 : Array Value), ∃ (xc43 : Array Value), World.cell? w39 ((blk b4).add 1) = some (.func xf41 xx42 xc43) ∧ (
 ∃ (xf44 : Fn), ∃ (xx45 : Array Value), ∃ (xc46 : Array Value), World.cell? w39 ((blk b4).add 2) = some (.func xf44 xx45 xc46) ∧ (
 ∃ (xf47 : Fn), ∃ (xx48 : Array Value), ∃ (xc49 : Array Value), World.cell? w39 ((blk b4).add 3) = some (.func xf47 xx48 xc49) ∧ (
 ∃ (xf50 : Fn), ∃ (xx51 : Array Value), ∃ (xc52 : Array Value), World.cell? w39 ((blk b4).add 4) = some (.func xf50 xx51 xc52) ∧ (
 ∃ (xf53 : Fn), ∃ (xx54 : Array Value), ∃ (xc55 : Array Value), World.cell? w39 ((blk b4).add 5) = some (.func xf53 xx54 xc55) ∧ (
 ∃ (xf56 : Fn), ∃ (xx57 : Array Value), ∃ (xc58 : Array Value), World.cell? w39 ((blk b4).add 6) = some (.func xf56 xx57 xc58) ∧ (
 ∃ (x59 : Bool), World.cell? w39 ((blk b4).add 7) = some (.bool x59) ∧ (
 R (.returned (.agg #[.string x40, .func xf41 xx42 xc43, .func xf44 xx45 xc46, .func xf47 xx48 xc49, .func xf50 xx51 xc52, .func xf53 xx54 xc55, .func xf56 xx57 xc58, .bool x59])) w39)))))))))))))))))))))))))))) (fun ch w => Kfn R ch [] w))))))
set_option maxRecDepth 100000 in
theorem sh62_ok (s_1 : Option Addr) {R : Ending → World → Prop} {w : World} : sh62 s_1 R w → Calls Tryz.prog 62 #[.pointer s_1] w R :=
  calls_of_eq (ann := fun _ => []) (fn := Tryz.f62) (c := bodyOf Tryz.f62) (args := #[.pointer s_1]) 400 follows_mixed Tryz.func62 (by kernel_rfl) (by kernel_rfl)
set_option maxRecDepth 100000 in
/-- joinery/sound.Check -/
def sh63 (o_1 : Int) (t_2 : Option Addr) (R : Ending → World → Prop) (w : World) : Prop :=
 doAl (.cells #[.int .i64 0] 3) w (fun b3 w4 =>
 doAl (.cells #[.int .i64 0] 34) w4 (fun b5 w6 =>
 let K11 : Bool → Value → Value → World → Prop := fun (x7 : Bool) (d8 : Value) (d9 : Value) (w10 : World) => 
 let K13 : Nat → World → Prop := fun (dl14 : Nat) (w12 : World) => 
 doDr w12 (fun w16 =>
 ∃ (C15 : World → Prop), C15 w16 ∧ (
 ∃ (x17 : Int), (∀ w, C15 w → World.cell? w (blk b3) = some (.int .i64 x17)) ∧ (
 ∃ (x18 : Int), (∀ w, C15 w → World.cell? w (blk b5) = some (.int .i64 x18)) ∧ (
 doSt ((blk b3).add 0) (.int .i64 x17) w16 (fun w19 =>
 C15 w19 ∧ (
 doSt ((blk b5).add 0) (.int .i64 x18) w19 (fun w20 =>
 w20.heap[dl14]? = some (.deferred (some [])) ∧ (
 let w21 : World := w20.putObj dl14 (.deferred none)
 ∃ (x22 : Int), World.cell? w21 (blk b3) = some (.int .i64 x22) ∧ (
 ∃ (x23 : Int), World.cell? w21 (blk b5) = some (.int .i64 x23) ∧ (
 R (.returned (.tuple #[.int .i64 x22, .int .i64 x23])) w21))))))))))
 doCall Tryz.prog (.func (.func 99) #[] #[]) #[.int .u8 o_1, .pointer t_2] w10 (retS (fun v27 w28 => ∃ (xf24 : Fn), ∃ (xx25 : Array Value), ∃ (xc26 : Array Value), v27 = (.func xf24 xx25 xc26 : Value) ∧ (
 rfW Tryz.prog (.func xf24 xx25 xc26) (mkLoop #[.int .u8 o_1, .pointer t_2, undef, undef, .pointer (some (blk b3)), .pointer (some (blk b5)), undef, undef, .int .u8 o_1, .bool (decide ((o_1 : Int) < 1)), .bool x7, d8, d9, .bool false, .int .u8 o_1, .pointer t_2, .func xf24 xx25 xc26, undef, undef, undef, undef, undef, undef, undef] (rfOf Tryz.f63 0).1 (rfOf Tryz.f63 0).2.1 (rfOf Tryz.f63 0).2.2)
 (fun w30 =>
 K13 w28.heap.size w30)
 (fun w31 =>
 w31.heap[w28.heap.size]? = some (.deferred (some [])) ∧ (
 let w32 : World := w31.putObj w28.heap.size (.deferred none)
 ∃ (x33 : Int), World.cell? w32 (blk b3) = some (.int .i64 x33) ∧ (
 ∃ (x34 : Int), World.cell? w32 (blk b5) = some (.int .i64 x34) ∧ (
 R (.returned (.tuple #[.int .i64 x33, .int .i64 x34])) w32))))
 [(0, (fun w29 =>
 K13 w28.heap.size w29))] w28)) (fun ch w => Kfn R ch [] w))
 let K40 : Bool → Value → Value → Bool → World → Prop := fun (x35 : Bool) (d36 : Value) (d37 : Value) (x38 : Bool) (w39 : World) => 
 ifB x38 (
 doSt ((blk b3).add 0) (.int .i64 0) w39 (fun w41 =>
 doSt ((blk b5).add 0) (.int .i64 2) w41 (fun w42 =>
 ∃ (x43 : Int), World.cell? w42 (blk b3) = some (.int .i64 x43) ∧ (
 ∃ (x44 : Int), World.cell? w42 (blk b5) = some (.int .i64 x44) ∧ (
 R (.returned (.tuple #[.int .i64 x43, .int .i64 x44])) w42))))) (
 K11 x35 (d36 : Value) (d37 : Value) w39)
 ifB (decide ((o_1 : Int) < 1)) (
 doSt ((blk b3).add 0) (.int .i64 0) w6 (fun w45 =>
 doSt ((blk b5).add 0) (.int .i64 2) w45 (fun w46 =>
 ∃ (x47 : Int), World.cell? w46 (blk b3) = some (.int .i64 x47) ∧ (
 ∃ (x48 : Int), World.cell? w46 (blk b5) = some (.int .i64 x48) ∧ (
 R (.returned (.tuple #[.int .i64 x47, .int .i64 x48])) w46))))) (
 K40 false (.int .u8 o_1 : Value) (.bool (decide ((o_1 : Int) > 7)) : Value) (decide ((o_1 : Int) > 7)) w6)))
set_option maxRecDepth 100000 in
theorem sh63_ok (o_1 : Int) (t_2 : Option Addr) {R : Ending → World → Prop} {w : World} : sh63 o_1 t_2 R w → Calls Tryz.prog 63 #[.int .u8 o_1, .pointer t_2] w R :=
  calls_of_eq (ann := fun _ => []) (fn := Tryz.f63) (c := bodyOf Tryz.f63) (args := #[.int .u8 o_1, .pointer t_2]) 400 follows_mixed Tryz.func63 (by kernel_rfl) (by kernel_rfl)
set_option maxRecDepth 100000 in
/-- joinery/sound.Check, a round of loop 0 -/
def sh63_0 (at_1 : Addr) (e_2 : Addr) (_y25 : Option Addr) (y26 : Bool) (l : Nat) (R : Ending → World → Prop) (w : World) : Prop :=
 ∃ (r27 : Loop), w.heap[l]? = some (.loop r27) ∧ r27.state = .ready ∧ (
 let w28 : World := w.putObj l (.loop { r27 with state := .busy })
 ifB y26 (
 doSt (e_2.add 0) (.int .i64 120) w28 (fun w29 =>
 ∃ (r30 : Loop), w29.heap[l]? = some (.loop r30) ∧ R (.returned (.bool false)) (w29.putObj l (.loop { r30 with state := .done, pending := some (.exit 0) })))) (
 ∃ (x31 : Int), World.cell? w28 at_1 = some (.int .i64 x31) ∧ (
 doSt (at_1.add 0) (.int .i64 (IntKind.wrap .i64 (x31 + 1))) w28 (fun w32 =>
 ∃ (r33 : Loop), w32.heap[l]? = some (.loop r33) ∧ R (.returned (.bool true)) (w32.putObj l (.loop { r33 with state := .ready, pending := none }))))))
set_option maxRecDepth 100000 in
theorem sh63_0_ok {dd3 : Value} {dd4 : Value} {dd5 : Value} {dd6 : Value} {dd7 : Value} {dd8 : Value} {dd9 : Value} {dd10 : Value} {dd11 : Value} {dd12 : Value} {dd13 : Value} {dd14 : Value} {dd15 : Value} {dd16 : Value} {dd17 : Value} {dd18 : Value} {dd19 : Value} {dd20 : Value} {dd21 : Value} {dd22 : Value} {dd23 : Value} {dd24 : Value} {at_1 : Addr} {e_2 : Addr} {y25 : Option Addr} {y26 : Bool} {l fn D : Nat} {R : Ending → World → Prop} {w : World} (hl : w.heap[l]? = some (.loop (mkLoop #[dd3, dd4, dd5, dd6, .pointer (some at_1), .pointer (some e_2), dd7, dd8, dd9, dd10, dd11, dd12, dd13, dd14, dd15, dd16, dd17, dd18, dd19, dd20, dd21, dd22, dd23, dd24] (rfOf Tryz.f63 0).1 (rfOf Tryz.f63 0).2.1 (rfOf Tryz.f63 0).2.2 fn D))) : sh63_0 at_1 e_2 y25 y26 l R w → doCall Tryz.prog (.func (.yield l) #[] #[]) #[.pointer y25, .bool y26] w R :=
  fun h => ⟨round_of_eq (ann := fun _ => []) 400 follows_mixed hl (by kernel_rfl) (by kernel_rfl) h⟩
set_option maxRecDepth 100000 in
/-- joinery/order.Compare -/
def sh64 (o_1 : Int) (a_2 : Int) (b_3 : Int) (R : Ending → World → Prop) (w : World) : Prop :=
 doCall Tryz.prog (.func (.func 88) #[] #[]) #[.int .u8 o_1, .int .i64 a_2] w (retS (fun v6 w7 => ∃ (x4 : Int), ∃ (x5 : Int), v6 = (.tuple #[.int .u64 x4, .int .i64 x5] : Value) ∧ (
 doCall Tryz.prog (.func (.func 88) #[] #[]) #[.int .u8 o_1, .int .i64 b_3] w7 (retS (fun v10 w11 => ∃ (x8 : Int), ∃ (x9 : Int), v10 = (.tuple #[.int .u64 x8, .int .i64 x9] : Value) ∧ (
 ifB ((x5 : Int) != 0) (
 R (.returned (.int .i64 0)) w11) (
 doCall Tryz.prog (.func (.func 90) #[] #[]) #[.int .u64 x4, .int .u64 x8] w11 (retS (fun v13 w14 => ∃ (x12 : Int), v13 = (.int .i64 x12 : Value) ∧ (
 R (.returned (.int .i64 x12)) w14)) (fun ch w => Kfn R ch [] w))))) (fun ch w => Kfn R ch [] w)))) (fun ch w => Kfn R ch [] w))
set_option maxRecDepth 100000 in
theorem sh64_ok (o_1 : Int) (a_2 : Int) (b_3 : Int) {R : Ending → World → Prop} {w : World} : sh64 o_1 a_2 b_3 R w → Calls Tryz.prog 64 #[.int .u8 o_1, .int .i64 a_2, .int .i64 b_3] w R :=
  calls_of_eq (ann := fun _ => []) (fn := Tryz.f64) (c := bodyOf Tryz.f64) (args := #[.int .u8 o_1, .int .i64 a_2, .int .i64 b_3]) 400 follows_mixed Tryz.func64 (by kernel_rfl) (by kernel_rfl)
set_option maxRecDepth 100000 in
/-- joinery/sound.end -/
def sh65 (t_1 : Option Addr) (on_f2 : Fn) (on_x3 : Array Value) (on_c4 : Array Value) (R : Ending → World → Prop) (w : World) : Prop :=
 ∃ (I5 : List Value → World → Prop) (μ6 : List Value → World → Nat), I5 [.pointer t_1] w ∧ (∀ (t_9 : Option Addr), ∀ (_j7 : Nat → Value) (w8 : World), I5 [.pointer t_9] w8 → (
 doCall Tryz.prog (.func on_f2 on_x3 on_c4) #[.pointer t_9] w8 (retS (fun v11 w12 => ∃ (x10 : Option Addr), v11 = (.pointer x10 : Value) ∧ (
 ifB (!(x10).isNone) (
 doCall Tryz.prog (.func on_f2 on_x3 on_c4) #[.pointer t_9] w12 (retS (fun v14 w15 => ∃ (x13 : Option Addr), v14 = (.pointer x13 : Value) ∧ (
 I5 [.pointer x13] w15 ∧ μ6 [.pointer x13] w15 < μ6 [.pointer t_9] w8)) (fun ch w => Kfn R ch [] w))) (
 R (.returned (.pointer t_9)) w12))) (fun ch w => Kfn R ch [] w))))
set_option maxRecDepth 100000 in
theorem sh65_ok (t_1 : Option Addr) (on_f2 : Fn) (on_x3 : Array Value) (on_c4 : Array Value) {R : Ending → World → Prop} {w : World} : sh65 t_1 on_f2 on_x3 on_c4 R w → Calls Tryz.prog 65 #[.pointer t_1, .func on_f2 on_x3 on_c4] w R :=
  calls_of_eq (ann := fun i => if i = 0 then [(0, .pointer none)] else []) (fn := Tryz.f65) (c := bodyOf Tryz.f65) (args := #[.pointer t_1, .func on_f2 on_x3 on_c4]) 400 follows_mixed Tryz.func65 (by kernel_rfl) (by kernel_rfl)
set_option maxRecDepth 100000 in
/-- (*joinery/node.Node).Right -/
def sh66 (n_1 : Option Addr) (R : Ending → World → Prop) (w : World) : Prop :=
 ifB ((n_1).isNone) (
 R (.returned (.pointer none)) w) (
 ∃ (q2 : Addr), n_1 = some q2 ∧ (
 ∃ (x3 : Option Addr), World.cell? w (q2.add 6) = some (.pointer x3) ∧ (
 R (.returned (.pointer x3)) w)))
set_option maxRecDepth 100000 in
theorem sh66_ok (n_1 : Option Addr) {R : Ending → World → Prop} {w : World} : sh66 n_1 R w → Calls Tryz.prog 66 #[.pointer n_1] w R :=
  calls_of_eq (ann := fun _ => []) (fn := Tryz.f66) (c := bodyOf Tryz.f66) (args := #[.pointer n_1]) 400 follows_mixed Tryz.func66 (by kernel_rfl) (by kernel_rfl)
set_option maxRecDepth 100000 in
/-- (*joinery/node.Node).Key -/
def sh67 (n_1 : Option Addr) (R : Ending → World → Prop) (w : World) : Prop :=
 doCall Tryz.prog (.func (.func 69) #[] #[]) #[.pointer n_1] w (retS (fun v7 w8 => ∃ (x2 : Int), ∃ (x3 : Int), ∃ (x4 : Int), ∃ (x5 : Int), ∃ (x6 : Int), v7 = (.agg #[.int .i64 x2, .int .i64 x3, .int .i64 x4, .int .u64 x5, .int .i64 x6] : Value) ∧ (
 R (.returned (.int .i64 x2)) w8)) (fun ch w => Kfn R ch [] w))
set_option maxRecDepth 100000 in
theorem sh67_ok (n_1 : Option Addr) {R : Ending → World → Prop} {w : World} : sh67 n_1 R w → Calls Tryz.prog 67 #[.pointer n_1] w R :=
  calls_of_eq (ann := fun _ => []) (fn := Tryz.f67) (c := bodyOf Tryz.f67) (args := #[.pointer n_1]) 400 follows_mixed Tryz.func67 (by kernel_rfl) (by kernel_rfl)
set_option maxRecDepth 100000 in
/-- (*joinery/node.Node).Left -/
def sh68 (n_1 : Option Addr) (R : Ending → World → Prop) (w : World) : Prop :=
 ifB ((n_1).isNone) (
 R (.returned (.pointer none)) w) (
 ∃ (q2 : Addr), n_1 = some q2 ∧ (
 ∃ (x3 : Option Addr), World.cell? w (q2.add 5) = some (.pointer x3) ∧ (
 R (.returned (.pointer x3)) w)))
set_option maxRecDepth 100000 in
theorem sh68_ok (n_1 : Option Addr) {R : Ending → World → Prop} {w : World} : sh68 n_1 R w → Calls Tryz.prog 68 #[.pointer n_1] w R :=
  calls_of_eq (ann := fun _ => []) (fn := Tryz.f68) (c := bodyOf Tryz.f68) (args := #[.pointer n_1]) 400 follows_mixed Tryz.func68 (by kernel_rfl) (by kernel_rfl)
set_option maxRecDepth 100000 in
/-- (*joinery/node.Node).of -/
def sh69 (n_1 : Option Addr) (R : Ending → World → Prop) (w : World) : Prop :=
 doAl (.cells #[.int .i64 0, .int .i64 0, .int .i64 0, .int .u64 0, .int .i64 0] 108) w (fun b2 w3 =>
 ifB ((n_1).isNone) (
 doSt ((blk b2).add 0) (.int .i64 0) w3 (fun w4 =>
 doSt ((blk b2).add 1) (.int .i64 0) w4 (fun w5 =>
 doSt ((blk b2).add 2) (.int .i64 0) w5 (fun w6 =>
 doSt ((blk b2).add 3) (.int .u64 0) w6 (fun w7 =>
 doSt ((blk b2).add 4) (.int .i64 0) w7 (fun w8 =>
 ∃ (x9 : Int), World.cell? w8 ((blk b2).add 0) = some (.int .i64 x9) ∧ (
 ∃ (x10 : Int), World.cell? w8 ((blk b2).add 1) = some (.int .i64 x10) ∧ (
 ∃ (x11 : Int), World.cell? w8 ((blk b2).add 2) = some (.int .i64 x11) ∧ (
 ∃ (x12 : Int), World.cell? w8 ((blk b2).add 3) = some (.int .u64 x12) ∧ (
 ∃ (x13 : Int), World.cell? w8 ((blk b2).add 4) = some (.int .i64 x13) ∧ (
 R (.returned (.agg #[.int .i64 x9, .int .i64 x10, .int .i64 x11, .int .u64 x12, .int .i64 x13])) w8))))))))))) (
 ∃ (q14 : Addr), n_1 = some q14 ∧ (
 ∃ (x15 : Int), World.cell? w3 ((q14.add 0).add 0) = some (.int .i64 x15) ∧ (
 ∃ (x16 : Int), World.cell? w3 ((q14.add 0).add 1) = some (.int .i64 x16) ∧ (
 ∃ (x17 : Int), World.cell? w3 ((q14.add 0).add 2) = some (.int .i64 x17) ∧ (
 ∃ (x18 : Int), World.cell? w3 ((q14.add 0).add 3) = some (.int .u64 x18) ∧ (
 ∃ (x19 : Int), World.cell? w3 ((q14.add 0).add 4) = some (.int .i64 x19) ∧ (
 doSt ((blk b2).add 0) (.int .i64 x15) w3 (fun w20 =>
 doSt ((blk b2).add 1) (.int .i64 x16) w20 (fun w21 =>
 doSt ((blk b2).add 2) (.int .i64 x17) w21 (fun w22 =>
 doSt ((blk b2).add 3) (.int .u64 x18) w22 (fun w23 =>
 doSt ((blk b2).add 4) (.int .i64 x19) w23 (fun w24 =>
 ∃ (x25 : Int), World.cell? w24 ((blk b2).add 0) = some (.int .i64 x25) ∧ (
 ∃ (x26 : Int), World.cell? w24 ((blk b2).add 1) = some (.int .i64 x26) ∧ (
 ∃ (x27 : Int), World.cell? w24 ((blk b2).add 2) = some (.int .i64 x27) ∧ (
 ∃ (x28 : Int), World.cell? w24 ((blk b2).add 3) = some (.int .u64 x28) ∧ (
 ∃ (x29 : Int), World.cell? w24 ((blk b2).add 4) = some (.int .i64 x29) ∧ (
 R (.returned (.agg #[.int .i64 x25, .int .i64 x26, .int .i64 x27, .int .u64 x28, .int .i64 x29])) w24))))))))))))))))))
set_option maxRecDepth 100000 in
theorem sh69_ok (n_1 : Option Addr) {R : Ending → World → Prop} {w : World} : sh69 n_1 R w → Calls Tryz.prog 69 #[.pointer n_1] w R :=
  calls_of_eq (ann := fun _ => []) (fn := Tryz.f69) (c := bodyOf Tryz.f69) (args := #[.pointer n_1]) 400 follows_mixed Tryz.func69 (by kernel_rfl) (by kernel_rfl)
set_option maxRecDepth 100000 in
/-- joinery/joineryref02.Is -/
def sh70 (o_1 : Int) (R : Ending → World → Prop) (w : World) : Prop :=
 let K4 : Bool → World → Prop := fun (x2 : Bool) (w3 : World) => 
 R (.returned (.bool x2)) w3
 ifB (decide ((o_1 : Int) ≥ 1)) (
 K4 (decide ((o_1 : Int) ≤ 7)) w) (
 R (.returned (.bool false)) w)
set_option maxRecDepth 100000 in
theorem sh70_ok (o_1 : Int) {R : Ending → World → Prop} {w : World} : sh70 o_1 R w → Calls Tryz.prog 70 #[.int .u8 o_1] w R :=
  calls_of_eq (ann := fun _ => []) (fn := Tryz.f70) (c := bodyOf Tryz.f70) (args := #[.int .u8 o_1]) 400 follows_mixed Tryz.func70 (by kernel_rfl) (by kernel_rfl)
end Go.Proofs.YthgckfeocalbdaaGreat
