/-
  Printed by a program (gen.py): what the functions of the program do, as formulas; each with the proof that its call is what the formula says.
-/
import Derived.Test.YtinkkhcffoikmaaCd
import Derived.Test.YtinkkhcffoikmaaProg
import Derived.Test.YtinkkhcffoikmaaS1
namespace Go.Proofs.Ytinkkhcffoikmaa
open Go Go.Sh
set_option maxRecDepth 100000 in
/-- (*joinery/node.Node).Val -/
def sh77 (n_1 : Option Addr) (R : Ending → World → Prop) (w : World) : Prop :=
 doCall Try.prog (.func (.func 113) #[] #[]) #[.pointer n_1] w (retS (fun v7 w8 => ∃ (x2 : Int), ∃ (x3 : Int), ∃ (x4 : Int), ∃ (x5 : Int), ∃ (x6 : Int), v7 = (.agg #[.int .i64 x2, .int .i64 x3, .int .i64 x4, .int .u64 x5, .int .i64 x6] : Value) ∧ (
 R (.returned (.int .i64 x3)) w8)) (fun ch w => Kfn R ch [] w))
set_option maxRecDepth 100000 in
theorem sh77_ok (n_1 : Option Addr) {R : Ending → World → Prop} {w : World} : sh77 n_1 R w → Calls Try.prog 77 #[.pointer n_1] w R :=
  calls_of_eq (ann := fun _ => []) (fn := Try.f77) (c := bodyOf Try.f77) (args := #[.pointer n_1]) 400 follows_mixed Try.func77 (by kernel_rfl) (by kernel_rfl)
set_option maxRecDepth 100000 in
/-- (*joinery/node.Node).Right -/
def sh78 (n_1 : Option Addr) (R : Ending → World → Prop) (w : World) : Prop :=
 ifB ((n_1).isNone) (
 R (.returned (.pointer none)) w) (
 ∃ (q2 : Addr), n_1 = some q2 ∧ (
 ∃ (x3 : Option Addr), World.cell? w (q2.add 6) = some (.pointer x3) ∧ (
 R (.returned (.pointer x3)) w)))
set_option maxRecDepth 100000 in
theorem sh78_ok (n_1 : Option Addr) {R : Ending → World → Prop} {w : World} : sh78 n_1 R w → Calls Try.prog 78 #[.pointer n_1] w R :=
  calls_of_eq (ann := fun _ => []) (fn := Try.f78) (c := bodyOf Try.f78) (args := #[.pointer n_1]) 400 follows_mixed Try.func78 (by kernel_rfl) (by kernel_rfl)
set_option maxRecDepth 100000 in
/-- joinery/joineryref09.Pairs -/
def sh79 (l_p1 : Option Addr) (l_n2 : Nat) (l_c3 : Nat) (R : Ending → World → Prop) (w : World) : Prop :=
 ifB ((((l_n2 : Nat) : Int) : Int) == 0) (
 R (.returned (.slice none 0 0)) w) (
 doCall Try.prog (.func (.func 70) #[] #[]) #[.slice l_p1 l_n2 l_c3] w (retS (fun v17 w18 => ∃ (x4 : Int), ∃ (x5 : Int), ∃ (x6 : Int), ∃ (x7 : Int), ∃ (x8 : Int), ∃ (x9 : Bool), ∃ (x10 : Bool), ∃ (xp11 : Option Addr), ∃ (xn12 : Nat), ∃ (xc13 : Nat), ∃ (xp14 : Option Addr), ∃ (xn15 : Nat), ∃ (xc16 : Nat), v17 = (.tuple #[.agg #[.int .i64 x4, .int .i64 x5, .int .i64 x6, .int .i64 x7, .int .u64 x8, .bool x9, .bool x10], .slice xp11 xn12 xc13, .slice xp14 xn15 xc16] : Value) ∧ (
 doAl (.cells #[.int .i64 0, .int .i64 0, .int .i64 0, .int .i64 0, .int .u64 0, .bool false, .bool false] 88) w18 (fun b19 w20 =>
 doSt ((blk b19).add 0) (.int .i64 x4) w20 (fun w21 =>
 doSt ((blk b19).add 1) (.int .i64 x5) w21 (fun w22 =>
 doSt ((blk b19).add 2) (.int .i64 x6) w22 (fun w23 =>
 doSt ((blk b19).add 3) (.int .i64 x7) w23 (fun w24 =>
 doSt ((blk b19).add 4) (.int .u64 x8) w24 (fun w25 =>
 doSt ((blk b19).add 5) (.bool x9) w25 (fun w26 =>
 doSt ((blk b19).add 6) (.bool x10) w26 (fun w27 =>
 let K32 : (Option Addr) → Nat → Nat → World → Prop := fun (out_p28 : Option Addr) (out_n29 : Nat) (out_c30 : Nat) (w31 : World) => 
 doCall Try.prog (.func (.func 79) #[] #[]) #[.slice xp14 xn15 xc16] w31 (retS (fun v36 w37 => ∃ (xp33 : Option Addr), ∃ (xn34 : Nat), ∃ (xc35 : Nat), v36 = (.slice xp33 xn34 xc35 : Value) ∧ (
 doGo Try.prog (.builtin .append #[33, 33] 33 #[false, false]) #[.slice out_p28 out_n29 out_c30, .slice xp33 xn34 xc35] w37 (retS (fun v41 w42 => ∃ (xp38 : Option Addr), ∃ (xn39 : Nat), ∃ (xc40 : Nat), v41 = (.slice xp38 xn39 xc40 : Value) ∧ (
 R (.returned (.slice xp38 xn39 xc40)) w42)) (fun ch w => Kfn R ch [] w)))) (fun ch w => Kfn R ch [] w))
 doDr w27 (fun w44 =>
 ∃ (C43 : World → Prop), C43 w44 ∧ (
 ∃ (x45 : Int), (∀ w, C43 w → World.cell? w ((blk b19).add 0) = some (.int .i64 x45)) ∧ (
 ∃ (x46 : Int), (∀ w, C43 w → World.cell? w ((blk b19).add 1) = some (.int .i64 x46)) ∧ (
 (doCall Try.prog (.func (.func 79) #[] #[]) #[.slice xp11 xn12 xc13] w44 (retS (fun v50 w51 => ∃ (xp47 : Option Addr), ∃ (xn48 : Nat), ∃ (xc49 : Nat), v50 = (.slice xp47 xn48 xc49 : Value) ∧ (
 C43 w51 ∧ (
 doAl (.cells #[.int .i64 x45, .int .i64 x46] 38) w51 (fun b52 w53 =>
 C43 w53 ∧ (
 doGo Try.prog (.builtin .append #[33, 33] 33 #[false, false]) #[.slice xp47 xn48 xc49, .slice (some (blk b52)) 1 1] w53 (retS (fun v57 w58 => ∃ (xp54 : Option Addr), ∃ (xn55 : Nat), ∃ (xc56 : Nat), v57 = (.slice xp54 xn55 xc56 : Value) ∧ (
 C43 w58 ∧ (
 K32 xp54 xn55 xc56 w58))) (fun ch w => Kfn R ch [] w))))))) (fun ch w => Kfn R ch [] w))) ∧ (doAl (.cells #[.int .i64 x45, .int .i64 x46] 38) w44 (fun b59 w60 =>
 C43 w60 ∧ (
 doCall Try.prog (.func (.func 79) #[] #[]) #[.slice xp11 xn12 xc13] w60 (retS (fun v64 w65 => ∃ (xp61 : Option Addr), ∃ (xn62 : Nat), ∃ (xc63 : Nat), v64 = (.slice xp61 xn62 xc63 : Value) ∧ (
 C43 w65 ∧ (
 doGo Try.prog (.builtin .append #[33, 33] 33 #[false, false]) #[.slice xp61 xn62 xc63, .slice (some (blk b59)) 1 1] w65 (retS (fun v69 w70 => ∃ (xp66 : Option Addr), ∃ (xn67 : Nat), ∃ (xc68 : Nat), v69 = (.slice xp66 xn67 xc68 : Value) ∧ (
 C43 w70 ∧ (
 K32 xp66 xn67 xc68 w70))) (fun ch w => Kfn R ch [] w))))) (fun ch w => Kfn R ch [] w))))))))))))))))))) (fun ch w => Kfn R ch [] w)))
set_option maxRecDepth 100000 in
theorem sh79_ok (l_p1 : Option Addr) (l_n2 : Nat) (l_c3 : Nat) {R : Ending → World → Prop} {w : World} : sh79 l_p1 l_n2 l_c3 R w → Calls Try.prog 79 #[.slice l_p1 l_n2 l_c3] w R :=
  calls_of_eq (ann := fun _ => []) (fn := Try.f79) (c := bodyOf Try.f79) (args := #[.slice l_p1 l_n2 l_c3]) 400 follows_mixed Try.func79 (by kernel_rfl) (by kernel_rfl)
set_option maxRecDepth 100000 in
/-- joinery/joineryref03.May -/
def sh80 (p_1 : Int) (R : Ending → World → Prop) (w : World) : Prop :=
 let K4 : Bool → World → Prop := fun (x2 : Bool) (w3 : World) => 
 R (.returned (.bool x2)) w3
 ifB ((p_1 : Int) == 1) (
 R (.returned (.bool true)) w) (
 ifB ((p_1 : Int) == 2) (
 R (.returned (.bool true)) w) (
 K4 ((p_1 : Int) == 3) w))
set_option maxRecDepth 100000 in
theorem sh80_ok (p_1 : Int) {R : Ending → World → Prop} {w : World} : sh80 p_1 R w → Calls Try.prog 80 #[.int .u8 p_1] w R :=
  calls_of_eq (ann := fun _ => []) (fn := Try.f80) (c := bodyOf Try.f80) (args := #[.int .u8 p_1]) 400 follows_mixed Try.func80 (by kernel_rfl) (by kernel_rfl)
set_option maxRecDepth 100000 in
/-- joinery/joineryref09.Node -/
def sh81 (l_p1 : Option Addr) (l_n2 : Nat) (l_c3 : Nat) (key_4 : Int) (val_5 : Int) (tag_6 : Int) (r_p7 : Option Addr) (r_n8 : Nat) (r_c9 : Nat) (R : Ending → World → Prop) (w : World) : Prop :=
 doAl (.cells #[.int .i64 key_4, .int .i64 val_5, .int .i64 0, .int .i64 0, .int .u64 tag_6, .bool (decide ((((l_n2 : Nat) : Int) : Int) > 0)), .bool (decide ((((r_n8 : Nat) : Int) : Int) > 0))] 88) w (fun b10 w11 =>
 doGo Try.prog (.builtin .append #[22, 22] 22 #[false, false]) #[.slice (some (blk b10)) 1 1, .slice l_p1 l_n2 l_c3] w11 (retS (fun v15 w16 => ∃ (xp12 : Option Addr), ∃ (xn13 : Nat), ∃ (xc14 : Nat), v15 = (.slice xp12 xn13 xc14 : Value) ∧ (
 doGo Try.prog (.builtin .append #[22, 22] 22 #[false, false]) #[.slice xp12 xn13 xc14, .slice r_p7 r_n8 r_c9] w16 (retS (fun v20 w21 => ∃ (xp17 : Option Addr), ∃ (xn18 : Nat), ∃ (xc19 : Nat), v20 = (.slice xp17 xn18 xc19 : Value) ∧ (
 doCall Try.prog (.func (.func 114) #[] #[]) #[.slice xp17 xn18 xc19] w21 (retS (fun v25 w26 => ∃ (xp22 : Option Addr), ∃ (xn23 : Nat), ∃ (xc24 : Nat), v25 = (.slice xp22 xn23 xc24 : Value) ∧ (
 R (.returned (.slice xp22 xn23 xc24)) w26)) (fun ch w => Kfn R ch [] w)))) (fun ch w => Kfn R ch [] w)))) (fun ch w => Kfn R ch [] w)))
set_option maxRecDepth 100000 in
theorem sh81_ok (l_p1 : Option Addr) (l_n2 : Nat) (l_c3 : Nat) (key_4 : Int) (val_5 : Int) (tag_6 : Int) (r_p7 : Option Addr) (r_n8 : Nat) (r_c9 : Nat) {R : Ending → World → Prop} {w : World} : sh81 l_p1 l_n2 l_c3 key_4 val_5 tag_6 r_p7 r_n8 r_c9 R w → Calls Try.prog 81 #[.slice l_p1 l_n2 l_c3, .int .i64 key_4, .int .i64 val_5, .int .u64 tag_6, .slice r_p7 r_n8 r_c9] w R :=
  calls_of_eq (ann := fun _ => []) (fn := Try.f81) (c := bodyOf Try.f81) (args := #[.slice l_p1 l_n2 l_c3, .int .i64 key_4, .int .i64 val_5, .int .u64 tag_6, .slice r_p7 r_n8 r_c9]) 400 follows_mixed Try.func81 (by kernel_rfl) (by kernel_rfl)
set_option maxRecDepth 100000 in
/-- joinery/row.at -/
def sh82 (o_1 : Int) (l_p2 : Option Addr) (l_n3 : Nat) (l_c4 : Nat) (key_5 : Int) (R : Ending → World → Prop) (w : World) : Prop :=
 doAl (.cells #[.int .u8 o_1] 5) w (fun b6 w7 =>
 doAl (.cells #[.slice l_p2 l_n3 l_c4] 33) w7 (fun b8 w9 =>
 doAl (.cells #[.int .i64 key_5] 2) w9 (fun b10 w11 =>
 ∃ (xp12 : Option Addr), ∃ (xn13 : Nat), ∃ (xc14 : Nat), World.cell? w11 (blk b8) = some (.slice xp12 xn13 xc14) ∧ (
 doCall Try.prog (.func (.func 115) #[] #[]) #[.int .i64 ((xn13 : Nat) : Int), .func (.func 116) #[] #[.pointer (some (blk b6)), .pointer (some (blk b8)), .pointer (some (blk b10))]] w11 (retS (fun v16 w17 => ∃ (x15 : Int), v16 = (.int .i64 x15 : Value) ∧ (
 R (.returned (.int .i64 x15)) w17)) (fun ch w => Kfn R ch [] w))))))
set_option maxRecDepth 100000 in
theorem sh82_ok (o_1 : Int) (l_p2 : Option Addr) (l_n3 : Nat) (l_c4 : Nat) (key_5 : Int) {R : Ending → World → Prop} {w : World} : sh82 o_1 l_p2 l_n3 l_c4 key_5 R w → Calls Try.prog 82 #[.int .u8 o_1, .slice l_p2 l_n3 l_c4, .int .i64 key_5] w R :=
  calls_of_eq (ann := fun _ => []) (fn := Try.f82) (c := bodyOf Try.f82) (args := #[.int .u8 o_1, .slice l_p2 l_n3 l_c4, .int .i64 key_5]) 400 follows_mixed Try.func82 (by kernel_rfl) (by kernel_rfl)
set_option maxRecDepth 100000 in
/-- joinery/joineryref03.Same -/
def sh83 (a_p1 : Option Addr) (a_n2 : Nat) (_a_c3 : Nat) (b_p4 : Option Addr) (b_n5 : Nat) (_b_c6 : Nat) (R : Ending → World → Prop) (w : World) : Prop :=
 ifB ((((a_n2 : Nat) : Int) : Int) != ((b_n5 : Nat) : Int)) (
 R (.returned (.bool false)) w) (
 ∃ (I7 : List Value → World → Prop) (μ8 : List Value → World → Nat), I7 [.int .i64 0] w ∧ (∀ (i_11 : Int), ∀ (_j9 : Nat → Value) (w10 : World), I7 [.int .i64 i_11] w10 → (
 ifB (decide ((i_11 : Int) < ((a_n2 : Nat) : Int))) (
 doDr w10 (fun w13 =>
 ∃ (C12 : World → Prop), C12 w13 ∧ (
 doIx a_p1 a_n2 1 (i_11) (fun a14 =>
 ∃ (x15 : Int), (∀ w, C12 w → World.cell? w a14 = some (.int .i64 x15)) ∧ (
 doIx b_p4 b_n5 1 (i_11) (fun a16 =>
 ∃ (x17 : Int), (∀ w, C12 w → World.cell? w a16 = some (.int .i64 x17)) ∧ (
 ifB ((x15 : Int) != x17) (
 R (.returned (.bool false)) w13) (
 I7 [.int .i64 (IntKind.wrap .i64 (i_11 + 1))] w13 ∧ μ8 [.int .i64 (IntKind.wrap .i64 (i_11 + 1))] w13 < μ8 [.int .i64 i_11] w10)))))))) (
 R (.returned (.bool true)) w10))))
set_option maxRecDepth 100000 in
theorem sh83_ok (a_p1 : Option Addr) (a_n2 : Nat) (a_c3 : Nat) (b_p4 : Option Addr) (b_n5 : Nat) (b_c6 : Nat) {R : Ending → World → Prop} {w : World} : sh83 a_p1 a_n2 a_c3 b_p4 b_n5 b_c6 R w → Calls Try.prog 83 #[.slice a_p1 a_n2 a_c3, .slice b_p4 b_n5 b_c6] w R :=
  calls_of_eq (ann := fun i => if i = 0 then [(5, .int .i64 0)] else []) (fn := Try.f83) (c := bodyOf Try.f83) (args := #[.slice a_p1 a_n2 a_c3, .slice b_p4 b_n5 b_c6]) 400 follows_mixed Try.func83 (by kernel_rfl) (by kernel_rfl)
set_option maxRecDepth 100000 in
/-- joinery/find.last -/
def sh84  (R : Ending → World → Prop) (w : World) : Prop :=
 doAl (.cells #[.pointer none] 27) w (fun b1 w2 =>
 R (.returned (.tuple #[.func (.func 117) #[] #[.pointer (some (blk b1))], .func (.func 118) #[] #[.pointer (some (blk b1))]])) w2)
set_option maxRecDepth 100000 in
theorem sh84_ok  {R : Ending → World → Prop} {w : World} : sh84  R w → Calls Try.prog 84 #[] w R :=
  calls_of_eq (ann := fun _ => []) (fn := Try.f84) (c := bodyOf Try.f84) (args := #[]) 400 follows_mixed Try.func84 (by kernel_rfl) (by kernel_rfl)
set_option maxRecDepth 100000 in
/-- joinery/find.way -/
def sh85 (o_1 : Int) (t_2 : Option Addr) (key_3 : Int) (R : Ending → World → Prop) (w : World) : Prop :=
 doAl (.cells #[.int .u8 o_1] 5) w (fun b4 w5 =>
 doAl (.cells #[.pointer t_2] 27) w5 (fun b6 w7 =>
 doAl (.cells #[.int .i64 key_3] 2) w7 (fun b8 w9 =>
 R (.returned (.func (.func 119) #[] #[.pointer (some (blk b4)), .pointer (some (blk b6)), .pointer (some (blk b8))])) w9)))
set_option maxRecDepth 100000 in
theorem sh85_ok (o_1 : Int) (t_2 : Option Addr) (key_3 : Int) {R : Ending → World → Prop} {w : World} : sh85 o_1 t_2 key_3 R w → Calls Try.prog 85 #[.int .u8 o_1, .pointer t_2, .int .i64 key_3] w R :=
  calls_of_eq (ann := fun _ => []) (fn := Try.f85) (c := bodyOf Try.f85) (args := #[.int .u8 o_1, .pointer t_2, .int .i64 key_3]) 400 follows_mixed Try.func85 (by kernel_rfl) (by kernel_rfl)
set_option maxRecDepth 100000 in
/-- joinery/find.pair -/
def sh86 (n_1 : Option Addr) (R : Ending → World → Prop) (w : World) : Prop :=
 doAl (.cells #[.int .i64 0, .int .i64 0] 38) w (fun b2 w3 =>
 ifB ((n_1).isNone) (
 doSt ((blk b2).add 0) (.int .i64 0) w3 (fun w4 =>
 doSt ((blk b2).add 1) (.int .i64 0) w4 (fun w5 =>
 ∃ (x6 : Int), World.cell? w5 ((blk b2).add 0) = some (.int .i64 x6) ∧ (
 ∃ (x7 : Int), World.cell? w5 ((blk b2).add 1) = some (.int .i64 x7) ∧ (
 R (.returned (.tuple #[.agg #[.int .i64 x6, .int .i64 x7], .bool false])) w5))))) (
 doCall Try.prog (.func (.func 76) #[] #[]) #[.pointer n_1] w3 (retS (fun v9 w10 => ∃ (x8 : Int), v9 = (.int .i64 x8 : Value) ∧ (
 doCall Try.prog (.func (.func 77) #[] #[]) #[.pointer n_1] w10 (retS (fun v12 w13 => ∃ (x11 : Int), v12 = (.int .i64 x11 : Value) ∧ (
 doSt ((blk b2).add 0) (.int .i64 x8) w13 (fun w14 =>
 doSt ((blk b2).add 1) (.int .i64 x11) w14 (fun w15 =>
 ∃ (x16 : Int), World.cell? w15 ((blk b2).add 0) = some (.int .i64 x16) ∧ (
 ∃ (x17 : Int), World.cell? w15 ((blk b2).add 1) = some (.int .i64 x17) ∧ (
 R (.returned (.tuple #[.agg #[.int .i64 x16, .int .i64 x17], .bool true])) w15)))))) (fun ch w => Kfn R ch [] w)))) (fun ch w => Kfn R ch [] w))))
set_option maxRecDepth 100000 in
theorem sh86_ok (n_1 : Option Addr) {R : Ending → World → Prop} {w : World} : sh86 n_1 R w → Calls Try.prog 86 #[.pointer n_1] w R :=
  calls_of_eq (ann := fun _ => []) (fn := Try.f86) (c := bodyOf Try.f86) (args := #[.pointer n_1]) 400 follows_mixed Try.func86 (by kernel_rfl) (by kernel_rfl)
set_option maxRecDepth 100000 in
/-- slices.Clone[[]joinery/api.Pair,joinery/api.Pair] -/
def sh87 (s_p1 : Option Addr) (s_n2 : Nat) (s_c3 : Nat) (R : Ending → World → Prop) (w : World) : Prop :=
 ifB ((s_p1 : Option Addr).isNone) (
 R (.returned (.slice none 0 0)) w) (
 doAl (.cells #[] 38) w (fun b4 w5 =>
 doGo Try.prog (.builtin .append #[33, 33] 33 #[false, false]) #[.slice (some (blk b4)) 0 0, .slice s_p1 s_n2 s_c3] w5 (retS (fun v9 w10 => ∃ (xp6 : Option Addr), ∃ (xn7 : Nat), ∃ (xc8 : Nat), v9 = (.slice xp6 xn7 xc8 : Value) ∧ (
 R (.returned (.slice xp6 xn7 xc8)) w10)) (fun ch w => Kfn R ch [] w))))
set_option maxRecDepth 100000 in
theorem sh87_ok (s_p1 : Option Addr) (s_n2 : Nat) (s_c3 : Nat) {R : Ending → World → Prop} {w : World} : sh87 s_p1 s_n2 s_c3 R w → Calls Try.prog 87 #[.slice s_p1 s_n2 s_c3] w R :=
  calls_of_eq (ann := fun _ => []) (fn := Try.f87) (c := bodyOf Try.f87) (args := #[.slice s_p1 s_n2 s_c3]) 400 follows_mixed Try.func87 (by kernel_rfl) (by kernel_rfl)
set_option maxRecDepth 100000 in
/-- slices.Delete[[]joinery/api.Pair,joinery/api.Pair] -/
def sh88 (s_p1 : Option Addr) (s_n2 : Nat) (s_c3 : Nat) (i_4 : Int) (j_5 : Int) (R : Ending → World → Prop) (w : World) : Prop :=
 doSlm s_p1 s_c3 2 (i_4) (j_5) (((s_n2 : Nat) : Int)) (fun _p6 _n7 _c8 =>
 ifB ((i_4 : Int) == j_5) (
 R (.returned (.slice s_p1 s_n2 s_c3)) w) (
 doDr w (fun w9 =>
 doSl s_p1 s_c3 2 (0) (i_4) (fun p10 n11 c12 =>
 doSl s_p1 s_c3 2 (j_5) (((s_n2 : Nat) : Int)) (fun p13 n14 c15 =>
 doGo Try.prog (.builtin .append #[33, 33] 33 #[false, false]) #[.slice p10 n11 c12, .slice p13 n14 c15] w9 (retS (fun v19 w20 => ∃ (xp16 : Option Addr), ∃ (xn17 : Nat), ∃ (xc18 : Nat), v19 = (.slice xp16 xn17 xc18 : Value) ∧ (
 doSl xp16 xc18 2 (((xn17 : Nat) : Int)) (((s_n2 : Nat) : Int)) (fun p21 n22 c23 =>
 doGo Try.prog (.builtin .clear #[33] 0 #[false]) #[.slice p21 n22 c23] w20 (retS (fun v24 w25 => v24 = (.tuple #[] : Value) ∧ (
 R (.returned (.slice xp16 xn17 xc18)) w25)) (fun ch w => Kfn R ch [] w))))) (fun ch w => Kfn R ch [] w)))))))
set_option maxRecDepth 100000 in
theorem sh88_ok (s_p1 : Option Addr) (s_n2 : Nat) (s_c3 : Nat) (i_4 : Int) (j_5 : Int) {R : Ending → World → Prop} {w : World} : sh88 s_p1 s_n2 s_c3 i_4 j_5 R w → Calls Try.prog 88 #[.slice s_p1 s_n2 s_c3, .int .i64 i_4, .int .i64 j_5] w R :=
  calls_of_eq (ann := fun _ => []) (fn := Try.f88) (c := bodyOf Try.f88) (args := #[.slice s_p1 s_n2 s_c3, .int .i64 i_4, .int .i64 j_5]) 400 follows_mixed Try.func88 (by kernel_rfl) (by kernel_rfl)
set_option maxRecDepth 100000 in
/-- joinery/fold.May -/
def sh89 (p_1 : Int) (R : Ending → World → Prop) (w : World) : Prop :=
 let K4 : Bool → World → Prop := fun (is_2 : Bool) (w3 : World) => 
 R (.returned (.bool is_2)) w3
 doCall Try.prog (.func (.func 120) #[] #[]) #[] w (retS (fun v6 w7 => ∃ (x5 : Option Nat), v6 = (.map x5 : Value) ∧ (
 doLk Try.prog 143 (.map x5) (.int .u8 p_1) true w7 (fun v12 => (∃ (xf8 : Fn), ∃ (xx9 : Array Value), ∃ (xc10 : Array Value), ∃ (x11 : Bool), v12 = (.tuple #[.agg #[.func xf8 xx9 xc10], .bool x11] : Value) ∧ (
 doAl (.cells #[.nilFunc] 141) w7 (fun b13 w14 =>
 doSt ((blk b13).add 0) (.func xf8 xx9 xc10) w14 (fun w15 =>
 K4 x11 w15)))) ∨ (v12 = (.tuple #[.agg #[.nilFunc], .bool false] : Value) ∧ (
 doAl (.cells #[.nilFunc] 141) w7 (fun b16 w17 =>
 doSt ((blk b16).add 0) (.nilFunc) w17 (fun w18 =>
 R (.returned (.bool false)) w18))))))) (fun ch w => Kfn R ch [] w))
set_option maxRecDepth 100000 in
theorem sh89_ok (p_1 : Int) {R : Ending → World → Prop} {w : World} : sh89 p_1 R w → Calls Try.prog 89 #[.int .u8 p_1] w R :=
  calls_of_eq (ann := fun _ => []) (fn := Try.f89) (c := bodyOf Try.f89) (args := #[.int .u8 p_1]) 400 follows_mixed Try.func89 (by kernel_rfl) (by kernel_rfl)
set_option maxRecDepth 100000 in
/-- slices.Insert[[]joinery/api.Pair,joinery/api.Pair] -/
def sh90 (s_p1 : Option Addr) (s_n2 : Nat) (s_c3 : Nat) (i_4 : Int) (v_p5 : Option Addr) (v_n6 : Nat) (v_c7 : Nat) (R : Ending → World → Prop) (w : World) : Prop :=
 doSl s_p1 s_c3 2 (i_4) (((s_n2 : Nat) : Int)) (fun _p8 _n9 _c10 =>
 ifB ((((v_n6 : Nat) : Int) : Int) == 0) (
 R (.returned (.slice s_p1 s_n2 s_c3)) w) (
 ifB ((i_4 : Int) == ((s_n2 : Nat) : Int)) (
 doGo Try.prog (.builtin .append #[33, 33] 33 #[false, false]) #[.slice s_p1 s_n2 s_c3, .slice v_p5 v_n6 v_c7] w (retS (fun v14 w15 => ∃ (xp11 : Option Addr), ∃ (xn12 : Nat), ∃ (xc13 : Nat), v14 = (.slice xp11 xn12 xc13 : Value) ∧ (
 R (.returned (.slice xp11 xn12 xc13)) w15)) (fun ch w => Kfn R ch [] w))) (
 doGo Try.prog (.builtin .cap #[33] 3 #[false]) #[.slice s_p1 s_n2 s_c3] w (retS (fun v17 w18 => ∃ (x16 : Int), v17 = (.int .i64 x16 : Value) ∧ (
 ifB (decide (((IntKind.wrap .i64 (((s_n2 : Nat) : Int) + ((v_n6 : Nat) : Int))) : Int) > x16)) (
 doSl s_p1 s_c3 2 (0) (i_4) (fun p19 n20 c21 =>
 doGo Try.prog (.builtin .append #[33, 3] 33 #[false, false]) #[.slice p19 n20 c21, .int .i64 (IntKind.wrap .i64 ((IntKind.wrap .i64 (((s_n2 : Nat) : Int) + ((v_n6 : Nat) : Int))) - i_4))] w18 (retS (fun v25 w26 => ∃ (xp22 : Option Addr), ∃ (xn23 : Nat), ∃ (xc24 : Nat), v25 = (.slice xp22 xn23 xc24 : Value) ∧ (
 doSl xp22 xc24 2 (i_4) (((xn23 : Nat) : Int)) (fun p27 n28 c29 =>
 doGo Try.prog (.builtin .copy #[33, 33] 3 #[false, false]) #[.slice p27 n28 c29, .slice v_p5 v_n6 v_c7] w26 (retS (fun v31 w32 => ∃ (x30 : Int), v31 = (.int .i64 x30 : Value) ∧ (
 doDr w32 (fun w33 =>
 doSl xp22 xc24 2 (IntKind.wrap .i64 (i_4 + ((v_n6 : Nat) : Int))) (((xn23 : Nat) : Int)) (fun p34 n35 c36 =>
 doSl s_p1 s_c3 2 (i_4) (((s_n2 : Nat) : Int)) (fun p37 n38 c39 =>
 doGo Try.prog (.builtin .copy #[33, 33] 3 #[false, false]) #[.slice p34 n35 c36, .slice p37 n38 c39] w33 (retS (fun v41 w42 => ∃ (x40 : Int), v41 = (.int .i64 x40 : Value) ∧ (
 R (.returned (.slice xp22 xn23 xc24)) w42)) (fun ch w => Kfn R ch [] w))))))) (fun ch w => Kfn R ch [] w))))) (fun ch w => Kfn R ch [] w)))) (
 doSl s_p1 s_c3 2 (0) (IntKind.wrap .i64 (((s_n2 : Nat) : Int) + ((v_n6 : Nat) : Int))) (fun p43 n44 c45 =>
 doSl p43 c45 2 (IntKind.wrap .i64 (i_4 + ((v_n6 : Nat) : Int))) (((n44 : Nat) : Int)) (fun p46 n47 c48 =>
 doCall Try.prog (.func (.func 121) #[] #[]) #[.slice v_p5 v_n6 v_c7, .slice p46 n47 c48] w18 (retS (fun v50 w51 => ∃ (x49 : Bool), v50 = (.bool x49 : Value) ∧ (
 ifB (!x49) (
 doDr w51 (fun w52 =>
 doSl p43 c45 2 (IntKind.wrap .i64 (i_4 + ((v_n6 : Nat) : Int))) (((n44 : Nat) : Int)) (fun p53 n54 c55 =>
 doSl p43 c45 2 (i_4) (((n44 : Nat) : Int)) (fun p56 n57 c58 =>
 doGo Try.prog (.builtin .copy #[33, 33] 3 #[false, false]) #[.slice p53 n54 c55, .slice p56 n57 c58] w52 (retS (fun v60 w61 => ∃ (x59 : Int), v60 = (.int .i64 x59 : Value) ∧ (
 doSl p43 c45 2 (i_4) (((n44 : Nat) : Int)) (fun p62 n63 c64 =>
 doGo Try.prog (.builtin .copy #[33, 33] 3 #[false, false]) #[.slice p62 n63 c64, .slice v_p5 v_n6 v_c7] w61 (retS (fun v66 w67 => ∃ (x65 : Int), v66 = (.int .i64 x65 : Value) ∧ (
 R (.returned (.slice p43 n44 c45)) w67)) (fun ch w => Kfn R ch [] w))))) (fun ch w => Kfn R ch [] w)))))) (
 doSl p43 c45 2 (((s_n2 : Nat) : Int)) (((n44 : Nat) : Int)) (fun p68 n69 c70 =>
 doGo Try.prog (.builtin .copy #[33, 33] 3 #[false, false]) #[.slice p68 n69 c70, .slice v_p5 v_n6 v_c7] w51 (retS (fun v72 w73 => ∃ (x71 : Int), v72 = (.int .i64 x71 : Value) ∧ (
 doSl p43 c45 2 (i_4) (((n44 : Nat) : Int)) (fun p74 n75 c76 =>
 doCall Try.prog (.func (.func 122) #[] #[]) #[.slice p74 n75 c76, .int .i64 ((v_n6 : Nat) : Int)] w73 (retS (fun v77 w78 => v77 = (.tuple #[] : Value) ∧ (
 R (.returned (.slice p43 n44 c45)) w78)) (fun ch w => Kfn R ch [] w))))) (fun ch w => Kfn R ch [] w)))))) (fun ch w => Kfn R ch [] w))))))) (fun ch w => Kfn R ch [] w)))))
set_option maxRecDepth 100000 in
theorem sh90_ok (s_p1 : Option Addr) (s_n2 : Nat) (s_c3 : Nat) (i_4 : Int) (v_p5 : Option Addr) (v_n6 : Nat) (v_c7 : Nat) {R : Ending → World → Prop} {w : World} : sh90 s_p1 s_n2 s_c3 i_4 v_p5 v_n6 v_c7 R w → Calls Try.prog 90 #[.slice s_p1 s_n2 s_c3, .int .i64 i_4, .slice v_p5 v_n6 v_c7] w R :=
  calls_of_eq (ann := fun _ => []) (fn := Try.f90) (c := bodyOf Try.f90) (args := #[.slice s_p1 s_n2 s_c3, .int .i64 i_4, .slice v_p5 v_n6 v_c7]) 400 follows_mixed Try.func90 (by kernel_rfl) (by kernel_rfl)
set_option maxRecDepth 100000 in
/-- joinery/fold.Combine -/
def sh91 (p_1 : Int) (a_2 : Int) (b_3 : Int) (R : Ending → World → Prop) (w : World) : Prop :=
 let K7 : Addr → Bool → World → Prop := fun (k_4 : Addr) (is_5 : Bool) (w6 : World) => 
 ifB (!is_5) (
 R (.returned (.tuple #[.int .i64 0, .int .i64 2])) w6) (
 ∃ (xf8 : Fn), ∃ (xx9 : Array Value), ∃ (xc10 : Array Value), World.cell? w6 (k_4.add 0) = some (.func xf8 xx9 xc10) ∧ (
 doCall Try.prog (.func xf8 xx9 xc10) #[.int .i64 a_2, .int .i64 b_3] w6 (retS (fun v12 w13 => ∃ (x11 : Int), v12 = (.int .i64 x11 : Value) ∧ (
 R (.returned (.tuple #[.int .i64 x11, .int .i64 0])) w13)) (fun ch w => Kfn R ch [] w))))
 doCall Try.prog (.func (.func 120) #[] #[]) #[] w (retS (fun v15 w16 => ∃ (x14 : Option Nat), v15 = (.map x14 : Value) ∧ (
 doLk Try.prog 143 (.map x14) (.int .u8 p_1) true w16 (fun v21 => (∃ (xf17 : Fn), ∃ (xx18 : Array Value), ∃ (xc19 : Array Value), ∃ (x20 : Bool), v21 = (.tuple #[.agg #[.func xf17 xx18 xc19], .bool x20] : Value) ∧ (
 doAl (.cells #[.nilFunc] 141) w16 (fun b22 w23 =>
 doSt ((blk b22).add 0) (.func xf17 xx18 xc19) w23 (fun w24 =>
 K7 (blk b22) x20 w24)))) ∨ (v21 = (.tuple #[.agg #[.nilFunc], .bool false] : Value) ∧ (
 doAl (.cells #[.nilFunc] 141) w16 (fun b25 w26 =>
 doSt ((blk b25).add 0) (.nilFunc) w26 (fun w27 =>
 K7 (blk b25) false w27))))))) (fun ch w => Kfn R ch [] w))
set_option maxRecDepth 100000 in
theorem sh91_ok (p_1 : Int) (a_2 : Int) (b_3 : Int) {R : Ending → World → Prop} {w : World} : sh91 p_1 a_2 b_3 R w → Calls Try.prog 91 #[.int .u8 p_1, .int .i64 a_2, .int .i64 b_3] w R :=
  calls_of_eq (ann := fun _ => []) (fn := Try.f91) (c := bodyOf Try.f91) (args := #[.int .u8 p_1, .int .i64 a_2, .int .i64 b_3]) 400 follows_mixed Try.func91 (by kernel_rfl) (by kernel_rfl)
set_option maxRecDepth 100000 in
/-- joinery/row.two -/
def sh92 (l_p1 : Option Addr) (l_n2 : Nat) (l_c3 : Nat) (R : Ending → World → Prop) (w : World) : Prop :=
 doAl (.cells #[.slice l_p1 l_n2 l_c3] 33) w (fun b4 w5 =>
 R (.returned (.func (.func 123) #[] #[.pointer (some (blk b4))])) w5)
set_option maxRecDepth 100000 in
theorem sh92_ok (l_p1 : Option Addr) (l_n2 : Nat) (l_c3 : Nat) {R : Ending → World → Prop} {w : World} : sh92 l_p1 l_n2 l_c3 R w → Calls Try.prog 92 #[.slice l_p1 l_n2 l_c3] w R :=
  calls_of_eq (ann := fun _ => []) (fn := Try.f92) (c := bodyOf Try.f92) (args := #[.slice l_p1 l_n2 l_c3]) 400 follows_mixed Try.func92 (by kernel_rfl) (by kernel_rfl)
end Go.Proofs.Ytinkkhcffoikmaa
