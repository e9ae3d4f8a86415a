/-
  Printed by a program (gen.py): what the functions of the program do, as formulas; each with the proof that its call is what the formula says.
-/
import Derived.Test.YtmdboekndjlmgaaGreatZ04
import Derived.Test.YtmdboekndjlmgaaGreatProg

set_option maxRecDepth 100000
set_option maxHeartbeats 6400000
namespace Go.Proofs.YtmdboekndjlmgaaGreat
open Go Go.Sh
theorem follows_mixed : Tryz.prog.follows .mixedOrders = true := by kernel_rfl
theorem ceq {f : FuncId} {fn : Func} {args : Array Value} {w : World} {R : EW} {X : Prop} (hf : Tryz.prog.funcs[f]? = some fn) (hb : fn.body = some (bodyOf fn)) (e : Old.ev Tryz.prog (fun _ => []) none (Kfn R) 400 0 (bodyOf fn) (Qfn Tryz.prog fn R) { tmps := args ++ Array.replicate (fn.ntmps - args.size) undef, defers := [] } w = X) : X → Calls Tryz.prog f args w R := Old.calls_of_eq 400 follows_mixed hf hb e
abbrev kN (R : EW) : List PanicEntry → World → Prop := fun ch w => Kfn R ch [] w
def sh7 (o_1 : Int) (l_p2 : OA) (l_n3 : Nat) (_l_c4 : Nat) (R : EW) (w : World) : Prop :=
 doCall Tryz.prog (.func (.func 16) #[] #[]) #[.int .u8 o_1] w (retS (fun v7 w8 => ∃ x5 x6, v7 = (.tuple #[.pointer x5, .int .i64 x6] : Value) ∧ (
 ∃ (I9 : List Value → World → Prop) (μ10 : List Value → World → Nat), I9 [.slice none 0 0, .int .i64 0] w8 ∧ (∀ (out_p13 : OA), ∀ (out_n14 : Nat), ∀ (out_c15 : Nat), ∀ (x16 : Int), ∀ (_j11 : Nat → Value) (w12 : World), I9 [.slice out_p13 out_n14 out_c15, .int .i64 x16] w12 → (
 ifB (decide ((x16 : Int) < ((l_n3 : Nat) : Int))) (
 let K21 : (OA) → Nat → Nat → World → Prop := fun out_p17 out_n18 out_c19 w20 => 
 I9 [.slice out_p17 out_n18 out_c19, .int .i64 (IntKind.wrap .i64 (x16 + 1))] w20 ∧ μ10 [.slice out_p17 out_n18 out_c19, .int .i64 (IntKind.wrap .i64 (x16 + 1))] w20 < μ10 [.slice out_p13 out_n14 out_c15, .int .i64 x16] w12
 doIx l_p2 l_n3 15 (x16) (fun a22 =>
 ∃ x23, w12.cell? (a22.add 0) = some (.int .u8 x23) ∧ (
 ∃ x24, w12.cell? (a22.add 1) = some (.int .i64 x24) ∧ (
 ∃ x25, w12.cell? (a22.add 2) = some (.int .i64 x25) ∧ (
 ∃ x26, w12.cell? (a22.add 3) = some (.int .i64 x26) ∧ (
 ∃ x27, w12.cell? (a22.add 4) = some (.int .i64 x27) ∧ (
 ∃ x28, w12.cell? (a22.add 5) = some (.int .i64 x28) ∧ (
 ∃ x29, w12.cell? (a22.add 6) = some (.int .i64 x29) ∧ (
 ∃ x30, w12.cell? (a22.add 7) = some (.int .i64 x30) ∧ (
 ∃ x31, w12.cell? (a22.add 8) = some (.int .u8 x31) ∧ (
 ∃ x32, w12.cell? (a22.add 9) = some (.int .u8 x32) ∧ (
 ∃ x33, w12.cell? (a22.add 10) = some (.int .i64 x33) ∧ (
 ∃ x34, w12.cell? (a22.add 11) = some (.int .i64 x34) ∧ (
 ∃ x35, w12.cell? (a22.add 12) = some (.bool x35) ∧ (
 ∃ xp36 xn37 xc38, w12.cell? (a22.add 13) = some (.slice xp36 xn37 xc38) ∧ (
 ∃ xp39 xn40 xc41, w12.cell? (a22.add 14) = some (.slice xp39 xn40 xc41) ∧ (
 doAl (.cells #[.int .u8 0, .int .i64 0, .int .i64 0, .int .i64 0, .int .i64 0, .int .i64 0, .int .i64 0, .int .i64 0, .int .u8 0, .int .u8 0, .int .i64 0, .int .i64 0, .bool false, .slice none 0 0, .slice none 0 0] 30) w12 (fun b42 w43 =>
 doSt ((blk b42).add 0) (.int .u8 x23) w43 (fun w44 =>
 doSt ((blk b42).add 1) (.int .i64 x24) w44 (fun w45 =>
 doSt ((blk b42).add 2) (.int .i64 x25) w45 (fun w46 =>
 doSt ((blk b42).add 3) (.int .i64 x26) w46 (fun w47 =>
 doSt ((blk b42).add 4) (.int .i64 x27) w47 (fun w48 =>
 doSt ((blk b42).add 5) (.int .i64 x28) w48 (fun w49 =>
 doSt ((blk b42).add 6) (.int .i64 x29) w49 (fun w50 =>
 doSt ((blk b42).add 7) (.int .i64 x30) w50 (fun w51 =>
 doSt ((blk b42).add 8) (.int .u8 x31) w51 (fun w52 =>
 doSt ((blk b42).add 9) (.int .u8 x32) w52 (fun w53 =>
 doSt ((blk b42).add 10) (.int .i64 x33) w53 (fun w54 =>
 doSt ((blk b42).add 11) (.int .i64 x34) w54 (fun w55 =>
 doSt ((blk b42).add 12) (.bool x35) w55 (fun w56 =>
 doSt ((blk b42).add 13) (.slice xp36 xn37 xc38) w56 (fun w57 =>
 doSt ((blk b42).add 14) (.slice xp39 xn40 xc41) w57 (fun w58 =>
 ifB ((x6 : Int) != 0) (
 doAl (.cells #[.int .i64 x6, .bool false, .int .i64 0, .int .i64 0, .int .i64 0, .slice none 0 0, .slice none 0 0] 34) w58 (fun b59 w60 =>
 doGo Tryz.prog (.builtin .append #[24, 24] 24 #[false, false]) #[.slice out_p13 out_n14 out_c15, .slice (some (blk b59)) 1 1] w60 (retS (fun v64 w65 => ∃ xp61 xn62 xc63, v64 = (.slice xp61 xn62 xc63 : Value) ∧ (
 K21 xp61 xn62 xc63 w65)) (kN R)))) (
 ∃ x66, w58.cell? ((blk b42).add 0) = some (.int .u8 x66) ∧ (
 ∃ x67, w58.cell? ((blk b42).add 1) = some (.int .i64 x67) ∧ (
 ∃ x68, w58.cell? ((blk b42).add 2) = some (.int .i64 x68) ∧ (
 ∃ x69, w58.cell? ((blk b42).add 3) = some (.int .i64 x69) ∧ (
 ∃ x70, w58.cell? ((blk b42).add 4) = some (.int .i64 x70) ∧ (
 ∃ x71, w58.cell? ((blk b42).add 5) = some (.int .i64 x71) ∧ (
 ∃ x72, w58.cell? ((blk b42).add 6) = some (.int .i64 x72) ∧ (
 ∃ x73, w58.cell? ((blk b42).add 7) = some (.int .i64 x73) ∧ (
 ∃ x74, w58.cell? ((blk b42).add 8) = some (.int .u8 x74) ∧ (
 ∃ x75, w58.cell? ((blk b42).add 9) = some (.int .u8 x75) ∧ (
 ∃ x76, w58.cell? ((blk b42).add 10) = some (.int .i64 x76) ∧ (
 ∃ x77, w58.cell? ((blk b42).add 11) = some (.int .i64 x77) ∧ (
 ∃ x78, w58.cell? ((blk b42).add 12) = some (.bool x78) ∧ (
 ∃ xp79 xn80 xc81, w58.cell? ((blk b42).add 13) = some (.slice xp79 xn80 xc81) ∧ (
 ∃ xp82 xn83 xc84, w58.cell? ((blk b42).add 14) = some (.slice xp82 xn83 xc84) ∧ (
 doCall Tryz.prog (.func (.func 12) #[] #[]) #[.pointer x5, .agg #[.int .u8 x66, .int .i64 x67, .int .i64 x68, .int .i64 x69, .int .i64 x70, .int .i64 x71, .int .i64 x72, .int .i64 x73, .int .u8 x74, .int .u8 x75, .int .i64 x76, .int .i64 x77, .bool x78, .slice xp79 xn80 xc81, .slice xp82 xn83 xc84]] w58 (retS (fun v96 w97 => ∃ x85 x86 x87 x88 x89 xp90 xn91 xc92 xp93 xn94 xc95, v96 = (.agg #[.int .i64 x85, .bool x86, .int .i64 x87, .int .i64 x88, .int .i64 x89, .slice xp90 xn91 xc92, .slice xp93 xn94 xc95] : Value) ∧ (
 doAl (.cells #[.int .i64 x85, .bool x86, .int .i64 x87, .int .i64 x88, .int .i64 x89, .slice xp90 xn91 xc92, .slice xp93 xn94 xc95] 34) w97 (fun b98 w99 =>
 doGo Tryz.prog (.builtin .append #[24, 24] 24 #[false, false]) #[.slice out_p13 out_n14 out_c15, .slice (some (blk b98)) 1 1] w99 (retS (fun v103 w104 => ∃ xp100 xn101 xc102, v103 = (.slice xp100 xn101 xc102 : Value) ∧ (
 K21 xp100 xn101 xc102 w104)) (kN R))))) (kN R))))))))))))))))))))))))))))))))))))))))))))))))))) (
 R (.returned (.slice out_p13 out_n14 out_c15)) w12))))) (kN R))
theorem sh7_ok (o_1 : Int) (l_p2 : OA) (l_n3 : Nat) (l_c4 : Nat) {R : EW} {w : World} : sh7 o_1 l_p2 l_n3 l_c4 R w → Calls Tryz.prog 7 #[.int .u8 o_1, .slice l_p2 l_n3 l_c4] w R :=
  Old.calls_of_eq (ann := fun i => if i = 0 then [(4, .slice none 0 0), (16, .int .i64 0)] else []) (fn := Tryz.f7) (c := bodyOf Tryz.f7) (args := #[.int .u8 o_1, .slice l_p2 l_n3 l_c4]) 400 follows_mixed Tryz.func7 (by kernel_rfl) (by kernel_rfl)
def sh8 (a_p1 : OA) (a_n2 : Nat) (_a_c3 : Nat) (b_p4 : OA) (b_n5 : Nat) (_b_c6 : Nat) (R : EW) (w : World) : Prop :=
 ifB ((((a_n2 : Nat) : Int) : Int) != ((b_n5 : Nat) : Int)) (
 R (.returned (.bool false)) w) (
 ∃ (I7 : List Value → World → Prop) (μ8 : List Value → World → Nat), I7 [.int .i64 0] w ∧ (∀ (i_11 : Int), ∀ (_j9 : Nat → Value) (w10 : World), I7 [.int .i64 i_11] w10 → (
 ifB (decide ((i_11 : Int) < ((a_n2 : Nat) : Int))) (
 doDr w10 (fun w13 =>
 ∃ (C12 : World → Prop), C12 w13 ∧ (
 doIx a_p1 a_n2 2 (i_11) (fun a14 =>
 ∃ x15, (∀ w, C12 w → w.cell? (a14.add 0) = some (.int .i64 x15)) ∧ (
 ∃ x16, (∀ w, C12 w → w.cell? (a14.add 1) = some (.int .i64 x16)) ∧ (
 doIx b_p4 b_n5 2 (i_11) (fun a17 =>
 ∃ x18, (∀ w, C12 w → w.cell? (a17.add 0) = some (.int .i64 x18)) ∧ (
 ∃ x19, (∀ w, C12 w → w.cell? (a17.add 1) = some (.int .i64 x19)) ∧ (
 ifB (!(((x15 : Int) == x18) && (((x16 : Int) == x19) && true))) (
 R (.returned (.bool false)) w13) (
 I7 [.int .i64 (IntKind.wrap .i64 (i_11 + 1))] w13 ∧ μ8 [.int .i64 (IntKind.wrap .i64 (i_11 + 1))] w13 < μ8 [.int .i64 i_11] w10)))))))))) (
 R (.returned (.bool true)) w10))))
theorem sh8_ok (a_p1 : OA) (a_n2 : Nat) (a_c3 : Nat) (b_p4 : OA) (b_n5 : Nat) (b_c6 : Nat) {R : EW} {w : World} : sh8 a_p1 a_n2 a_c3 b_p4 b_n5 b_c6 R w → Calls Tryz.prog 8 #[.slice a_p1 a_n2 a_c3, .slice b_p4 b_n5 b_c6] w R :=
  Old.calls_of_eq (ann := fun i => if i = 0 then [(5, .int .i64 0)] else []) (fn := Tryz.f8) (c := bodyOf Tryz.f8) (args := #[.slice a_p1 a_n2 a_c3, .slice b_p4 b_n5 b_c6]) 400 follows_mixed Tryz.func8 (by kernel_rfl) (by kernel_rfl)
def sh11 (b_1 : OA) (n_2 : Int) (R : EW) (w : World) : Prop :=
 let K5 : Bool → World → Prop := fun x3 w4 => 
 ifB x3 (
 R (.returned (.tuple #[.slice none 0 0, .bool false])) w4) (
 ∃ q6, b_1 = some q6 ∧ (
 ∃ xp7 xn8 xc9, w4.cell? (q6.add 1) = some (.slice xp7 xn8 xc9) ∧ (
 doIx xp7 xn8 1 (n_2) (fun a10 =>
 ∃ xp11 xn12 xc13, w4.cell? a10 = some (.slice xp11 xn12 xc13) ∧ (
 doCall Tryz.prog (.func (.func 27) #[] #[]) #[.slice xp11 xn12 xc13] w4 (retS (fun v17 w18 => ∃ xp14 xn15 xc16, v17 = (.slice xp14 xn15 xc16 : Value) ∧ (
 R (.returned (.tuple #[.slice xp14 xn15 xc16, .bool true])) w18)) (kN R)))))))
 ifB ((b_1).isNone) (
 R (.returned (.tuple #[.slice none 0 0, .bool false])) w) (
 doCall Tryz.prog (.func (.func 26) #[] #[]) #[.pointer b_1, .int .i64 n_2] w (retS (fun v20 w21 => ∃ x19, v20 = (.bool x19 : Value) ∧ (
 K5 (!x19) w21)) (kN R)))
theorem sh11_ok (b_1 : OA) (n_2 : Int) {R : EW} {w : World} : sh11 b_1 n_2 R w → Calls Tryz.prog 11 #[.pointer b_1, .int .i64 n_2] w R :=
  ceq Tryz.func11 (by kernel_rfl) (by kernel_rfl)
def sh12 (b_1 : OA) (x_2 : Int) (x_3 : Int) (x_4 : Int) (x_5 : Int) (x_6 : Int) (x_7 : Int) (x_8 : Int) (x_9 : Int) (x_10 : Int) (x_11 : Int) (x_12 : Int) (x_13 : Int) (x_14 : Bool) (x_p15 : OA) (x_n16 : Nat) (x_c17 : Nat) (x_p18 : OA) (x_n19 : Nat) (x_c20 : Nat) (R : EW) (w : World) : Prop :=
 doAl (.cells #[.int .u8 x_2, .int .i64 x_3, .int .i64 x_4, .int .i64 x_5, .int .i64 x_6, .int .i64 x_7, .int .i64 x_8, .int .i64 x_9, .int .u8 x_10, .int .u8 x_11, .int .i64 x_12, .int .i64 x_13, .bool x_14, .slice x_p15 x_n16 x_c17, .slice x_p18 x_n19 x_c20] 30) w (fun b21 w22 =>
 doAl (.cells #[.int .i64 0, .bool false, .int .i64 0, .int .i64 0, .int .i64 0, .slice none 0 0, .slice none 0 0] 34) w22 (fun b23 w24 =>
 ifB ((b_1).isNone) (
 doSt ((blk b23).add 0) (.int .i64 1) w24 (fun w25 =>
 doSt ((blk b23).add 1) (.bool false) w25 (fun w26 =>
 doSt ((blk b23).add 2) (.int .i64 0) w26 (fun w27 =>
 doSt ((blk b23).add 3) (.int .i64 0) w27 (fun w28 =>
 doSt ((blk b23).add 4) (.int .i64 0) w28 (fun w29 =>
 doSt ((blk b23).add 5) (.slice none 0 0) w29 (fun w30 =>
 doSt ((blk b23).add 6) (.slice none 0 0) w30 (fun w31 =>
 ∃ x32, w31.cell? ((blk b23).add 0) = some (.int .i64 x32) ∧ (
 ∃ x33, w31.cell? ((blk b23).add 1) = some (.bool x33) ∧ (
 ∃ x34, w31.cell? ((blk b23).add 2) = some (.int .i64 x34) ∧ (
 ∃ x35, w31.cell? ((blk b23).add 3) = some (.int .i64 x35) ∧ (
 ∃ x36, w31.cell? ((blk b23).add 4) = some (.int .i64 x36) ∧ (
 ∃ xp37 xn38 xc39, w31.cell? ((blk b23).add 5) = some (.slice xp37 xn38 xc39) ∧ (
 ∃ xp40 xn41 xc42, w31.cell? ((blk b23).add 6) = some (.slice xp40 xn41 xc42) ∧ (
 R (.returned (.agg #[.int .i64 x32, .bool x33, .int .i64 x34, .int .i64 x35, .int .i64 x36, .slice xp37 xn38 xc39, .slice xp40 xn41 xc42])) w31))))))))))))))) (
 let K45 : Addr → World → Prop := fun k_43 w44 => 
 let K48 : Int → World → Prop := fun e_46 w47 => 
 ifB ((e_46 : Int) != 0) (
 doSt ((blk b23).add 0) (.int .i64 e_46) w47 (fun w49 =>
 doSt ((blk b23).add 1) (.bool false) w49 (fun w50 =>
 doSt ((blk b23).add 2) (.int .i64 0) w50 (fun w51 =>
 doSt ((blk b23).add 3) (.int .i64 0) w51 (fun w52 =>
 doSt ((blk b23).add 4) (.int .i64 0) w52 (fun w53 =>
 doSt ((blk b23).add 5) (.slice none 0 0) w53 (fun w54 =>
 doSt ((blk b23).add 6) (.slice none 0 0) w54 (fun w55 =>
 ∃ x56, w55.cell? ((blk b23).add 0) = some (.int .i64 x56) ∧ (
 ∃ x57, w55.cell? ((blk b23).add 1) = some (.bool x57) ∧ (
 ∃ x58, w55.cell? ((blk b23).add 2) = some (.int .i64 x58) ∧ (
 ∃ x59, w55.cell? ((blk b23).add 3) = some (.int .i64 x59) ∧ (
 ∃ x60, w55.cell? ((blk b23).add 4) = some (.int .i64 x60) ∧ (
 ∃ xp61 xn62 xc63, w55.cell? ((blk b23).add 5) = some (.slice xp61 xn62 xc63) ∧ (
 ∃ xp64 xn65 xc66, w55.cell? ((blk b23).add 6) = some (.slice xp64 xn65 xc66) ∧ (
 R (.returned (.agg #[.int .i64 x56, .bool x57, .int .i64 x58, .int .i64 x59, .int .i64 x60, .slice xp61 xn62 xc63, .slice xp64 xn65 xc66])) w55))))))))))))))) (
 let K68 : World → Prop := fun w67 => 
 ∃ x69, w67.cell? ((blk b23).add 0) = some (.int .i64 x69) ∧ (
 ∃ x70, w67.cell? ((blk b23).add 1) = some (.bool x70) ∧ (
 ∃ x71, w67.cell? ((blk b23).add 2) = some (.int .i64 x71) ∧ (
 ∃ x72, w67.cell? ((blk b23).add 3) = some (.int .i64 x72) ∧ (
 ∃ x73, w67.cell? ((blk b23).add 4) = some (.int .i64 x73) ∧ (
 ∃ xp74 xn75 xc76, w67.cell? ((blk b23).add 5) = some (.slice xp74 xn75 xc76) ∧ (
 ∃ xp77 xn78 xc79, w67.cell? ((blk b23).add 6) = some (.slice xp77 xn78 xc79) ∧ (
 R (.returned (.agg #[.int .i64 x69, .bool x70, .int .i64 x71, .int .i64 x72, .int .i64 x73, .slice xp74 xn75 xc76, .slice xp77 xn78 xc79])) w67)))))))
 doDr w47 (fun w81 =>
 ∃ (C80 : World → Prop), C80 w81 ∧ (
 (∃ xf82 xx83 xc84, (∀ w, C80 w → w.cell? (k_43.add 4) = some (.func xf82 xx83 xc84)) ∧ (
 ∃ x85, (∀ w, C80 w → w.cell? ((blk b21).add 0) = some (.int .u8 x85)) ∧ (
 ∃ x86, (∀ w, C80 w → w.cell? ((blk b21).add 1) = some (.int .i64 x86)) ∧ (
 ∃ x87, (∀ w, C80 w → w.cell? ((blk b21).add 2) = some (.int .i64 x87)) ∧ (
 ∃ x88, (∀ w, C80 w → w.cell? ((blk b21).add 3) = some (.int .i64 x88)) ∧ (
 ∃ x89, (∀ w, C80 w → w.cell? ((blk b21).add 4) = some (.int .i64 x89)) ∧ (
 ∃ x90, (∀ w, C80 w → w.cell? ((blk b21).add 5) = some (.int .i64 x90)) ∧ (
 ∃ x91, (∀ w, C80 w → w.cell? ((blk b21).add 6) = some (.int .i64 x91)) ∧ (
 ∃ x92, (∀ w, C80 w → w.cell? ((blk b21).add 7) = some (.int .i64 x92)) ∧ (
 ∃ x93, (∀ w, C80 w → w.cell? ((blk b21).add 8) = some (.int .u8 x93)) ∧ (
 ∃ x94, (∀ w, C80 w → w.cell? ((blk b21).add 9) = some (.int .u8 x94)) ∧ (
 ∃ x95, (∀ w, C80 w → w.cell? ((blk b21).add 10) = some (.int .i64 x95)) ∧ (
 ∃ x96, (∀ w, C80 w → w.cell? ((blk b21).add 11) = some (.int .i64 x96)) ∧ (
 ∃ x97, (∀ w, C80 w → w.cell? ((blk b21).add 12) = some (.bool x97)) ∧ (
 ∃ xp98 xn99 xc100, (∀ w, C80 w → w.cell? ((blk b21).add 13) = some (.slice xp98 xn99 xc100)) ∧ (
 ∃ xp101 xn102 xc103, (∀ w, C80 w → w.cell? ((blk b21).add 14) = some (.slice xp101 xn102 xc103)) ∧ (
 ∃ q104, b_1 = some q104 ∧ (
 ∃ xp105 xn106 xc107, (∀ w, C80 w → w.cell? (q104.add 1) = some (.slice xp105 xn106 xc107)) ∧ (
 ∃ x108, (∀ w, C80 w → w.cell? ((blk b21).add 1) = some (.int .i64 x108)) ∧ (
 doIx xp105 xn106 1 (x108) (fun a109 =>
 ∃ xp110 xn111 xc112, (∀ w, C80 w → w.cell? a109 = some (.slice xp110 xn111 xc112)) ∧ (
 ∃ q113, b_1 = some q113 ∧ (
 ∃ xp114 xn115 xc116, (∀ w, C80 w → w.cell? (q113.add 1) = some (.slice xp114 xn115 xc116)) ∧ (
 ∃ x117, (∀ w, C80 w → w.cell? ((blk b21).add 2) = some (.int .i64 x117)) ∧ (
 doIx xp114 xn115 1 (x117) (fun a118 =>
 ∃ xp119 xn120 xc121, (∀ w, C80 w → w.cell? a118 = some (.slice xp119 xn120 xc121)) ∧ (
 doCall Tryz.prog (.func xf82 xx83 xc84) #[.agg #[.int .u8 x85, .int .i64 x86, .int .i64 x87, .int .i64 x88, .int .i64 x89, .int .i64 x90, .int .i64 x91, .int .i64 x92, .int .u8 x93, .int .u8 x94, .int .i64 x95, .int .i64 x96, .bool x97, .slice xp98 xn99 xc100, .slice xp101 xn102 xc103], .slice xp110 xn111 xc112, .slice xp119 xn120 xc121] w81 (retS (fun v133 w134 => ∃ x122 x123 x124 x125 x126 xp127 xn128 xc129 xp130 xn131 xc132, v133 = (.agg #[.int .i64 x122, .bool x123, .int .i64 x124, .int .i64 x125, .int .i64 x126, .slice xp127 xn128 xc129, .slice xp130 xn131 xc132] : Value) ∧ (
 doSt ((blk b23).add 0) (.int .i64 x122) w134 (fun w135 =>
 doSt ((blk b23).add 1) (.bool x123) w135 (fun w136 =>
 doSt ((blk b23).add 2) (.int .i64 x124) w136 (fun w137 =>
 doSt ((blk b23).add 3) (.int .i64 x125) w137 (fun w138 =>
 doSt ((blk b23).add 4) (.int .i64 x126) w138 (fun w139 =>
 doSt ((blk b23).add 5) (.slice xp127 xn128 xc129) w139 (fun w140 =>
 doSt ((blk b23).add 6) (.slice xp130 xn131 xc132) w140 (fun w141 =>
 K68 w141))))))))) (kN R))))))))))))))))))))))))))))) ∨ ((∀ w, C80 w → w.cell? (k_43.add 4) = some (.nilFunc)) ∧ (
 ∃ x142, (∀ w, C80 w → w.cell? ((blk b21).add 0) = some (.int .u8 x142)) ∧ (
 ∃ x143, (∀ w, C80 w → w.cell? ((blk b21).add 1) = some (.int .i64 x143)) ∧ (
 ∃ x144, (∀ w, C80 w → w.cell? ((blk b21).add 2) = some (.int .i64 x144)) ∧ (
 ∃ x145, (∀ w, C80 w → w.cell? ((blk b21).add 3) = some (.int .i64 x145)) ∧ (
 ∃ x146, (∀ w, C80 w → w.cell? ((blk b21).add 4) = some (.int .i64 x146)) ∧ (
 ∃ x147, (∀ w, C80 w → w.cell? ((blk b21).add 5) = some (.int .i64 x147)) ∧ (
 ∃ x148, (∀ w, C80 w → w.cell? ((blk b21).add 6) = some (.int .i64 x148)) ∧ (
 ∃ x149, (∀ w, C80 w → w.cell? ((blk b21).add 7) = some (.int .i64 x149)) ∧ (
 ∃ x150, (∀ w, C80 w → w.cell? ((blk b21).add 8) = some (.int .u8 x150)) ∧ (
 ∃ x151, (∀ w, C80 w → w.cell? ((blk b21).add 9) = some (.int .u8 x151)) ∧ (
 ∃ x152, (∀ w, C80 w → w.cell? ((blk b21).add 10) = some (.int .i64 x152)) ∧ (
 ∃ x153, (∀ w, C80 w → w.cell? ((blk b21).add 11) = some (.int .i64 x153)) ∧ (
 ∃ x154, (∀ w, C80 w → w.cell? ((blk b21).add 12) = some (.bool x154)) ∧ (
 ∃ xp155 xn156 xc157, (∀ w, C80 w → w.cell? ((blk b21).add 13) = some (.slice xp155 xn156 xc157)) ∧ (
 ∃ xp158 xn159 xc160, (∀ w, C80 w → w.cell? ((blk b21).add 14) = some (.slice xp158 xn159 xc160)) ∧ (
 ∃ q161, b_1 = some q161 ∧ (
 ∃ xp162 xn163 xc164, (∀ w, C80 w → w.cell? (q161.add 1) = some (.slice xp162 xn163 xc164)) ∧ (
 ∃ x165, (∀ w, C80 w → w.cell? ((blk b21).add 1) = some (.int .i64 x165)) ∧ (
 doIx xp162 xn163 1 (x165) (fun a166 =>
 ∃ xp167 xn168 xc169, (∀ w, C80 w → w.cell? a166 = some (.slice xp167 xn168 xc169)) ∧ (
 ∃ q170, b_1 = some q170 ∧ (
 ∃ xp171 xn172 xc173, (∀ w, C80 w → w.cell? (q170.add 1) = some (.slice xp171 xn172 xc173)) ∧ (
 ∃ x174, (∀ w, C80 w → w.cell? ((blk b21).add 2) = some (.int .i64 x174)) ∧ (
 doIx xp171 xn172 1 (x174) (fun a175 =>
 ∃ xp176 xn177 xc178, (∀ w, C80 w → w.cell? a175 = some (.slice xp176 xn177 xc178)) ∧ (
 doCall Tryz.prog (.nilFunc) #[.agg #[.int .u8 x142, .int .i64 x143, .int .i64 x144, .int .i64 x145, .int .i64 x146, .int .i64 x147, .int .i64 x148, .int .i64 x149, .int .u8 x150, .int .u8 x151, .int .i64 x152, .int .i64 x153, .bool x154, .slice xp155 xn156 xc157, .slice xp158 xn159 xc160], .slice xp167 xn168 xc169, .slice xp176 xn177 xc178] w81 (retS (fun v190 w191 => ∃ x179 x180 x181 x182 x183 xp184 xn185 xc186 xp187 xn188 xc189, v190 = (.agg #[.int .i64 x179, .bool x180, .int .i64 x181, .int .i64 x182, .int .i64 x183, .slice xp184 xn185 xc186, .slice xp187 xn188 xc189] : Value) ∧ (
 doSt ((blk b23).add 0) (.int .i64 x179) w191 (fun w192 =>
 doSt ((blk b23).add 1) (.bool x180) w192 (fun w193 =>
 doSt ((blk b23).add 2) (.int .i64 x181) w193 (fun w194 =>
 doSt ((blk b23).add 3) (.int .i64 x182) w194 (fun w195 =>
 doSt ((blk b23).add 4) (.int .i64 x183) w195 (fun w196 =>
 doSt ((blk b23).add 5) (.slice xp184 xn185 xc186) w196 (fun w197 =>
 doSt ((blk b23).add 6) (.slice xp187 xn188 xc189) w197 (fun w198 =>
 K68 w198))))))))) (kN R))))))))))))))))))))))))))))))))
 ∃ x199, w44.cell? ((blk b21).add 0) = some (.int .u8 x199) ∧ (
 ∃ x200, w44.cell? ((blk b21).add 1) = some (.int .i64 x200) ∧ (
 ∃ x201, w44.cell? ((blk b21).add 2) = some (.int .i64 x201) ∧ (
 ∃ x202, w44.cell? ((blk b21).add 3) = some (.int .i64 x202) ∧ (
 ∃ x203, w44.cell? ((blk b21).add 4) = some (.int .i64 x203) ∧ (
 ∃ x204, w44.cell? ((blk b21).add 5) = some (.int .i64 x204) ∧ (
 ∃ x205, w44.cell? ((blk b21).add 6) = some (.int .i64 x205) ∧ (
 ∃ x206, w44.cell? ((blk b21).add 7) = some (.int .i64 x206) ∧ (
 ∃ x207, w44.cell? ((blk b21).add 8) = some (.int .u8 x207) ∧ (
 ∃ x208, w44.cell? ((blk b21).add 9) = some (.int .u8 x208) ∧ (
 ∃ x209, w44.cell? ((blk b21).add 10) = some (.int .i64 x209) ∧ (
 ∃ x210, w44.cell? ((blk b21).add 11) = some (.int .i64 x210) ∧ (
 ∃ x211, w44.cell? ((blk b21).add 12) = some (.bool x211) ∧ (
 ∃ xp212 xn213 xc214, w44.cell? ((blk b21).add 13) = some (.slice xp212 xn213 xc214) ∧ (
 ∃ xp215 xn216 xc217, w44.cell? ((blk b21).add 14) = some (.slice xp215 xn216 xc217) ∧ (
 ∃ x218, w44.cell? (k_43.add 0) = some (.int .i64 x218) ∧ (
 ∃ x219, w44.cell? (k_43.add 1) = some (.bool x219) ∧ (
 ∃ x220, w44.cell? (k_43.add 2) = some (.bool x220) ∧ (
 ∃ x221, w44.cell? (k_43.add 3) = some (.bool x221) ∧ (
 (∃ xf222 xx223 xc224, w44.cell? (k_43.add 4) = some (.func xf222 xx223 xc224) ∧ (
 doCall Tryz.prog (.func (.func 29) #[] #[]) #[.pointer b_1, .agg #[.int .u8 x199, .int .i64 x200, .int .i64 x201, .int .i64 x202, .int .i64 x203, .int .i64 x204, .int .i64 x205, .int .i64 x206, .int .u8 x207, .int .u8 x208, .int .i64 x209, .int .i64 x210, .bool x211, .slice xp212 xn213 xc214, .slice xp215 xn216 xc217], .agg #[.int .i64 x218, .bool x219, .bool x220, .bool x221, .func xf222 xx223 xc224]] w44 (retS (fun v226 w227 => ∃ x225, v226 = (.int .i64 x225 : Value) ∧ (
 K48 x225 w227)) (kN R)))) ∨ (w44.cell? (k_43.add 4) = some (.nilFunc) ∧ (
 doCall Tryz.prog (.func (.func 29) #[] #[]) #[.pointer b_1, .agg #[.int .u8 x199, .int .i64 x200, .int .i64 x201, .int .i64 x202, .int .i64 x203, .int .i64 x204, .int .i64 x205, .int .i64 x206, .int .u8 x207, .int .u8 x208, .int .i64 x209, .int .i64 x210, .bool x211, .slice xp212 xn213 xc214, .slice xp215 xn216 xc217], .agg #[.int .i64 x218, .bool x219, .bool x220, .bool x221, .nilFunc]] w44 (retS (fun v229 w230 => ∃ x228, v229 = (.int .i64 x228 : Value) ∧ (
 K48 x228 w230)) (kN R)))))))))))))))))))))))
 doDr w24 (fun w232 =>
 ∃ (C231 : World → Prop), C231 w232 ∧ (
 ∃ x233, (∀ w, C231 w → w.cell? ((blk b21).add 0) = some (.int .u8 x233)) ∧ (
 (doCall Tryz.prog (.func (.func 28) #[] #[]) #[.pointer b_1] w232 (retS (fun v235 w236 => ∃ x234, v235 = (.map x234 : Value) ∧ (
 C231 w236 ∧ (
 (doLk Tryz.prog 74 (.map x234) (.int .u8 x233) false w236 (fun v244 => (∃ x237 x238 x239 x240 xf241 xx242 xc243, v244 = (.agg #[.int .i64 x237, .bool x238, .bool x239, .bool x240, .func xf241 xx242 xc243] : Value) ∧ (
 doAl (.cells #[.int .i64 0, .bool false, .bool false, .bool false, .nilFunc] 73) w236 (fun b245 w246 =>
 C231 w246 ∧ (
 doSt ((blk b245).add 0) (.int .i64 x237) w246 (fun w247 =>
 doSt ((blk b245).add 1) (.bool x238) w247 (fun w248 =>
 doSt ((blk b245).add 2) (.bool x239) w248 (fun w249 =>
 doSt ((blk b245).add 3) (.bool x240) w249 (fun w250 =>
 doSt ((blk b245).add 4) (.func xf241 xx242 xc243) w250 (fun w251 =>
 K45 (blk b245) w251))))))))) ∨ (v244 = (.agg #[.int .i64 0, .bool false, .bool false, .bool false, .nilFunc] : Value) ∧ (
 doAl (.cells #[.int .i64 0, .bool false, .bool false, .bool false, .nilFunc] 73) w236 (fun b252 w253 =>
 C231 w253 ∧ (
 doSt ((blk b252).add 0) (.int .i64 0) w253 (fun w254 =>
 doSt ((blk b252).add 1) (.bool false) w254 (fun w255 =>
 doSt ((blk b252).add 2) (.bool false) w255 (fun w256 =>
 doSt ((blk b252).add 3) (.bool false) w256 (fun w257 =>
 doSt ((blk b252).add 4) (.nilFunc) w257 (fun w258 =>
 K45 (blk b252) w258))))))))))) ∧ (doAl (.cells #[.int .i64 0, .bool false, .bool false, .bool false, .nilFunc] 73) w236 (fun b259 w260 =>
 C231 w260 ∧ (
 doLk Tryz.prog 74 (.map x234) (.int .u8 x233) false w260 (fun v268 => (∃ x261 x262 x263 x264 xf265 xx266 xc267, v268 = (.agg #[.int .i64 x261, .bool x262, .bool x263, .bool x264, .func xf265 xx266 xc267] : Value) ∧ (
 doSt ((blk b259).add 0) (.int .i64 x261) w260 (fun w269 =>
 doSt ((blk b259).add 1) (.bool x262) w269 (fun w270 =>
 doSt ((blk b259).add 2) (.bool x263) w270 (fun w271 =>
 doSt ((blk b259).add 3) (.bool x264) w271 (fun w272 =>
 doSt ((blk b259).add 4) (.func xf265 xx266 xc267) w272 (fun w273 =>
 K45 (blk b259) w273))))))) ∨ (v268 = (.agg #[.int .i64 0, .bool false, .bool false, .bool false, .nilFunc] : Value) ∧ (
 doSt ((blk b259).add 0) (.int .i64 0) w260 (fun w274 =>
 doSt ((blk b259).add 1) (.bool false) w274 (fun w275 =>
 doSt ((blk b259).add 2) (.bool false) w275 (fun w276 =>
 doSt ((blk b259).add 3) (.bool false) w276 (fun w277 =>
 doSt ((blk b259).add 4) (.nilFunc) w277 (fun w278 =>
 K45 (blk b259) w278)))))))))))))) (kN R))) ∧ (doAl (.cells #[.int .i64 0, .bool false, .bool false, .bool false, .nilFunc] 73) w232 (fun b279 w280 =>
 C231 w280 ∧ (
 doCall Tryz.prog (.func (.func 28) #[] #[]) #[.pointer b_1] w280 (retS (fun v282 w283 => ∃ x281, v282 = (.map x281 : Value) ∧ (
 C231 w283 ∧ (
 doLk Tryz.prog 74 (.map x281) (.int .u8 x233) false w283 (fun v291 => (∃ x284 x285 x286 x287 xf288 xx289 xc290, v291 = (.agg #[.int .i64 x284, .bool x285, .bool x286, .bool x287, .func xf288 xx289 xc290] : Value) ∧ (
 doSt ((blk b279).add 0) (.int .i64 x284) w283 (fun w292 =>
 doSt ((blk b279).add 1) (.bool x285) w292 (fun w293 =>
 doSt ((blk b279).add 2) (.bool x286) w293 (fun w294 =>
 doSt ((blk b279).add 3) (.bool x287) w294 (fun w295 =>
 doSt ((blk b279).add 4) (.func xf288 xx289 xc290) w295 (fun w296 =>
 K45 (blk b279) w296))))))) ∨ (v291 = (.agg #[.int .i64 0, .bool false, .bool false, .bool false, .nilFunc] : Value) ∧ (
 doSt ((blk b279).add 0) (.int .i64 0) w283 (fun w297 =>
 doSt ((blk b279).add 1) (.bool false) w297 (fun w298 =>
 doSt ((blk b279).add 2) (.bool false) w298 (fun w299 =>
 doSt ((blk b279).add 3) (.bool false) w299 (fun w300 =>
 doSt ((blk b279).add 4) (.nilFunc) w300 (fun w301 =>
 K45 (blk b279) w301))))))))))) (kN R)))))))))))
theorem sh12_ok (b_1 : OA) (x_2 : Int) (x_3 : Int) (x_4 : Int) (x_5 : Int) (x_6 : Int) (x_7 : Int) (x_8 : Int) (x_9 : Int) (x_10 : Int) (x_11 : Int) (x_12 : Int) (x_13 : Int) (x_14 : Bool) (x_p15 : OA) (x_n16 : Nat) (x_c17 : Nat) (x_p18 : OA) (x_n19 : Nat) (x_c20 : Nat) {R : EW} {w : World} : sh12 b_1 x_2 x_3 x_4 x_5 x_6 x_7 x_8 x_9 x_10 x_11 x_12 x_13 x_14 x_p15 x_n16 x_c17 x_p18 x_n19 x_c20 R w → Calls Tryz.prog 12 #[.pointer b_1, .agg #[.int .u8 x_2, .int .i64 x_3, .int .i64 x_4, .int .i64 x_5, .int .i64 x_6, .int .i64 x_7, .int .i64 x_8, .int .i64 x_9, .int .u8 x_10, .int .u8 x_11, .int .i64 x_12, .int .i64 x_13, .bool x_14, .slice x_p15 x_n16 x_c17, .slice x_p18 x_n19 x_c20]] w R :=
  calls_of_eq (ann := fun _ => []) (fn := Tryz.f12) (c := bodyOf Tryz.f12) (args := #[.pointer b_1, .agg #[.int .u8 x_2, .int .i64 x_3, .int .i64 x_4, .int .i64 x_5, .int .i64 x_6, .int .i64 x_7, .int .i64 x_8, .int .i64 x_9, .int .u8 x_10, .int .u8 x_11, .int .i64 x_12, .int .i64 x_13, .bool x_14, .slice x_p15 x_n16 x_c17, .slice x_p18 x_n19 x_c20]]) 400 follows_mixed Tryz.func12 (by kernel_rfl) (by kernel_rfl)
def sh13  (R : EW) (w : World) : Prop :=
 doAl (.cells #[.int .u8 0, .int .i64 0, .int .i64 0, .int .i64 0, .int .i64 0, .int .i64 0, .int .i64 0, .int .i64 0, .int .u8 0, .int .u8 0, .int .i64 0, .int .i64 0, .bool false, .slice none 0 0, .slice none 0 0] 30) w (fun b1 w2 =>
 doAl (.cells #[.int .i64 1, .int .i64 10, .int .i64 2, .int .i64 20] 63) w2 (fun b3 w4 =>
 doSt ((blk b1).add 0) (.int .u8 8) w4 (fun w5 =>
 doSt ((blk b1).add 1) (.int .i64 0) w5 (fun w6 =>
 doSt ((blk b1).add 2) (.int .i64 0) w6 (fun w7 =>
 doSt ((blk b1).add 3) (.int .i64 0) w7 (fun w8 =>
 doSt ((blk b1).add 4) (.int .i64 0) w8 (fun w9 =>
 doSt ((blk b1).add 5) (.int .i64 0) w9 (fun w10 =>
 doSt ((blk b1).add 6) (.int .i64 0) w10 (fun w11 =>
 doSt ((blk b1).add 7) (.int .i64 0) w11 (fun w12 =>
 doSt ((blk b1).add 8) (.int .u8 3) w12 (fun w13 =>
 doSt ((blk b1).add 9) (.int .u8 0) w13 (fun w14 =>
 doSt ((blk b1).add 10) (.int .i64 0) w14 (fun w15 =>
 doSt ((blk b1).add 11) (.int .i64 0) w15 (fun w16 =>
 doSt ((blk b1).add 12) (.bool false) w16 (fun w17 =>
 doSt ((blk b1).add 13) (.slice (some (blk b3)) 2 2) w17 (fun w18 =>
 doSt ((blk b1).add 14) (.slice none 0 0) w18 (fun w19 =>
 ∃ x20, w19.cell? ((blk b1).add 0) = some (.int .u8 x20) ∧ (
 ∃ x21, w19.cell? ((blk b1).add 1) = some (.int .i64 x21) ∧ (
 ∃ x22, w19.cell? ((blk b1).add 2) = some (.int .i64 x22) ∧ (
 ∃ x23, w19.cell? ((blk b1).add 3) = some (.int .i64 x23) ∧ (
 ∃ x24, w19.cell? ((blk b1).add 4) = some (.int .i64 x24) ∧ (
 ∃ x25, w19.cell? ((blk b1).add 5) = some (.int .i64 x25) ∧ (
 ∃ x26, w19.cell? ((blk b1).add 6) = some (.int .i64 x26) ∧ (
 ∃ x27, w19.cell? ((blk b1).add 7) = some (.int .i64 x27) ∧ (
 ∃ x28, w19.cell? ((blk b1).add 8) = some (.int .u8 x28) ∧ (
 ∃ x29, w19.cell? ((blk b1).add 9) = some (.int .u8 x29) ∧ (
 ∃ x30, w19.cell? ((blk b1).add 10) = some (.int .i64 x30) ∧ (
 ∃ x31, w19.cell? ((blk b1).add 11) = some (.int .i64 x31) ∧ (
 ∃ x32, w19.cell? ((blk b1).add 12) = some (.bool x32) ∧ (
 ∃ xp33 xn34 xc35, w19.cell? ((blk b1).add 13) = some (.slice xp33 xn34 xc35) ∧ (
 ∃ xp36 xn37 xc38, w19.cell? ((blk b1).add 14) = some (.slice xp36 xn37 xc38) ∧ (
 R (.returned (.agg #[.int .u8 x20, .int .i64 x21, .int .i64 x22, .int .i64 x23, .int .i64 x24, .int .i64 x25, .int .i64 x26, .int .i64 x27, .int .u8 x28, .int .u8 x29, .int .i64 x30, .int .i64 x31, .bool x32, .slice xp33 xn34 xc35, .slice xp36 xn37 xc38])) w19))))))))))))))))))))))))))))))))
theorem sh13_ok  {R : EW} {w : World} : sh13  R w → Calls Tryz.prog 13 #[] w R :=
  ceq Tryz.func13 (by kernel_rfl) (by kernel_rfl)
def sh14 (b_1 : OA) (R : EW) (w : World) : Prop :=
 ifB ((b_1).isNone) (
 R (.returned (.int .i64 0)) w) (
 ∃ q2, b_1 = some q2 ∧ (
 ∃ xp3 xn4 xc5, w.cell? (q2.add 1) = some (.slice xp3 xn4 xc5) ∧ (
 R (.returned (.int .i64 ((xn4 : Nat) : Int))) w)))
theorem sh14_ok (b_1 : OA) {R : EW} {w : World} : sh14 b_1 R w → Calls Tryz.prog 14 #[.pointer b_1] w R :=
  ceq Tryz.func14 (by kernel_rfl) (by kernel_rfl)
def sh16 (o_1 : Int) (R : EW) (w : World) : Prop :=
 doCall Tryz.prog (.func (.func 30) #[] #[]) #[.int .u8 o_1] w (retS (fun v3 w4 => ∃ x2, v3 = (.string x2 : Value) ∧ (
 ifB (x2.toList == (⟨#[]⟩ : ByteArray).toList) (
 R (.returned (.tuple #[.pointer none, .int .i64 2])) w4) (
 ∃ (p5 : OA) (n6 : Nat) (c7 : Nat) (w8 : World), (Instr.makeSlice 55 (.int .i64 1) (.int .i64 1)).run Tryz.prog w4 = .ok (.slice p5 n6 c7) w8 ∧ (
 doAl (.cells #[.int .u8 o_1, .slice p5 n6 c7] 70) w8 (fun b9 w10 =>
 R (.returned (.tuple #[.pointer (some (blk b9)), .int .i64 0])) w10))))) (kN R))
theorem sh16_ok (o_1 : Int) {R : EW} {w : World} : sh16 o_1 R w → Calls Tryz.prog 16 #[.int .u8 o_1] w R :=
  ceq Tryz.func16 (by kernel_rfl) (by kernel_rfl)
def sh17 (a_p1 : OA) (a_n2 : Nat) (_a_c3 : Nat) (b_p4 : OA) (b_n5 : Nat) (_b_c6 : Nat) (R : EW) (w : World) : Prop :=
 ifB ((((a_n2 : Nat) : Int) : Int) != ((b_n5 : Nat) : Int)) (
 R (.returned (.bool false)) w) (
 ∃ (I7 : List Value → World → Prop) (μ8 : List Value → World → Nat), I7 [.int .i64 0] w ∧ (∀ (i_11 : Int), ∀ (_j9 : Nat → Value) (w10 : World), I7 [.int .i64 i_11] w10 → (
 ifB (decide ((i_11 : Int) < ((a_n2 : Nat) : Int))) (
 doDr w10 (fun w13 =>
 ∃ (C12 : World → Prop), C12 w13 ∧ (
 doIx a_p1 a_n2 7 (i_11) (fun a14 =>
 ∃ x15, (∀ w, C12 w → w.cell? (a14.add 0) = some (.int .i64 x15)) ∧ (
 ∃ x16, (∀ w, C12 w → w.cell? (a14.add 1) = some (.bool x16)) ∧ (
 ∃ x17, (∀ w, C12 w → w.cell? (a14.add 2) = some (.int .i64 x17)) ∧ (
 ∃ x18, (∀ w, C12 w → w.cell? (a14.add 3) = some (.int .i64 x18)) ∧ (
 ∃ x19, (∀ w, C12 w → w.cell? (a14.add 4) = some (.int .i64 x19)) ∧ (
 ∃ xp20 xn21 xc22, (∀ w, C12 w → w.cell? (a14.add 5) = some (.slice xp20 xn21 xc22)) ∧ (
 ∃ xp23 xn24 xc25, (∀ w, C12 w → w.cell? (a14.add 6) = some (.slice xp23 xn24 xc25)) ∧ (
 doIx b_p4 b_n5 7 (i_11) (fun a26 =>
 ∃ x27, (∀ w, C12 w → w.cell? (a26.add 0) = some (.int .i64 x27)) ∧ (
 ∃ x28, (∀ w, C12 w → w.cell? (a26.add 1) = some (.bool x28)) ∧ (
 ∃ x29, (∀ w, C12 w → w.cell? (a26.add 2) = some (.int .i64 x29)) ∧ (
 ∃ x30, (∀ w, C12 w → w.cell? (a26.add 3) = some (.int .i64 x30)) ∧ (
 ∃ x31, (∀ w, C12 w → w.cell? (a26.add 4) = some (.int .i64 x31)) ∧ (
 ∃ xp32 xn33 xc34, (∀ w, C12 w → w.cell? (a26.add 5) = some (.slice xp32 xn33 xc34)) ∧ (
 ∃ xp35 xn36 xc37, (∀ w, C12 w → w.cell? (a26.add 6) = some (.slice xp35 xn36 xc37)) ∧ (
 doCall Tryz.prog (.func (.func 21) #[] #[]) #[.agg #[.int .i64 x15, .bool x16, .int .i64 x17, .int .i64 x18, .int .i64 x19, .slice xp20 xn21 xc22, .slice xp23 xn24 xc25], .agg #[.int .i64 x27, .bool x28, .int .i64 x29, .int .i64 x30, .int .i64 x31, .slice xp32 xn33 xc34, .slice xp35 xn36 xc37]] w13 (retS (fun v39 w40 => ∃ x38, v39 = (.bool x38 : Value) ∧ (
 ifB (!x38) (
 R (.returned (.bool false)) w40) (
 I7 [.int .i64 (IntKind.wrap .i64 (i_11 + 1))] w40 ∧ μ8 [.int .i64 (IntKind.wrap .i64 (i_11 + 1))] w40 < μ8 [.int .i64 i_11] w10))) (kN R))))))))))))))))))))) (
 R (.returned (.bool true)) w10))))
theorem sh17_ok (a_p1 : OA) (a_n2 : Nat) (a_c3 : Nat) (b_p4 : OA) (b_n5 : Nat) (b_c6 : Nat) {R : EW} {w : World} : sh17 a_p1 a_n2 a_c3 b_p4 b_n5 b_c6 R w → Calls Tryz.prog 17 #[.slice a_p1 a_n2 a_c3, .slice b_p4 b_n5 b_c6] w R :=
  Old.calls_of_eq (ann := fun i => if i = 0 then [(5, .int .i64 0)] else []) (fn := Tryz.f17) (c := bodyOf Tryz.f17) (args := #[.slice a_p1 a_n2 a_c3, .slice b_p4 b_n5 b_c6]) 400 follows_mixed Tryz.func17 (by kernel_rfl) (by kernel_rfl)
def sh21 (a_1 : Int) (a_2 : Bool) (a_3 : Int) (a_4 : Int) (a_5 : Int) (a_p6 : OA) (a_n7 : Nat) (a_c8 : Nat) (a_p9 : OA) (a_n10 : Nat) (a_c11 : Nat) (b_12 : Int) (b_13 : Bool) (b_14 : Int) (b_15 : Int) (b_16 : Int) (b_p17 : OA) (b_n18 : Nat) (b_c19 : Nat) (b_p20 : OA) (b_n21 : Nat) (b_c22 : Nat) (R : EW) (w : World) : Prop :=
 doAl (.cells #[.int .i64 a_1, .bool a_2, .int .i64 a_3, .int .i64 a_4, .int .i64 a_5, .slice a_p6 a_n7 a_c8, .slice a_p9 a_n10 a_c11] 34) w (fun b23 w24 =>
 doAl (.cells #[.int .i64 b_12, .bool b_13, .int .i64 b_14, .int .i64 b_15, .int .i64 b_16, .slice b_p17 b_n18 b_c19, .slice b_p20 b_n21 b_c22] 34) w24 (fun b25 w26 =>
 let K29 : Bool → World → Prop := fun x27 w28 => 
 R (.returned (.bool x27)) w28
 ∃ x30, w26.cell? ((blk b23).add 0) = some (.int .i64 x30) ∧ (
 ∃ x31, w26.cell? ((blk b25).add 0) = some (.int .i64 x31) ∧ (
 ifB ((x30 : Int) == x31) (
 ∃ x32, w26.cell? ((blk b23).add 1) = some (.bool x32) ∧ (
 ∃ x33, w26.cell? ((blk b25).add 1) = some (.bool x33) ∧ (
 ifB (x32 == x33) (
 ∃ x34, w26.cell? ((blk b23).add 2) = some (.int .i64 x34) ∧ (
 ∃ x35, w26.cell? ((blk b25).add 2) = some (.int .i64 x35) ∧ (
 ifB ((x34 : Int) == x35) (
 ∃ x36, w26.cell? ((blk b23).add 3) = some (.int .i64 x36) ∧ (
 ∃ x37, w26.cell? ((blk b25).add 3) = some (.int .i64 x37) ∧ (
 ifB ((x36 : Int) == x37) (
 ∃ x38, w26.cell? ((blk b23).add 4) = some (.int .i64 x38) ∧ (
 ∃ x39, w26.cell? ((blk b25).add 4) = some (.int .i64 x39) ∧ (
 ifB ((x38 : Int) == x39) (
 ∃ xp40 xn41 xc42, w26.cell? ((blk b23).add 5) = some (.slice xp40 xn41 xc42) ∧ (
 ∃ xp43 xn44 xc45, w26.cell? ((blk b25).add 5) = some (.slice xp43 xn44 xc45) ∧ (
 doCall Tryz.prog (.func (.func 31) #[] #[]) #[.slice xp40 xn41 xc42, .slice xp43 xn44 xc45] w26 (retS (fun v47 w48 => ∃ x46, v47 = (.bool x46 : Value) ∧ (
 ifB x46 (
 ∃ xp49 xn50 xc51, w48.cell? ((blk b23).add 6) = some (.slice xp49 xn50 xc51) ∧ (
 ∃ xp52 xn53 xc54, w48.cell? ((blk b25).add 6) = some (.slice xp52 xn53 xc54) ∧ (
 doCall Tryz.prog (.func (.func 8) #[] #[]) #[.slice xp49 xn50 xc51, .slice xp52 xn53 xc54] w48 (retS (fun v56 w57 => ∃ x55, v56 = (.bool x55 : Value) ∧ (
 K29 x55 w57)) (kN R))))) (
 R (.returned (.bool false)) w48))) (kN R))))) (
 R (.returned (.bool false)) w26)))) (
 R (.returned (.bool false)) w26)))) (
 R (.returned (.bool false)) w26)))) (
 R (.returned (.bool false)) w26)))) (
 R (.returned (.bool false)) w26)))))
theorem sh21_ok (a_1 : Int) (a_2 : Bool) (a_3 : Int) (a_4 : Int) (a_5 : Int) (a_p6 : OA) (a_n7 : Nat) (a_c8 : Nat) (a_p9 : OA) (a_n10 : Nat) (a_c11 : Nat) (b_12 : Int) (b_13 : Bool) (b_14 : Int) (b_15 : Int) (b_16 : Int) (b_p17 : OA) (b_n18 : Nat) (b_c19 : Nat) (b_p20 : OA) (b_n21 : Nat) (b_c22 : Nat) {R : EW} {w : World} : sh21 a_1 a_2 a_3 a_4 a_5 a_p6 a_n7 a_c8 a_p9 a_n10 a_c11 b_12 b_13 b_14 b_15 b_16 b_p17 b_n18 b_c19 b_p20 b_n21 b_c22 R w → Calls Tryz.prog 21 #[.agg #[.int .i64 a_1, .bool a_2, .int .i64 a_3, .int .i64 a_4, .int .i64 a_5, .slice a_p6 a_n7 a_c8, .slice a_p9 a_n10 a_c11], .agg #[.int .i64 b_12, .bool b_13, .int .i64 b_14, .int .i64 b_15, .int .i64 b_16, .slice b_p17 b_n18 b_c19, .slice b_p20 b_n21 b_c22]] w R :=
  ceq Tryz.func21 (by kernel_rfl) (by kernel_rfl)
def sh24 (o_1 : Int) (l_p2 : OA) (l_n3 : Nat) (l_c4 : Nat) (R : EW) (w : World) : Prop :=
 doAl (.cells #[.int .u8 o_1] 5) w (fun b5 w6 =>
 doAl (.cells #[.bool false] 4) w6 (fun b7 w8 =>
 doCall Tryz.prog (.func (.func 53) #[] #[]) #[.slice l_p2 l_n3 l_c4] w8 (retS (fun v12 w13 => ∃ xf9 xx10 xc11, v12 = (.func xf9 xx10 xc11 : Value) ∧ (
 rfW Tryz.prog (.func xf9 xx10 xc11) (mkLoop #[.int .u8 o_1, .slice l_p2 l_n3 l_c4, .pointer (some (blk b5)), undef, .pointer (some (blk b7)), undef, undef, .slice l_p2 l_n3 l_c4, .func xf9 xx10 xc11, undef, undef, undef, undef, undef, undef, undef, undef, undef, undef, undef, undef] (rfOf Tryz.f24 0).1 (rfOf Tryz.f24 0).2.1 (rfOf Tryz.f24 0).2.2)
 (fun w14 =>
 ∃ x15, w14.cell? (blk b5) = some (.int .u8 x15) ∧ (
 doCall Tryz.prog (.func (.func 30) #[] #[]) #[.int .u8 x15] w14 (retS (fun v17 w18 => ∃ x16, v17 = (.string x16 : Value) ∧ (
 doSt ((blk b7).add 0) (.bool (!(x16.toList == (⟨#[]⟩ : ByteArray).toList))) w18 (fun w19 =>
 w19.heap[w13.heap.size]? = some (.deferred (some [])) ∧ (
 let w20 : World := w19.putObj w13.heap.size (.deferred none)
 ∃ x21, w20.cell? (blk b7) = some (.bool x21) ∧ (
 R (.returned (.bool x21)) w20))))) (fun ch w => Kfn R ch [{ target := .collected w13.heap.size, args := #[] }] w))))
 (fun w22 =>
 w22.heap[w13.heap.size]? = some (.deferred (some [])) ∧ (
 let w23 : World := w22.putObj w13.heap.size (.deferred none)
 ∃ x24, w23.cell? (blk b7) = some (.bool x24) ∧ (
 R (.returned (.bool x24)) w23)))
 [] w13)) (kN R))))
theorem sh24_ok (o_1 : Int) (l_p2 : OA) (l_n3 : Nat) (l_c4 : Nat) {R : EW} {w : World} : sh24 o_1 l_p2 l_n3 l_c4 R w → Calls Tryz.prog 24 #[.int .u8 o_1, .slice l_p2 l_n3 l_c4] w R :=
  ceq Tryz.func24 (by kernel_rfl) (by kernel_rfl)
def sh24_0 (o_1 : Addr) (x2 : Addr) (y22 : Int) (y23 : Int) (y24 : Int) (y25 : Int) (l : Nat) (R : EW) (w : World) : Prop :=
 doAl (.cells #[.int .i64 0, .int .i64 0] 63) w (fun b26 w27 =>
 doSt ((blk b26).add 0) (.int .i64 y22) w27 (fun w28 =>
 doSt ((blk b26).add 1) (.int .i64 y23) w28 (fun w29 =>
 doAl (.cells #[.int .i64 0, .int .i64 0] 63) w29 (fun b30 w31 =>
 doSt ((blk b30).add 0) (.int .i64 y24) w31 (fun w32 =>
 doSt ((blk b30).add 1) (.int .i64 y25) w32 (fun w33 =>
 ∃ r34, w33.heap[l]? = some (.loop r34) ∧ r34.state = .ready ∧ (
 let w35 : World := w33.putObj l (.loop { r34 with state := .busy })
 ∃ x36, w35.cell? o_1 = some (.int .u8 x36) ∧ (
 ∃ x37, w35.cell? ((blk b26).add 0) = some (.int .i64 x37) ∧ (
 ∃ x38, w35.cell? ((blk b30).add 0) = some (.int .i64 x38) ∧ (
 doCall Tryz.prog (.func (.func 54) #[] #[]) #[.int .u8 x36, .int .i64 x37, .int .i64 x38] w35 (retS (fun v40 w41 => ∃ x39, v40 = (.int .i64 x39 : Value) ∧ (
 ifB (decide ((x39 : Int) ≥ 0)) (
 doSt (x2.add 0) (.bool false) w41 (fun w42 =>
 ∃ r43, w42.heap[l]? = some (.loop r43) ∧ R (.returned (.bool false)) (w42.putObj l (.loop { r43 with state := .done, pending := some .ret })))) (
 ∃ r44, w41.heap[l]? = some (.loop r44) ∧ R (.returned (.bool true)) (w41.putObj l (.loop { r44 with state := .ready, pending := none }))))) (fun _ _ => False))))))))))))
theorem sh24_0_ok {dd3 : Value} {dd4 : Value} {dd5 : Value} {dd6 : Value} {dd7 : Value} {dd8 : Value} {dd9 : Value} {dd10 : Value} {dd11 : Value} {dd12 : Value} {dd13 : Value} {dd14 : Value} {dd15 : Value} {dd16 : Value} {dd17 : Value} {dd18 : Value} {dd19 : Value} {dd20 : Value} {dd21 : Value} {o_1 : Addr} {x2 : Addr} {y22 : Int} {y23 : Int} {y24 : Int} {y25 : Int} {l fn D : Nat} {R : EW} {w : World} (hl : w.heap[l]? = some (.loop (mkLoop #[dd3, dd4, .pointer (some o_1), dd5, .pointer (some x2), dd6, dd7, dd8, dd9, dd10, dd11, dd12, dd13, dd14, dd15, dd16, dd17, dd18, dd19, dd20, dd21] (rfOf Tryz.f24 0).1 (rfOf Tryz.f24 0).2.1 (rfOf Tryz.f24 0).2.2 fn D))) : sh24_0 o_1 x2 y22 y23 y24 y25 l R w → doCall Tryz.prog (.func (.yield l) #[] #[]) #[.agg #[.int .i64 y22, .int .i64 y23], .agg #[.int .i64 y24, .int .i64 y25]] w R :=
  fun h => ⟨Old.round_of_eq (ann := fun _ => []) 400 follows_mixed hl (by kernel_rfl) (by kernel_rfl) h⟩
def sh26 (b_1 : OA) (n_2 : Int) (R : EW) (w : World) : Prop :=
 let K5 : Bool → World → Prop := fun x3 w4 => 
 R (.returned (.bool x3)) w4
 ifB (decide ((n_2 : Int) ≥ 0)) (
 ∃ q6, b_1 = some q6 ∧ (
 ∃ xp7 xn8 xc9, w.cell? (q6.add 1) = some (.slice xp7 xn8 xc9) ∧ (
 K5 (decide ((n_2 : Int) < ((xn8 : Nat) : Int))) w))) (
 R (.returned (.bool false)) w)
theorem sh26_ok (b_1 : OA) (n_2 : Int) {R : EW} {w : World} : sh26 b_1 n_2 R w → Calls Tryz.prog 26 #[.pointer b_1, .int .i64 n_2] w R :=
  ceq Tryz.func26 (by kernel_rfl) (by kernel_rfl)
def sh27 (s_p1 : OA) (s_n2 : Nat) (s_c3 : Nat) (R : EW) (w : World) : Prop :=
 ifB ((s_p1 : OA).isNone) (
 R (.returned (.slice none 0 0)) w) (
 doAl (.cells #[] 63) w (fun b4 w5 =>
 doGo Tryz.prog (.builtin .append #[22, 22] 22 #[false, false]) #[.slice (some (blk b4)) 0 0, .slice s_p1 s_n2 s_c3] w5 (retS (fun v9 w10 => ∃ xp6 xn7 xc8, v9 = (.slice xp6 xn7 xc8 : Value) ∧ (
 R (.returned (.slice xp6 xn7 xc8)) w10)) (kN R))))
theorem sh27_ok (s_p1 : OA) (s_n2 : Nat) (s_c3 : Nat) {R : EW} {w : World} : sh27 s_p1 s_n2 s_c3 R w → Calls Tryz.prog 27 #[.slice s_p1 s_n2 s_c3] w R :=
  ceq Tryz.func27 (by kernel_rfl) (by kernel_rfl)
def sh28 (b_1 : OA) (R : EW) (w : World) : Prop :=
 doAl (.map #[] 0) w (fun b2 w3 =>
 doMu Tryz.prog 74 (.map (some b2)) (.int .u8 1) (.agg #[.int .i64 1, .bool true, .bool false, .bool false, .func (.func 59) #[.pointer b_1] #[]]) w3 (fun w4 =>
 doMu Tryz.prog 74 (.map (some b2)) (.int .u8 2) (.agg #[.int .i64 1, .bool true, .bool false, .bool false, .func (.func 60) #[.pointer b_1] #[]]) w4 (fun w5 =>
 doMu Tryz.prog 74 (.map (some b2)) (.int .u8 3) (.agg #[.int .i64 0, .bool true, .bool false, .bool false, .func (.func 61) #[.pointer b_1] #[]]) w5 (fun w6 =>
 doMu Tryz.prog 74 (.map (some b2)) (.int .u8 4) (.agg #[.int .i64 0, .bool true, .bool false, .bool false, .func (.func 62) #[.pointer b_1] #[]]) w6 (fun w7 =>
 doMu Tryz.prog 74 (.map (some b2)) (.int .u8 5) (.agg #[.int .i64 0, .bool true, .bool false, .bool false, .func (.func 63) #[.pointer b_1] #[]]) w7 (fun w8 =>
 doMu Tryz.prog 74 (.map (some b2)) (.int .u8 6) (.agg #[.int .i64 0, .bool true, .bool false, .bool false, .func (.func 64) #[.pointer b_1] #[]]) w8 (fun w9 =>
 doMu Tryz.prog 74 (.map (some b2)) (.int .u8 7) (.agg #[.int .i64 0, .bool true, .bool false, .bool false, .func (.func 65) #[.pointer b_1] #[]]) w9 (fun w10 =>
 doMu Tryz.prog 74 (.map (some b2)) (.int .u8 8) (.agg #[.int .i64 1, .bool false, .bool false, .bool false, .func (.func 66) #[.pointer b_1] #[]]) w10 (fun w11 =>
 doMu Tryz.prog 74 (.map (some b2)) (.int .u8 9) (.agg #[.int .i64 1, .bool true, .bool true, .bool false, .func (.func 67) #[.pointer b_1] #[]]) w11 (fun w12 =>
 doMu Tryz.prog 74 (.map (some b2)) (.int .u8 10) (.agg #[.int .i64 1, .bool true, .bool true, .bool false, .func (.func 68) #[.pointer b_1] #[]]) w12 (fun w13 =>
 doMu Tryz.prog 74 (.map (some b2)) (.int .u8 11) (.agg #[.int .i64 1, .bool true, .bool true, .bool false, .func (.func 69) #[.pointer b_1] #[]]) w13 (fun w14 =>
 doMu Tryz.prog 74 (.map (some b2)) (.int .u8 12) (.agg #[.int .i64 1, .bool true, .bool true, .bool false, .func (.func 70) #[.pointer b_1] #[]]) w14 (fun w15 =>
 doMu Tryz.prog 74 (.map (some b2)) (.int .u8 13) (.agg #[.int .i64 1, .bool true, .bool false, .bool false, .func (.func 71) #[.pointer b_1] #[]]) w15 (fun w16 =>
 doMu Tryz.prog 74 (.map (some b2)) (.int .u8 14) (.agg #[.int .i64 1, .bool true, .bool false, .bool false, .func (.func 72) #[.pointer b_1] #[]]) w16 (fun w17 =>
 doMu Tryz.prog 74 (.map (some b2)) (.int .u8 15) (.agg #[.int .i64 1, .bool true, .bool false, .bool false, .func (.func 73) #[.pointer b_1] #[]]) w17 (fun w18 =>
 doMu Tryz.prog 74 (.map (some b2)) (.int .u8 16) (.agg #[.int .i64 0, .bool true, .bool false, .bool false, .func (.func 74) #[.pointer b_1] #[]]) w18 (fun w19 =>
 doMu Tryz.prog 74 (.map (some b2)) (.int .u8 17) (.agg #[.int .i64 0, .bool true, .bool false, .bool false, .func (.func 75) #[.pointer b_1] #[]]) w19 (fun w20 =>
 doMu Tryz.prog 74 (.map (some b2)) (.int .u8 18) (.agg #[.int .i64 1, .bool true, .bool false, .bool true, .func (.func 76) #[.pointer b_1] #[]]) w20 (fun w21 =>
 doMu Tryz.prog 74 (.map (some b2)) (.int .u8 19) (.agg #[.int .i64 0, .bool true, .bool false, .bool true, .func (.func 77) #[.pointer b_1] #[]]) w21 (fun w22 =>
 doMu Tryz.prog 74 (.map (some b2)) (.int .u8 20) (.agg #[.int .i64 0, .bool true, .bool false, .bool true, .func (.func 78) #[.pointer b_1] #[]]) w22 (fun w23 =>
 doMu Tryz.prog 74 (.map (some b2)) (.int .u8 21) (.agg #[.int .i64 0, .bool true, .bool false, .bool false, .func (.func 79) #[.pointer b_1] #[]]) w23 (fun w24 =>
 doMu Tryz.prog 74 (.map (some b2)) (.int .u8 22) (.agg #[.int .i64 2, .bool true, .bool false, .bool false, .func (.func 80) #[.pointer b_1] #[]]) w24 (fun w25 =>
 R (.returned (.map (some b2))) w25)))))))))))))))))))))))
theorem sh28_ok (b_1 : OA) {R : EW} {w : World} : sh28 b_1 R w → Calls Tryz.prog 28 #[.pointer b_1] w R :=
  ceq Tryz.func28 (by kernel_rfl) (by kernel_rfl)
def sh29 (b_1 : OA) (x_2 : Int) (x_3 : Int) (x_4 : Int) (x_5 : Int) (x_6 : Int) (x_7 : Int) (x_8 : Int) (x_9 : Int) (x_10 : Int) (x_11 : Int) (x_12 : Int) (x_13 : Int) (x_14 : Bool) (x_p15 : OA) (x_n16 : Nat) (x_c17 : Nat) (x_p18 : OA) (x_n19 : Nat) (x_c20 : Nat) (k_21 : Int) (k_22 : Bool) (k_23 : Bool) (k_24 : Bool) (k_f25 : Fn) (k_x26 : Array Value) (k_c27 : Array Value) (R : EW) (w : World) : Prop :=
 doAl (.cells #[.int .u8 x_2, .int .i64 x_3, .int .i64 x_4, .int .i64 x_5, .int .i64 x_6, .int .i64 x_7, .int .i64 x_8, .int .i64 x_9, .int .u8 x_10, .int .u8 x_11, .int .i64 x_12, .int .i64 x_13, .bool x_14, .slice x_p15 x_n16 x_c17, .slice x_p18 x_n19 x_c20] 30) w (fun b28 w29 =>
 doAl (.cells #[.int .i64 k_21, .bool k_22, .bool k_23, .bool k_24, .func k_f25 k_x26 k_c27] 73) w29 (fun b30 w31 =>
 let K33 : World → Prop := fun w32 => 
 R (.returned (.int .i64 0)) w32
 ∃ x34, w31.cell? ((blk b28).add 0) = some (.int .u8 x34) ∧ (
 ∃ x35, w31.cell? ((blk b28).add 1) = some (.int .i64 x35) ∧ (
 ∃ x36, w31.cell? ((blk b28).add 2) = some (.int .i64 x36) ∧ (
 ∃ x37, w31.cell? ((blk b28).add 3) = some (.int .i64 x37) ∧ (
 ∃ x38, w31.cell? ((blk b28).add 4) = some (.int .i64 x38) ∧ (
 ∃ x39, w31.cell? ((blk b28).add 5) = some (.int .i64 x39) ∧ (
 ∃ x40, w31.cell? ((blk b28).add 6) = some (.int .i64 x40) ∧ (
 ∃ x41, w31.cell? ((blk b28).add 7) = some (.int .i64 x41) ∧ (
 ∃ x42, w31.cell? ((blk b28).add 8) = some (.int .u8 x42) ∧ (
 ∃ x43, w31.cell? ((blk b28).add 9) = some (.int .u8 x43) ∧ (
 ∃ x44, w31.cell? ((blk b28).add 10) = some (.int .i64 x44) ∧ (
 ∃ x45, w31.cell? ((blk b28).add 11) = some (.int .i64 x45) ∧ (
 ∃ x46, w31.cell? ((blk b28).add 12) = some (.bool x46) ∧ (
 ∃ xp47 xn48 xc49, w31.cell? ((blk b28).add 13) = some (.slice xp47 xn48 xc49) ∧ (
 ∃ xp50 xn51 xc52, w31.cell? ((blk b28).add 14) = some (.slice xp50 xn51 xc52) ∧ (
 doCall Tryz.prog (.func (.func 81) #[] #[]) #[.agg #[.int .u8 x34, .int .i64 x35, .int .i64 x36, .int .i64 x37, .int .i64 x38, .int .i64 x39, .int .i64 x40, .int .i64 x41, .int .u8 x42, .int .u8 x43, .int .i64 x44, .int .i64 x45, .bool x46, .slice xp47 xn48 xc49, .slice xp50 xn51 xc52]] w31 (retS (fun v54 w55 => ∃ x53, v54 = (.int .i64 x53 : Value) ∧ (
 ifB ((x53 : Int) != 0) (
 R (.returned (.int .i64 2)) w55) (
 let K58 : Bool → World → Prop := fun x56 w57 => 
 ifB x56 (
 R (.returned (.int .i64 3)) w57) (
 doDr w57 (fun w60 =>
 ∃ (C59 : World → Prop), C59 w60 ∧ (
 ∃ q61, b_1 = some q61 ∧ (
 ∃ xp62 xn63 xc64, (∀ w, C59 w → w.cell? (q61.add 1) = some (.slice xp62 xn63 xc64)) ∧ (
 ∃ x65, (∀ w, C59 w → w.cell? ((blk b30).add 0) = some (.int .i64 x65)) ∧ (
 ifB (decide (((IntKind.wrap .i64 (((xn63 : Nat) : Int) + x65)) : Int) > 4096)) (
 R (.returned (.int .i64 4)) w60) (
 let K68 : Bool → World → Prop := fun x66 w67 => 
 ifB x66 (
 R (.returned (.int .i64 320)) w67) (
 let K71 : Bool → World → Prop := fun x69 w70 => 
 ifB x69 (
 R (.returned (.int .i64 330)) w70) (
 K33 w70)
 doDr w67 (fun w73 =>
 ∃ (C72 : World → Prop), C72 w73 ∧ (
 ∃ x74, (∀ w, C72 w → w.cell? ((blk b30).add 3) = some (.bool x74)) ∧ (
 ifB x74 (
 ∃ q75, b_1 = some q75 ∧ (
 ∃ x76, (∀ w, C72 w → w.cell? (q75.add 0) = some (.int .u8 x76)) ∧ (
 ∃ x77, (∀ w, C72 w → w.cell? ((blk b28).add 6) = some (.int .i64 x77)) ∧ (
 ∃ x78, (∀ w, C72 w → w.cell? ((blk b28).add 5) = some (.int .i64 x78)) ∧ (
 doCall Tryz.prog (.func (.func 54) #[] #[]) #[.int .u8 x76, .int .i64 x77, .int .i64 x78] w73 (retS (fun v80 w81 => ∃ x79, v80 = (.int .i64 x79 : Value) ∧ (
 C72 w81 ∧ (
 K71 (decide ((x79 : Int) < 0)) w81))) (kN R))))))) (
 K33 w73)))))
 doDr w60 (fun w83 =>
 ∃ (C82 : World → Prop), C82 w83 ∧ (
 ∃ x84, (∀ w, C82 w → w.cell? ((blk b28).add 0) = some (.int .u8 x84)) ∧ (
 ifB ((x84 : Int) == 17) (
 ∃ x85, (∀ w, C82 w → w.cell? ((blk b28).add 7) = some (.int .i64 x85)) ∧ (
 ifB (decide ((x85 : Int) < 0)) (
 R (.returned (.int .i64 320)) w83) (
 ∃ x86, (∀ w, C82 w → w.cell? ((blk b28).add 7) = some (.int .i64 x86)) ∧ (
 ∃ q87, b_1 = some q87 ∧ (
 ∃ xp88 xn89 xc90, (∀ w, C82 w → w.cell? (q87.add 1) = some (.slice xp88 xn89 xc90)) ∧ (
 ∃ x91, (∀ w, C82 w → w.cell? ((blk b28).add 1) = some (.int .i64 x91)) ∧ (
 doIx xp88 xn89 1 (x91) (fun a92 =>
 ∃ xp93 xn94 xc95, (∀ w, C82 w → w.cell? a92 = some (.slice xp93 xn94 xc95)) ∧ (
 K68 (decide ((x86 : Int) ≥ ((xn94 : Nat) : Int))) w83))))))))) (
 K68 false w83)))))))))))
 let K98 : Bool → World → Prop := fun x96 w97 => 
 ifB x96 (
 R (.returned (.int .i64 3)) w97) (
 ∃ x99, w97.cell? ((blk b30).add 2) = some (.bool x99) ∧ (
 ifB x99 (
 ∃ x100, w97.cell? ((blk b28).add 2) = some (.int .i64 x100) ∧ (
 doCall Tryz.prog (.func (.func 26) #[] #[]) #[.pointer b_1, .int .i64 x100] w97 (retS (fun v102 w103 => ∃ x101, v102 = (.bool x101 : Value) ∧ (
 K58 (!x101) w103)) (kN R)))) (
 K58 false w97)))
 ∃ x104, w55.cell? ((blk b30).add 1) = some (.bool x104) ∧ (
 ifB x104 (
 ∃ x105, w55.cell? ((blk b28).add 1) = some (.int .i64 x105) ∧ (
 doCall Tryz.prog (.func (.func 26) #[] #[]) #[.pointer b_1, .int .i64 x105] w55 (retS (fun v107 w108 => ∃ x106, v107 = (.bool x106 : Value) ∧ (
 K98 (!x106) w108)) (kN R)))) (
 ∃ x109, w55.cell? ((blk b30).add 2) = some (.bool x109) ∧ (
 ifB x109 (
 ∃ x110, w55.cell? ((blk b28).add 2) = some (.int .i64 x110) ∧ (
 doCall Tryz.prog (.func (.func 26) #[] #[]) #[.pointer b_1, .int .i64 x110] w55 (retS (fun v112 w113 => ∃ x111, v112 = (.bool x111 : Value) ∧ (
 K58 (!x111) w113)) (kN R)))) (
 K58 false w55))))))) (kN R)))))))))))))))))))
theorem sh29_ok (b_1 : OA) (x_2 : Int) (x_3 : Int) (x_4 : Int) (x_5 : Int) (x_6 : Int) (x_7 : Int) (x_8 : Int) (x_9 : Int) (x_10 : Int) (x_11 : Int) (x_12 : Int) (x_13 : Int) (x_14 : Bool) (x_p15 : OA) (x_n16 : Nat) (x_c17 : Nat) (x_p18 : OA) (x_n19 : Nat) (x_c20 : Nat) (k_21 : Int) (k_22 : Bool) (k_23 : Bool) (k_24 : Bool) (k_f25 : Fn) (k_x26 : Array Value) (k_c27 : Array Value) {R : EW} {w : World} : sh29 b_1 x_2 x_3 x_4 x_5 x_6 x_7 x_8 x_9 x_10 x_11 x_12 x_13 x_14 x_p15 x_n16 x_c17 x_p18 x_n19 x_c20 k_21 k_22 k_23 k_24 k_f25 k_x26 k_c27 R w → Calls Tryz.prog 29 #[.pointer b_1, .agg #[.int .u8 x_2, .int .i64 x_3, .int .i64 x_4, .int .i64 x_5, .int .i64 x_6, .int .i64 x_7, .int .i64 x_8, .int .i64 x_9, .int .u8 x_10, .int .u8 x_11, .int .i64 x_12, .int .i64 x_13, .bool x_14, .slice x_p15 x_n16 x_c17, .slice x_p18 x_n19 x_c20], .agg #[.int .i64 k_21, .bool k_22, .bool k_23, .bool k_24, .func k_f25 k_x26 k_c27]] w R :=
  ceq Tryz.func29 (by kernel_rfl) (by kernel_rfl)
def sh30 (o_1 : Int) (R : EW) (w : World) : Prop :=
 let K4 : ByteArray → World → Prop := fun x2 w3 => 
 R (.returned (.string x2)) w3
 doCall Tryz.prog (.func (.func 82) #[] #[]) #[] w (retS (fun v6 w7 => ∃ x5, v6 = (.map x5 : Value) ∧ (
 doLk Tryz.prog 111 (.map x5) (.int .u8 o_1) false w7 (fun v15 => (∃ x8 xf9 xx10 xc11 xf12 xx13 xc14, v15 = (.agg #[.string x8, .func xf9 xx10 xc11, .func xf12 xx13 xc14] : Value) ∧ (
 K4 x8 w7)) ∨ (v15 = (.agg #[.string (⟨#[]⟩ : ByteArray), .nilFunc, .nilFunc] : Value) ∧ (
 K4 (⟨#[]⟩ : ByteArray) w7))))) (kN R))
theorem sh30_ok (o_1 : Int) {R : EW} {w : World} : sh30 o_1 R w → Calls Tryz.prog 30 #[.int .u8 o_1] w R :=
  ceq Tryz.func30 (by kernel_rfl) (by kernel_rfl)
end Go.Proofs.YtmdboekndjlmgaaGreat

