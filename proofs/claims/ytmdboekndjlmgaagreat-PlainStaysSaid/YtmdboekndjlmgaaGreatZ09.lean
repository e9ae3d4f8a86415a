/-
  Printed by a program (gen.py): what the functions of the program do, as formulas; each with the proof that its call is what the formula says.
-/
import Derived.Test.YtmdboekndjlmgaaGreatZ04
import Derived.Test.YtmdboekndjlmgaaGreatProg
import Derived.Test.YtmdboekndjlmgaaGreatZ05

set_option maxRecDepth 100000
set_option maxHeartbeats 6400000
namespace Go.Proofs.YtmdboekndjlmgaaGreat
open Go Go.Sh
def sh97 (o_1 : Int) (p_2 : Int) (l_p3 : OA) (l_n4 : Nat) (l_c5 : Nat) (x_6 : Int) (x_7 : Int) (R : EW) (w : World) : Prop :=
 doAl (.cells #[.int .i64 x_6, .int .i64 x_7] 63) w (fun b8 w9 =>
 let K12 : Bool → World → Prop := fun x10 w11 => 
 ifB x10 (
 R (.returned (.tuple #[.slice none 0 0, .int .i64 2])) w11) (
 doCall Tryz.prog (.func (.func 27) #[] #[]) #[.slice l_p3 l_n4 l_c5] w11 (retS (fun v16 w17 => ∃ xp13 xn14 xc15, v16 = (.slice xp13 xn14 xc15 : Value) ∧ (
 ∃ x18, w17.cell? ((blk b8).add 0) = some (.int .i64 x18) ∧ (
 doCall Tryz.prog (.func (.func 112) #[] #[]) #[.int .u8 o_1, .slice l_p3 l_n4 l_c5, .int .i64 x18] w17 (retS (fun v21 w22 => ∃ x19 x20, v21 = (.tuple #[.int .i64 x19, .bool x20] : Value) ∧ (
 ifB (!x20) (
 ∃ x23, w22.cell? ((blk b8).add 0) = some (.int .i64 x23) ∧ (
 ∃ x24, w22.cell? ((blk b8).add 1) = some (.int .i64 x24) ∧ (
 doAl (.cells #[.int .i64 x23, .int .i64 x24] 63) w22 (fun b25 w26 =>
 doCall Tryz.prog (.func (.func 141) #[] #[]) #[.slice xp13 xn14 xc15, .int .i64 x19, .slice (some (blk b25)) 1 1] w26 (retS (fun v30 w31 => ∃ xp27 xn28 xc29, v30 = (.slice xp27 xn28 xc29 : Value) ∧ (
 R (.returned (.tuple #[.slice xp27 xn28 xc29, .int .i64 0])) w31)) (kN R)))))) (
 doDr w22 (fun w33 =>
 ∃ (C32 : World → Prop), C32 w33 ∧ (
 doIx l_p3 l_n4 2 (x19) (fun a34 =>
 ∃ x35, (∀ w, C32 w → w.cell? (a34.add 1) = some (.int .i64 x35)) ∧ (
 ∃ x36, (∀ w, C32 w → w.cell? ((blk b8).add 1) = some (.int .i64 x36)) ∧ (
 doCall Tryz.prog (.func (.func 142) #[] #[]) #[.int .u8 p_2, .int .i64 x35, .int .i64 x36] w33 (retS (fun v39 w40 => ∃ x37 x38, v39 = (.tuple #[.int .i64 x37, .int .i64 x38] : Value) ∧ (
 doIx xp13 xn14 2 (x19) (fun a41 =>
 doSt ((a41.add 1).add 0) (.int .i64 x37) w40 (fun w42 =>
 R (.returned (.tuple #[.slice xp13 xn14 xc15, .int .i64 0])) w42)))) (kN R)))))))))) (kN R))))) (kN R)))
 doCall Tryz.prog (.func (.func 24) #[] #[]) #[.int .u8 o_1, .slice l_p3 l_n4 l_c5] w9 (retS (fun v44 w45 => ∃ x43, v44 = (.bool x43 : Value) ∧ (
 ifB (!x43) (
 R (.returned (.tuple #[.slice none 0 0, .int .i64 2])) w45) (
 doCall Tryz.prog (.func (.func 118) #[] #[]) #[.int .u8 p_2] w45 (retS (fun v47 w48 => ∃ x46, v47 = (.bool x46 : Value) ∧ (
 K12 (!x46) w48)) (kN R))))) (kN R)))
theorem sh97_ok (o_1 : Int) (p_2 : Int) (l_p3 : OA) (l_n4 : Nat) (l_c5 : Nat) (x_6 : Int) (x_7 : Int) {R : EW} {w : World} : sh97 o_1 p_2 l_p3 l_n4 l_c5 x_6 x_7 R w → Calls Tryz.prog 97 #[.int .u8 o_1, .int .u8 p_2, .slice l_p3 l_n4 l_c5, .agg #[.int .i64 x_6, .int .i64 x_7]] w R :=
  ceq Tryz.func97 (by kernel_rfl) (by kernel_rfl)
def sh98 (b_1 : OA) (x_2 : Int) (x_3 : Bool) (x_4 : Int) (x_5 : Int) (x_6 : Int) (x_p7 : OA) (x_n8 : Nat) (x_c9 : Nat) (x_p10 : OA) (x_n11 : Nat) (x_c12 : Nat) (l_p13 : OA) (l_n14 : Nat) (_l_c15 : Nat) (R : EW) (w : World) : Prop :=
 doAl (.cells #[.int .i64 x_2, .bool x_3, .int .i64 x_4, .int .i64 x_5, .int .i64 x_6, .slice x_p7 x_n8 x_c9, .slice x_p10 x_n11 x_c12] 34) w (fun b16 w17 =>
 doAl (.cells #[.int .i64 0, .bool false, .int .i64 0, .int .i64 0, .int .i64 0, .slice none 0 0, .slice none 0 0] 34) w17 (fun b18 w19 =>
 ∃ (I20 : List Value → World → Prop) (μ21 : List Value → World → Nat), I20 [.int .i64 0] w19 ∧ (∀ (x24 : Int), ∀ (_j22 : Nat → Value) (w23 : World), I20 [.int .i64 x24] w23 → (
 ifB (decide ((x24 : Int) < ((l_n14 : Nat) : Int))) (
 doIx l_p13 l_n14 1 (x24) (fun a25 =>
 ∃ xp26 xn27 xc28, w23.cell? a25 = some (.slice xp26 xn27 xc28) ∧ (
 doDr w23 (fun w30 =>
 ∃ (C29 : World → Prop), C29 w30 ∧ (
 ∃ xp31 xn32 xc33, (∀ w, C29 w → w.cell? ((blk b16).add 5) = some (.slice xp31 xn32 xc33)) ∧ (
 ∃ q34, b_1 = some q34 ∧ (
 ∃ xp35 xn36 xc37, (∀ w, C29 w → w.cell? (q34.add 1) = some (.slice xp35 xn36 xc37)) ∧ (
 doAl (.cells #[.int .i64 ((xn36 : Nat) : Int)] 3) w30 (fun b38 w39 =>
 C29 w39 ∧ (
 doGo Tryz.prog (.builtin .append #[32, 32] 32 #[false, false]) #[.slice xp31 xn32 xc33, .slice (some (blk b38)) 1 1] w39 (retS (fun v43 w44 => ∃ xp40 xn41 xc42, v43 = (.slice xp40 xn41 xc42 : Value) ∧ (
 C29 w44 ∧ (
 doSt (((blk b16).add 5).add 0) (.slice xp40 xn41 xc42) w44 (fun w45 =>
 ∃ q46, b_1 = some q46 ∧ (
 ∃ xp47 xn48 xc49, w45.cell? (q46.add 1) = some (.slice xp47 xn48 xc49) ∧ (
 doAl (.cells #[.slice xp26 xn27 xc28] 22) w45 (fun b50 w51 =>
 doGo Tryz.prog (.builtin .append #[55, 55] 55 #[false, false]) #[.slice xp47 xn48 xc49, .slice (some (blk b50)) 1 1] w51 (retS (fun v55 w56 => ∃ xp52 xn53 xc54, v55 = (.slice xp52 xn53 xc54 : Value) ∧ (
 ∃ q57, b_1 = some q57 ∧ (
 doSt ((q57.add 1).add 0) (.slice xp52 xn53 xc54) w56 (fun w58 =>
 I20 [.int .i64 (IntKind.wrap .i64 (x24 + 1))] w58 ∧ μ21 [.int .i64 (IntKind.wrap .i64 (x24 + 1))] w58 < μ21 [.int .i64 x24] w23)))) (kN R))))))))) (kN R)))))))))))) (
 ∃ x59, w23.cell? ((blk b16).add 0) = some (.int .i64 x59) ∧ (
 ∃ x60, w23.cell? ((blk b16).add 1) = some (.bool x60) ∧ (
 ∃ x61, w23.cell? ((blk b16).add 2) = some (.int .i64 x61) ∧ (
 ∃ x62, w23.cell? ((blk b16).add 3) = some (.int .i64 x62) ∧ (
 ∃ x63, w23.cell? ((blk b16).add 4) = some (.int .i64 x63) ∧ (
 ∃ xp64 xn65 xc66, w23.cell? ((blk b16).add 5) = some (.slice xp64 xn65 xc66) ∧ (
 ∃ xp67 xn68 xc69, w23.cell? ((blk b16).add 6) = some (.slice xp67 xn68 xc69) ∧ (
 doSt ((blk b18).add 0) (.int .i64 x59) w23 (fun w70 =>
 doSt ((blk b18).add 1) (.bool x60) w70 (fun w71 =>
 doSt ((blk b18).add 2) (.int .i64 x61) w71 (fun w72 =>
 doSt ((blk b18).add 3) (.int .i64 x62) w72 (fun w73 =>
 doSt ((blk b18).add 4) (.int .i64 x63) w73 (fun w74 =>
 doSt ((blk b18).add 5) (.slice xp64 xn65 xc66) w74 (fun w75 =>
 doSt ((blk b18).add 6) (.slice xp67 xn68 xc69) w75 (fun w76 =>
 ∃ x77, w76.cell? ((blk b18).add 0) = some (.int .i64 x77) ∧ (
 ∃ x78, w76.cell? ((blk b18).add 1) = some (.bool x78) ∧ (
 ∃ x79, w76.cell? ((blk b18).add 2) = some (.int .i64 x79) ∧ (
 ∃ x80, w76.cell? ((blk b18).add 3) = some (.int .i64 x80) ∧ (
 ∃ x81, w76.cell? ((blk b18).add 4) = some (.int .i64 x81) ∧ (
 ∃ xp82 xn83 xc84, w76.cell? ((blk b18).add 5) = some (.slice xp82 xn83 xc84) ∧ (
 ∃ xp85 xn86 xc87, w76.cell? ((blk b18).add 6) = some (.slice xp85 xn86 xc87) ∧ (
 R (.returned (.agg #[.int .i64 x77, .bool x78, .int .i64 x79, .int .i64 x80, .int .i64 x81, .slice xp82 xn83 xc84, .slice xp85 xn86 xc87])) w76))))))))))))))))))))))))))
theorem sh98_ok (b_1 : OA) (x_2 : Int) (x_3 : Bool) (x_4 : Int) (x_5 : Int) (x_6 : Int) (x_p7 : OA) (x_n8 : Nat) (x_c9 : Nat) (x_p10 : OA) (x_n11 : Nat) (x_c12 : Nat) (l_p13 : OA) (l_n14 : Nat) (l_c15 : Nat) {R : EW} {w : World} : sh98 b_1 x_2 x_3 x_4 x_5 x_6 x_p7 x_n8 x_c9 x_p10 x_n11 x_c12 l_p13 l_n14 l_c15 R w → Calls Tryz.prog 98 #[.pointer b_1, .agg #[.int .i64 x_2, .bool x_3, .int .i64 x_4, .int .i64 x_5, .int .i64 x_6, .slice x_p7 x_n8 x_c9, .slice x_p10 x_n11 x_c12], .slice l_p13 l_n14 l_c15] w R :=
  Old.calls_of_eq (ann := fun i => if i = 0 then [(11, .int .i64 0)] else []) (fn := Tryz.f98) (c := bodyOf Tryz.f98) (args := #[.pointer b_1, .agg #[.int .i64 x_2, .bool x_3, .int .i64 x_4, .int .i64 x_5, .int .i64 x_6, .slice x_p7 x_n8 x_c9, .slice x_p10 x_n11 x_c12], .slice l_p13 l_n14 l_c15]) 400 follows_mixed Tryz.func98 (by kernel_rfl) (by kernel_rfl)
def sh99 (b_1 : OA) (x_2 : Int) (x_3 : Int) (x_4 : Int) (x_5 : Int) (x_6 : Int) (x_7 : Int) (x_8 : Int) (x_9 : Int) (x_10 : Int) (x_11 : Int) (x_12 : Int) (x_13 : Int) (x_14 : Bool) (x_p15 : OA) (x_n16 : Nat) (x_c17 : Nat) (x_p18 : OA) (x_n19 : Nat) (x_c20 : Nat) (a_p21 : OA) (a_n22 : Nat) (a_c23 : Nat) (R : EW) (w : World) : Prop :=
 doAl (.cells #[.int .u8 x_2, .int .i64 x_3, .int .i64 x_4, .int .i64 x_5, .int .i64 x_6, .int .i64 x_7, .int .i64 x_8, .int .i64 x_9, .int .u8 x_10, .int .u8 x_11, .int .i64 x_12, .int .i64 x_13, .bool x_14, .slice x_p15 x_n16 x_c17, .slice x_p18 x_n19 x_c20] 30) w (fun b24 w25 =>
 doAl (.cells #[.int .i64 0, .bool false, .int .i64 0, .int .i64 0, .int .i64 0, .slice none 0 0, .slice none 0 0] 34) w25 (fun b26 w27 =>
 doDr w27 (fun w29 =>
 ∃ (C28 : World → Prop), C28 w29 ∧ (
 ∃ q30, b_1 = some q30 ∧ (
 ∃ x31, (∀ w, C28 w → w.cell? (q30.add 0) = some (.int .u8 x31)) ∧ (
 ∃ x32, (∀ w, C28 w → w.cell? ((blk b24).add 3) = some (.int .i64 x32)) ∧ (
 doCall Tryz.prog (.func (.func 101) #[] #[]) #[.int .u8 x31, .slice a_p21 a_n22 a_c23, .int .i64 x32] w29 (retS (fun v35 w36 => ∃ x33 x34, v35 = (.tuple #[.int .i64 x33, .bool x34] : Value) ∧ (
 doSt (((blk b26).add 3).add 0) (.int .i64 x33) w36 (fun w37 =>
 doSt (((blk b26).add 1).add 0) (.bool x34) w37 (fun w38 =>
 ∃ x39, w38.cell? ((blk b26).add 0) = some (.int .i64 x39) ∧ (
 ∃ x40, w38.cell? ((blk b26).add 1) = some (.bool x40) ∧ (
 ∃ x41, w38.cell? ((blk b26).add 2) = some (.int .i64 x41) ∧ (
 ∃ x42, w38.cell? ((blk b26).add 3) = some (.int .i64 x42) ∧ (
 ∃ x43, w38.cell? ((blk b26).add 4) = some (.int .i64 x43) ∧ (
 ∃ xp44 xn45 xc46, w38.cell? ((blk b26).add 5) = some (.slice xp44 xn45 xc46) ∧ (
 ∃ xp47 xn48 xc49, w38.cell? ((blk b26).add 6) = some (.slice xp47 xn48 xc49) ∧ (
 doSt ((blk b26).add 0) (.int .i64 x39) w38 (fun w50 =>
 doSt ((blk b26).add 1) (.bool x40) w50 (fun w51 =>
 doSt ((blk b26).add 2) (.int .i64 x41) w51 (fun w52 =>
 doSt ((blk b26).add 3) (.int .i64 x42) w52 (fun w53 =>
 doSt ((blk b26).add 4) (.int .i64 x43) w53 (fun w54 =>
 doSt ((blk b26).add 5) (.slice xp44 xn45 xc46) w54 (fun w55 =>
 doSt ((blk b26).add 6) (.slice xp47 xn48 xc49) w55 (fun w56 =>
 ∃ x57, w56.cell? ((blk b26).add 0) = some (.int .i64 x57) ∧ (
 ∃ x58, w56.cell? ((blk b26).add 1) = some (.bool x58) ∧ (
 ∃ x59, w56.cell? ((blk b26).add 2) = some (.int .i64 x59) ∧ (
 ∃ x60, w56.cell? ((blk b26).add 3) = some (.int .i64 x60) ∧ (
 ∃ x61, w56.cell? ((blk b26).add 4) = some (.int .i64 x61) ∧ (
 ∃ xp62 xn63 xc64, w56.cell? ((blk b26).add 5) = some (.slice xp62 xn63 xc64) ∧ (
 ∃ xp65 xn66 xc67, w56.cell? ((blk b26).add 6) = some (.slice xp65 xn66 xc67) ∧ (
 R (.returned (.agg #[.int .i64 x57, .bool x58, .int .i64 x59, .int .i64 x60, .int .i64 x61, .slice xp62 xn63 xc64, .slice xp65 xn66 xc67])) w56))))))))))))))))))))))))) (kN R)))))))))
theorem sh99_ok (b_1 : OA) (x_2 : Int) (x_3 : Int) (x_4 : Int) (x_5 : Int) (x_6 : Int) (x_7 : Int) (x_8 : Int) (x_9 : Int) (x_10 : Int) (x_11 : Int) (x_12 : Int) (x_13 : Int) (x_14 : Bool) (x_p15 : OA) (x_n16 : Nat) (x_c17 : Nat) (x_p18 : OA) (x_n19 : Nat) (x_c20 : Nat) (a_p21 : OA) (a_n22 : Nat) (a_c23 : Nat) {R : EW} {w : World} : sh99 b_1 x_2 x_3 x_4 x_5 x_6 x_7 x_8 x_9 x_10 x_11 x_12 x_13 x_14 x_p15 x_n16 x_c17 x_p18 x_n19 x_c20 a_p21 a_n22 a_c23 R w → Calls Tryz.prog 99 #[.pointer b_1, .agg #[.int .u8 x_2, .int .i64 x_3, .int .i64 x_4, .int .i64 x_5, .int .i64 x_6, .int .i64 x_7, .int .i64 x_8, .int .i64 x_9, .int .u8 x_10, .int .u8 x_11, .int .i64 x_12, .int .i64 x_13, .bool x_14, .slice x_p15 x_n16 x_c17, .slice x_p18 x_n19 x_c20], .slice a_p21 a_n22 a_c23] w R :=
  ceq Tryz.func99 (by kernel_rfl) (by kernel_rfl)
def sh100 (o_1 : Int) (l_p2 : OA) (l_n3 : Nat) (l_c4 : Nat) (key_5 : Int) (R : EW) (w : World) : Prop :=
 doCall Tryz.prog (.func (.func 24) #[] #[]) #[.int .u8 o_1, .slice l_p2 l_n3 l_c4] w (retS (fun v7 w8 => ∃ x6, v7 = (.bool x6 : Value) ∧ (
 ifB (!x6) (
 R (.returned (.tuple #[.slice none 0 0, .bool false])) w8) (
 doCall Tryz.prog (.func (.func 27) #[] #[]) #[.slice l_p2 l_n3 l_c4] w8 (retS (fun v12 w13 => ∃ xp9 xn10 xc11, v12 = (.slice xp9 xn10 xc11 : Value) ∧ (
 doCall Tryz.prog (.func (.func 112) #[] #[]) #[.int .u8 o_1, .slice l_p2 l_n3 l_c4, .int .i64 key_5] w13 (retS (fun v16 w17 => ∃ x14 x15, v16 = (.tuple #[.int .i64 x14, .bool x15] : Value) ∧ (
 ifB (!x15) (
 R (.returned (.tuple #[.slice xp9 xn10 xc11, .bool false])) w17) (
 doCall Tryz.prog (.func (.func 143) #[] #[]) #[.slice xp9 xn10 xc11, .int .i64 x14, .int .i64 (IntKind.wrap .i64 (x14 + 1))] w17 (retS (fun v21 w22 => ∃ xp18 xn19 xc20, v21 = (.slice xp18 xn19 xc20 : Value) ∧ (
 R (.returned (.tuple #[.slice xp18 xn19 xc20, .bool true])) w22)) (kN R))))) (kN R)))) (kN R))))) (kN R))
theorem sh100_ok (o_1 : Int) (l_p2 : OA) (l_n3 : Nat) (l_c4 : Nat) (key_5 : Int) {R : EW} {w : World} : sh100 o_1 l_p2 l_n3 l_c4 key_5 R w → Calls Tryz.prog 100 #[.int .u8 o_1, .slice l_p2 l_n3 l_c4, .int .i64 key_5] w R :=
  ceq Tryz.func100 (by kernel_rfl) (by kernel_rfl)
def sh101 (o_1 : Int) (l_p2 : OA) (l_n3 : Nat) (l_c4 : Nat) (key_5 : Int) (R : EW) (w : World) : Prop :=
 doCall Tryz.prog (.func (.func 112) #[] #[]) #[.int .u8 o_1, .slice l_p2 l_n3 l_c4, .int .i64 key_5] w (retS (fun v8 w9 => ∃ x6 x7, v8 = (.tuple #[.int .i64 x6, .bool x7] : Value) ∧ (
 ifB (!x7) (
 R (.returned (.tuple #[.int .i64 0, .bool false])) w9) (
 doIx l_p2 l_n3 2 (x6) (fun a10 =>
 ∃ x11, w9.cell? (a10.add 1) = some (.int .i64 x11) ∧ (
 R (.returned (.tuple #[.int .i64 x11, .bool true])) w9))))) (kN R))
theorem sh101_ok (o_1 : Int) (l_p2 : OA) (l_n3 : Nat) (l_c4 : Nat) (key_5 : Int) {R : EW} {w : World} : sh101 o_1 l_p2 l_n3 l_c4 key_5 R w → Calls Tryz.prog 101 #[.int .u8 o_1, .slice l_p2 l_n3 l_c4, .int .i64 key_5] w R :=
  ceq Tryz.func101 (by kernel_rfl) (by kernel_rfl)
def sh102 (x_1 : Int) (x_2 : Int) (is_3 : Bool) (R : EW) (w : World) : Prop :=
 doAl (.cells #[.int .i64 x_1, .int .i64 x_2] 63) w (fun b4 w5 =>
 doAl (.cells #[.int .i64 0, .bool false, .int .i64 0, .int .i64 0, .int .i64 0, .slice none 0 0, .slice none 0 0] 34) w5 (fun b6 w7 =>
 ifB (!is_3) (
 doSt ((blk b6).add 0) (.int .i64 0) w7 (fun w8 =>
 doSt ((blk b6).add 1) (.bool false) w8 (fun w9 =>
 doSt ((blk b6).add 2) (.int .i64 0) w9 (fun w10 =>
 doSt ((blk b6).add 3) (.int .i64 0) w10 (fun w11 =>
 doSt ((blk b6).add 4) (.int .i64 0) w11 (fun w12 =>
 doSt ((blk b6).add 5) (.slice none 0 0) w12 (fun w13 =>
 doSt ((blk b6).add 6) (.slice none 0 0) w13 (fun w14 =>
 ∃ x15, w14.cell? ((blk b6).add 0) = some (.int .i64 x15) ∧ (
 ∃ x16, w14.cell? ((blk b6).add 1) = some (.bool x16) ∧ (
 ∃ x17, w14.cell? ((blk b6).add 2) = some (.int .i64 x17) ∧ (
 ∃ x18, w14.cell? ((blk b6).add 3) = some (.int .i64 x18) ∧ (
 ∃ x19, w14.cell? ((blk b6).add 4) = some (.int .i64 x19) ∧ (
 ∃ xp20 xn21 xc22, w14.cell? ((blk b6).add 5) = some (.slice xp20 xn21 xc22) ∧ (
 ∃ xp23 xn24 xc25, w14.cell? ((blk b6).add 6) = some (.slice xp23 xn24 xc25) ∧ (
 R (.returned (.agg #[.int .i64 x15, .bool x16, .int .i64 x17, .int .i64 x18, .int .i64 x19, .slice xp20 xn21 xc22, .slice xp23 xn24 xc25])) w14))))))))))))))) (
 ∃ x26, w7.cell? ((blk b4).add 0) = some (.int .i64 x26) ∧ (
 ∃ x27, w7.cell? ((blk b4).add 1) = some (.int .i64 x27) ∧ (
 doSt ((blk b6).add 0) (.int .i64 0) w7 (fun w28 =>
 doSt ((blk b6).add 1) (.bool true) w28 (fun w29 =>
 doSt ((blk b6).add 2) (.int .i64 x26) w29 (fun w30 =>
 doSt ((blk b6).add 3) (.int .i64 x27) w30 (fun w31 =>
 doSt ((blk b6).add 4) (.int .i64 0) w31 (fun w32 =>
 doSt ((blk b6).add 5) (.slice none 0 0) w32 (fun w33 =>
 doSt ((blk b6).add 6) (.slice none 0 0) w33 (fun w34 =>
 ∃ x35, w34.cell? ((blk b6).add 0) = some (.int .i64 x35) ∧ (
 ∃ x36, w34.cell? ((blk b6).add 1) = some (.bool x36) ∧ (
 ∃ x37, w34.cell? ((blk b6).add 2) = some (.int .i64 x37) ∧ (
 ∃ x38, w34.cell? ((blk b6).add 3) = some (.int .i64 x38) ∧ (
 ∃ x39, w34.cell? ((blk b6).add 4) = some (.int .i64 x39) ∧ (
 ∃ xp40 xn41 xc42, w34.cell? ((blk b6).add 5) = some (.slice xp40 xn41 xc42) ∧ (
 ∃ xp43 xn44 xc45, w34.cell? ((blk b6).add 6) = some (.slice xp43 xn44 xc45) ∧ (
 R (.returned (.agg #[.int .i64 x35, .bool x36, .int .i64 x37, .int .i64 x38, .int .i64 x39, .slice xp40 xn41 xc42, .slice xp43 xn44 xc45])) w34)))))))))))))))))))
theorem sh102_ok (x_1 : Int) (x_2 : Int) (is_3 : Bool) {R : EW} {w : World} : sh102 x_1 x_2 is_3 R w → Calls Tryz.prog 102 #[.agg #[.int .i64 x_1, .int .i64 x_2], .bool is_3] w R :=
  ceq Tryz.func102 (by kernel_rfl) (by kernel_rfl)
def sh103 (o_1 : Int) (l_p2 : OA) (l_n3 : Nat) (l_c4 : Nat) (key_5 : Int) (R : EW) (w : World) : Prop :=
 doAl (.cells #[.int .i64 0, .int .i64 0] 63) w (fun b6 w7 =>
 doCall Tryz.prog (.func (.func 112) #[] #[]) #[.int .u8 o_1, .slice l_p2 l_n3 l_c4, .int .i64 key_5] w7 (retS (fun v10 w11 => ∃ x8 x9, v10 = (.tuple #[.int .i64 x8, .bool x9] : Value) ∧ (
 ifB x9 (
 doIx l_p2 l_n3 2 (x8) (fun a12 =>
 ∃ x13, w11.cell? (a12.add 0) = some (.int .i64 x13) ∧ (
 ∃ x14, w11.cell? (a12.add 1) = some (.int .i64 x14) ∧ (
 doSt ((blk b6).add 0) (.int .i64 x13) w11 (fun w15 =>
 doSt ((blk b6).add 1) (.int .i64 x14) w15 (fun w16 =>
 ∃ x17, w16.cell? ((blk b6).add 0) = some (.int .i64 x17) ∧ (
 ∃ x18, w16.cell? ((blk b6).add 1) = some (.int .i64 x18) ∧ (
 R (.returned (.tuple #[.agg #[.int .i64 x17, .int .i64 x18], .bool true])) w16)))))))) (
 ifB (decide ((x8 : Int) > 0)) (
 doIx l_p2 l_n3 2 (IntKind.wrap .i64 (x8 - 1)) (fun a19 =>
 ∃ x20, w11.cell? (a19.add 0) = some (.int .i64 x20) ∧ (
 ∃ x21, w11.cell? (a19.add 1) = some (.int .i64 x21) ∧ (
 doSt ((blk b6).add 0) (.int .i64 x20) w11 (fun w22 =>
 doSt ((blk b6).add 1) (.int .i64 x21) w22 (fun w23 =>
 ∃ x24, w23.cell? ((blk b6).add 0) = some (.int .i64 x24) ∧ (
 ∃ x25, w23.cell? ((blk b6).add 1) = some (.int .i64 x25) ∧ (
 R (.returned (.tuple #[.agg #[.int .i64 x24, .int .i64 x25], .bool true])) w23)))))))) (
 doSt ((blk b6).add 0) (.int .i64 0) w11 (fun w26 =>
 doSt ((blk b6).add 1) (.int .i64 0) w26 (fun w27 =>
 ∃ x28, w27.cell? ((blk b6).add 0) = some (.int .i64 x28) ∧ (
 ∃ x29, w27.cell? ((blk b6).add 1) = some (.int .i64 x29) ∧ (
 R (.returned (.tuple #[.agg #[.int .i64 x28, .int .i64 x29], .bool false])) w27)))))))) (kN R)))
theorem sh103_ok (o_1 : Int) (l_p2 : OA) (l_n3 : Nat) (l_c4 : Nat) (key_5 : Int) {R : EW} {w : World} : sh103 o_1 l_p2 l_n3 l_c4 key_5 R w → Calls Tryz.prog 103 #[.int .u8 o_1, .slice l_p2 l_n3 l_c4, .int .i64 key_5] w R :=
  ceq Tryz.func103 (by kernel_rfl) (by kernel_rfl)
def sh104 (o_1 : Int) (l_p2 : OA) (l_n3 : Nat) (l_c4 : Nat) (key_5 : Int) (R : EW) (w : World) : Prop :=
 doAl (.cells #[.int .i64 0, .int .i64 0] 63) w (fun b6 w7 =>
 let K9 : World → Prop := fun w8 => 
 doSt ((blk b6).add 0) (.int .i64 0) w8 (fun w10 =>
 doSt ((blk b6).add 1) (.int .i64 0) w10 (fun w11 =>
 ∃ x12, w11.cell? ((blk b6).add 0) = some (.int .i64 x12) ∧ (
 ∃ x13, w11.cell? ((blk b6).add 1) = some (.int .i64 x13) ∧ (
 R (.returned (.tuple #[.agg #[.int .i64 x12, .int .i64 x13], .bool false])) w11))))
 doCall Tryz.prog (.func (.func 112) #[] #[]) #[.int .u8 o_1, .slice l_p2 l_n3 l_c4, .int .i64 key_5] w7 (retS (fun v16 w17 => ∃ x14 x15, v16 = (.tuple #[.int .i64 x14, .bool x15] : Value) ∧ (
 let K20 : Bool → World → Prop := fun x18 w19 => 
 ifB x18 (
 doIx l_p2 l_n3 2 (x14) (fun a21 =>
 ∃ x22, w19.cell? (a21.add 0) = some (.int .i64 x22) ∧ (
 ∃ x23, w19.cell? (a21.add 1) = some (.int .i64 x23) ∧ (
 doSt ((blk b6).add 0) (.int .i64 x22) w19 (fun w24 =>
 doSt ((blk b6).add 1) (.int .i64 x23) w24 (fun w25 =>
 ∃ x26, w25.cell? ((blk b6).add 0) = some (.int .i64 x26) ∧ (
 ∃ x27, w25.cell? ((blk b6).add 1) = some (.int .i64 x27) ∧ (
 R (.returned (.tuple #[.agg #[.int .i64 x26, .int .i64 x27], .bool true])) w25)))))))) (
 K9 w19)
 ifB (decide ((x14 : Int) < ((l_n3 : Nat) : Int))) (
 doCall Tryz.prog (.func (.func 24) #[] #[]) #[.int .u8 o_1, .slice l_p2 l_n3 l_c4] w17 (retS (fun v29 w30 => ∃ x28, v29 = (.bool x28 : Value) ∧ (
 K20 x28 w30)) (kN R))) (
 K9 w17))) (kN R)))
theorem sh104_ok (o_1 : Int) (l_p2 : OA) (l_n3 : Nat) (l_c4 : Nat) (key_5 : Int) {R : EW} {w : World} : sh104 o_1 l_p2 l_n3 l_c4 key_5 R w → Calls Tryz.prog 104 #[.int .u8 o_1, .slice l_p2 l_n3 l_c4, .int .i64 key_5] w R :=
  ceq Tryz.func104 (by kernel_rfl) (by kernel_rfl)
def sh105 (b_1 : OA) (l_p2 : OA) (l_n3 : Nat) (l_c4 : Nat) (_x5 : Int) (R : EW) (w : World) : Prop :=
 doAl (.cells #[.int .i64 0, .bool false, .int .i64 0, .int .i64 0, .int .i64 0, .slice none 0 0, .slice none 0 0] 34) w (fun b6 w7 =>
 doAl (.cells #[.slice l_p2 l_n3 l_c4] 22) w7 (fun b8 w9 =>
 doCall Tryz.prog (.func (.func 98) #[] #[]) #[.pointer b_1, .agg #[.int .i64 0, .bool false, .int .i64 0, .int .i64 0, .int .i64 ((l_n3 : Nat) : Int), .slice none 0 0, .slice none 0 0], .slice (some (blk b8)) 1 1] w9 (retS (fun v21 w22 => ∃ x10 x11 x12 x13 x14 xp15 xn16 xc17 xp18 xn19 xc20, v21 = (.agg #[.int .i64 x10, .bool x11, .int .i64 x12, .int .i64 x13, .int .i64 x14, .slice xp15 xn16 xc17, .slice xp18 xn19 xc20] : Value) ∧ (
 doSt ((blk b6).add 0) (.int .i64 x10) w22 (fun w23 =>
 doSt ((blk b6).add 1) (.bool x11) w23 (fun w24 =>
 doSt ((blk b6).add 2) (.int .i64 x12) w24 (fun w25 =>
 doSt ((blk b6).add 3) (.int .i64 x13) w25 (fun w26 =>
 doSt ((blk b6).add 4) (.int .i64 x14) w26 (fun w27 =>
 doSt ((blk b6).add 5) (.slice xp15 xn16 xc17) w27 (fun w28 =>
 doSt ((blk b6).add 6) (.slice xp18 xn19 xc20) w28 (fun w29 =>
 ∃ x30, w29.cell? ((blk b6).add 0) = some (.int .i64 x30) ∧ (
 ∃ x31, w29.cell? ((blk b6).add 1) = some (.bool x31) ∧ (
 ∃ x32, w29.cell? ((blk b6).add 2) = some (.int .i64 x32) ∧ (
 ∃ x33, w29.cell? ((blk b6).add 3) = some (.int .i64 x33) ∧ (
 ∃ x34, w29.cell? ((blk b6).add 4) = some (.int .i64 x34) ∧ (
 ∃ xp35 xn36 xc37, w29.cell? ((blk b6).add 5) = some (.slice xp35 xn36 xc37) ∧ (
 ∃ xp38 xn39 xc40, w29.cell? ((blk b6).add 6) = some (.slice xp38 xn39 xc40) ∧ (
 R (.returned (.agg #[.int .i64 x30, .bool x31, .int .i64 x32, .int .i64 x33, .int .i64 x34, .slice xp35 xn36 xc37, .slice xp38 xn39 xc40])) w29)))))))))))))))) (kN R))))
theorem sh105_ok (b_1 : OA) (l_p2 : OA) (l_n3 : Nat) (l_c4 : Nat) (x5 : Int) {R : EW} {w : World} : sh105 b_1 l_p2 l_n3 l_c4 x5 R w → Calls Tryz.prog 105 #[.pointer b_1, .slice l_p2 l_n3 l_c4, .int .i64 x5] w R :=
  ceq Tryz.func105 (by kernel_rfl) (by kernel_rfl)
def sh106 (o_1 : Int) (p_2 : Int) (l_p3 : OA) (l_n4 : Nat) (l_c5 : Nat) (R : EW) (w : World) : Prop :=
 doAl (.cells #[.int .u8 o_1] 5) w (fun b6 w7 =>
 let K10 : Bool → World → Prop := fun x8 w9 => 
 ifB x8 (
 R (.returned (.tuple #[.slice none 0 0, .int .i64 2])) w9) (
 doCall Tryz.prog (.func (.func 27) #[] #[]) #[.slice l_p3 l_n4 l_c5] w9 (retS (fun v14 w15 => ∃ xp11 xn12 xc13, v14 = (.slice xp11 xn12 xc13 : Value) ∧ (
 doCall Tryz.prog (.func (.func 144) #[] #[]) #[.slice xp11 xn12 xc13, .func (.func 145) #[] #[.pointer (some (blk b6))]] w15 (retS (fun v16 w17 => v16 = (.tuple #[] : Value) ∧ (
 ∃ (I18 : List Value → World → Prop) (μ19 : List Value → World → Nat), I18 [.slice none 0 0, .int .i64 0] w17 ∧ (∀ (out_p22 : OA), ∀ (out_n23 : Nat), ∀ (out_c24 : Nat), ∀ (x25 : Int), ∀ (_j20 : Nat → Value) (w21 : World), I18 [.slice out_p22 out_n23 out_c24, .int .i64 x25] w21 → (
 ifB (decide ((x25 : Int) < ((xn12 : Nat) : Int))) (
 let K30 : (OA) → Nat → Nat → World → Prop := fun out_p26 out_n27 out_c28 w29 => 
 I18 [.slice out_p26 out_n27 out_c28, .int .i64 (IntKind.wrap .i64 (x25 + 1))] w29 ∧ μ19 [.slice out_p26 out_n27 out_c28, .int .i64 (IntKind.wrap .i64 (x25 + 1))] w29 < μ19 [.slice out_p22 out_n23 out_c24, .int .i64 x25] w21
 doIx xp11 xn12 2 (x25) (fun a31 =>
 ∃ x32, w21.cell? (a31.add 0) = some (.int .i64 x32) ∧ (
 ∃ x33, w21.cell? (a31.add 1) = some (.int .i64 x33) ∧ (
 doAl (.cells #[.int .i64 0, .int .i64 0] 63) w21 (fun b34 w35 =>
 doSt ((blk b34).add 0) (.int .i64 x32) w35 (fun w36 =>
 doSt ((blk b34).add 1) (.int .i64 x33) w36 (fun w37 =>
 let K40 : Bool → World → Prop := fun x38 w39 => 
 ifB x38 (
 ∃ x41, w39.cell? ((blk b34).add 0) = some (.int .i64 x41) ∧ (
 ∃ x42, w39.cell? ((blk b34).add 1) = some (.int .i64 x42) ∧ (
 doAl (.cells #[.int .i64 x41, .int .i64 x42] 63) w39 (fun b43 w44 =>
 doGo Tryz.prog (.builtin .append #[22, 22] 22 #[false, false]) #[.slice out_p22 out_n23 out_c24, .slice (some (blk b43)) 1 1] w44 (retS (fun v48 w49 => ∃ xp45 xn46 xc47, v48 = (.slice xp45 xn46 xc47 : Value) ∧ (
 K30 xp45 xn46 xc47 w49)) (kN R)))))) (
 doDr w39 (fun w51 =>
 ∃ (C50 : World → Prop), C50 w51 ∧ (
 doIx out_p22 out_n23 2 (IntKind.wrap .i64 (((out_n23 : Nat) : Int) - 1)) (fun a52 =>
 ∃ x53, (∀ w, C50 w → w.cell? (a52.add 1) = some (.int .i64 x53)) ∧ (
 ∃ x54, (∀ w, C50 w → w.cell? ((blk b34).add 1) = some (.int .i64 x54)) ∧ (
 doCall Tryz.prog (.func (.func 142) #[] #[]) #[.int .u8 p_2, .int .i64 x53, .int .i64 x54] w51 (retS (fun v57 w58 => ∃ x55 x56, v57 = (.tuple #[.int .i64 x55, .int .i64 x56] : Value) ∧ (
 doIx out_p22 out_n23 2 (IntKind.wrap .i64 (((out_n23 : Nat) : Int) - 1)) (fun a59 =>
 doSt ((a59.add 1).add 0) (.int .i64 x55) w58 (fun w60 =>
 K30 out_p22 out_n23 out_c24 w60)))) (kN R))))))))
 doDr w37 (fun w62 =>
 ∃ (C61 : World → Prop), C61 w62 ∧ (
 ifB ((((out_n23 : Nat) : Int) : Int) == 0) (
 K40 true w62) (
 doIx out_p22 out_n23 2 (IntKind.wrap .i64 (((out_n23 : Nat) : Int) - 1)) (fun a63 =>
 ∃ x64, (∀ w, C61 w → w.cell? (a63.add 0) = some (.int .i64 x64)) ∧ (
 ∃ x65, (∀ w, C61 w → w.cell? ((blk b34).add 0) = some (.int .i64 x65)) ∧ (
 K40 ((x64 : Int) != x65) w62))))))))))))) (
 R (.returned (.tuple #[.slice out_p22 out_n23 out_c24, .int .i64 0])) w21))))) (kN R)))) (kN R)))
 ∃ x66, w7.cell? (blk b6) = some (.int .u8 x66) ∧ (
 doCall Tryz.prog (.func (.func 30) #[] #[]) #[.int .u8 x66] w7 (retS (fun v68 w69 => ∃ x67, v68 = (.string x67 : Value) ∧ (
 ifB (x67.toList == (⟨#[]⟩ : ByteArray).toList) (
 R (.returned (.tuple #[.slice none 0 0, .int .i64 2])) w69) (
 doCall Tryz.prog (.func (.func 118) #[] #[]) #[.int .u8 p_2] w69 (retS (fun v71 w72 => ∃ x70, v71 = (.bool x70 : Value) ∧ (
 K10 (!x70) w72)) (kN R))))) (kN R))))
theorem sh106_ok (o_1 : Int) (p_2 : Int) (l_p3 : OA) (l_n4 : Nat) (l_c5 : Nat) {R : EW} {w : World} : sh106 o_1 p_2 l_p3 l_n4 l_c5 R w → Calls Tryz.prog 106 #[.int .u8 o_1, .int .u8 p_2, .slice l_p3 l_n4 l_c5] w R :=
  Old.calls_of_eq (ann := fun i => if i = 0 then [(6, .slice none 0 0), (26, .int .i64 0)] else []) (fn := Tryz.f106) (c := bodyOf Tryz.f106) (args := #[.int .u8 o_1, .int .u8 p_2, .slice l_p3 l_n4 l_c5]) 400 follows_mixed Tryz.func106 (by kernel_rfl) (by kernel_rfl)
def sh107 (o_1 : Int) (p_2 : Int) (a_p3 : OA) (a_n4 : Nat) (a_c5 : Nat) (b_p6 : OA) (b_n7 : Nat) (b_c8 : Nat) (R : EW) (w : World) : Prop :=
 doCall Tryz.prog (.func (.func 146) #[] #[]) #[.int .u8 o_1, .int .u8 p_2, .slice a_p3 a_n4 a_c5, .slice b_p6 b_n7 b_c8, .agg #[.func (.func 147) #[] #[]]] w (retS (fun v13 w14 => ∃ xp9 xn10 xc11 x12, v13 = (.tuple #[.slice xp9 xn10 xc11, .int .i64 x12] : Value) ∧ (
 R (.returned (.tuple #[.slice xp9 xn10 xc11, .int .i64 x12])) w14)) (kN R))
theorem sh107_ok (o_1 : Int) (p_2 : Int) (a_p3 : OA) (a_n4 : Nat) (a_c5 : Nat) (b_p6 : OA) (b_n7 : Nat) (b_c8 : Nat) {R : EW} {w : World} : sh107 o_1 p_2 a_p3 a_n4 a_c5 b_p6 b_n7 b_c8 R w → Calls Tryz.prog 107 #[.int .u8 o_1, .int .u8 p_2, .slice a_p3 a_n4 a_c5, .slice b_p6 b_n7 b_c8] w R :=
  ceq Tryz.func107 (by kernel_rfl) (by kernel_rfl)
def sh108 (o_1 : Int) (p_2 : Int) (a_p3 : OA) (a_n4 : Nat) (a_c5 : Nat) (b_p6 : OA) (b_n7 : Nat) (b_c8 : Nat) (R : EW) (w : World) : Prop :=
 doCall Tryz.prog (.func (.func 146) #[] #[]) #[.int .u8 o_1, .int .u8 p_2, .slice a_p3 a_n4 a_c5, .slice b_p6 b_n7 b_c8, .agg #[.func (.func 148) #[] #[]]] w (retS (fun v13 w14 => ∃ xp9 xn10 xc11 x12, v13 = (.tuple #[.slice xp9 xn10 xc11, .int .i64 x12] : Value) ∧ (
 R (.returned (.tuple #[.slice xp9 xn10 xc11, .int .i64 x12])) w14)) (kN R))
theorem sh108_ok (o_1 : Int) (p_2 : Int) (a_p3 : OA) (a_n4 : Nat) (a_c5 : Nat) (b_p6 : OA) (b_n7 : Nat) (b_c8 : Nat) {R : EW} {w : World} : sh108 o_1 p_2 a_p3 a_n4 a_c5 b_p6 b_n7 b_c8 R w → Calls Tryz.prog 108 #[.int .u8 o_1, .int .u8 p_2, .slice a_p3 a_n4 a_c5, .slice b_p6 b_n7 b_c8] w R :=
  ceq Tryz.func108 (by kernel_rfl) (by kernel_rfl)
def sh109 (o_1 : Int) (a_p2 : OA) (a_n3 : Nat) (a_c4 : Nat) (b_p5 : OA) (b_n6 : Nat) (b_c7 : Nat) (R : EW) (w : World) : Prop :=
 doCall Tryz.prog (.func (.func 146) #[] #[]) #[.int .u8 o_1, .int .u8 1, .slice a_p2 a_n3 a_c4, .slice b_p5 b_n6 b_c7, .agg #[.func (.func 149) #[] #[]]] w (retS (fun v12 w13 => ∃ xp8 xn9 xc10 x11, v12 = (.tuple #[.slice xp8 xn9 xc10, .int .i64 x11] : Value) ∧ (
 R (.returned (.tuple #[.slice xp8 xn9 xc10, .int .i64 x11])) w13)) (kN R))
theorem sh109_ok (o_1 : Int) (a_p2 : OA) (a_n3 : Nat) (a_c4 : Nat) (b_p5 : OA) (b_n6 : Nat) (b_c7 : Nat) {R : EW} {w : World} : sh109 o_1 a_p2 a_n3 a_c4 b_p5 b_n6 b_c7 R w → Calls Tryz.prog 109 #[.int .u8 o_1, .slice a_p2 a_n3 a_c4, .slice b_p5 b_n6 b_c7] w R :=
  ceq Tryz.func109 (by kernel_rfl) (by kernel_rfl)
def sh110 (o_1 : Int) (a_p2 : OA) (a_n3 : Nat) (a_c4 : Nat) (b_p5 : OA) (b_n6 : Nat) (b_c7 : Nat) (R : EW) (w : World) : Prop :=
 doCall Tryz.prog (.func (.func 146) #[] #[]) #[.int .u8 o_1, .int .u8 1, .slice a_p2 a_n3 a_c4, .slice b_p5 b_n6 b_c7, .agg #[.func (.func 150) #[] #[]]] w (retS (fun v12 w13 => ∃ xp8 xn9 xc10 x11, v12 = (.tuple #[.slice xp8 xn9 xc10, .int .i64 x11] : Value) ∧ (
 R (.returned (.tuple #[.slice xp8 xn9 xc10, .int .i64 x11])) w13)) (kN R))
theorem sh110_ok (o_1 : Int) (a_p2 : OA) (a_n3 : Nat) (a_c4 : Nat) (b_p5 : OA) (b_n6 : Nat) (b_c7 : Nat) {R : EW} {w : World} : sh110 o_1 a_p2 a_n3 a_c4 b_p5 b_n6 b_c7 R w → Calls Tryz.prog 110 #[.int .u8 o_1, .slice a_p2 a_n3 a_c4, .slice b_p5 b_n6 b_c7] w R :=
  ceq Tryz.func110 (by kernel_rfl) (by kernel_rfl)
def sh111 (p_1 : Int) (p_2 : Int) (p_3 : Int) (p_4 : Bool) (l_p5 : OA) (l_n6 : Nat) (l_c7 : Nat) (R : EW) (w : World) : Prop :=
 doAl (.cells #[.int .u8 p_1, .int .i64 p_2, .int .i64 p_3, .bool p_4] 27) w (fun b8 w9 =>
 ∃ x10, w9.cell? ((blk b8).add 0) = some (.int .u8 x10) ∧ (
 ∃ x11, w9.cell? ((blk b8).add 1) = some (.int .i64 x11) ∧ (
 ∃ x12, w9.cell? ((blk b8).add 2) = some (.int .i64 x12) ∧ (
 ∃ x13, w9.cell? ((blk b8).add 3) = some (.bool x13) ∧ (
 doCall Tryz.prog (.func (.func 151) #[] #[]) #[.agg #[.int .u8 x10, .int .i64 x11, .int .i64 x12, .bool x13], .slice l_p5 l_n6 l_c7] w9 (retS (fun v21 w22 => ∃ xp14 xn15 xc16 xp17 xn18 xc19 x20, v21 = (.tuple #[.slice xp14 xn15 xc16, .slice xp17 xn18 xc19, .int .i64 x20] : Value) ∧ (
 R (.returned (.tuple #[.slice xp14 xn15 xc16, .int .i64 x20])) w22)) (kN R)))))))
theorem sh111_ok (p_1 : Int) (p_2 : Int) (p_3 : Int) (p_4 : Bool) (l_p5 : OA) (l_n6 : Nat) (l_c7 : Nat) {R : EW} {w : World} : sh111 p_1 p_2 p_3 p_4 l_p5 l_n6 l_c7 R w → Calls Tryz.prog 111 #[.agg #[.int .u8 p_1, .int .i64 p_2, .int .i64 p_3, .bool p_4], .slice l_p5 l_n6 l_c7] w R :=
  ceq Tryz.func111 (by kernel_rfl) (by kernel_rfl)
def sh112 (o_1 : Int) (l_p2 : OA) (l_n3 : Nat) (l_c4 : Nat) (key_5 : Int) (R : EW) (w : World) : Prop :=
 doCall Tryz.prog (.func (.func 24) #[] #[]) #[.int .u8 o_1, .slice l_p2 l_n3 l_c4] w (retS (fun v7 w8 => ∃ x6, v7 = (.bool x6 : Value) ∧ (
 ifB (!x6) (
 R (.returned (.tuple #[.int .i64 0, .bool false])) w8) (
 doCall Tryz.prog (.func (.func 152) #[] #[]) #[.int .u8 o_1, .slice l_p2 l_n3 l_c4, .int .i64 key_5] w8 (retS (fun v10 w11 => ∃ x9, v10 = (.int .i64 x9 : Value) ∧ (
 let K14 : Bool → World → Prop := fun is_12 w13 => 
 R (.returned (.tuple #[.int .i64 x9, .bool is_12])) w13
 doDr w11 (fun w16 =>
 ∃ (C15 : World → Prop), C15 w16 ∧ (
 ifB (decide ((x9 : Int) < ((l_n3 : Nat) : Int))) (
 doIx l_p2 l_n3 2 (x9) (fun a17 =>
 ∃ x18, (∀ w, C15 w → w.cell? (a17.add 0) = some (.int .i64 x18)) ∧ (
 K14 ((x18 : Int) == key_5) w16))) (
 R (.returned (.tuple #[.int .i64 x9, .bool false])) w16))))) (kN R))))) (kN R))
theorem sh112_ok (o_1 : Int) (l_p2 : OA) (l_n3 : Nat) (l_c4 : Nat) (key_5 : Int) {R : EW} {w : World} : sh112 o_1 l_p2 l_n3 l_c4 key_5 R w → Calls Tryz.prog 112 #[.int .u8 o_1, .slice l_p2 l_n3 l_c4, .int .i64 key_5] w R :=
  ceq Tryz.func112 (by kernel_rfl) (by kernel_rfl)
def sh113 (o_1 : Int) (l_p2 : OA) (l_n3 : Nat) (l_c4 : Nat) (lo_5 : Int) (hi_6 : Int) (R : EW) (w : World) : Prop :=
 doAl (.cells #[.int .u8 o_1] 5) w (fun b7 w8 =>
 doAl (.cells #[.int .i64 lo_5] 2) w8 (fun b9 w10 =>
 doAl (.cells #[.int .i64 hi_6] 2) w10 (fun b11 w12 =>
 ∃ x13, w12.cell? (blk b7) = some (.int .u8 x13) ∧ (
 doCall Tryz.prog (.func (.func 146) #[] #[]) #[.int .u8 x13, .int .u8 1, .slice l_p2 l_n3 l_c4, .slice none 0 0, .agg #[.func (.func 153) #[] #[.pointer (some (blk b7)), .pointer (some (blk b9)), .pointer (some (blk b11))]]] w12 (retS (fun v18 w19 => ∃ xp14 xn15 xc16 x17, v18 = (.tuple #[.slice xp14 xn15 xc16, .int .i64 x17] : Value) ∧ (
 R (.returned (.tuple #[.slice xp14 xn15 xc16, .int .i64 x17])) w19)) (kN R))))))
theorem sh113_ok (o_1 : Int) (l_p2 : OA) (l_n3 : Nat) (l_c4 : Nat) (lo_5 : Int) (hi_6 : Int) {R : EW} {w : World} : sh113 o_1 l_p2 l_n3 l_c4 lo_5 hi_6 R w → Calls Tryz.prog 113 #[.int .u8 o_1, .slice l_p2 l_n3 l_c4, .int .i64 lo_5, .int .i64 hi_6] w R :=
  ceq Tryz.func113 (by kernel_rfl) (by kernel_rfl)
def sh114 (l_p1 : OA) (l_n2 : Nat) (_l_c3 : Nat) (R : EW) (w : World) : Prop :=
 ∃ (I4 : List Value → World → Prop) (μ5 : List Value → World → Nat), I4 [.slice none 0 0, .int .i64 0] w ∧ (∀ (v_p8 : OA), ∀ (v_n9 : Nat), ∀ (v_c10 : Nat), ∀ (x11 : Int), ∀ (_j6 : Nat → Value) (w7 : World), I4 [.slice v_p8 v_n9 v_c10, .int .i64 x11] w7 → (
 ifB (decide ((x11 : Int) < ((l_n2 : Nat) : Int))) (
 doIx l_p1 l_n2 2 (x11) (fun a12 =>
 ∃ x13, w7.cell? (a12.add 0) = some (.int .i64 x13) ∧ (
 ∃ x14, w7.cell? (a12.add 1) = some (.int .i64 x14) ∧ (
 doAl (.cells #[.int .i64 0, .int .i64 0] 63) w7 (fun b15 w16 =>
 doSt ((blk b15).add 0) (.int .i64 x13) w16 (fun w17 =>
 doSt ((blk b15).add 1) (.int .i64 x14) w17 (fun w18 =>
 ∃ x19, w18.cell? ((blk b15).add 1) = some (.int .i64 x19) ∧ (
 doAl (.cells #[.int .i64 x19] 2) w18 (fun b20 w21 =>
 doGo Tryz.prog (.builtin .append #[28, 28] 28 #[false, false]) #[.slice v_p8 v_n9 v_c10, .slice (some (blk b20)) 1 1] w21 (retS (fun v25 w26 => ∃ xp22 xn23 xc24, v25 = (.slice xp22 xn23 xc24 : Value) ∧ (
 I4 [.slice xp22 xn23 xc24, .int .i64 (IntKind.wrap .i64 (x11 + 1))] w26 ∧ μ5 [.slice xp22 xn23 xc24, .int .i64 (IntKind.wrap .i64 (x11 + 1))] w26 < μ5 [.slice v_p8 v_n9 v_c10, .int .i64 x11] w7)) (kN R))))))))))) (
 doCall Tryz.prog (.func (.func 154) #[] #[]) #[.slice v_p8 v_n9 v_c10] w7 (retS (fun v28 w29 => ∃ x27, v28 = (.int .i64 x27 : Value) ∧ (
 R (.returned (.int .i64 x27)) w29)) (kN R)))))
theorem sh114_ok (l_p1 : OA) (l_n2 : Nat) (l_c3 : Nat) {R : EW} {w : World} : sh114 l_p1 l_n2 l_c3 R w → Calls Tryz.prog 114 #[.slice l_p1 l_n2 l_c3] w R :=
  Old.calls_of_eq (ann := fun i => if i = 0 then [(3, .slice none 0 0), (8, .int .i64 0)] else []) (fn := Tryz.f114) (c := bodyOf Tryz.f114) (args := #[.slice l_p1 l_n2 l_c3]) 400 follows_mixed Tryz.func114 (by kernel_rfl) (by kernel_rfl)
end Go.Proofs.YtmdboekndjlmgaaGreat

