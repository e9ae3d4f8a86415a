/-
  Printed by a program (gen.py): what the functions of the program do, as formulas; each with the proof that its call is what the formula says.
-/
import Derived.Test.YtmdboekndjlmgaaGreatZ04
import Derived.Test.YtmdboekndjlmgaaGreatProg
import Derived.Test.YtmdboekndjlmgaaGreatZ05

set_option maxRecDepth 100000
set_option maxHeartbeats 6400000
namespace Go.Proofs.YtmdboekndjlmgaaGreat
open Go Go.Sh
def sh74 (b_1 : OA) (x_2 : Int) (x_3 : Int) (x_4 : Int) (x_5 : Int) (x_6 : Int) (x_7 : Int) (x_8 : Int) (x_9 : Int) (x_10 : Int) (x_11 : Int) (x_12 : Int) (x_13 : Int) (x_14 : Bool) (x_p15 : OA) (x_n16 : Nat) (x_c17 : Nat) (x_p18 : OA) (x_n19 : Nat) (x_c20 : Nat) (a_p21 : OA) (a_n22 : Nat) (a_c23 : Nat) (_xp24 : OA) (_xn25 : Nat) (_xc26 : Nat) (R : EW) (w : World) : Prop :=
 doAl (.cells #[.int .u8 x_2, .int .i64 x_3, .int .i64 x_4, .int .i64 x_5, .int .i64 x_6, .int .i64 x_7, .int .i64 x_8, .int .i64 x_9, .int .u8 x_10, .int .u8 x_11, .int .i64 x_12, .int .i64 x_13, .bool x_14, .slice x_p15 x_n16 x_c17, .slice x_p18 x_n19 x_c20] 30) w (fun b27 w28 =>
 doAl (.cells #[.int .i64 0, .bool false, .int .i64 0, .int .i64 0, .int .i64 0, .slice none 0 0, .slice none 0 0] 34) w28 (fun b29 w30 =>
 doDr w30 (fun w32 =>
 ∃ (C31 : World → Prop), C31 w32 ∧ (
 ∃ q33, b_1 = some q33 ∧ (
 ∃ x34, (∀ w, C31 w → w.cell? (q33.add 0) = some (.int .u8 x34)) ∧ (
 ∃ x35, (∀ w, C31 w → w.cell? ((blk b27).add 3) = some (.int .i64 x35)) ∧ (
 doCall Tryz.prog (.func (.func 112) #[] #[]) #[.int .u8 x34, .slice a_p21 a_n22 a_c23, .int .i64 x35] w32 (retS (fun v38 w39 => ∃ x36 x37, v38 = (.tuple #[.int .i64 x36, .bool x37] : Value) ∧ (
 doSt (((blk b29).add 4).add 0) (.int .i64 x36) w39 (fun w40 =>
 doSt (((blk b29).add 1).add 0) (.bool x37) w40 (fun w41 =>
 ∃ x42, w41.cell? ((blk b29).add 0) = some (.int .i64 x42) ∧ (
 ∃ x43, w41.cell? ((blk b29).add 1) = some (.bool x43) ∧ (
 ∃ x44, w41.cell? ((blk b29).add 2) = some (.int .i64 x44) ∧ (
 ∃ x45, w41.cell? ((blk b29).add 3) = some (.int .i64 x45) ∧ (
 ∃ x46, w41.cell? ((blk b29).add 4) = some (.int .i64 x46) ∧ (
 ∃ xp47 xn48 xc49, w41.cell? ((blk b29).add 5) = some (.slice xp47 xn48 xc49) ∧ (
 ∃ xp50 xn51 xc52, w41.cell? ((blk b29).add 6) = some (.slice xp50 xn51 xc52) ∧ (
 doSt ((blk b29).add 0) (.int .i64 x42) w41 (fun w53 =>
 doSt ((blk b29).add 1) (.bool x43) w53 (fun w54 =>
 doSt ((blk b29).add 2) (.int .i64 x44) w54 (fun w55 =>
 doSt ((blk b29).add 3) (.int .i64 x45) w55 (fun w56 =>
 doSt ((blk b29).add 4) (.int .i64 x46) w56 (fun w57 =>
 doSt ((blk b29).add 5) (.slice xp47 xn48 xc49) w57 (fun w58 =>
 doSt ((blk b29).add 6) (.slice xp50 xn51 xc52) w58 (fun w59 =>
 ∃ x60, w59.cell? ((blk b29).add 0) = some (.int .i64 x60) ∧ (
 ∃ x61, w59.cell? ((blk b29).add 1) = some (.bool x61) ∧ (
 ∃ x62, w59.cell? ((blk b29).add 2) = some (.int .i64 x62) ∧ (
 ∃ x63, w59.cell? ((blk b29).add 3) = some (.int .i64 x63) ∧ (
 ∃ x64, w59.cell? ((blk b29).add 4) = some (.int .i64 x64) ∧ (
 ∃ xp65 xn66 xc67, w59.cell? ((blk b29).add 5) = some (.slice xp65 xn66 xc67) ∧ (
 ∃ xp68 xn69 xc70, w59.cell? ((blk b29).add 6) = some (.slice xp68 xn69 xc70) ∧ (
 R (.returned (.agg #[.int .i64 x60, .bool x61, .int .i64 x62, .int .i64 x63, .int .i64 x64, .slice xp65 xn66 xc67, .slice xp68 xn69 xc70])) w59))))))))))))))))))))))))) (kN R)))))))))
theorem sh74_ok (b_1 : OA) (x_2 : Int) (x_3 : Int) (x_4 : Int) (x_5 : Int) (x_6 : Int) (x_7 : Int) (x_8 : Int) (x_9 : Int) (x_10 : Int) (x_11 : Int) (x_12 : Int) (x_13 : Int) (x_14 : Bool) (x_p15 : OA) (x_n16 : Nat) (x_c17 : Nat) (x_p18 : OA) (x_n19 : Nat) (x_c20 : Nat) (a_p21 : OA) (a_n22 : Nat) (a_c23 : Nat) (xp24 : OA) (xn25 : Nat) (xc26 : Nat) {R : EW} {w : World} : sh74 b_1 x_2 x_3 x_4 x_5 x_6 x_7 x_8 x_9 x_10 x_11 x_12 x_13 x_14 x_p15 x_n16 x_c17 x_p18 x_n19 x_c20 a_p21 a_n22 a_c23 xp24 xn25 xc26 R w → Calls Tryz.prog 74 #[.pointer b_1, .agg #[.int .u8 x_2, .int .i64 x_3, .int .i64 x_4, .int .i64 x_5, .int .i64 x_6, .int .i64 x_7, .int .i64 x_8, .int .i64 x_9, .int .u8 x_10, .int .u8 x_11, .int .i64 x_12, .int .i64 x_13, .bool x_14, .slice x_p15 x_n16 x_c17, .slice x_p18 x_n19 x_c20], .slice a_p21 a_n22 a_c23, .slice xp24 xn25 xc26] w R :=
  ceq Tryz.func74 (by kernel_rfl) (by kernel_rfl)
def sh75 (_b_1 : OA) (x_2 : Int) (x_3 : Int) (x_4 : Int) (x_5 : Int) (x_6 : Int) (x_7 : Int) (x_8 : Int) (x_9 : Int) (x_10 : Int) (x_11 : Int) (x_12 : Int) (x_13 : Int) (x_14 : Bool) (x_p15 : OA) (x_n16 : Nat) (x_c17 : Nat) (x_p18 : OA) (x_n19 : Nat) (x_c20 : Nat) (a_p21 : OA) (a_n22 : Nat) (_a_c23 : Nat) (_xp24 : OA) (_xn25 : Nat) (_xc26 : Nat) (R : EW) (w : World) : Prop :=
 doAl (.cells #[.int .u8 x_2, .int .i64 x_3, .int .i64 x_4, .int .i64 x_5, .int .i64 x_6, .int .i64 x_7, .int .i64 x_8, .int .i64 x_9, .int .u8 x_10, .int .u8 x_11, .int .i64 x_12, .int .i64 x_13, .bool x_14, .slice x_p15 x_n16 x_c17, .slice x_p18 x_n19 x_c20] 30) w (fun b27 w28 =>
 doAl (.cells #[.int .i64 0, .bool false, .int .i64 0, .int .i64 0, .int .i64 0, .slice none 0 0, .slice none 0 0] 34) w28 (fun b29 w30 =>
 ∃ x31, w30.cell? ((blk b27).add 7) = some (.int .i64 x31) ∧ (
 doIx a_p21 a_n22 2 (x31) (fun a32 =>
 ∃ x33, w30.cell? (a32.add 0) = some (.int .i64 x33) ∧ (
 ∃ x34, w30.cell? (a32.add 1) = some (.int .i64 x34) ∧ (
 doCall Tryz.prog (.func (.func 102) #[] #[]) #[.agg #[.int .i64 x33, .int .i64 x34], .bool true] w30 (retS (fun v46 w47 => ∃ x35 x36 x37 x38 x39 xp40 xn41 xc42 xp43 xn44 xc45, v46 = (.agg #[.int .i64 x35, .bool x36, .int .i64 x37, .int .i64 x38, .int .i64 x39, .slice xp40 xn41 xc42, .slice xp43 xn44 xc45] : Value) ∧ (
 doSt ((blk b29).add 0) (.int .i64 x35) w47 (fun w48 =>
 doSt ((blk b29).add 1) (.bool x36) w48 (fun w49 =>
 doSt ((blk b29).add 2) (.int .i64 x37) w49 (fun w50 =>
 doSt ((blk b29).add 3) (.int .i64 x38) w50 (fun w51 =>
 doSt ((blk b29).add 4) (.int .i64 x39) w51 (fun w52 =>
 doSt ((blk b29).add 5) (.slice xp40 xn41 xc42) w52 (fun w53 =>
 doSt ((blk b29).add 6) (.slice xp43 xn44 xc45) w53 (fun w54 =>
 ∃ x55, w54.cell? ((blk b29).add 0) = some (.int .i64 x55) ∧ (
 ∃ x56, w54.cell? ((blk b29).add 1) = some (.bool x56) ∧ (
 ∃ x57, w54.cell? ((blk b29).add 2) = some (.int .i64 x57) ∧ (
 ∃ x58, w54.cell? ((blk b29).add 3) = some (.int .i64 x58) ∧ (
 ∃ x59, w54.cell? ((blk b29).add 4) = some (.int .i64 x59) ∧ (
 ∃ xp60 xn61 xc62, w54.cell? ((blk b29).add 5) = some (.slice xp60 xn61 xc62) ∧ (
 ∃ xp63 xn64 xc65, w54.cell? ((blk b29).add 6) = some (.slice xp63 xn64 xc65) ∧ (
 R (.returned (.agg #[.int .i64 x55, .bool x56, .int .i64 x57, .int .i64 x58, .int .i64 x59, .slice xp60 xn61 xc62, .slice xp63 xn64 xc65])) w54)))))))))))))))) (kN R))))))))
theorem sh75_ok (b_1 : OA) (x_2 : Int) (x_3 : Int) (x_4 : Int) (x_5 : Int) (x_6 : Int) (x_7 : Int) (x_8 : Int) (x_9 : Int) (x_10 : Int) (x_11 : Int) (x_12 : Int) (x_13 : Int) (x_14 : Bool) (x_p15 : OA) (x_n16 : Nat) (x_c17 : Nat) (x_p18 : OA) (x_n19 : Nat) (x_c20 : Nat) (a_p21 : OA) (a_n22 : Nat) (a_c23 : Nat) (xp24 : OA) (xn25 : Nat) (xc26 : Nat) {R : EW} {w : World} : sh75 b_1 x_2 x_3 x_4 x_5 x_6 x_7 x_8 x_9 x_10 x_11 x_12 x_13 x_14 x_p15 x_n16 x_c17 x_p18 x_n19 x_c20 a_p21 a_n22 a_c23 xp24 xn25 xc26 R w → Calls Tryz.prog 75 #[.pointer b_1, .agg #[.int .u8 x_2, .int .i64 x_3, .int .i64 x_4, .int .i64 x_5, .int .i64 x_6, .int .i64 x_7, .int .i64 x_8, .int .i64 x_9, .int .u8 x_10, .int .u8 x_11, .int .i64 x_12, .int .i64 x_13, .bool x_14, .slice x_p15 x_n16 x_c17, .slice x_p18 x_n19 x_c20], .slice a_p21 a_n22 a_c23, .slice xp24 xn25 xc26] w R :=
  ceq Tryz.func75 (by kernel_rfl) (by kernel_rfl)
def sh76 (b_1 : OA) (x_2 : Int) (x_3 : Int) (x_4 : Int) (x_5 : Int) (x_6 : Int) (x_7 : Int) (x_8 : Int) (x_9 : Int) (x_10 : Int) (x_11 : Int) (x_12 : Int) (x_13 : Int) (x_14 : Bool) (x_p15 : OA) (x_n16 : Nat) (x_c17 : Nat) (x_p18 : OA) (x_n19 : Nat) (x_c20 : Nat) (a_p21 : OA) (a_n22 : Nat) (a_c23 : Nat) (_xp24 : OA) (_xn25 : Nat) (_xc26 : Nat) (R : EW) (w : World) : Prop :=
 doAl (.cells #[.int .u8 x_2, .int .i64 x_3, .int .i64 x_4, .int .i64 x_5, .int .i64 x_6, .int .i64 x_7, .int .i64 x_8, .int .i64 x_9, .int .u8 x_10, .int .u8 x_11, .int .i64 x_12, .int .i64 x_13, .bool x_14, .slice x_p15 x_n16 x_c17, .slice x_p18 x_n19 x_c20] 30) w (fun b27 w28 =>
 doAl (.cells #[.int .i64 0, .bool false, .int .i64 0, .int .i64 0, .int .i64 0, .slice none 0 0, .slice none 0 0] 34) w28 (fun b29 w30 =>
 doDr w30 (fun w32 =>
 ∃ (C31 : World → Prop), C31 w32 ∧ (
 ∃ q33, b_1 = some q33 ∧ (
 ∃ x34, (∀ w, C31 w → w.cell? (q33.add 0) = some (.int .u8 x34)) ∧ (
 ∃ x35, (∀ w, C31 w → w.cell? ((blk b27).add 5) = some (.int .i64 x35)) ∧ (
 ∃ x36, (∀ w, C31 w → w.cell? ((blk b27).add 6) = some (.int .i64 x36)) ∧ (
 doCall Tryz.prog (.func (.func 113) #[] #[]) #[.int .u8 x34, .slice a_p21 a_n22 a_c23, .int .i64 x35, .int .i64 x36] w32 (retS (fun v41 w42 => ∃ xp37 xn38 xc39 x40, v41 = (.tuple #[.slice xp37 xn38 xc39, .int .i64 x40] : Value) ∧ (
 doCall Tryz.prog (.func (.func 105) #[] #[]) #[.pointer b_1, .slice xp37 xn38 xc39, .int .i64 x40] w42 (retS (fun v54 w55 => ∃ x43 x44 x45 x46 x47 xp48 xn49 xc50 xp51 xn52 xc53, v54 = (.agg #[.int .i64 x43, .bool x44, .int .i64 x45, .int .i64 x46, .int .i64 x47, .slice xp48 xn49 xc50, .slice xp51 xn52 xc53] : Value) ∧ (
 C31 w55 ∧ (
 doSt ((blk b29).add 0) (.int .i64 x43) w55 (fun w56 =>
 doSt ((blk b29).add 1) (.bool x44) w56 (fun w57 =>
 doSt ((blk b29).add 2) (.int .i64 x45) w57 (fun w58 =>
 doSt ((blk b29).add 3) (.int .i64 x46) w58 (fun w59 =>
 doSt ((blk b29).add 4) (.int .i64 x47) w59 (fun w60 =>
 doSt ((blk b29).add 5) (.slice xp48 xn49 xc50) w60 (fun w61 =>
 doSt ((blk b29).add 6) (.slice xp51 xn52 xc53) w61 (fun w62 =>
 ∃ x63, w62.cell? ((blk b29).add 0) = some (.int .i64 x63) ∧ (
 ∃ x64, w62.cell? ((blk b29).add 1) = some (.bool x64) ∧ (
 ∃ x65, w62.cell? ((blk b29).add 2) = some (.int .i64 x65) ∧ (
 ∃ x66, w62.cell? ((blk b29).add 3) = some (.int .i64 x66) ∧ (
 ∃ x67, w62.cell? ((blk b29).add 4) = some (.int .i64 x67) ∧ (
 ∃ xp68 xn69 xc70, w62.cell? ((blk b29).add 5) = some (.slice xp68 xn69 xc70) ∧ (
 ∃ xp71 xn72 xc73, w62.cell? ((blk b29).add 6) = some (.slice xp71 xn72 xc73) ∧ (
 R (.returned (.agg #[.int .i64 x63, .bool x64, .int .i64 x65, .int .i64 x66, .int .i64 x67, .slice xp68 xn69 xc70, .slice xp71 xn72 xc73])) w62))))))))))))))))) (kN R)))) (kN R))))))))))
theorem sh76_ok (b_1 : OA) (x_2 : Int) (x_3 : Int) (x_4 : Int) (x_5 : Int) (x_6 : Int) (x_7 : Int) (x_8 : Int) (x_9 : Int) (x_10 : Int) (x_11 : Int) (x_12 : Int) (x_13 : Int) (x_14 : Bool) (x_p15 : OA) (x_n16 : Nat) (x_c17 : Nat) (x_p18 : OA) (x_n19 : Nat) (x_c20 : Nat) (a_p21 : OA) (a_n22 : Nat) (a_c23 : Nat) (xp24 : OA) (xn25 : Nat) (xc26 : Nat) {R : EW} {w : World} : sh76 b_1 x_2 x_3 x_4 x_5 x_6 x_7 x_8 x_9 x_10 x_11 x_12 x_13 x_14 x_p15 x_n16 x_c17 x_p18 x_n19 x_c20 a_p21 a_n22 a_c23 xp24 xn25 xc26 R w → Calls Tryz.prog 76 #[.pointer b_1, .agg #[.int .u8 x_2, .int .i64 x_3, .int .i64 x_4, .int .i64 x_5, .int .i64 x_6, .int .i64 x_7, .int .i64 x_8, .int .i64 x_9, .int .u8 x_10, .int .u8 x_11, .int .i64 x_12, .int .i64 x_13, .bool x_14, .slice x_p15 x_n16 x_c17, .slice x_p18 x_n19 x_c20], .slice a_p21 a_n22 a_c23, .slice xp24 xn25 xc26] w R :=
  ceq Tryz.func76 (by kernel_rfl) (by kernel_rfl)
def sh77 (b_1 : OA) (x_2 : Int) (x_3 : Int) (x_4 : Int) (x_5 : Int) (x_6 : Int) (x_7 : Int) (x_8 : Int) (x_9 : Int) (x_10 : Int) (x_11 : Int) (x_12 : Int) (x_13 : Int) (x_14 : Bool) (x_p15 : OA) (x_n16 : Nat) (x_c17 : Nat) (x_p18 : OA) (x_n19 : Nat) (x_c20 : Nat) (a_p21 : OA) (a_n22 : Nat) (a_c23 : Nat) (_xp24 : OA) (_xn25 : Nat) (_xc26 : Nat) (R : EW) (w : World) : Prop :=
 doAl (.cells #[.int .u8 x_2, .int .i64 x_3, .int .i64 x_4, .int .i64 x_5, .int .i64 x_6, .int .i64 x_7, .int .i64 x_8, .int .i64 x_9, .int .u8 x_10, .int .u8 x_11, .int .i64 x_12, .int .i64 x_13, .bool x_14, .slice x_p15 x_n16 x_c17, .slice x_p18 x_n19 x_c20] 30) w (fun b27 w28 =>
 doAl (.cells #[.int .i64 0, .bool false, .int .i64 0, .int .i64 0, .int .i64 0, .slice none 0 0, .slice none 0 0] 34) w28 (fun b29 w30 =>
 doDr w30 (fun w32 =>
 ∃ (C31 : World → Prop), C31 w32 ∧ (
 ∃ q33, b_1 = some q33 ∧ (
 ∃ x34, (∀ w, C31 w → w.cell? (q33.add 0) = some (.int .u8 x34)) ∧ (
 ∃ x35, (∀ w, C31 w → w.cell? ((blk b27).add 5) = some (.int .i64 x35)) ∧ (
 ∃ x36, (∀ w, C31 w → w.cell? ((blk b27).add 6) = some (.int .i64 x36)) ∧ (
 doCall Tryz.prog (.func (.func 113) #[] #[]) #[.int .u8 x34, .slice a_p21 a_n22 a_c23, .int .i64 x35, .int .i64 x36] w32 (retS (fun v41 w42 => ∃ xp37 xn38 xc39 x40, v41 = (.tuple #[.slice xp37 xn38 xc39, .int .i64 x40] : Value) ∧ (
 doSt ((blk b29).add 0) (.int .i64 0) w42 (fun w43 =>
 doSt ((blk b29).add 1) (.bool false) w43 (fun w44 =>
 doSt ((blk b29).add 2) (.int .i64 0) w44 (fun w45 =>
 doSt ((blk b29).add 3) (.int .i64 0) w45 (fun w46 =>
 doSt ((blk b29).add 4) (.int .i64 ((xn38 : Nat) : Int)) w46 (fun w47 =>
 doSt ((blk b29).add 5) (.slice none 0 0) w47 (fun w48 =>
 doSt ((blk b29).add 6) (.slice none 0 0) w48 (fun w49 =>
 ∃ x50, w49.cell? ((blk b29).add 0) = some (.int .i64 x50) ∧ (
 ∃ x51, w49.cell? ((blk b29).add 1) = some (.bool x51) ∧ (
 ∃ x52, w49.cell? ((blk b29).add 2) = some (.int .i64 x52) ∧ (
 ∃ x53, w49.cell? ((blk b29).add 3) = some (.int .i64 x53) ∧ (
 ∃ x54, w49.cell? ((blk b29).add 4) = some (.int .i64 x54) ∧ (
 ∃ xp55 xn56 xc57, w49.cell? ((blk b29).add 5) = some (.slice xp55 xn56 xc57) ∧ (
 ∃ xp58 xn59 xc60, w49.cell? ((blk b29).add 6) = some (.slice xp58 xn59 xc60) ∧ (
 R (.returned (.agg #[.int .i64 x50, .bool x51, .int .i64 x52, .int .i64 x53, .int .i64 x54, .slice xp55 xn56 xc57, .slice xp58 xn59 xc60])) w49)))))))))))))))) (kN R))))))))))
theorem sh77_ok (b_1 : OA) (x_2 : Int) (x_3 : Int) (x_4 : Int) (x_5 : Int) (x_6 : Int) (x_7 : Int) (x_8 : Int) (x_9 : Int) (x_10 : Int) (x_11 : Int) (x_12 : Int) (x_13 : Int) (x_14 : Bool) (x_p15 : OA) (x_n16 : Nat) (x_c17 : Nat) (x_p18 : OA) (x_n19 : Nat) (x_c20 : Nat) (a_p21 : OA) (a_n22 : Nat) (a_c23 : Nat) (xp24 : OA) (xn25 : Nat) (xc26 : Nat) {R : EW} {w : World} : sh77 b_1 x_2 x_3 x_4 x_5 x_6 x_7 x_8 x_9 x_10 x_11 x_12 x_13 x_14 x_p15 x_n16 x_c17 x_p18 x_n19 x_c20 a_p21 a_n22 a_c23 xp24 xn25 xc26 R w → Calls Tryz.prog 77 #[.pointer b_1, .agg #[.int .u8 x_2, .int .i64 x_3, .int .i64 x_4, .int .i64 x_5, .int .i64 x_6, .int .i64 x_7, .int .i64 x_8, .int .i64 x_9, .int .u8 x_10, .int .u8 x_11, .int .i64 x_12, .int .i64 x_13, .bool x_14, .slice x_p15 x_n16 x_c17, .slice x_p18 x_n19 x_c20], .slice a_p21 a_n22 a_c23, .slice xp24 xn25 xc26] w R :=
  ceq Tryz.func77 (by kernel_rfl) (by kernel_rfl)
def sh78 (b_1 : OA) (x_2 : Int) (x_3 : Int) (x_4 : Int) (x_5 : Int) (x_6 : Int) (x_7 : Int) (x_8 : Int) (x_9 : Int) (x_10 : Int) (x_11 : Int) (x_12 : Int) (x_13 : Int) (x_14 : Bool) (x_p15 : OA) (x_n16 : Nat) (x_c17 : Nat) (x_p18 : OA) (x_n19 : Nat) (x_c20 : Nat) (a_p21 : OA) (a_n22 : Nat) (a_c23 : Nat) (_xp24 : OA) (_xn25 : Nat) (_xc26 : Nat) (R : EW) (w : World) : Prop :=
 doAl (.cells #[.int .u8 x_2, .int .i64 x_3, .int .i64 x_4, .int .i64 x_5, .int .i64 x_6, .int .i64 x_7, .int .i64 x_8, .int .i64 x_9, .int .u8 x_10, .int .u8 x_11, .int .i64 x_12, .int .i64 x_13, .bool x_14, .slice x_p15 x_n16 x_c17, .slice x_p18 x_n19 x_c20] 30) w (fun b27 w28 =>
 doAl (.cells #[.int .i64 0, .bool false, .int .i64 0, .int .i64 0, .int .i64 0, .slice none 0 0, .slice none 0 0] 34) w28 (fun b29 w30 =>
 doDr w30 (fun w32 =>
 ∃ (C31 : World → Prop), C31 w32 ∧ (
 ∃ q33, b_1 = some q33 ∧ (
 ∃ x34, (∀ w, C31 w → w.cell? (q33.add 0) = some (.int .u8 x34)) ∧ (
 ∃ x35, (∀ w, C31 w → w.cell? ((blk b27).add 5) = some (.int .i64 x35)) ∧ (
 ∃ x36, (∀ w, C31 w → w.cell? ((blk b27).add 6) = some (.int .i64 x36)) ∧ (
 doCall Tryz.prog (.func (.func 113) #[] #[]) #[.int .u8 x34, .slice a_p21 a_n22 a_c23, .int .i64 x35, .int .i64 x36] w32 (retS (fun v41 w42 => ∃ xp37 xn38 xc39 x40, v41 = (.tuple #[.slice xp37 xn38 xc39, .int .i64 x40] : Value) ∧ (
 doCall Tryz.prog (.func (.func 114) #[] #[]) #[.slice xp37 xn38 xc39] w42 (retS (fun v44 w45 => ∃ x43, v44 = (.int .i64 x43 : Value) ∧ (
 doSt ((blk b29).add 0) (.int .i64 0) w45 (fun w46 =>
 doSt ((blk b29).add 1) (.bool false) w46 (fun w47 =>
 doSt ((blk b29).add 2) (.int .i64 0) w47 (fun w48 =>
 doSt ((blk b29).add 3) (.int .i64 x43) w48 (fun w49 =>
 doSt ((blk b29).add 4) (.int .i64 0) w49 (fun w50 =>
 doSt ((blk b29).add 5) (.slice none 0 0) w50 (fun w51 =>
 doSt ((blk b29).add 6) (.slice none 0 0) w51 (fun w52 =>
 ∃ x53, w52.cell? ((blk b29).add 0) = some (.int .i64 x53) ∧ (
 ∃ x54, w52.cell? ((blk b29).add 1) = some (.bool x54) ∧ (
 ∃ x55, w52.cell? ((blk b29).add 2) = some (.int .i64 x55) ∧ (
 ∃ x56, w52.cell? ((blk b29).add 3) = some (.int .i64 x56) ∧ (
 ∃ x57, w52.cell? ((blk b29).add 4) = some (.int .i64 x57) ∧ (
 ∃ xp58 xn59 xc60, w52.cell? ((blk b29).add 5) = some (.slice xp58 xn59 xc60) ∧ (
 ∃ xp61 xn62 xc63, w52.cell? ((blk b29).add 6) = some (.slice xp61 xn62 xc63) ∧ (
 R (.returned (.agg #[.int .i64 x53, .bool x54, .int .i64 x55, .int .i64 x56, .int .i64 x57, .slice xp58 xn59 xc60, .slice xp61 xn62 xc63])) w52)))))))))))))))) (kN R)))) (kN R))))))))))
theorem sh78_ok (b_1 : OA) (x_2 : Int) (x_3 : Int) (x_4 : Int) (x_5 : Int) (x_6 : Int) (x_7 : Int) (x_8 : Int) (x_9 : Int) (x_10 : Int) (x_11 : Int) (x_12 : Int) (x_13 : Int) (x_14 : Bool) (x_p15 : OA) (x_n16 : Nat) (x_c17 : Nat) (x_p18 : OA) (x_n19 : Nat) (x_c20 : Nat) (a_p21 : OA) (a_n22 : Nat) (a_c23 : Nat) (xp24 : OA) (xn25 : Nat) (xc26 : Nat) {R : EW} {w : World} : sh78 b_1 x_2 x_3 x_4 x_5 x_6 x_7 x_8 x_9 x_10 x_11 x_12 x_13 x_14 x_p15 x_n16 x_c17 x_p18 x_n19 x_c20 a_p21 a_n22 a_c23 xp24 xn25 xc26 R w → Calls Tryz.prog 78 #[.pointer b_1, .agg #[.int .u8 x_2, .int .i64 x_3, .int .i64 x_4, .int .i64 x_5, .int .i64 x_6, .int .i64 x_7, .int .i64 x_8, .int .i64 x_9, .int .u8 x_10, .int .u8 x_11, .int .i64 x_12, .int .i64 x_13, .bool x_14, .slice x_p15 x_n16 x_c17, .slice x_p18 x_n19 x_c20], .slice a_p21 a_n22 a_c23, .slice xp24 xn25 xc26] w R :=
  ceq Tryz.func78 (by kernel_rfl) (by kernel_rfl)
def sh79 (_b_1 : OA) (x2 : Int) (x3 : Int) (x4 : Int) (x5 : Int) (x6 : Int) (x7 : Int) (x8 : Int) (x9 : Int) (x10 : Int) (x11 : Int) (x12 : Int) (x13 : Int) (x14 : Bool) (xp15 : OA) (xn16 : Nat) (xc17 : Nat) (xp18 : OA) (xn19 : Nat) (xc20 : Nat) (a_p21 : OA) (a_n22 : Nat) (a_c23 : Nat) (_xp24 : OA) (_xn25 : Nat) (_xc26 : Nat) (R : EW) (w : World) : Prop :=
 doAl (.cells #[.int .u8 x2, .int .i64 x3, .int .i64 x4, .int .i64 x5, .int .i64 x6, .int .i64 x7, .int .i64 x8, .int .i64 x9, .int .u8 x10, .int .u8 x11, .int .i64 x12, .int .i64 x13, .bool x14, .slice xp15 xn16 xc17, .slice xp18 xn19 xc20] 30) w (fun _b27 w28 =>
 doAl (.cells #[.int .i64 0, .bool false, .int .i64 0, .int .i64 0, .int .i64 0, .slice none 0 0, .slice none 0 0] 34) w28 (fun b29 w30 =>
 doCall Tryz.prog (.func (.func 27) #[] #[]) #[.slice a_p21 a_n22 a_c23] w30 (retS (fun v34 w35 => ∃ xp31 xn32 xc33, v34 = (.slice xp31 xn32 xc33 : Value) ∧ (
 doSt ((blk b29).add 0) (.int .i64 0) w35 (fun w36 =>
 doSt ((blk b29).add 1) (.bool false) w36 (fun w37 =>
 doSt ((blk b29).add 2) (.int .i64 0) w37 (fun w38 =>
 doSt ((blk b29).add 3) (.int .i64 0) w38 (fun w39 =>
 doSt ((blk b29).add 4) (.int .i64 ((a_n22 : Nat) : Int)) w39 (fun w40 =>
 doSt ((blk b29).add 5) (.slice none 0 0) w40 (fun w41 =>
 doSt ((blk b29).add 6) (.slice xp31 xn32 xc33) w41 (fun w42 =>
 ∃ x43, w42.cell? ((blk b29).add 0) = some (.int .i64 x43) ∧ (
 ∃ x44, w42.cell? ((blk b29).add 1) = some (.bool x44) ∧ (
 ∃ x45, w42.cell? ((blk b29).add 2) = some (.int .i64 x45) ∧ (
 ∃ x46, w42.cell? ((blk b29).add 3) = some (.int .i64 x46) ∧ (
 ∃ x47, w42.cell? ((blk b29).add 4) = some (.int .i64 x47) ∧ (
 ∃ xp48 xn49 xc50, w42.cell? ((blk b29).add 5) = some (.slice xp48 xn49 xc50) ∧ (
 ∃ xp51 xn52 xc53, w42.cell? ((blk b29).add 6) = some (.slice xp51 xn52 xc53) ∧ (
 R (.returned (.agg #[.int .i64 x43, .bool x44, .int .i64 x45, .int .i64 x46, .int .i64 x47, .slice xp48 xn49 xc50, .slice xp51 xn52 xc53])) w42)))))))))))))))) (kN R))))
theorem sh79_ok (b_1 : OA) (x2 : Int) (x3 : Int) (x4 : Int) (x5 : Int) (x6 : Int) (x7 : Int) (x8 : Int) (x9 : Int) (x10 : Int) (x11 : Int) (x12 : Int) (x13 : Int) (x14 : Bool) (xp15 : OA) (xn16 : Nat) (xc17 : Nat) (xp18 : OA) (xn19 : Nat) (xc20 : Nat) (a_p21 : OA) (a_n22 : Nat) (a_c23 : Nat) (xp24 : OA) (xn25 : Nat) (xc26 : Nat) {R : EW} {w : World} : sh79 b_1 x2 x3 x4 x5 x6 x7 x8 x9 x10 x11 x12 x13 x14 xp15 xn16 xc17 xp18 xn19 xc20 a_p21 a_n22 a_c23 xp24 xn25 xc26 R w → Calls Tryz.prog 79 #[.pointer b_1, .agg #[.int .u8 x2, .int .i64 x3, .int .i64 x4, .int .i64 x5, .int .i64 x6, .int .i64 x7, .int .i64 x8, .int .i64 x9, .int .u8 x10, .int .u8 x11, .int .i64 x12, .int .i64 x13, .bool x14, .slice xp15 xn16 xc17, .slice xp18 xn19 xc20], .slice a_p21 a_n22 a_c23, .slice xp24 xn25 xc26] w R :=
  ceq Tryz.func79 (by kernel_rfl) (by kernel_rfl)
def sh80 (b_1 : OA) (x_2 : Int) (x_3 : Int) (x_4 : Int) (x_5 : Int) (x_6 : Int) (x_7 : Int) (x_8 : Int) (x_9 : Int) (x_10 : Int) (x_11 : Int) (x_12 : Int) (x_13 : Int) (x_14 : Bool) (x_p15 : OA) (x_n16 : Nat) (x_c17 : Nat) (x_p18 : OA) (x_n19 : Nat) (x_c20 : Nat) (a_p21 : OA) (a_n22 : Nat) (a_c23 : Nat) (_xp24 : OA) (_xn25 : Nat) (_xc26 : Nat) (R : EW) (w : World) : Prop :=
 doAl (.cells #[.int .u8 x_2, .int .i64 x_3, .int .i64 x_4, .int .i64 x_5, .int .i64 x_6, .int .i64 x_7, .int .i64 x_8, .int .i64 x_9, .int .u8 x_10, .int .u8 x_11, .int .i64 x_12, .int .i64 x_13, .bool x_14, .slice x_p15 x_n16 x_c17, .slice x_p18 x_n19 x_c20] 30) w (fun b27 w28 =>
 doAl (.cells #[.int .i64 0, .bool false, .int .i64 0, .int .i64 0, .int .i64 0, .slice none 0 0, .slice none 0 0] 34) w28 (fun b29 w30 =>
 doDr w30 (fun w32 =>
 ∃ (C31 : World → Prop), C31 w32 ∧ (
 ∃ q33, b_1 = some q33 ∧ (
 ∃ x34, (∀ w, C31 w → w.cell? (q33.add 0) = some (.int .u8 x34)) ∧ (
 ∃ x35, (∀ w, C31 w → w.cell? ((blk b27).add 3) = some (.int .i64 x35)) ∧ (
 doCall Tryz.prog (.func (.func 115) #[] #[]) #[.int .u8 x34, .slice a_p21 a_n22 a_c23, .int .i64 x35] w32 (retS (fun v44 w45 => ∃ xp36 xn37 xc38 x39 x40 xp41 xn42 xc43, v44 = (.tuple #[.slice xp36 xn37 xc38, .int .i64 x39, .bool x40, .slice xp41 xn42 xc43] : Value) ∧ (
 ∃ x46, w45.cell? ((blk b27).add 0) = some (.int .u8 x46) ∧ (
 ∃ x47, w45.cell? ((blk b27).add 1) = some (.int .i64 x47) ∧ (
 ∃ x48, w45.cell? ((blk b27).add 2) = some (.int .i64 x48) ∧ (
 ∃ x49, w45.cell? ((blk b27).add 3) = some (.int .i64 x49) ∧ (
 ∃ x50, w45.cell? ((blk b27).add 4) = some (.int .i64 x50) ∧ (
 ∃ x51, w45.cell? ((blk b27).add 5) = some (.int .i64 x51) ∧ (
 ∃ x52, w45.cell? ((blk b27).add 6) = some (.int .i64 x52) ∧ (
 ∃ x53, w45.cell? ((blk b27).add 7) = some (.int .i64 x53) ∧ (
 ∃ x54, w45.cell? ((blk b27).add 8) = some (.int .u8 x54) ∧ (
 ∃ x55, w45.cell? ((blk b27).add 9) = some (.int .u8 x55) ∧ (
 ∃ x56, w45.cell? ((blk b27).add 10) = some (.int .i64 x56) ∧ (
 ∃ x57, w45.cell? ((blk b27).add 11) = some (.int .i64 x57) ∧ (
 ∃ x58, w45.cell? ((blk b27).add 12) = some (.bool x58) ∧ (
 ∃ xp59 xn60 xc61, w45.cell? ((blk b27).add 13) = some (.slice xp59 xn60 xc61) ∧ (
 ∃ xp62 xn63 xc64, w45.cell? ((blk b27).add 14) = some (.slice xp62 xn63 xc64) ∧ (
 doCall Tryz.prog (.func (.func 99) #[] #[]) #[.pointer b_1, .agg #[.int .u8 x46, .int .i64 x47, .int .i64 x48, .int .i64 x49, .int .i64 x50, .int .i64 x51, .int .i64 x52, .int .i64 x53, .int .u8 x54, .int .u8 x55, .int .i64 x56, .int .i64 x57, .bool x58, .slice xp59 xn60 xc61, .slice xp62 xn63 xc64], .slice a_p21 a_n22 a_c23] w45 (retS (fun v76 w77 => ∃ x65 x66 x67 x68 x69 xp70 xn71 xc72 xp73 xn74 xc75, v76 = (.agg #[.int .i64 x65, .bool x66, .int .i64 x67, .int .i64 x68, .int .i64 x69, .slice xp70 xn71 xc72, .slice xp73 xn74 xc75] : Value) ∧ (
 doAl (.cells #[.slice xp36 xn37 xc38, .slice xp41 xn42 xc43] 22) w77 (fun b78 w79 =>
 doCall Tryz.prog (.func (.func 98) #[] #[]) #[.pointer b_1, .agg #[.int .i64 x65, .bool x66, .int .i64 x67, .int .i64 x68, .int .i64 x69, .slice xp70 xn71 xc72, .slice xp73 xn74 xc75], .slice (some (blk b78)) 2 2] w79 (retS (fun v91 w92 => ∃ x80 x81 x82 x83 x84 xp85 xn86 xc87 xp88 xn89 xc90, v91 = (.agg #[.int .i64 x80, .bool x81, .int .i64 x82, .int .i64 x83, .int .i64 x84, .slice xp85 xn86 xc87, .slice xp88 xn89 xc90] : Value) ∧ (
 doSt ((blk b29).add 0) (.int .i64 x80) w92 (fun w93 =>
 doSt ((blk b29).add 1) (.bool x81) w93 (fun w94 =>
 doSt ((blk b29).add 2) (.int .i64 x82) w94 (fun w95 =>
 doSt ((blk b29).add 3) (.int .i64 x83) w95 (fun w96 =>
 doSt ((blk b29).add 4) (.int .i64 x84) w96 (fun w97 =>
 doSt ((blk b29).add 5) (.slice xp85 xn86 xc87) w97 (fun w98 =>
 doSt ((blk b29).add 6) (.slice xp88 xn89 xc90) w98 (fun w99 =>
 ∃ x100, w99.cell? ((blk b29).add 0) = some (.int .i64 x100) ∧ (
 ∃ x101, w99.cell? ((blk b29).add 1) = some (.bool x101) ∧ (
 ∃ x102, w99.cell? ((blk b29).add 2) = some (.int .i64 x102) ∧ (
 ∃ x103, w99.cell? ((blk b29).add 3) = some (.int .i64 x103) ∧ (
 ∃ x104, w99.cell? ((blk b29).add 4) = some (.int .i64 x104) ∧ (
 ∃ xp105 xn106 xc107, w99.cell? ((blk b29).add 5) = some (.slice xp105 xn106 xc107) ∧ (
 ∃ xp108 xn109 xc110, w99.cell? ((blk b29).add 6) = some (.slice xp108 xn109 xc110) ∧ (
 R (.returned (.agg #[.int .i64 x100, .bool x101, .int .i64 x102, .int .i64 x103, .int .i64 x104, .slice xp105 xn106 xc107, .slice xp108 xn109 xc110])) w99)))))))))))))))) (kN R))))) (kN R))))))))))))))))))) (kN R)))))))))
theorem sh80_ok (b_1 : OA) (x_2 : Int) (x_3 : Int) (x_4 : Int) (x_5 : Int) (x_6 : Int) (x_7 : Int) (x_8 : Int) (x_9 : Int) (x_10 : Int) (x_11 : Int) (x_12 : Int) (x_13 : Int) (x_14 : Bool) (x_p15 : OA) (x_n16 : Nat) (x_c17 : Nat) (x_p18 : OA) (x_n19 : Nat) (x_c20 : Nat) (a_p21 : OA) (a_n22 : Nat) (a_c23 : Nat) (xp24 : OA) (xn25 : Nat) (xc26 : Nat) {R : EW} {w : World} : sh80 b_1 x_2 x_3 x_4 x_5 x_6 x_7 x_8 x_9 x_10 x_11 x_12 x_13 x_14 x_p15 x_n16 x_c17 x_p18 x_n19 x_c20 a_p21 a_n22 a_c23 xp24 xn25 xc26 R w → Calls Tryz.prog 80 #[.pointer b_1, .agg #[.int .u8 x_2, .int .i64 x_3, .int .i64 x_4, .int .i64 x_5, .int .i64 x_6, .int .i64 x_7, .int .i64 x_8, .int .i64 x_9, .int .u8 x_10, .int .u8 x_11, .int .i64 x_12, .int .i64 x_13, .bool x_14, .slice x_p15 x_n16 x_c17, .slice x_p18 x_n19 x_c20], .slice a_p21 a_n22 a_c23, .slice xp24 xn25 xc26] w R :=
  ceq Tryz.func80 (by kernel_rfl) (by kernel_rfl)
def sh81 (x_1 : Int) (x_2 : Int) (x_3 : Int) (x_4 : Int) (x_5 : Int) (x_6 : Int) (x_7 : Int) (x_8 : Int) (x_9 : Int) (x_10 : Int) (x_11 : Int) (x_12 : Int) (x_13 : Bool) (x_p14 : OA) (x_n15 : Nat) (x_c16 : Nat) (x_p17 : OA) (x_n18 : Nat) (x_c19 : Nat) (R : EW) (w : World) : Prop :=
 doAl (.cells #[.int .u8 x_1, .int .i64 x_2, .int .i64 x_3, .int .i64 x_4, .int .i64 x_5, .int .i64 x_6, .int .i64 x_7, .int .i64 x_8, .int .u8 x_9, .int .u8 x_10, .int .i64 x_11, .int .i64 x_12, .bool x_13, .slice x_p14 x_n15 x_c16, .slice x_p17 x_n18 x_c19] 30) w (fun b20 w21 =>
 ∃ x22, w21.cell? ((blk b20).add 0) = some (.int .u8 x22) ∧ (
 ∃ x23, w21.cell? ((blk b20).add 1) = some (.int .i64 x23) ∧ (
 ∃ x24, w21.cell? ((blk b20).add 2) = some (.int .i64 x24) ∧ (
 ∃ x25, w21.cell? ((blk b20).add 3) = some (.int .i64 x25) ∧ (
 ∃ x26, w21.cell? ((blk b20).add 4) = some (.int .i64 x26) ∧ (
 ∃ x27, w21.cell? ((blk b20).add 5) = some (.int .i64 x27) ∧ (
 ∃ x28, w21.cell? ((blk b20).add 6) = some (.int .i64 x28) ∧ (
 ∃ x29, w21.cell? ((blk b20).add 7) = some (.int .i64 x29) ∧ (
 ∃ x30, w21.cell? ((blk b20).add 8) = some (.int .u8 x30) ∧ (
 ∃ x31, w21.cell? ((blk b20).add 9) = some (.int .u8 x31) ∧ (
 ∃ x32, w21.cell? ((blk b20).add 10) = some (.int .i64 x32) ∧ (
 ∃ x33, w21.cell? ((blk b20).add 11) = some (.int .i64 x33) ∧ (
 ∃ x34, w21.cell? ((blk b20).add 12) = some (.bool x34) ∧ (
 ∃ xp35 xn36 xc37, w21.cell? ((blk b20).add 13) = some (.slice xp35 xn36 xc37) ∧ (
 ∃ xp38 xn39 xc40, w21.cell? ((blk b20).add 14) = some (.slice xp38 xn39 xc40) ∧ (
 doCall Tryz.prog (.func (.func 116) #[] #[]) #[.agg #[.int .u8 x22, .int .i64 x23, .int .i64 x24, .int .i64 x25, .int .i64 x26, .int .i64 x27, .int .i64 x28, .int .i64 x29, .int .u8 x30, .int .u8 x31, .int .i64 x32, .int .i64 x33, .bool x34, .slice xp35 xn36 xc37, .slice xp38 xn39 xc40]] w21 (retS (fun v61 w62 => ∃ x41 x42 x43 x44 x45 x46 x47 x48 x49 x50 x51 x52 x53 xp54 xn55 xc56 xp57 xn58 xc59 x60, v61 = (.tuple #[.agg #[.int .u8 x41, .int .i64 x42, .int .i64 x43, .int .i64 x44, .int .i64 x45, .int .i64 x46, .int .i64 x47, .int .i64 x48, .int .u8 x49, .int .u8 x50, .int .i64 x51, .int .i64 x52, .bool x53, .slice xp54 xn55 xc56, .slice xp57 xn58 xc59], .bool x60] : Value) ∧ (
 doAl (.cells #[.int .u8 0, .int .i64 0, .int .i64 0, .int .i64 0, .int .i64 0, .int .i64 0, .int .i64 0, .int .i64 0, .int .u8 0, .int .u8 0, .int .i64 0, .int .i64 0, .bool false, .slice none 0 0, .slice none 0 0] 30) w62 (fun b63 w64 =>
 doSt ((blk b63).add 0) (.int .u8 x41) w64 (fun w65 =>
 doSt ((blk b63).add 1) (.int .i64 x42) w65 (fun w66 =>
 doSt ((blk b63).add 2) (.int .i64 x43) w66 (fun w67 =>
 doSt ((blk b63).add 3) (.int .i64 x44) w67 (fun w68 =>
 doSt ((blk b63).add 4) (.int .i64 x45) w68 (fun w69 =>
 doSt ((blk b63).add 5) (.int .i64 x46) w69 (fun w70 =>
 doSt ((blk b63).add 6) (.int .i64 x47) w70 (fun w71 =>
 doSt ((blk b63).add 7) (.int .i64 x48) w71 (fun w72 =>
 doSt ((blk b63).add 8) (.int .u8 x49) w72 (fun w73 =>
 doSt ((blk b63).add 9) (.int .u8 x50) w73 (fun w74 =>
 doSt ((blk b63).add 10) (.int .i64 x51) w74 (fun w75 =>
 doSt ((blk b63).add 11) (.int .i64 x52) w75 (fun w76 =>
 doSt ((blk b63).add 12) (.bool x53) w76 (fun w77 =>
 doSt ((blk b63).add 13) (.slice xp54 xn55 xc56) w77 (fun w78 =>
 doSt ((blk b63).add 14) (.slice xp57 xn58 xc59) w78 (fun w79 =>
 let K82 : Bool → World → Prop := fun policy_80 w81 => 
 let K84 : World → Prop := fun w83 => 
 R (.returned (.int .i64 0)) w83
 let K87 : Bool → World → Prop := fun x85 w86 => 
 ifB x85 (
 R (.returned (.int .i64 2)) w86) (
 K84 w86)
 ifB (!x60) (
 R (.returned (.int .i64 2)) w81) (
 ∃ x88, w81.cell? ((blk b20).add 0) = some (.int .u8 x88) ∧ (
 ifB (decide ((x88 : Int) < 1)) (
 R (.returned (.int .i64 2)) w81) (
 ∃ x89, w81.cell? ((blk b20).add 0) = some (.int .u8 x89) ∧ (
 ifB (decide ((x89 : Int) > 22)) (
 R (.returned (.int .i64 2)) w81) (
 ∃ x90, w81.cell? ((blk b20).add 0) = some (.int .u8 x90) ∧ (
 ∃ x91, w81.cell? ((blk b20).add 1) = some (.int .i64 x91) ∧ (
 ∃ x92, w81.cell? ((blk b20).add 2) = some (.int .i64 x92) ∧ (
 ∃ x93, w81.cell? ((blk b20).add 3) = some (.int .i64 x93) ∧ (
 ∃ x94, w81.cell? ((blk b20).add 4) = some (.int .i64 x94) ∧ (
 ∃ x95, w81.cell? ((blk b20).add 5) = some (.int .i64 x95) ∧ (
 ∃ x96, w81.cell? ((blk b20).add 6) = some (.int .i64 x96) ∧ (
 ∃ x97, w81.cell? ((blk b20).add 7) = some (.int .i64 x97) ∧ (
 ∃ x98, w81.cell? ((blk b20).add 8) = some (.int .u8 x98) ∧ (
 ∃ x99, w81.cell? ((blk b20).add 9) = some (.int .u8 x99) ∧ (
 ∃ x100, w81.cell? ((blk b20).add 10) = some (.int .i64 x100) ∧ (
 ∃ x101, w81.cell? ((blk b20).add 11) = some (.int .i64 x101) ∧ (
 ∃ x102, w81.cell? ((blk b20).add 12) = some (.bool x102) ∧ (
 ∃ xp103 xn104 xc105, w81.cell? ((blk b20).add 13) = some (.slice xp103 xn104 xc105) ∧ (
 ∃ xp106 xn107 xc108, w81.cell? ((blk b20).add 14) = some (.slice xp106 xn107 xc108) ∧ (
 ∃ x109, w81.cell? ((blk b63).add 0) = some (.int .u8 x109) ∧ (
 ∃ x110, w81.cell? ((blk b63).add 1) = some (.int .i64 x110) ∧ (
 ∃ x111, w81.cell? ((blk b63).add 2) = some (.int .i64 x111) ∧ (
 ∃ x112, w81.cell? ((blk b63).add 3) = some (.int .i64 x112) ∧ (
 ∃ x113, w81.cell? ((blk b63).add 4) = some (.int .i64 x113) ∧ (
 ∃ x114, w81.cell? ((blk b63).add 5) = some (.int .i64 x114) ∧ (
 ∃ x115, w81.cell? ((blk b63).add 6) = some (.int .i64 x115) ∧ (
 ∃ x116, w81.cell? ((blk b63).add 7) = some (.int .i64 x116) ∧ (
 ∃ x117, w81.cell? ((blk b63).add 8) = some (.int .u8 x117) ∧ (
 ∃ x118, w81.cell? ((blk b63).add 9) = some (.int .u8 x118) ∧ (
 ∃ x119, w81.cell? ((blk b63).add 10) = some (.int .i64 x119) ∧ (
 ∃ x120, w81.cell? ((blk b63).add 11) = some (.int .i64 x120) ∧ (
 ∃ x121, w81.cell? ((blk b63).add 12) = some (.bool x121) ∧ (
 ∃ xp122 xn123 xc124, w81.cell? ((blk b63).add 13) = some (.slice xp122 xn123 xc124) ∧ (
 ∃ xp125 xn126 xc127, w81.cell? ((blk b63).add 14) = some (.slice xp125 xn126 xc127) ∧ (
 doCall Tryz.prog (.func (.func 117) #[] #[]) #[.agg #[.int .u8 x90, .int .i64 x91, .int .i64 x92, .int .i64 x93, .int .i64 x94, .int .i64 x95, .int .i64 x96, .int .i64 x97, .int .u8 x98, .int .u8 x99, .int .i64 x100, .int .i64 x101, .bool x102, .slice xp103 xn104 xc105, .slice xp106 xn107 xc108], .agg #[.int .u8 x109, .int .i64 x110, .int .i64 x111, .int .i64 x112, .int .i64 x113, .int .i64 x114, .int .i64 x115, .int .i64 x116, .int .u8 x117, .int .u8 x118, .int .i64 x119, .int .i64 x120, .bool x121, .slice xp122 xn123 xc124, .slice xp125 xn126 xc127]] w81 (retS (fun v129 w130 => ∃ x128, v129 = (.bool x128 : Value) ∧ (
 ifB (!x128) (
 R (.returned (.int .i64 2)) w130) (
 ifB policy_80 (
 ∃ x131, w130.cell? ((blk b20).add 8) = some (.int .u8 x131) ∧ (
 doCall Tryz.prog (.func (.func 118) #[] #[]) #[.int .u8 x131] w130 (retS (fun v133 w134 => ∃ x132, v133 = (.bool x132 : Value) ∧ (
 ifB (!x132) (
 R (.returned (.int .i64 2)) w134) (
 ∃ x135, w134.cell? ((blk b20).add 0) = some (.int .u8 x135) ∧ (
 ifB ((x135 : Int) == 13) (
 ∃ x136, w134.cell? (((blk b20).add 9).add 0) = some (.int .u8 x136) ∧ (
 ∃ x137, w134.cell? (((blk b20).add 9).add 1) = some (.int .i64 x137) ∧ (
 ∃ x138, w134.cell? (((blk b20).add 9).add 2) = some (.int .i64 x138) ∧ (
 ∃ x139, w134.cell? (((blk b20).add 9).add 3) = some (.bool x139) ∧ (
 doCall Tryz.prog (.func (.func 119) #[] #[]) #[.agg #[.int .u8 x136, .int .i64 x137, .int .i64 x138, .bool x139]] w134 (retS (fun v141 w142 => ∃ x140, v141 = (.bool x140 : Value) ∧ (
 K87 (!x140) w142)) (kN R))))))) (
 K84 w134))))) (kN R)))) (
 ∃ x143, w130.cell? ((blk b20).add 0) = some (.int .u8 x143) ∧ (
 ifB ((x143 : Int) == 13) (
 ∃ x144, w130.cell? (((blk b20).add 9).add 0) = some (.int .u8 x144) ∧ (
 ∃ x145, w130.cell? (((blk b20).add 9).add 1) = some (.int .i64 x145) ∧ (
 ∃ x146, w130.cell? (((blk b20).add 9).add 2) = some (.int .i64 x146) ∧ (
 ∃ x147, w130.cell? (((blk b20).add 9).add 3) = some (.bool x147) ∧ (
 doCall Tryz.prog (.func (.func 119) #[] #[]) #[.agg #[.int .u8 x144, .int .i64 x145, .int .i64 x146, .bool x147]] w130 (retS (fun v149 w150 => ∃ x148, v149 = (.bool x148 : Value) ∧ (
 K87 (!x148) w150)) (kN R))))))) (
 K84 w130)))))) (kN R)))))))))))))))))))))))))))))))))))))
 ∃ x151, w79.cell? ((blk b20).add 0) = some (.int .u8 x151) ∧ (
 ifB ((x151 : Int) == 1) (
 K82 true w79) (
 ∃ x152, w79.cell? ((blk b20).add 0) = some (.int .u8 x152) ∧ (
 ifB ((x152 : Int) == 8) (
 K82 true w79) (
 ∃ x153, w79.cell? ((blk b20).add 0) = some (.int .u8 x153) ∧ (
 ifB ((x153 : Int) == 9) (
 K82 true w79) (
 ∃ x154, w79.cell? ((blk b20).add 0) = some (.int .u8 x154) ∧ (
 ifB ((x154 : Int) == 10) (
 K82 true w79) (
 ∃ x155, w79.cell? ((blk b20).add 0) = some (.int .u8 x155) ∧ (
 K82 ((x155 : Int) == 14) w79))))))))))))))))))))))))))) (kN R))))))))))))))))))
theorem sh81_ok (x_1 : Int) (x_2 : Int) (x_3 : Int) (x_4 : Int) (x_5 : Int) (x_6 : Int) (x_7 : Int) (x_8 : Int) (x_9 : Int) (x_10 : Int) (x_11 : Int) (x_12 : Int) (x_13 : Bool) (x_p14 : OA) (x_n15 : Nat) (x_c16 : Nat) (x_p17 : OA) (x_n18 : Nat) (x_c19 : Nat) {R : EW} {w : World} : sh81 x_1 x_2 x_3 x_4 x_5 x_6 x_7 x_8 x_9 x_10 x_11 x_12 x_13 x_p14 x_n15 x_c16 x_p17 x_n18 x_c19 R w → Calls Tryz.prog 81 #[.agg #[.int .u8 x_1, .int .i64 x_2, .int .i64 x_3, .int .i64 x_4, .int .i64 x_5, .int .i64 x_6, .int .i64 x_7, .int .i64 x_8, .int .u8 x_9, .int .u8 x_10, .int .i64 x_11, .int .i64 x_12, .bool x_13, .slice x_p14 x_n15 x_c16, .slice x_p17 x_n18 x_c19]] w R :=
  ceq Tryz.func81 (by kernel_rfl) (by kernel_rfl)
def sh82  (R : EW) (w : World) : Prop :=
 doAl (.map #[] 0) w (fun b1 w2 =>
 doMu Tryz.prog 111 (.map (some b1)) (.int .u8 1) (.agg #[.string (⟨#[117, 112]⟩ : ByteArray), .func (.func 120) #[] #[], .func (.func 121) #[] #[]]) w2 (fun w3 =>
 doMu Tryz.prog 111 (.map (some b1)) (.int .u8 2) (.agg #[.string (⟨#[100, 111, 119, 110]⟩ : ByteArray), .func (.func 122) #[] #[], .func (.func 123) #[] #[]]) w3 (fun w4 =>
 doMu Tryz.prog 111 (.map (some b1)) (.int .u8 3) (.agg #[.string (⟨#[115, 105, 122, 101]⟩ : ByteArray), .func (.func 124) #[] #[], .func (.func 125) #[] #[]]) w4 (fun w5 =>
 doMu Tryz.prog 111 (.map (some b1)) (.int .u8 4) (.agg #[.string (⟨#[98, 105, 116, 115]⟩ : ByteArray), .func (.func 126) #[] #[], .func (.func 128) #[] #[]]) w5 (fun w6 =>
 doMu Tryz.prog 111 (.map (some b1)) (.int .u8 5) (.agg #[.string (⟨#[101, 118, 101, 110]⟩ : ByteArray), .func (.func 129) #[] #[], .func (.func 131) #[] #[]]) w6 (fun w7 =>
 doMu Tryz.prog 111 (.map (some b1)) (.int .u8 6) (.agg #[.string (⟨#[108, 111, 119]⟩ : ByteArray), .func (.func 132) #[] #[], .func (.func 133) #[] #[]]) w7 (fun w8 =>
 doMu Tryz.prog 111 (.map (some b1)) (.int .u8 7) (.agg #[.string (⟨#[109, 105, 120]⟩ : ByteArray), .func (.func 134) #[] #[], .func (.func 136) #[] #[]]) w8 (fun w9 =>
 R (.returned (.map (some b1))) w9))))))))
theorem sh82_ok  {R : EW} {w : World} : sh82  R w → Calls Tryz.prog 82 #[] w R :=
  ceq Tryz.func82 (by kernel_rfl) (by kernel_rfl)
def sh94 (yield_f1 : Fn) (yield_x2 : Array Value) (yield_c3 : Array Value) (x4 : Addr) (R : EW) (w : World) : Prop :=
 ∃ xp5 xn6 xc7, w.cell? x4 = some (.slice xp5 xn6 xc7) ∧ (
 ∃ (I8 : List Value → World → Prop) (μ9 : List Value → World → Nat), I8 [.int .i64 0] w ∧ (∀ (x12 : Int), ∀ (_j10 : Nat → Value) (w11 : World), I8 [.int .i64 x12] w11 → (
 ifB (decide ((x12 : Int) < ((xn6 : Nat) : Int))) (
 let K14 : World → Prop := fun w13 => 
 I8 [.int .i64 (IntKind.wrap .i64 (x12 + 1))] w13 ∧ μ9 [.int .i64 (IntKind.wrap .i64 (x12 + 1))] w13 < μ9 [.int .i64 x12] w11
 let K17 : Bool → World → Prop := fun x15 w16 => 
 ifB x15 (
 R (.returned (.tuple #[])) w16) (
 K14 w16)
 doDr w11 (fun w19 =>
 ∃ (C18 : World → Prop), C18 w19 ∧ (
 ifB (decide ((x12 : Int) > 0)) (
 ∃ xp20 xn21 xc22, (∀ w, C18 w → w.cell? x4 = some (.slice xp20 xn21 xc22)) ∧ (
 doIx xp20 xn21 2 (IntKind.wrap .i64 (x12 - 1)) (fun a23 =>
 ∃ x24, (∀ w, C18 w → w.cell? (a23.add 0) = some (.int .i64 x24)) ∧ (
 ∃ x25, (∀ w, C18 w → w.cell? (a23.add 1) = some (.int .i64 x25)) ∧ (
 ∃ xp26 xn27 xc28, (∀ w, C18 w → w.cell? x4 = some (.slice xp26 xn27 xc28)) ∧ (
 doIx xp26 xn27 2 (x12) (fun a29 =>
 ∃ x30, (∀ w, C18 w → w.cell? (a29.add 0) = some (.int .i64 x30)) ∧ (
 ∃ x31, (∀ w, C18 w → w.cell? (a29.add 1) = some (.int .i64 x31)) ∧ (
 doCall Tryz.prog (.func yield_f1 yield_x2 yield_c3) #[.agg #[.int .i64 x24, .int .i64 x25], .agg #[.int .i64 x30, .int .i64 x31]] w19 (retS (fun v33 w34 => ∃ x32, v33 = (.bool x32 : Value) ∧ (
 C18 w34 ∧ (
 K17 (!x32) w34))) (kN R))))))))))) (
 K14 w19)))) (
 R (.returned (.tuple #[])) w11))))
theorem sh94_ok (yield_f1 : Fn) (yield_x2 : Array Value) (yield_c3 : Array Value) (x4 : Addr) {R : EW} {w : World} : sh94 yield_f1 yield_x2 yield_c3 x4 R w → Calls Tryz.prog 94 #[.func yield_f1 yield_x2 yield_c3, .pointer (some x4)] w R :=
  Old.calls_of_eq (ann := fun i => if i = 0 then [(6, .int .i64 0)] else []) (fn := Tryz.f94) (c := bodyOf Tryz.f94) (args := #[.func yield_f1 yield_x2 yield_c3, .pointer (some x4)]) 400 follows_mixed Tryz.func94 (by kernel_rfl) (by kernel_rfl)
def sh95 (o_1 : Int) (key_2 : Int) (R : EW) (w : World) : Prop :=
 let K6 : Addr → Bool → World → Prop := fun k_3 is_4 w5 => 
 ifB (!is_4) (
 R (.returned (.tuple #[.int .u64 0, .int .i64 2])) w5) (
 ∃ xf7 xx8 xc9, w5.cell? (k_3.add 1) = some (.func xf7 xx8 xc9) ∧ (
 doCall Tryz.prog (.func xf7 xx8 xc9) #[.int .i64 key_2] w5 (retS (fun v11 w12 => ∃ x10, v11 = (.int .u64 x10 : Value) ∧ (
 R (.returned (.tuple #[.int .u64 x10, .int .i64 0])) w12)) (kN R))))
 doCall Tryz.prog (.func (.func 82) #[] #[]) #[] w (retS (fun v14 w15 => ∃ x13, v14 = (.map x13 : Value) ∧ (
 doLk Tryz.prog 111 (.map x13) (.int .u8 o_1) true w15 (fun v24 => (∃ x16 xf17 xx18 xc19 xf20 xx21 xc22 x23, v24 = (.tuple #[.agg #[.string x16, .func xf17 xx18 xc19, .func xf20 xx21 xc22], .bool x23] : Value) ∧ (
 doAl (.cells #[.string (⟨#[]⟩ : ByteArray), .nilFunc, .nilFunc] 110) w15 (fun b25 w26 =>
 doSt ((blk b25).add 0) (.string x16) w26 (fun w27 =>
 doSt ((blk b25).add 1) (.func xf17 xx18 xc19) w27 (fun w28 =>
 doSt ((blk b25).add 2) (.func xf20 xx21 xc22) w28 (fun w29 =>
 K6 (blk b25) x23 w29)))))) ∨ (v24 = (.tuple #[.agg #[.string (⟨#[]⟩ : ByteArray), .nilFunc, .nilFunc], .bool false] : Value) ∧ (
 doAl (.cells #[.string (⟨#[]⟩ : ByteArray), .nilFunc, .nilFunc] 110) w15 (fun b30 w31 =>
 doSt ((blk b30).add 0) (.string (⟨#[]⟩ : ByteArray)) w31 (fun w32 =>
 doSt ((blk b30).add 1) (.nilFunc) w32 (fun w33 =>
 doSt ((blk b30).add 2) (.nilFunc) w33 (fun w34 =>
 K6 (blk b30) false w34))))))))) (kN R))
theorem sh95_ok (o_1 : Int) (key_2 : Int) {R : EW} {w : World} : sh95 o_1 key_2 R w → Calls Tryz.prog 95 #[.int .u8 o_1, .int .i64 key_2] w R :=
  ceq Tryz.func95 (by kernel_rfl) (by kernel_rfl)
def sh96 (x_1 : Int) (y_2 : Int) (R : EW) (w : World) : Prop :=
 doCall Tryz.prog (.func (.func 140) #[] #[]) #[.int .u64 x_1] w (retS (fun v4 w5 => ∃ x3, v4 = (.bool x3 : Value) ∧ (
 doCall Tryz.prog (.func (.func 140) #[] #[]) #[.int .u64 y_2] w5 (retS (fun v7 w8 => ∃ x6, v7 = (.bool x6 : Value) ∧ (
 ifB x3 (
 ifB x6 (
 R (.returned (.int .i64 0)) w8) (
 R (.returned (.int .i64 (-1))) w8)) (
 ifB x6 (
 R (.returned (.int .i64 1)) w8) (
 ifB (decide ((x_1 : Int) < y_2)) (
 R (.returned (.int .i64 (-1))) w8) (
 ifB (decide ((x_1 : Int) > y_2)) (
 R (.returned (.int .i64 1)) w8) (
 R (.returned (.int .i64 0)) w8)))))) (kN R)))) (kN R))
theorem sh96_ok (x_1 : Int) (y_2 : Int) {R : EW} {w : World} : sh96 x_1 y_2 R w → Calls Tryz.prog 96 #[.int .u64 x_1, .int .u64 y_2] w R :=
  ceq Tryz.func96 (by kernel_rfl) (by kernel_rfl)
end Go.Proofs.YtmdboekndjlmgaaGreat

