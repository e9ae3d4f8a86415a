/-
  Printed by a program (gen.py): what the functions of the program do, as formulas; each with the proof that its call is what the formula says.
-/
import Derived.Test.YtmdboekndjlmgaaGreatZ04
import Derived.Test.YtmdboekndjlmgaaGreatProg
import Derived.Test.YtmdboekndjlmgaaGreatZ05

set_option maxRecDepth 100000
set_option maxHeartbeats 6400000
namespace Go.Proofs.YtmdboekndjlmgaaGreat
open Go Go.Sh
def sh59 (b_1 : OA) (x_2 : Int) (x_3 : Int) (x_4 : Int) (x_5 : Int) (x_6 : Int) (x_7 : Int) (x_8 : Int) (x_9 : Int) (x_10 : Int) (x_11 : Int) (x_12 : Int) (x_13 : Int) (x_14 : Bool) (x_p15 : OA) (x_n16 : Nat) (x_c17 : Nat) (x_p18 : OA) (x_n19 : Nat) (x_c20 : Nat) (a_p21 : OA) (a_n22 : Nat) (a_c23 : Nat) (_xp24 : OA) (_xn25 : Nat) (_xc26 : Nat) (R : EW) (w : World) : Prop :=
 doAl (.cells #[.int .u8 x_2, .int .i64 x_3, .int .i64 x_4, .int .i64 x_5, .int .i64 x_6, .int .i64 x_7, .int .i64 x_8, .int .i64 x_9, .int .u8 x_10, .int .u8 x_11, .int .i64 x_12, .int .i64 x_13, .bool x_14, .slice x_p15 x_n16 x_c17, .slice x_p18 x_n19 x_c20] 30) w (fun b27 w28 =>
 doAl (.cells #[.int .i64 0, .bool false, .int .i64 0, .int .i64 0, .int .i64 0, .slice none 0 0, .slice none 0 0] 34) w28 (fun b29 w30 =>
 doDr w30 (fun w32 =>
 ∃ (C31 : World → Prop), C31 w32 ∧ (
 ∃ q33, b_1 = some q33 ∧ (
 ∃ x34, (∀ w, C31 w → w.cell? (q33.add 0) = some (.int .u8 x34)) ∧ (
 ∃ x35, (∀ w, C31 w → w.cell? ((blk b27).add 8) = some (.int .u8 x35)) ∧ (
 ∃ x36, (∀ w, C31 w → w.cell? ((blk b27).add 3) = some (.int .i64 x36)) ∧ (
 ∃ x37, (∀ w, C31 w → w.cell? ((blk b27).add 4) = some (.int .i64 x37)) ∧ (
 doCall Tryz.prog (.func (.func 97) #[] #[]) #[.int .u8 x34, .int .u8 x35, .slice a_p21 a_n22 a_c23, .agg #[.int .i64 x36, .int .i64 x37]] w32 (retS (fun v42 w43 => ∃ xp38 xn39 xc40 x41, v42 = (.tuple #[.slice xp38 xn39 xc40, .int .i64 x41] : Value) ∧ (
 C31 w43 ∧ (
 ∃ x44, w43.cell? ((blk b27).add 0) = some (.int .u8 x44) ∧ (
 ∃ x45, w43.cell? ((blk b27).add 1) = some (.int .i64 x45) ∧ (
 ∃ x46, w43.cell? ((blk b27).add 2) = some (.int .i64 x46) ∧ (
 ∃ x47, w43.cell? ((blk b27).add 3) = some (.int .i64 x47) ∧ (
 ∃ x48, w43.cell? ((blk b27).add 4) = some (.int .i64 x48) ∧ (
 ∃ x49, w43.cell? ((blk b27).add 5) = some (.int .i64 x49) ∧ (
 ∃ x50, w43.cell? ((blk b27).add 6) = some (.int .i64 x50) ∧ (
 ∃ x51, w43.cell? ((blk b27).add 7) = some (.int .i64 x51) ∧ (
 ∃ x52, w43.cell? ((blk b27).add 8) = some (.int .u8 x52) ∧ (
 ∃ x53, w43.cell? ((blk b27).add 9) = some (.int .u8 x53) ∧ (
 ∃ x54, w43.cell? ((blk b27).add 10) = some (.int .i64 x54) ∧ (
 ∃ x55, w43.cell? ((blk b27).add 11) = some (.int .i64 x55) ∧ (
 ∃ x56, w43.cell? ((blk b27).add 12) = some (.bool x56) ∧ (
 ∃ xp57 xn58 xc59, w43.cell? ((blk b27).add 13) = some (.slice xp57 xn58 xc59) ∧ (
 ∃ xp60 xn61 xc62, w43.cell? ((blk b27).add 14) = some (.slice xp60 xn61 xc62) ∧ (
 doCall Tryz.prog (.func (.func 99) #[] #[]) #[.pointer b_1, .agg #[.int .u8 x44, .int .i64 x45, .int .i64 x46, .int .i64 x47, .int .i64 x48, .int .i64 x49, .int .i64 x50, .int .i64 x51, .int .u8 x52, .int .u8 x53, .int .i64 x54, .int .i64 x55, .bool x56, .slice xp57 xn58 xc59, .slice xp60 xn61 xc62], .slice a_p21 a_n22 a_c23] w43 (retS (fun v74 w75 => ∃ x63 x64 x65 x66 x67 xp68 xn69 xc70 xp71 xn72 xc73, v74 = (.agg #[.int .i64 x63, .bool x64, .int .i64 x65, .int .i64 x66, .int .i64 x67, .slice xp68 xn69 xc70, .slice xp71 xn72 xc73] : Value) ∧ (
 doAl (.cells #[.slice xp38 xn39 xc40] 22) w75 (fun b76 w77 =>
 doCall Tryz.prog (.func (.func 98) #[] #[]) #[.pointer b_1, .agg #[.int .i64 x63, .bool x64, .int .i64 x65, .int .i64 x66, .int .i64 x67, .slice xp68 xn69 xc70, .slice xp71 xn72 xc73], .slice (some (blk b76)) 1 1] w77 (retS (fun v89 w90 => ∃ x78 x79 x80 x81 x82 xp83 xn84 xc85 xp86 xn87 xc88, v89 = (.agg #[.int .i64 x78, .bool x79, .int .i64 x80, .int .i64 x81, .int .i64 x82, .slice xp83 xn84 xc85, .slice xp86 xn87 xc88] : Value) ∧ (
 doSt ((blk b29).add 0) (.int .i64 x78) w90 (fun w91 =>
 doSt ((blk b29).add 1) (.bool x79) w91 (fun w92 =>
 doSt ((blk b29).add 2) (.int .i64 x80) w92 (fun w93 =>
 doSt ((blk b29).add 3) (.int .i64 x81) w93 (fun w94 =>
 doSt ((blk b29).add 4) (.int .i64 x82) w94 (fun w95 =>
 doSt ((blk b29).add 5) (.slice xp83 xn84 xc85) w95 (fun w96 =>
 doSt ((blk b29).add 6) (.slice xp86 xn87 xc88) w96 (fun w97 =>
 ∃ x98, w97.cell? ((blk b29).add 0) = some (.int .i64 x98) ∧ (
 ∃ x99, w97.cell? ((blk b29).add 1) = some (.bool x99) ∧ (
 ∃ x100, w97.cell? ((blk b29).add 2) = some (.int .i64 x100) ∧ (
 ∃ x101, w97.cell? ((blk b29).add 3) = some (.int .i64 x101) ∧ (
 ∃ x102, w97.cell? ((blk b29).add 4) = some (.int .i64 x102) ∧ (
 ∃ xp103 xn104 xc105, w97.cell? ((blk b29).add 5) = some (.slice xp103 xn104 xc105) ∧ (
 ∃ xp106 xn107 xc108, w97.cell? ((blk b29).add 6) = some (.slice xp106 xn107 xc108) ∧ (
 R (.returned (.agg #[.int .i64 x98, .bool x99, .int .i64 x100, .int .i64 x101, .int .i64 x102, .slice xp103 xn104 xc105, .slice xp106 xn107 xc108])) w97)))))))))))))))) (kN R))))) (kN R)))))))))))))))))))) (kN R)))))))))))
theorem sh59_ok (b_1 : OA) (x_2 : Int) (x_3 : Int) (x_4 : Int) (x_5 : Int) (x_6 : Int) (x_7 : Int) (x_8 : Int) (x_9 : Int) (x_10 : Int) (x_11 : Int) (x_12 : Int) (x_13 : Int) (x_14 : Bool) (x_p15 : OA) (x_n16 : Nat) (x_c17 : Nat) (x_p18 : OA) (x_n19 : Nat) (x_c20 : Nat) (a_p21 : OA) (a_n22 : Nat) (a_c23 : Nat) (xp24 : OA) (xn25 : Nat) (xc26 : Nat) {R : EW} {w : World} : sh59 b_1 x_2 x_3 x_4 x_5 x_6 x_7 x_8 x_9 x_10 x_11 x_12 x_13 x_14 x_p15 x_n16 x_c17 x_p18 x_n19 x_c20 a_p21 a_n22 a_c23 xp24 xn25 xc26 R w → Calls Tryz.prog 59 #[.pointer b_1, .agg #[.int .u8 x_2, .int .i64 x_3, .int .i64 x_4, .int .i64 x_5, .int .i64 x_6, .int .i64 x_7, .int .i64 x_8, .int .i64 x_9, .int .u8 x_10, .int .u8 x_11, .int .i64 x_12, .int .i64 x_13, .bool x_14, .slice x_p15 x_n16 x_c17, .slice x_p18 x_n19 x_c20], .slice a_p21 a_n22 a_c23, .slice xp24 xn25 xc26] w R :=
  ceq Tryz.func59 (by kernel_rfl) (by kernel_rfl)
def sh60 (b_1 : OA) (x_2 : Int) (x_3 : Int) (x_4 : Int) (x_5 : Int) (x_6 : Int) (x_7 : Int) (x_8 : Int) (x_9 : Int) (x_10 : Int) (x_11 : Int) (x_12 : Int) (x_13 : Int) (x_14 : Bool) (x_p15 : OA) (x_n16 : Nat) (x_c17 : Nat) (x_p18 : OA) (x_n19 : Nat) (x_c20 : Nat) (a_p21 : OA) (a_n22 : Nat) (a_c23 : Nat) (_xp24 : OA) (_xn25 : Nat) (_xc26 : Nat) (R : EW) (w : World) : Prop :=
 doAl (.cells #[.int .u8 x_2, .int .i64 x_3, .int .i64 x_4, .int .i64 x_5, .int .i64 x_6, .int .i64 x_7, .int .i64 x_8, .int .i64 x_9, .int .u8 x_10, .int .u8 x_11, .int .i64 x_12, .int .i64 x_13, .bool x_14, .slice x_p15 x_n16 x_c17, .slice x_p18 x_n19 x_c20] 30) w (fun b27 w28 =>
 doAl (.cells #[.int .i64 0, .bool false, .int .i64 0, .int .i64 0, .int .i64 0, .slice none 0 0, .slice none 0 0] 34) w28 (fun b29 w30 =>
 doDr w30 (fun w32 =>
 ∃ (C31 : World → Prop), C31 w32 ∧ (
 ∃ q33, b_1 = some q33 ∧ (
 ∃ x34, (∀ w, C31 w → w.cell? (q33.add 0) = some (.int .u8 x34)) ∧ (
 ∃ x35, (∀ w, C31 w → w.cell? ((blk b27).add 3) = some (.int .i64 x35)) ∧ (
 doCall Tryz.prog (.func (.func 100) #[] #[]) #[.int .u8 x34, .slice a_p21 a_n22 a_c23, .int .i64 x35] w32 (retS (fun v40 w41 => ∃ xp36 xn37 xc38 x39, v40 = (.tuple #[.slice xp36 xn37 xc38, .bool x39] : Value) ∧ (
 ∃ x42, w41.cell? ((blk b27).add 0) = some (.int .u8 x42) ∧ (
 ∃ x43, w41.cell? ((blk b27).add 1) = some (.int .i64 x43) ∧ (
 ∃ x44, w41.cell? ((blk b27).add 2) = some (.int .i64 x44) ∧ (
 ∃ x45, w41.cell? ((blk b27).add 3) = some (.int .i64 x45) ∧ (
 ∃ x46, w41.cell? ((blk b27).add 4) = some (.int .i64 x46) ∧ (
 ∃ x47, w41.cell? ((blk b27).add 5) = some (.int .i64 x47) ∧ (
 ∃ x48, w41.cell? ((blk b27).add 6) = some (.int .i64 x48) ∧ (
 ∃ x49, w41.cell? ((blk b27).add 7) = some (.int .i64 x49) ∧ (
 ∃ x50, w41.cell? ((blk b27).add 8) = some (.int .u8 x50) ∧ (
 ∃ x51, w41.cell? ((blk b27).add 9) = some (.int .u8 x51) ∧ (
 ∃ x52, w41.cell? ((blk b27).add 10) = some (.int .i64 x52) ∧ (
 ∃ x53, w41.cell? ((blk b27).add 11) = some (.int .i64 x53) ∧ (
 ∃ x54, w41.cell? ((blk b27).add 12) = some (.bool x54) ∧ (
 ∃ xp55 xn56 xc57, w41.cell? ((blk b27).add 13) = some (.slice xp55 xn56 xc57) ∧ (
 ∃ xp58 xn59 xc60, w41.cell? ((blk b27).add 14) = some (.slice xp58 xn59 xc60) ∧ (
 doCall Tryz.prog (.func (.func 99) #[] #[]) #[.pointer b_1, .agg #[.int .u8 x42, .int .i64 x43, .int .i64 x44, .int .i64 x45, .int .i64 x46, .int .i64 x47, .int .i64 x48, .int .i64 x49, .int .u8 x50, .int .u8 x51, .int .i64 x52, .int .i64 x53, .bool x54, .slice xp55 xn56 xc57, .slice xp58 xn59 xc60], .slice a_p21 a_n22 a_c23] w41 (retS (fun v72 w73 => ∃ x61 x62 x63 x64 x65 xp66 xn67 xc68 xp69 xn70 xc71, v72 = (.agg #[.int .i64 x61, .bool x62, .int .i64 x63, .int .i64 x64, .int .i64 x65, .slice xp66 xn67 xc68, .slice xp69 xn70 xc71] : Value) ∧ (
 doAl (.cells #[.slice xp36 xn37 xc38] 22) w73 (fun b74 w75 =>
 doCall Tryz.prog (.func (.func 98) #[] #[]) #[.pointer b_1, .agg #[.int .i64 x61, .bool x62, .int .i64 x63, .int .i64 x64, .int .i64 x65, .slice xp66 xn67 xc68, .slice xp69 xn70 xc71], .slice (some (blk b74)) 1 1] w75 (retS (fun v87 w88 => ∃ x76 x77 x78 x79 x80 xp81 xn82 xc83 xp84 xn85 xc86, v87 = (.agg #[.int .i64 x76, .bool x77, .int .i64 x78, .int .i64 x79, .int .i64 x80, .slice xp81 xn82 xc83, .slice xp84 xn85 xc86] : Value) ∧ (
 doSt ((blk b29).add 0) (.int .i64 x76) w88 (fun w89 =>
 doSt ((blk b29).add 1) (.bool x77) w89 (fun w90 =>
 doSt ((blk b29).add 2) (.int .i64 x78) w90 (fun w91 =>
 doSt ((blk b29).add 3) (.int .i64 x79) w91 (fun w92 =>
 doSt ((blk b29).add 4) (.int .i64 x80) w92 (fun w93 =>
 doSt ((blk b29).add 5) (.slice xp81 xn82 xc83) w93 (fun w94 =>
 doSt ((blk b29).add 6) (.slice xp84 xn85 xc86) w94 (fun w95 =>
 ∃ x96, w95.cell? ((blk b29).add 0) = some (.int .i64 x96) ∧ (
 ∃ x97, w95.cell? ((blk b29).add 1) = some (.bool x97) ∧ (
 ∃ x98, w95.cell? ((blk b29).add 2) = some (.int .i64 x98) ∧ (
 ∃ x99, w95.cell? ((blk b29).add 3) = some (.int .i64 x99) ∧ (
 ∃ x100, w95.cell? ((blk b29).add 4) = some (.int .i64 x100) ∧ (
 ∃ xp101 xn102 xc103, w95.cell? ((blk b29).add 5) = some (.slice xp101 xn102 xc103) ∧ (
 ∃ xp104 xn105 xc106, w95.cell? ((blk b29).add 6) = some (.slice xp104 xn105 xc106) ∧ (
 R (.returned (.agg #[.int .i64 x96, .bool x97, .int .i64 x98, .int .i64 x99, .int .i64 x100, .slice xp101 xn102 xc103, .slice xp104 xn105 xc106])) w95)))))))))))))))) (kN R))))) (kN R))))))))))))))))))) (kN R)))))))))
theorem sh60_ok (b_1 : OA) (x_2 : Int) (x_3 : Int) (x_4 : Int) (x_5 : Int) (x_6 : Int) (x_7 : Int) (x_8 : Int) (x_9 : Int) (x_10 : Int) (x_11 : Int) (x_12 : Int) (x_13 : Int) (x_14 : Bool) (x_p15 : OA) (x_n16 : Nat) (x_c17 : Nat) (x_p18 : OA) (x_n19 : Nat) (x_c20 : Nat) (a_p21 : OA) (a_n22 : Nat) (a_c23 : Nat) (xp24 : OA) (xn25 : Nat) (xc26 : Nat) {R : EW} {w : World} : sh60 b_1 x_2 x_3 x_4 x_5 x_6 x_7 x_8 x_9 x_10 x_11 x_12 x_13 x_14 x_p15 x_n16 x_c17 x_p18 x_n19 x_c20 a_p21 a_n22 a_c23 xp24 xn25 xc26 R w → Calls Tryz.prog 60 #[.pointer b_1, .agg #[.int .u8 x_2, .int .i64 x_3, .int .i64 x_4, .int .i64 x_5, .int .i64 x_6, .int .i64 x_7, .int .i64 x_8, .int .i64 x_9, .int .u8 x_10, .int .u8 x_11, .int .i64 x_12, .int .i64 x_13, .bool x_14, .slice x_p15 x_n16 x_c17, .slice x_p18 x_n19 x_c20], .slice a_p21 a_n22 a_c23, .slice xp24 xn25 xc26] w R :=
  ceq Tryz.func60 (by kernel_rfl) (by kernel_rfl)
def sh61 (b_1 : OA) (x_2 : Int) (x_3 : Int) (x_4 : Int) (x_5 : Int) (x_6 : Int) (x_7 : Int) (x_8 : Int) (x_9 : Int) (x_10 : Int) (x_11 : Int) (x_12 : Int) (x_13 : Int) (x_14 : Bool) (x_p15 : OA) (x_n16 : Nat) (x_c17 : Nat) (x_p18 : OA) (x_n19 : Nat) (x_c20 : Nat) (a_p21 : OA) (a_n22 : Nat) (a_c23 : Nat) (_xp24 : OA) (_xn25 : Nat) (_xc26 : Nat) (R : EW) (w : World) : Prop :=
 doAl (.cells #[.int .u8 x_2, .int .i64 x_3, .int .i64 x_4, .int .i64 x_5, .int .i64 x_6, .int .i64 x_7, .int .i64 x_8, .int .i64 x_9, .int .u8 x_10, .int .u8 x_11, .int .i64 x_12, .int .i64 x_13, .bool x_14, .slice x_p15 x_n16 x_c17, .slice x_p18 x_n19 x_c20] 30) w (fun b27 w28 =>
 doAl (.cells #[.int .i64 0, .bool false, .int .i64 0, .int .i64 0, .int .i64 0, .slice none 0 0, .slice none 0 0] 34) w28 (fun b29 w30 =>
 doDr w30 (fun w32 =>
 ∃ (C31 : World → Prop), C31 w32 ∧ (
 ∃ q33, b_1 = some q33 ∧ (
 ∃ x34, (∀ w, C31 w → w.cell? (q33.add 0) = some (.int .u8 x34)) ∧ (
 ∃ x35, (∀ w, C31 w → w.cell? ((blk b27).add 3) = some (.int .i64 x35)) ∧ (
 doCall Tryz.prog (.func (.func 101) #[] #[]) #[.int .u8 x34, .slice a_p21 a_n22 a_c23, .int .i64 x35] w32 (retS (fun v38 w39 => ∃ x36 x37, v38 = (.tuple #[.int .i64 x36, .bool x37] : Value) ∧ (
 ∃ x40, w39.cell? ((blk b27).add 3) = some (.int .i64 x40) ∧ (
 doCall Tryz.prog (.func (.func 102) #[] #[]) #[.agg #[.int .i64 x40, .int .i64 x36], .bool x37] w39 (retS (fun v52 w53 => ∃ x41 x42 x43 x44 x45 xp46 xn47 xc48 xp49 xn50 xc51, v52 = (.agg #[.int .i64 x41, .bool x42, .int .i64 x43, .int .i64 x44, .int .i64 x45, .slice xp46 xn47 xc48, .slice xp49 xn50 xc51] : Value) ∧ (
 doSt ((blk b29).add 0) (.int .i64 x41) w53 (fun w54 =>
 doSt ((blk b29).add 1) (.bool x42) w54 (fun w55 =>
 doSt ((blk b29).add 2) (.int .i64 x43) w55 (fun w56 =>
 doSt ((blk b29).add 3) (.int .i64 x44) w56 (fun w57 =>
 doSt ((blk b29).add 4) (.int .i64 x45) w57 (fun w58 =>
 doSt ((blk b29).add 5) (.slice xp46 xn47 xc48) w58 (fun w59 =>
 doSt ((blk b29).add 6) (.slice xp49 xn50 xc51) w59 (fun w60 =>
 ∃ x61, w60.cell? ((blk b29).add 0) = some (.int .i64 x61) ∧ (
 ∃ x62, w60.cell? ((blk b29).add 1) = some (.bool x62) ∧ (
 ∃ x63, w60.cell? ((blk b29).add 2) = some (.int .i64 x63) ∧ (
 ∃ x64, w60.cell? ((blk b29).add 3) = some (.int .i64 x64) ∧ (
 ∃ x65, w60.cell? ((blk b29).add 4) = some (.int .i64 x65) ∧ (
 ∃ xp66 xn67 xc68, w60.cell? ((blk b29).add 5) = some (.slice xp66 xn67 xc68) ∧ (
 ∃ xp69 xn70 xc71, w60.cell? ((blk b29).add 6) = some (.slice xp69 xn70 xc71) ∧ (
 R (.returned (.agg #[.int .i64 x61, .bool x62, .int .i64 x63, .int .i64 x64, .int .i64 x65, .slice xp66 xn67 xc68, .slice xp69 xn70 xc71])) w60)))))))))))))))) (kN R))))) (kN R)))))))))
theorem sh61_ok (b_1 : OA) (x_2 : Int) (x_3 : Int) (x_4 : Int) (x_5 : Int) (x_6 : Int) (x_7 : Int) (x_8 : Int) (x_9 : Int) (x_10 : Int) (x_11 : Int) (x_12 : Int) (x_13 : Int) (x_14 : Bool) (x_p15 : OA) (x_n16 : Nat) (x_c17 : Nat) (x_p18 : OA) (x_n19 : Nat) (x_c20 : Nat) (a_p21 : OA) (a_n22 : Nat) (a_c23 : Nat) (xp24 : OA) (xn25 : Nat) (xc26 : Nat) {R : EW} {w : World} : sh61 b_1 x_2 x_3 x_4 x_5 x_6 x_7 x_8 x_9 x_10 x_11 x_12 x_13 x_14 x_p15 x_n16 x_c17 x_p18 x_n19 x_c20 a_p21 a_n22 a_c23 xp24 xn25 xc26 R w → Calls Tryz.prog 61 #[.pointer b_1, .agg #[.int .u8 x_2, .int .i64 x_3, .int .i64 x_4, .int .i64 x_5, .int .i64 x_6, .int .i64 x_7, .int .i64 x_8, .int .i64 x_9, .int .u8 x_10, .int .u8 x_11, .int .i64 x_12, .int .i64 x_13, .bool x_14, .slice x_p15 x_n16 x_c17, .slice x_p18 x_n19 x_c20], .slice a_p21 a_n22 a_c23, .slice xp24 xn25 xc26] w R :=
  ceq Tryz.func61 (by kernel_rfl) (by kernel_rfl)
def sh62 (_b_1 : OA) (x2 : Int) (x3 : Int) (x4 : Int) (x5 : Int) (x6 : Int) (x7 : Int) (x8 : Int) (x9 : Int) (x10 : Int) (x11 : Int) (x12 : Int) (x13 : Int) (x14 : Bool) (xp15 : OA) (xn16 : Nat) (xc17 : Nat) (xp18 : OA) (xn19 : Nat) (xc20 : Nat) (a_p21 : OA) (a_n22 : Nat) (_a_c23 : Nat) (_xp24 : OA) (_xn25 : Nat) (_xc26 : Nat) (R : EW) (w : World) : Prop :=
 doAl (.cells #[.int .u8 x2, .int .i64 x3, .int .i64 x4, .int .i64 x5, .int .i64 x6, .int .i64 x7, .int .i64 x8, .int .i64 x9, .int .u8 x10, .int .u8 x11, .int .i64 x12, .int .i64 x13, .bool x14, .slice xp15 xn16 xc17, .slice xp18 xn19 xc20] 30) w (fun _b27 w28 =>
 doAl (.cells #[.int .i64 0, .bool false, .int .i64 0, .int .i64 0, .int .i64 0, .slice none 0 0, .slice none 0 0] 34) w28 (fun b29 w30 =>
 ifB ((((a_n22 : Nat) : Int) : Int) == 0) (
 doSt ((blk b29).add 0) (.int .i64 0) w30 (fun w31 =>
 doSt ((blk b29).add 1) (.bool false) w31 (fun w32 =>
 doSt ((blk b29).add 2) (.int .i64 0) w32 (fun w33 =>
 doSt ((blk b29).add 3) (.int .i64 0) w33 (fun w34 =>
 doSt ((blk b29).add 4) (.int .i64 0) w34 (fun w35 =>
 doSt ((blk b29).add 5) (.slice none 0 0) w35 (fun w36 =>
 doSt ((blk b29).add 6) (.slice none 0 0) w36 (fun w37 =>
 ∃ x38, w37.cell? ((blk b29).add 0) = some (.int .i64 x38) ∧ (
 ∃ x39, w37.cell? ((blk b29).add 1) = some (.bool x39) ∧ (
 ∃ x40, w37.cell? ((blk b29).add 2) = some (.int .i64 x40) ∧ (
 ∃ x41, w37.cell? ((blk b29).add 3) = some (.int .i64 x41) ∧ (
 ∃ x42, w37.cell? ((blk b29).add 4) = some (.int .i64 x42) ∧ (
 ∃ xp43 xn44 xc45, w37.cell? ((blk b29).add 5) = some (.slice xp43 xn44 xc45) ∧ (
 ∃ xp46 xn47 xc48, w37.cell? ((blk b29).add 6) = some (.slice xp46 xn47 xc48) ∧ (
 R (.returned (.agg #[.int .i64 x38, .bool x39, .int .i64 x40, .int .i64 x41, .int .i64 x42, .slice xp43 xn44 xc45, .slice xp46 xn47 xc48])) w37))))))))))))))) (
 doIx a_p21 a_n22 2 (0) (fun a49 =>
 ∃ x50, w30.cell? (a49.add 0) = some (.int .i64 x50) ∧ (
 ∃ x51, w30.cell? (a49.add 1) = some (.int .i64 x51) ∧ (
 doCall Tryz.prog (.func (.func 102) #[] #[]) #[.agg #[.int .i64 x50, .int .i64 x51], .bool true] w30 (retS (fun v63 w64 => ∃ x52 x53 x54 x55 x56 xp57 xn58 xc59 xp60 xn61 xc62, v63 = (.agg #[.int .i64 x52, .bool x53, .int .i64 x54, .int .i64 x55, .int .i64 x56, .slice xp57 xn58 xc59, .slice xp60 xn61 xc62] : Value) ∧ (
 doSt ((blk b29).add 0) (.int .i64 x52) w64 (fun w65 =>
 doSt ((blk b29).add 1) (.bool x53) w65 (fun w66 =>
 doSt ((blk b29).add 2) (.int .i64 x54) w66 (fun w67 =>
 doSt ((blk b29).add 3) (.int .i64 x55) w67 (fun w68 =>
 doSt ((blk b29).add 4) (.int .i64 x56) w68 (fun w69 =>
 doSt ((blk b29).add 5) (.slice xp57 xn58 xc59) w69 (fun w70 =>
 doSt ((blk b29).add 6) (.slice xp60 xn61 xc62) w70 (fun w71 =>
 ∃ x72, w71.cell? ((blk b29).add 0) = some (.int .i64 x72) ∧ (
 ∃ x73, w71.cell? ((blk b29).add 1) = some (.bool x73) ∧ (
 ∃ x74, w71.cell? ((blk b29).add 2) = some (.int .i64 x74) ∧ (
 ∃ x75, w71.cell? ((blk b29).add 3) = some (.int .i64 x75) ∧ (
 ∃ x76, w71.cell? ((blk b29).add 4) = some (.int .i64 x76) ∧ (
 ∃ xp77 xn78 xc79, w71.cell? ((blk b29).add 5) = some (.slice xp77 xn78 xc79) ∧ (
 ∃ xp80 xn81 xc82, w71.cell? ((blk b29).add 6) = some (.slice xp80 xn81 xc82) ∧ (
 R (.returned (.agg #[.int .i64 x72, .bool x73, .int .i64 x74, .int .i64 x75, .int .i64 x76, .slice xp77 xn78 xc79, .slice xp80 xn81 xc82])) w71)))))))))))))))) (kN R))))))))
theorem sh62_ok (b_1 : OA) (x2 : Int) (x3 : Int) (x4 : Int) (x5 : Int) (x6 : Int) (x7 : Int) (x8 : Int) (x9 : Int) (x10 : Int) (x11 : Int) (x12 : Int) (x13 : Int) (x14 : Bool) (xp15 : OA) (xn16 : Nat) (xc17 : Nat) (xp18 : OA) (xn19 : Nat) (xc20 : Nat) (a_p21 : OA) (a_n22 : Nat) (a_c23 : Nat) (xp24 : OA) (xn25 : Nat) (xc26 : Nat) {R : EW} {w : World} : sh62 b_1 x2 x3 x4 x5 x6 x7 x8 x9 x10 x11 x12 x13 x14 xp15 xn16 xc17 xp18 xn19 xc20 a_p21 a_n22 a_c23 xp24 xn25 xc26 R w → Calls Tryz.prog 62 #[.pointer b_1, .agg #[.int .u8 x2, .int .i64 x3, .int .i64 x4, .int .i64 x5, .int .i64 x6, .int .i64 x7, .int .i64 x8, .int .i64 x9, .int .u8 x10, .int .u8 x11, .int .i64 x12, .int .i64 x13, .bool x14, .slice xp15 xn16 xc17, .slice xp18 xn19 xc20], .slice a_p21 a_n22 a_c23, .slice xp24 xn25 xc26] w R :=
  ceq Tryz.func62 (by kernel_rfl) (by kernel_rfl)
def sh63 (_b_1 : OA) (x2 : Int) (x3 : Int) (x4 : Int) (x5 : Int) (x6 : Int) (x7 : Int) (x8 : Int) (x9 : Int) (x10 : Int) (x11 : Int) (x12 : Int) (x13 : Int) (x14 : Bool) (xp15 : OA) (xn16 : Nat) (xc17 : Nat) (xp18 : OA) (xn19 : Nat) (xc20 : Nat) (a_p21 : OA) (a_n22 : Nat) (_a_c23 : Nat) (_xp24 : OA) (_xn25 : Nat) (_xc26 : Nat) (R : EW) (w : World) : Prop :=
 doAl (.cells #[.int .u8 x2, .int .i64 x3, .int .i64 x4, .int .i64 x5, .int .i64 x6, .int .i64 x7, .int .i64 x8, .int .i64 x9, .int .u8 x10, .int .u8 x11, .int .i64 x12, .int .i64 x13, .bool x14, .slice xp15 xn16 xc17, .slice xp18 xn19 xc20] 30) w (fun _b27 w28 =>
 doAl (.cells #[.int .i64 0, .bool false, .int .i64 0, .int .i64 0, .int .i64 0, .slice none 0 0, .slice none 0 0] 34) w28 (fun b29 w30 =>
 ifB ((((a_n22 : Nat) : Int) : Int) == 0) (
 doSt ((blk b29).add 0) (.int .i64 0) w30 (fun w31 =>
 doSt ((blk b29).add 1) (.bool false) w31 (fun w32 =>
 doSt ((blk b29).add 2) (.int .i64 0) w32 (fun w33 =>
 doSt ((blk b29).add 3) (.int .i64 0) w33 (fun w34 =>
 doSt ((blk b29).add 4) (.int .i64 0) w34 (fun w35 =>
 doSt ((blk b29).add 5) (.slice none 0 0) w35 (fun w36 =>
 doSt ((blk b29).add 6) (.slice none 0 0) w36 (fun w37 =>
 ∃ x38, w37.cell? ((blk b29).add 0) = some (.int .i64 x38) ∧ (
 ∃ x39, w37.cell? ((blk b29).add 1) = some (.bool x39) ∧ (
 ∃ x40, w37.cell? ((blk b29).add 2) = some (.int .i64 x40) ∧ (
 ∃ x41, w37.cell? ((blk b29).add 3) = some (.int .i64 x41) ∧ (
 ∃ x42, w37.cell? ((blk b29).add 4) = some (.int .i64 x42) ∧ (
 ∃ xp43 xn44 xc45, w37.cell? ((blk b29).add 5) = some (.slice xp43 xn44 xc45) ∧ (
 ∃ xp46 xn47 xc48, w37.cell? ((blk b29).add 6) = some (.slice xp46 xn47 xc48) ∧ (
 R (.returned (.agg #[.int .i64 x38, .bool x39, .int .i64 x40, .int .i64 x41, .int .i64 x42, .slice xp43 xn44 xc45, .slice xp46 xn47 xc48])) w37))))))))))))))) (
 doIx a_p21 a_n22 2 (IntKind.wrap .i64 (((a_n22 : Nat) : Int) - 1)) (fun a49 =>
 ∃ x50, w30.cell? (a49.add 0) = some (.int .i64 x50) ∧ (
 ∃ x51, w30.cell? (a49.add 1) = some (.int .i64 x51) ∧ (
 doCall Tryz.prog (.func (.func 102) #[] #[]) #[.agg #[.int .i64 x50, .int .i64 x51], .bool true] w30 (retS (fun v63 w64 => ∃ x52 x53 x54 x55 x56 xp57 xn58 xc59 xp60 xn61 xc62, v63 = (.agg #[.int .i64 x52, .bool x53, .int .i64 x54, .int .i64 x55, .int .i64 x56, .slice xp57 xn58 xc59, .slice xp60 xn61 xc62] : Value) ∧ (
 doSt ((blk b29).add 0) (.int .i64 x52) w64 (fun w65 =>
 doSt ((blk b29).add 1) (.bool x53) w65 (fun w66 =>
 doSt ((blk b29).add 2) (.int .i64 x54) w66 (fun w67 =>
 doSt ((blk b29).add 3) (.int .i64 x55) w67 (fun w68 =>
 doSt ((blk b29).add 4) (.int .i64 x56) w68 (fun w69 =>
 doSt ((blk b29).add 5) (.slice xp57 xn58 xc59) w69 (fun w70 =>
 doSt ((blk b29).add 6) (.slice xp60 xn61 xc62) w70 (fun w71 =>
 ∃ x72, w71.cell? ((blk b29).add 0) = some (.int .i64 x72) ∧ (
 ∃ x73, w71.cell? ((blk b29).add 1) = some (.bool x73) ∧ (
 ∃ x74, w71.cell? ((blk b29).add 2) = some (.int .i64 x74) ∧ (
 ∃ x75, w71.cell? ((blk b29).add 3) = some (.int .i64 x75) ∧ (
 ∃ x76, w71.cell? ((blk b29).add 4) = some (.int .i64 x76) ∧ (
 ∃ xp77 xn78 xc79, w71.cell? ((blk b29).add 5) = some (.slice xp77 xn78 xc79) ∧ (
 ∃ xp80 xn81 xc82, w71.cell? ((blk b29).add 6) = some (.slice xp80 xn81 xc82) ∧ (
 R (.returned (.agg #[.int .i64 x72, .bool x73, .int .i64 x74, .int .i64 x75, .int .i64 x76, .slice xp77 xn78 xc79, .slice xp80 xn81 xc82])) w71)))))))))))))))) (kN R))))))))
theorem sh63_ok (b_1 : OA) (x2 : Int) (x3 : Int) (x4 : Int) (x5 : Int) (x6 : Int) (x7 : Int) (x8 : Int) (x9 : Int) (x10 : Int) (x11 : Int) (x12 : Int) (x13 : Int) (x14 : Bool) (xp15 : OA) (xn16 : Nat) (xc17 : Nat) (xp18 : OA) (xn19 : Nat) (xc20 : Nat) (a_p21 : OA) (a_n22 : Nat) (a_c23 : Nat) (xp24 : OA) (xn25 : Nat) (xc26 : Nat) {R : EW} {w : World} : sh63 b_1 x2 x3 x4 x5 x6 x7 x8 x9 x10 x11 x12 x13 x14 xp15 xn16 xc17 xp18 xn19 xc20 a_p21 a_n22 a_c23 xp24 xn25 xc26 R w → Calls Tryz.prog 63 #[.pointer b_1, .agg #[.int .u8 x2, .int .i64 x3, .int .i64 x4, .int .i64 x5, .int .i64 x6, .int .i64 x7, .int .i64 x8, .int .i64 x9, .int .u8 x10, .int .u8 x11, .int .i64 x12, .int .i64 x13, .bool x14, .slice xp15 xn16 xc17, .slice xp18 xn19 xc20], .slice a_p21 a_n22 a_c23, .slice xp24 xn25 xc26] w R :=
  ceq Tryz.func63 (by kernel_rfl) (by kernel_rfl)
def sh64 (b_1 : OA) (x_2 : Int) (x_3 : Int) (x_4 : Int) (x_5 : Int) (x_6 : Int) (x_7 : Int) (x_8 : Int) (x_9 : Int) (x_10 : Int) (x_11 : Int) (x_12 : Int) (x_13 : Int) (x_14 : Bool) (x_p15 : OA) (x_n16 : Nat) (x_c17 : Nat) (x_p18 : OA) (x_n19 : Nat) (x_c20 : Nat) (a_p21 : OA) (a_n22 : Nat) (a_c23 : Nat) (_xp24 : OA) (_xn25 : Nat) (_xc26 : Nat) (R : EW) (w : World) : Prop :=
 doAl (.cells #[.int .u8 x_2, .int .i64 x_3, .int .i64 x_4, .int .i64 x_5, .int .i64 x_6, .int .i64 x_7, .int .i64 x_8, .int .i64 x_9, .int .u8 x_10, .int .u8 x_11, .int .i64 x_12, .int .i64 x_13, .bool x_14, .slice x_p15 x_n16 x_c17, .slice x_p18 x_n19 x_c20] 30) w (fun b27 w28 =>
 doAl (.cells #[.int .i64 0, .bool false, .int .i64 0, .int .i64 0, .int .i64 0, .slice none 0 0, .slice none 0 0] 34) w28 (fun b29 w30 =>
 doDr w30 (fun w32 =>
 ∃ (C31 : World → Prop), C31 w32 ∧ (
 ∃ q33, b_1 = some q33 ∧ (
 ∃ x34, (∀ w, C31 w → w.cell? (q33.add 0) = some (.int .u8 x34)) ∧ (
 ∃ x35, (∀ w, C31 w → w.cell? ((blk b27).add 3) = some (.int .i64 x35)) ∧ (
 doCall Tryz.prog (.func (.func 103) #[] #[]) #[.int .u8 x34, .slice a_p21 a_n22 a_c23, .int .i64 x35] w32 (retS (fun v39 w40 => ∃ x36 x37 x38, v39 = (.tuple #[.agg #[.int .i64 x36, .int .i64 x37], .bool x38] : Value) ∧ (
 doCall Tryz.prog (.func (.func 102) #[] #[]) #[.agg #[.int .i64 x36, .int .i64 x37], .bool x38] w40 (retS (fun v52 w53 => ∃ x41 x42 x43 x44 x45 xp46 xn47 xc48 xp49 xn50 xc51, v52 = (.agg #[.int .i64 x41, .bool x42, .int .i64 x43, .int .i64 x44, .int .i64 x45, .slice xp46 xn47 xc48, .slice xp49 xn50 xc51] : Value) ∧ (
 C31 w53 ∧ (
 doSt ((blk b29).add 0) (.int .i64 x41) w53 (fun w54 =>
 doSt ((blk b29).add 1) (.bool x42) w54 (fun w55 =>
 doSt ((blk b29).add 2) (.int .i64 x43) w55 (fun w56 =>
 doSt ((blk b29).add 3) (.int .i64 x44) w56 (fun w57 =>
 doSt ((blk b29).add 4) (.int .i64 x45) w57 (fun w58 =>
 doSt ((blk b29).add 5) (.slice xp46 xn47 xc48) w58 (fun w59 =>
 doSt ((blk b29).add 6) (.slice xp49 xn50 xc51) w59 (fun w60 =>
 ∃ x61, w60.cell? ((blk b29).add 0) = some (.int .i64 x61) ∧ (
 ∃ x62, w60.cell? ((blk b29).add 1) = some (.bool x62) ∧ (
 ∃ x63, w60.cell? ((blk b29).add 2) = some (.int .i64 x63) ∧ (
 ∃ x64, w60.cell? ((blk b29).add 3) = some (.int .i64 x64) ∧ (
 ∃ x65, w60.cell? ((blk b29).add 4) = some (.int .i64 x65) ∧ (
 ∃ xp66 xn67 xc68, w60.cell? ((blk b29).add 5) = some (.slice xp66 xn67 xc68) ∧ (
 ∃ xp69 xn70 xc71, w60.cell? ((blk b29).add 6) = some (.slice xp69 xn70 xc71) ∧ (
 R (.returned (.agg #[.int .i64 x61, .bool x62, .int .i64 x63, .int .i64 x64, .int .i64 x65, .slice xp66 xn67 xc68, .slice xp69 xn70 xc71])) w60))))))))))))))))) (kN R)))) (kN R)))))))))
theorem sh64_ok (b_1 : OA) (x_2 : Int) (x_3 : Int) (x_4 : Int) (x_5 : Int) (x_6 : Int) (x_7 : Int) (x_8 : Int) (x_9 : Int) (x_10 : Int) (x_11 : Int) (x_12 : Int) (x_13 : Int) (x_14 : Bool) (x_p15 : OA) (x_n16 : Nat) (x_c17 : Nat) (x_p18 : OA) (x_n19 : Nat) (x_c20 : Nat) (a_p21 : OA) (a_n22 : Nat) (a_c23 : Nat) (xp24 : OA) (xn25 : Nat) (xc26 : Nat) {R : EW} {w : World} : sh64 b_1 x_2 x_3 x_4 x_5 x_6 x_7 x_8 x_9 x_10 x_11 x_12 x_13 x_14 x_p15 x_n16 x_c17 x_p18 x_n19 x_c20 a_p21 a_n22 a_c23 xp24 xn25 xc26 R w → Calls Tryz.prog 64 #[.pointer b_1, .agg #[.int .u8 x_2, .int .i64 x_3, .int .i64 x_4, .int .i64 x_5, .int .i64 x_6, .int .i64 x_7, .int .i64 x_8, .int .i64 x_9, .int .u8 x_10, .int .u8 x_11, .int .i64 x_12, .int .i64 x_13, .bool x_14, .slice x_p15 x_n16 x_c17, .slice x_p18 x_n19 x_c20], .slice a_p21 a_n22 a_c23, .slice xp24 xn25 xc26] w R :=
  ceq Tryz.func64 (by kernel_rfl) (by kernel_rfl)
def sh65 (b_1 : OA) (x_2 : Int) (x_3 : Int) (x_4 : Int) (x_5 : Int) (x_6 : Int) (x_7 : Int) (x_8 : Int) (x_9 : Int) (x_10 : Int) (x_11 : Int) (x_12 : Int) (x_13 : Int) (x_14 : Bool) (x_p15 : OA) (x_n16 : Nat) (x_c17 : Nat) (x_p18 : OA) (x_n19 : Nat) (x_c20 : Nat) (a_p21 : OA) (a_n22 : Nat) (a_c23 : Nat) (_xp24 : OA) (_xn25 : Nat) (_xc26 : Nat) (R : EW) (w : World) : Prop :=
 doAl (.cells #[.int .u8 x_2, .int .i64 x_3, .int .i64 x_4, .int .i64 x_5, .int .i64 x_6, .int .i64 x_7, .int .i64 x_8, .int .i64 x_9, .int .u8 x_10, .int .u8 x_11, .int .i64 x_12, .int .i64 x_13, .bool x_14, .slice x_p15 x_n16 x_c17, .slice x_p18 x_n19 x_c20] 30) w (fun b27 w28 =>
 doAl (.cells #[.int .i64 0, .bool false, .int .i64 0, .int .i64 0, .int .i64 0, .slice none 0 0, .slice none 0 0] 34) w28 (fun b29 w30 =>
 doDr w30 (fun w32 =>
 ∃ (C31 : World → Prop), C31 w32 ∧ (
 ∃ q33, b_1 = some q33 ∧ (
 ∃ x34, (∀ w, C31 w → w.cell? (q33.add 0) = some (.int .u8 x34)) ∧ (
 ∃ x35, (∀ w, C31 w → w.cell? ((blk b27).add 3) = some (.int .i64 x35)) ∧ (
 doCall Tryz.prog (.func (.func 104) #[] #[]) #[.int .u8 x34, .slice a_p21 a_n22 a_c23, .int .i64 x35] w32 (retS (fun v39 w40 => ∃ x36 x37 x38, v39 = (.tuple #[.agg #[.int .i64 x36, .int .i64 x37], .bool x38] : Value) ∧ (
 doCall Tryz.prog (.func (.func 102) #[] #[]) #[.agg #[.int .i64 x36, .int .i64 x37], .bool x38] w40 (retS (fun v52 w53 => ∃ x41 x42 x43 x44 x45 xp46 xn47 xc48 xp49 xn50 xc51, v52 = (.agg #[.int .i64 x41, .bool x42, .int .i64 x43, .int .i64 x44, .int .i64 x45, .slice xp46 xn47 xc48, .slice xp49 xn50 xc51] : Value) ∧ (
 C31 w53 ∧ (
 doSt ((blk b29).add 0) (.int .i64 x41) w53 (fun w54 =>
 doSt ((blk b29).add 1) (.bool x42) w54 (fun w55 =>
 doSt ((blk b29).add 2) (.int .i64 x43) w55 (fun w56 =>
 doSt ((blk b29).add 3) (.int .i64 x44) w56 (fun w57 =>
 doSt ((blk b29).add 4) (.int .i64 x45) w57 (fun w58 =>
 doSt ((blk b29).add 5) (.slice xp46 xn47 xc48) w58 (fun w59 =>
 doSt ((blk b29).add 6) (.slice xp49 xn50 xc51) w59 (fun w60 =>
 ∃ x61, w60.cell? ((blk b29).add 0) = some (.int .i64 x61) ∧ (
 ∃ x62, w60.cell? ((blk b29).add 1) = some (.bool x62) ∧ (
 ∃ x63, w60.cell? ((blk b29).add 2) = some (.int .i64 x63) ∧ (
 ∃ x64, w60.cell? ((blk b29).add 3) = some (.int .i64 x64) ∧ (
 ∃ x65, w60.cell? ((blk b29).add 4) = some (.int .i64 x65) ∧ (
 ∃ xp66 xn67 xc68, w60.cell? ((blk b29).add 5) = some (.slice xp66 xn67 xc68) ∧ (
 ∃ xp69 xn70 xc71, w60.cell? ((blk b29).add 6) = some (.slice xp69 xn70 xc71) ∧ (
 R (.returned (.agg #[.int .i64 x61, .bool x62, .int .i64 x63, .int .i64 x64, .int .i64 x65, .slice xp66 xn67 xc68, .slice xp69 xn70 xc71])) w60))))))))))))))))) (kN R)))) (kN R)))))))))
theorem sh65_ok (b_1 : OA) (x_2 : Int) (x_3 : Int) (x_4 : Int) (x_5 : Int) (x_6 : Int) (x_7 : Int) (x_8 : Int) (x_9 : Int) (x_10 : Int) (x_11 : Int) (x_12 : Int) (x_13 : Int) (x_14 : Bool) (x_p15 : OA) (x_n16 : Nat) (x_c17 : Nat) (x_p18 : OA) (x_n19 : Nat) (x_c20 : Nat) (a_p21 : OA) (a_n22 : Nat) (a_c23 : Nat) (xp24 : OA) (xn25 : Nat) (xc26 : Nat) {R : EW} {w : World} : sh65 b_1 x_2 x_3 x_4 x_5 x_6 x_7 x_8 x_9 x_10 x_11 x_12 x_13 x_14 x_p15 x_n16 x_c17 x_p18 x_n19 x_c20 a_p21 a_n22 a_c23 xp24 xn25 xc26 R w → Calls Tryz.prog 65 #[.pointer b_1, .agg #[.int .u8 x_2, .int .i64 x_3, .int .i64 x_4, .int .i64 x_5, .int .i64 x_6, .int .i64 x_7, .int .i64 x_8, .int .i64 x_9, .int .u8 x_10, .int .u8 x_11, .int .i64 x_12, .int .i64 x_13, .bool x_14, .slice x_p15 x_n16 x_c17, .slice x_p18 x_n19 x_c20], .slice a_p21 a_n22 a_c23, .slice xp24 xn25 xc26] w R :=
  ceq Tryz.func65 (by kernel_rfl) (by kernel_rfl)
def sh66 (b_1 : OA) (x_2 : Int) (x_3 : Int) (x_4 : Int) (x_5 : Int) (x_6 : Int) (x_7 : Int) (x_8 : Int) (x_9 : Int) (x_10 : Int) (x_11 : Int) (x_12 : Int) (x_13 : Int) (x_14 : Bool) (x_p15 : OA) (x_n16 : Nat) (x_c17 : Nat) (x_p18 : OA) (x_n19 : Nat) (x_c20 : Nat) (_xp21 : OA) (_xn22 : Nat) (_xc23 : Nat) (_xp24 : OA) (_xn25 : Nat) (_xc26 : Nat) (R : EW) (w : World) : Prop :=
 doAl (.cells #[.int .u8 x_2, .int .i64 x_3, .int .i64 x_4, .int .i64 x_5, .int .i64 x_6, .int .i64 x_7, .int .i64 x_8, .int .i64 x_9, .int .u8 x_10, .int .u8 x_11, .int .i64 x_12, .int .i64 x_13, .bool x_14, .slice x_p15 x_n16 x_c17, .slice x_p18 x_n19 x_c20] 30) w (fun b27 w28 =>
 doAl (.cells #[.int .i64 0, .bool false, .int .i64 0, .int .i64 0, .int .i64 0, .slice none 0 0, .slice none 0 0] 34) w28 (fun b29 w30 =>
 doDr w30 (fun w32 =>
 ∃ (C31 : World → Prop), C31 w32 ∧ (
 ∃ q33, b_1 = some q33 ∧ (
 ∃ x34, (∀ w, C31 w → w.cell? (q33.add 0) = some (.int .u8 x34)) ∧ (
 ∃ x35, (∀ w, C31 w → w.cell? ((blk b27).add 8) = some (.int .u8 x35)) ∧ (
 ∃ xp36 xn37 xc38, (∀ w, C31 w → w.cell? ((blk b27).add 13) = some (.slice xp36 xn37 xc38)) ∧ (
 doCall Tryz.prog (.func (.func 106) #[] #[]) #[.int .u8 x34, .int .u8 x35, .slice xp36 xn37 xc38] w32 (retS (fun v43 w44 => ∃ xp39 xn40 xc41 x42, v43 = (.tuple #[.slice xp39 xn40 xc41, .int .i64 x42] : Value) ∧ (
 doCall Tryz.prog (.func (.func 105) #[] #[]) #[.pointer b_1, .slice xp39 xn40 xc41, .int .i64 x42] w44 (retS (fun v56 w57 => ∃ x45 x46 x47 x48 x49 xp50 xn51 xc52 xp53 xn54 xc55, v56 = (.agg #[.int .i64 x45, .bool x46, .int .i64 x47, .int .i64 x48, .int .i64 x49, .slice xp50 xn51 xc52, .slice xp53 xn54 xc55] : Value) ∧ (
 C31 w57 ∧ (
 doSt ((blk b29).add 0) (.int .i64 x45) w57 (fun w58 =>
 doSt ((blk b29).add 1) (.bool x46) w58 (fun w59 =>
 doSt ((blk b29).add 2) (.int .i64 x47) w59 (fun w60 =>
 doSt ((blk b29).add 3) (.int .i64 x48) w60 (fun w61 =>
 doSt ((blk b29).add 4) (.int .i64 x49) w61 (fun w62 =>
 doSt ((blk b29).add 5) (.slice xp50 xn51 xc52) w62 (fun w63 =>
 doSt ((blk b29).add 6) (.slice xp53 xn54 xc55) w63 (fun w64 =>
 ∃ x65, w64.cell? ((blk b29).add 0) = some (.int .i64 x65) ∧ (
 ∃ x66, w64.cell? ((blk b29).add 1) = some (.bool x66) ∧ (
 ∃ x67, w64.cell? ((blk b29).add 2) = some (.int .i64 x67) ∧ (
 ∃ x68, w64.cell? ((blk b29).add 3) = some (.int .i64 x68) ∧ (
 ∃ x69, w64.cell? ((blk b29).add 4) = some (.int .i64 x69) ∧ (
 ∃ xp70 xn71 xc72, w64.cell? ((blk b29).add 5) = some (.slice xp70 xn71 xc72) ∧ (
 ∃ xp73 xn74 xc75, w64.cell? ((blk b29).add 6) = some (.slice xp73 xn74 xc75) ∧ (
 R (.returned (.agg #[.int .i64 x65, .bool x66, .int .i64 x67, .int .i64 x68, .int .i64 x69, .slice xp70 xn71 xc72, .slice xp73 xn74 xc75])) w64))))))))))))))))) (kN R)))) (kN R))))))))))
theorem sh66_ok (b_1 : OA) (x_2 : Int) (x_3 : Int) (x_4 : Int) (x_5 : Int) (x_6 : Int) (x_7 : Int) (x_8 : Int) (x_9 : Int) (x_10 : Int) (x_11 : Int) (x_12 : Int) (x_13 : Int) (x_14 : Bool) (x_p15 : OA) (x_n16 : Nat) (x_c17 : Nat) (x_p18 : OA) (x_n19 : Nat) (x_c20 : Nat) (xp21 : OA) (xn22 : Nat) (xc23 : Nat) (xp24 : OA) (xn25 : Nat) (xc26 : Nat) {R : EW} {w : World} : sh66 b_1 x_2 x_3 x_4 x_5 x_6 x_7 x_8 x_9 x_10 x_11 x_12 x_13 x_14 x_p15 x_n16 x_c17 x_p18 x_n19 x_c20 xp21 xn22 xc23 xp24 xn25 xc26 R w → Calls Tryz.prog 66 #[.pointer b_1, .agg #[.int .u8 x_2, .int .i64 x_3, .int .i64 x_4, .int .i64 x_5, .int .i64 x_6, .int .i64 x_7, .int .i64 x_8, .int .i64 x_9, .int .u8 x_10, .int .u8 x_11, .int .i64 x_12, .int .i64 x_13, .bool x_14, .slice x_p15 x_n16 x_c17, .slice x_p18 x_n19 x_c20], .slice xp21 xn22 xc23, .slice xp24 xn25 xc26] w R :=
  ceq Tryz.func66 (by kernel_rfl) (by kernel_rfl)
def sh67 (b_1 : OA) (x_2 : Int) (x_3 : Int) (x_4 : Int) (x_5 : Int) (x_6 : Int) (x_7 : Int) (x_8 : Int) (x_9 : Int) (x_10 : Int) (x_11 : Int) (x_12 : Int) (x_13 : Int) (x_14 : Bool) (x_p15 : OA) (x_n16 : Nat) (x_c17 : Nat) (x_p18 : OA) (x_n19 : Nat) (x_c20 : Nat) (a_p21 : OA) (a_n22 : Nat) (a_c23 : Nat) (c_p24 : OA) (c_n25 : Nat) (c_c26 : Nat) (R : EW) (w : World) : Prop :=
 doAl (.cells #[.int .u8 x_2, .int .i64 x_3, .int .i64 x_4, .int .i64 x_5, .int .i64 x_6, .int .i64 x_7, .int .i64 x_8, .int .i64 x_9, .int .u8 x_10, .int .u8 x_11, .int .i64 x_12, .int .i64 x_13, .bool x_14, .slice x_p15 x_n16 x_c17, .slice x_p18 x_n19 x_c20] 30) w (fun b27 w28 =>
 doAl (.cells #[.int .i64 0, .bool false, .int .i64 0, .int .i64 0, .int .i64 0, .slice none 0 0, .slice none 0 0] 34) w28 (fun b29 w30 =>
 doDr w30 (fun w32 =>
 ∃ (C31 : World → Prop), C31 w32 ∧ (
 ∃ q33, b_1 = some q33 ∧ (
 ∃ x34, (∀ w, C31 w → w.cell? (q33.add 0) = some (.int .u8 x34)) ∧ (
 ∃ x35, (∀ w, C31 w → w.cell? ((blk b27).add 8) = some (.int .u8 x35)) ∧ (
 doCall Tryz.prog (.func (.func 107) #[] #[]) #[.int .u8 x34, .int .u8 x35, .slice a_p21 a_n22 a_c23, .slice c_p24 c_n25 c_c26] w32 (retS (fun v40 w41 => ∃ xp36 xn37 xc38 x39, v40 = (.tuple #[.slice xp36 xn37 xc38, .int .i64 x39] : Value) ∧ (
 doCall Tryz.prog (.func (.func 105) #[] #[]) #[.pointer b_1, .slice xp36 xn37 xc38, .int .i64 x39] w41 (retS (fun v53 w54 => ∃ x42 x43 x44 x45 x46 xp47 xn48 xc49 xp50 xn51 xc52, v53 = (.agg #[.int .i64 x42, .bool x43, .int .i64 x44, .int .i64 x45, .int .i64 x46, .slice xp47 xn48 xc49, .slice xp50 xn51 xc52] : Value) ∧ (
 C31 w54 ∧ (
 doSt ((blk b29).add 0) (.int .i64 x42) w54 (fun w55 =>
 doSt ((blk b29).add 1) (.bool x43) w55 (fun w56 =>
 doSt ((blk b29).add 2) (.int .i64 x44) w56 (fun w57 =>
 doSt ((blk b29).add 3) (.int .i64 x45) w57 (fun w58 =>
 doSt ((blk b29).add 4) (.int .i64 x46) w58 (fun w59 =>
 doSt ((blk b29).add 5) (.slice xp47 xn48 xc49) w59 (fun w60 =>
 doSt ((blk b29).add 6) (.slice xp50 xn51 xc52) w60 (fun w61 =>
 ∃ x62, w61.cell? ((blk b29).add 0) = some (.int .i64 x62) ∧ (
 ∃ x63, w61.cell? ((blk b29).add 1) = some (.bool x63) ∧ (
 ∃ x64, w61.cell? ((blk b29).add 2) = some (.int .i64 x64) ∧ (
 ∃ x65, w61.cell? ((blk b29).add 3) = some (.int .i64 x65) ∧ (
 ∃ x66, w61.cell? ((blk b29).add 4) = some (.int .i64 x66) ∧ (
 ∃ xp67 xn68 xc69, w61.cell? ((blk b29).add 5) = some (.slice xp67 xn68 xc69) ∧ (
 ∃ xp70 xn71 xc72, w61.cell? ((blk b29).add 6) = some (.slice xp70 xn71 xc72) ∧ (
 R (.returned (.agg #[.int .i64 x62, .bool x63, .int .i64 x64, .int .i64 x65, .int .i64 x66, .slice xp67 xn68 xc69, .slice xp70 xn71 xc72])) w61))))))))))))))))) (kN R)))) (kN R)))))))))
theorem sh67_ok (b_1 : OA) (x_2 : Int) (x_3 : Int) (x_4 : Int) (x_5 : Int) (x_6 : Int) (x_7 : Int) (x_8 : Int) (x_9 : Int) (x_10 : Int) (x_11 : Int) (x_12 : Int) (x_13 : Int) (x_14 : Bool) (x_p15 : OA) (x_n16 : Nat) (x_c17 : Nat) (x_p18 : OA) (x_n19 : Nat) (x_c20 : Nat) (a_p21 : OA) (a_n22 : Nat) (a_c23 : Nat) (c_p24 : OA) (c_n25 : Nat) (c_c26 : Nat) {R : EW} {w : World} : sh67 b_1 x_2 x_3 x_4 x_5 x_6 x_7 x_8 x_9 x_10 x_11 x_12 x_13 x_14 x_p15 x_n16 x_c17 x_p18 x_n19 x_c20 a_p21 a_n22 a_c23 c_p24 c_n25 c_c26 R w → Calls Tryz.prog 67 #[.pointer b_1, .agg #[.int .u8 x_2, .int .i64 x_3, .int .i64 x_4, .int .i64 x_5, .int .i64 x_6, .int .i64 x_7, .int .i64 x_8, .int .i64 x_9, .int .u8 x_10, .int .u8 x_11, .int .i64 x_12, .int .i64 x_13, .bool x_14, .slice x_p15 x_n16 x_c17, .slice x_p18 x_n19 x_c20], .slice a_p21 a_n22 a_c23, .slice c_p24 c_n25 c_c26] w R :=
  ceq Tryz.func67 (by kernel_rfl) (by kernel_rfl)
def sh68 (b_1 : OA) (x_2 : Int) (x_3 : Int) (x_4 : Int) (x_5 : Int) (x_6 : Int) (x_7 : Int) (x_8 : Int) (x_9 : Int) (x_10 : Int) (x_11 : Int) (x_12 : Int) (x_13 : Int) (x_14 : Bool) (x_p15 : OA) (x_n16 : Nat) (x_c17 : Nat) (x_p18 : OA) (x_n19 : Nat) (x_c20 : Nat) (a_p21 : OA) (a_n22 : Nat) (a_c23 : Nat) (c_p24 : OA) (c_n25 : Nat) (c_c26 : Nat) (R : EW) (w : World) : Prop :=
 doAl (.cells #[.int .u8 x_2, .int .i64 x_3, .int .i64 x_4, .int .i64 x_5, .int .i64 x_6, .int .i64 x_7, .int .i64 x_8, .int .i64 x_9, .int .u8 x_10, .int .u8 x_11, .int .i64 x_12, .int .i64 x_13, .bool x_14, .slice x_p15 x_n16 x_c17, .slice x_p18 x_n19 x_c20] 30) w (fun b27 w28 =>
 doAl (.cells #[.int .i64 0, .bool false, .int .i64 0, .int .i64 0, .int .i64 0, .slice none 0 0, .slice none 0 0] 34) w28 (fun b29 w30 =>
 doDr w30 (fun w32 =>
 ∃ (C31 : World → Prop), C31 w32 ∧ (
 ∃ q33, b_1 = some q33 ∧ (
 ∃ x34, (∀ w, C31 w → w.cell? (q33.add 0) = some (.int .u8 x34)) ∧ (
 ∃ x35, (∀ w, C31 w → w.cell? ((blk b27).add 8) = some (.int .u8 x35)) ∧ (
 doCall Tryz.prog (.func (.func 108) #[] #[]) #[.int .u8 x34, .int .u8 x35, .slice a_p21 a_n22 a_c23, .slice c_p24 c_n25 c_c26] w32 (retS (fun v40 w41 => ∃ xp36 xn37 xc38 x39, v40 = (.tuple #[.slice xp36 xn37 xc38, .int .i64 x39] : Value) ∧ (
 doCall Tryz.prog (.func (.func 105) #[] #[]) #[.pointer b_1, .slice xp36 xn37 xc38, .int .i64 x39] w41 (retS (fun v53 w54 => ∃ x42 x43 x44 x45 x46 xp47 xn48 xc49 xp50 xn51 xc52, v53 = (.agg #[.int .i64 x42, .bool x43, .int .i64 x44, .int .i64 x45, .int .i64 x46, .slice xp47 xn48 xc49, .slice xp50 xn51 xc52] : Value) ∧ (
 C31 w54 ∧ (
 doSt ((blk b29).add 0) (.int .i64 x42) w54 (fun w55 =>
 doSt ((blk b29).add 1) (.bool x43) w55 (fun w56 =>
 doSt ((blk b29).add 2) (.int .i64 x44) w56 (fun w57 =>
 doSt ((blk b29).add 3) (.int .i64 x45) w57 (fun w58 =>
 doSt ((blk b29).add 4) (.int .i64 x46) w58 (fun w59 =>
 doSt ((blk b29).add 5) (.slice xp47 xn48 xc49) w59 (fun w60 =>
 doSt ((blk b29).add 6) (.slice xp50 xn51 xc52) w60 (fun w61 =>
 ∃ x62, w61.cell? ((blk b29).add 0) = some (.int .i64 x62) ∧ (
 ∃ x63, w61.cell? ((blk b29).add 1) = some (.bool x63) ∧ (
 ∃ x64, w61.cell? ((blk b29).add 2) = some (.int .i64 x64) ∧ (
 ∃ x65, w61.cell? ((blk b29).add 3) = some (.int .i64 x65) ∧ (
 ∃ x66, w61.cell? ((blk b29).add 4) = some (.int .i64 x66) ∧ (
 ∃ xp67 xn68 xc69, w61.cell? ((blk b29).add 5) = some (.slice xp67 xn68 xc69) ∧ (
 ∃ xp70 xn71 xc72, w61.cell? ((blk b29).add 6) = some (.slice xp70 xn71 xc72) ∧ (
 R (.returned (.agg #[.int .i64 x62, .bool x63, .int .i64 x64, .int .i64 x65, .int .i64 x66, .slice xp67 xn68 xc69, .slice xp70 xn71 xc72])) w61))))))))))))))))) (kN R)))) (kN R)))))))))
theorem sh68_ok (b_1 : OA) (x_2 : Int) (x_3 : Int) (x_4 : Int) (x_5 : Int) (x_6 : Int) (x_7 : Int) (x_8 : Int) (x_9 : Int) (x_10 : Int) (x_11 : Int) (x_12 : Int) (x_13 : Int) (x_14 : Bool) (x_p15 : OA) (x_n16 : Nat) (x_c17 : Nat) (x_p18 : OA) (x_n19 : Nat) (x_c20 : Nat) (a_p21 : OA) (a_n22 : Nat) (a_c23 : Nat) (c_p24 : OA) (c_n25 : Nat) (c_c26 : Nat) {R : EW} {w : World} : sh68 b_1 x_2 x_3 x_4 x_5 x_6 x_7 x_8 x_9 x_10 x_11 x_12 x_13 x_14 x_p15 x_n16 x_c17 x_p18 x_n19 x_c20 a_p21 a_n22 a_c23 c_p24 c_n25 c_c26 R w → Calls Tryz.prog 68 #[.pointer b_1, .agg #[.int .u8 x_2, .int .i64 x_3, .int .i64 x_4, .int .i64 x_5, .int .i64 x_6, .int .i64 x_7, .int .i64 x_8, .int .i64 x_9, .int .u8 x_10, .int .u8 x_11, .int .i64 x_12, .int .i64 x_13, .bool x_14, .slice x_p15 x_n16 x_c17, .slice x_p18 x_n19 x_c20], .slice a_p21 a_n22 a_c23, .slice c_p24 c_n25 c_c26] w R :=
  ceq Tryz.func68 (by kernel_rfl) (by kernel_rfl)
def sh69 (b_1 : OA) (x2 : Int) (x3 : Int) (x4 : Int) (x5 : Int) (x6 : Int) (x7 : Int) (x8 : Int) (x9 : Int) (x10 : Int) (x11 : Int) (x12 : Int) (x13 : Int) (x14 : Bool) (xp15 : OA) (xn16 : Nat) (xc17 : Nat) (xp18 : OA) (xn19 : Nat) (xc20 : Nat) (a_p21 : OA) (a_n22 : Nat) (a_c23 : Nat) (c_p24 : OA) (c_n25 : Nat) (c_c26 : Nat) (R : EW) (w : World) : Prop :=
 doAl (.cells #[.int .u8 x2, .int .i64 x3, .int .i64 x4, .int .i64 x5, .int .i64 x6, .int .i64 x7, .int .i64 x8, .int .i64 x9, .int .u8 x10, .int .u8 x11, .int .i64 x12, .int .i64 x13, .bool x14, .slice xp15 xn16 xc17, .slice xp18 xn19 xc20] 30) w (fun _b27 w28 =>
 doAl (.cells #[.int .i64 0, .bool false, .int .i64 0, .int .i64 0, .int .i64 0, .slice none 0 0, .slice none 0 0] 34) w28 (fun b29 w30 =>
 ∃ q31, b_1 = some q31 ∧ (
 ∃ x32, w30.cell? (q31.add 0) = some (.int .u8 x32) ∧ (
 doCall Tryz.prog (.func (.func 109) #[] #[]) #[.int .u8 x32, .slice a_p21 a_n22 a_c23, .slice c_p24 c_n25 c_c26] w30 (retS (fun v37 w38 => ∃ xp33 xn34 xc35 x36, v37 = (.tuple #[.slice xp33 xn34 xc35, .int .i64 x36] : Value) ∧ (
 doCall Tryz.prog (.func (.func 105) #[] #[]) #[.pointer b_1, .slice xp33 xn34 xc35, .int .i64 x36] w38 (retS (fun v50 w51 => ∃ x39 x40 x41 x42 x43 xp44 xn45 xc46 xp47 xn48 xc49, v50 = (.agg #[.int .i64 x39, .bool x40, .int .i64 x41, .int .i64 x42, .int .i64 x43, .slice xp44 xn45 xc46, .slice xp47 xn48 xc49] : Value) ∧ (
 doSt ((blk b29).add 0) (.int .i64 x39) w51 (fun w52 =>
 doSt ((blk b29).add 1) (.bool x40) w52 (fun w53 =>
 doSt ((blk b29).add 2) (.int .i64 x41) w53 (fun w54 =>
 doSt ((blk b29).add 3) (.int .i64 x42) w54 (fun w55 =>
 doSt ((blk b29).add 4) (.int .i64 x43) w55 (fun w56 =>
 doSt ((blk b29).add 5) (.slice xp44 xn45 xc46) w56 (fun w57 =>
 doSt ((blk b29).add 6) (.slice xp47 xn48 xc49) w57 (fun w58 =>
 ∃ x59, w58.cell? ((blk b29).add 0) = some (.int .i64 x59) ∧ (
 ∃ x60, w58.cell? ((blk b29).add 1) = some (.bool x60) ∧ (
 ∃ x61, w58.cell? ((blk b29).add 2) = some (.int .i64 x61) ∧ (
 ∃ x62, w58.cell? ((blk b29).add 3) = some (.int .i64 x62) ∧ (
 ∃ x63, w58.cell? ((blk b29).add 4) = some (.int .i64 x63) ∧ (
 ∃ xp64 xn65 xc66, w58.cell? ((blk b29).add 5) = some (.slice xp64 xn65 xc66) ∧ (
 ∃ xp67 xn68 xc69, w58.cell? ((blk b29).add 6) = some (.slice xp67 xn68 xc69) ∧ (
 R (.returned (.agg #[.int .i64 x59, .bool x60, .int .i64 x61, .int .i64 x62, .int .i64 x63, .slice xp64 xn65 xc66, .slice xp67 xn68 xc69])) w58)))))))))))))))) (kN R)))) (kN R))))))
theorem sh69_ok (b_1 : OA) (x2 : Int) (x3 : Int) (x4 : Int) (x5 : Int) (x6 : Int) (x7 : Int) (x8 : Int) (x9 : Int) (x10 : Int) (x11 : Int) (x12 : Int) (x13 : Int) (x14 : Bool) (xp15 : OA) (xn16 : Nat) (xc17 : Nat) (xp18 : OA) (xn19 : Nat) (xc20 : Nat) (a_p21 : OA) (a_n22 : Nat) (a_c23 : Nat) (c_p24 : OA) (c_n25 : Nat) (c_c26 : Nat) {R : EW} {w : World} : sh69 b_1 x2 x3 x4 x5 x6 x7 x8 x9 x10 x11 x12 x13 x14 xp15 xn16 xc17 xp18 xn19 xc20 a_p21 a_n22 a_c23 c_p24 c_n25 c_c26 R w → Calls Tryz.prog 69 #[.pointer b_1, .agg #[.int .u8 x2, .int .i64 x3, .int .i64 x4, .int .i64 x5, .int .i64 x6, .int .i64 x7, .int .i64 x8, .int .i64 x9, .int .u8 x10, .int .u8 x11, .int .i64 x12, .int .i64 x13, .bool x14, .slice xp15 xn16 xc17, .slice xp18 xn19 xc20], .slice a_p21 a_n22 a_c23, .slice c_p24 c_n25 c_c26] w R :=
  ceq Tryz.func69 (by kernel_rfl) (by kernel_rfl)
def sh70 (b_1 : OA) (x2 : Int) (x3 : Int) (x4 : Int) (x5 : Int) (x6 : Int) (x7 : Int) (x8 : Int) (x9 : Int) (x10 : Int) (x11 : Int) (x12 : Int) (x13 : Int) (x14 : Bool) (xp15 : OA) (xn16 : Nat) (xc17 : Nat) (xp18 : OA) (xn19 : Nat) (xc20 : Nat) (a_p21 : OA) (a_n22 : Nat) (a_c23 : Nat) (c_p24 : OA) (c_n25 : Nat) (c_c26 : Nat) (R : EW) (w : World) : Prop :=
 doAl (.cells #[.int .u8 x2, .int .i64 x3, .int .i64 x4, .int .i64 x5, .int .i64 x6, .int .i64 x7, .int .i64 x8, .int .i64 x9, .int .u8 x10, .int .u8 x11, .int .i64 x12, .int .i64 x13, .bool x14, .slice xp15 xn16 xc17, .slice xp18 xn19 xc20] 30) w (fun _b27 w28 =>
 doAl (.cells #[.int .i64 0, .bool false, .int .i64 0, .int .i64 0, .int .i64 0, .slice none 0 0, .slice none 0 0] 34) w28 (fun b29 w30 =>
 ∃ q31, b_1 = some q31 ∧ (
 ∃ x32, w30.cell? (q31.add 0) = some (.int .u8 x32) ∧ (
 doCall Tryz.prog (.func (.func 110) #[] #[]) #[.int .u8 x32, .slice a_p21 a_n22 a_c23, .slice c_p24 c_n25 c_c26] w30 (retS (fun v37 w38 => ∃ xp33 xn34 xc35 x36, v37 = (.tuple #[.slice xp33 xn34 xc35, .int .i64 x36] : Value) ∧ (
 doCall Tryz.prog (.func (.func 105) #[] #[]) #[.pointer b_1, .slice xp33 xn34 xc35, .int .i64 x36] w38 (retS (fun v50 w51 => ∃ x39 x40 x41 x42 x43 xp44 xn45 xc46 xp47 xn48 xc49, v50 = (.agg #[.int .i64 x39, .bool x40, .int .i64 x41, .int .i64 x42, .int .i64 x43, .slice xp44 xn45 xc46, .slice xp47 xn48 xc49] : Value) ∧ (
 doSt ((blk b29).add 0) (.int .i64 x39) w51 (fun w52 =>
 doSt ((blk b29).add 1) (.bool x40) w52 (fun w53 =>
 doSt ((blk b29).add 2) (.int .i64 x41) w53 (fun w54 =>
 doSt ((blk b29).add 3) (.int .i64 x42) w54 (fun w55 =>
 doSt ((blk b29).add 4) (.int .i64 x43) w55 (fun w56 =>
 doSt ((blk b29).add 5) (.slice xp44 xn45 xc46) w56 (fun w57 =>
 doSt ((blk b29).add 6) (.slice xp47 xn48 xc49) w57 (fun w58 =>
 ∃ x59, w58.cell? ((blk b29).add 0) = some (.int .i64 x59) ∧ (
 ∃ x60, w58.cell? ((blk b29).add 1) = some (.bool x60) ∧ (
 ∃ x61, w58.cell? ((blk b29).add 2) = some (.int .i64 x61) ∧ (
 ∃ x62, w58.cell? ((blk b29).add 3) = some (.int .i64 x62) ∧ (
 ∃ x63, w58.cell? ((blk b29).add 4) = some (.int .i64 x63) ∧ (
 ∃ xp64 xn65 xc66, w58.cell? ((blk b29).add 5) = some (.slice xp64 xn65 xc66) ∧ (
 ∃ xp67 xn68 xc69, w58.cell? ((blk b29).add 6) = some (.slice xp67 xn68 xc69) ∧ (
 R (.returned (.agg #[.int .i64 x59, .bool x60, .int .i64 x61, .int .i64 x62, .int .i64 x63, .slice xp64 xn65 xc66, .slice xp67 xn68 xc69])) w58)))))))))))))))) (kN R)))) (kN R))))))
theorem sh70_ok (b_1 : OA) (x2 : Int) (x3 : Int) (x4 : Int) (x5 : Int) (x6 : Int) (x7 : Int) (x8 : Int) (x9 : Int) (x10 : Int) (x11 : Int) (x12 : Int) (x13 : Int) (x14 : Bool) (xp15 : OA) (xn16 : Nat) (xc17 : Nat) (xp18 : OA) (xn19 : Nat) (xc20 : Nat) (a_p21 : OA) (a_n22 : Nat) (a_c23 : Nat) (c_p24 : OA) (c_n25 : Nat) (c_c26 : Nat) {R : EW} {w : World} : sh70 b_1 x2 x3 x4 x5 x6 x7 x8 x9 x10 x11 x12 x13 x14 xp15 xn16 xc17 xp18 xn19 xc20 a_p21 a_n22 a_c23 c_p24 c_n25 c_c26 R w → Calls Tryz.prog 70 #[.pointer b_1, .agg #[.int .u8 x2, .int .i64 x3, .int .i64 x4, .int .i64 x5, .int .i64 x6, .int .i64 x7, .int .i64 x8, .int .i64 x9, .int .u8 x10, .int .u8 x11, .int .i64 x12, .int .i64 x13, .bool x14, .slice xp15 xn16 xc17, .slice xp18 xn19 xc20], .slice a_p21 a_n22 a_c23, .slice c_p24 c_n25 c_c26] w R :=
  ceq Tryz.func70 (by kernel_rfl) (by kernel_rfl)
def sh71 (b_1 : OA) (x_2 : Int) (x_3 : Int) (x_4 : Int) (x_5 : Int) (x_6 : Int) (x_7 : Int) (x_8 : Int) (x_9 : Int) (x_10 : Int) (x_11 : Int) (x_12 : Int) (x_13 : Int) (x_14 : Bool) (x_p15 : OA) (x_n16 : Nat) (x_c17 : Nat) (x_p18 : OA) (x_n19 : Nat) (x_c20 : Nat) (a_p21 : OA) (a_n22 : Nat) (a_c23 : Nat) (_xp24 : OA) (_xn25 : Nat) (_xc26 : Nat) (R : EW) (w : World) : Prop :=
 doAl (.cells #[.int .u8 x_2, .int .i64 x_3, .int .i64 x_4, .int .i64 x_5, .int .i64 x_6, .int .i64 x_7, .int .i64 x_8, .int .i64 x_9, .int .u8 x_10, .int .u8 x_11, .int .i64 x_12, .int .i64 x_13, .bool x_14, .slice x_p15 x_n16 x_c17, .slice x_p18 x_n19 x_c20] 30) w (fun b27 w28 =>
 doAl (.cells #[.int .i64 0, .bool false, .int .i64 0, .int .i64 0, .int .i64 0, .slice none 0 0, .slice none 0 0] 34) w28 (fun b29 w30 =>
 ∃ x31, w30.cell? (((blk b27).add 9).add 0) = some (.int .u8 x31) ∧ (
 ∃ x32, w30.cell? (((blk b27).add 9).add 1) = some (.int .i64 x32) ∧ (
 ∃ x33, w30.cell? (((blk b27).add 9).add 2) = some (.int .i64 x33) ∧ (
 ∃ x34, w30.cell? (((blk b27).add 9).add 3) = some (.bool x34) ∧ (
 doCall Tryz.prog (.func (.func 111) #[] #[]) #[.agg #[.int .u8 x31, .int .i64 x32, .int .i64 x33, .bool x34], .slice a_p21 a_n22 a_c23] w30 (retS (fun v39 w40 => ∃ xp35 xn36 xc37 x38, v39 = (.tuple #[.slice xp35 xn36 xc37, .int .i64 x38] : Value) ∧ (
 doCall Tryz.prog (.func (.func 105) #[] #[]) #[.pointer b_1, .slice xp35 xn36 xc37, .int .i64 x38] w40 (retS (fun v52 w53 => ∃ x41 x42 x43 x44 x45 xp46 xn47 xc48 xp49 xn50 xc51, v52 = (.agg #[.int .i64 x41, .bool x42, .int .i64 x43, .int .i64 x44, .int .i64 x45, .slice xp46 xn47 xc48, .slice xp49 xn50 xc51] : Value) ∧ (
 doSt ((blk b29).add 0) (.int .i64 x41) w53 (fun w54 =>
 doSt ((blk b29).add 1) (.bool x42) w54 (fun w55 =>
 doSt ((blk b29).add 2) (.int .i64 x43) w55 (fun w56 =>
 doSt ((blk b29).add 3) (.int .i64 x44) w56 (fun w57 =>
 doSt ((blk b29).add 4) (.int .i64 x45) w57 (fun w58 =>
 doSt ((blk b29).add 5) (.slice xp46 xn47 xc48) w58 (fun w59 =>
 doSt ((blk b29).add 6) (.slice xp49 xn50 xc51) w59 (fun w60 =>
 ∃ x61, w60.cell? ((blk b29).add 0) = some (.int .i64 x61) ∧ (
 ∃ x62, w60.cell? ((blk b29).add 1) = some (.bool x62) ∧ (
 ∃ x63, w60.cell? ((blk b29).add 2) = some (.int .i64 x63) ∧ (
 ∃ x64, w60.cell? ((blk b29).add 3) = some (.int .i64 x64) ∧ (
 ∃ x65, w60.cell? ((blk b29).add 4) = some (.int .i64 x65) ∧ (
 ∃ xp66 xn67 xc68, w60.cell? ((blk b29).add 5) = some (.slice xp66 xn67 xc68) ∧ (
 ∃ xp69 xn70 xc71, w60.cell? ((blk b29).add 6) = some (.slice xp69 xn70 xc71) ∧ (
 R (.returned (.agg #[.int .i64 x61, .bool x62, .int .i64 x63, .int .i64 x64, .int .i64 x65, .slice xp66 xn67 xc68, .slice xp69 xn70 xc71])) w60)))))))))))))))) (kN R)))) (kN R))))))))
theorem sh71_ok (b_1 : OA) (x_2 : Int) (x_3 : Int) (x_4 : Int) (x_5 : Int) (x_6 : Int) (x_7 : Int) (x_8 : Int) (x_9 : Int) (x_10 : Int) (x_11 : Int) (x_12 : Int) (x_13 : Int) (x_14 : Bool) (x_p15 : OA) (x_n16 : Nat) (x_c17 : Nat) (x_p18 : OA) (x_n19 : Nat) (x_c20 : Nat) (a_p21 : OA) (a_n22 : Nat) (a_c23 : Nat) (xp24 : OA) (xn25 : Nat) (xc26 : Nat) {R : EW} {w : World} : sh71 b_1 x_2 x_3 x_4 x_5 x_6 x_7 x_8 x_9 x_10 x_11 x_12 x_13 x_14 x_p15 x_n16 x_c17 x_p18 x_n19 x_c20 a_p21 a_n22 a_c23 xp24 xn25 xc26 R w → Calls Tryz.prog 71 #[.pointer b_1, .agg #[.int .u8 x_2, .int .i64 x_3, .int .i64 x_4, .int .i64 x_5, .int .i64 x_6, .int .i64 x_7, .int .i64 x_8, .int .i64 x_9, .int .u8 x_10, .int .u8 x_11, .int .i64 x_12, .int .i64 x_13, .bool x_14, .slice x_p15 x_n16 x_c17, .slice x_p18 x_n19 x_c20], .slice a_p21 a_n22 a_c23, .slice xp24 xn25 xc26] w R :=
  ceq Tryz.func71 (by kernel_rfl) (by kernel_rfl)
def sh72 (b_1 : OA) (x_2 : Int) (x_3 : Int) (x_4 : Int) (x_5 : Int) (x_6 : Int) (x_7 : Int) (x_8 : Int) (x_9 : Int) (x_10 : Int) (x_11 : Int) (x_12 : Int) (x_13 : Int) (x_14 : Bool) (x_p15 : OA) (x_n16 : Nat) (x_c17 : Nat) (x_p18 : OA) (x_n19 : Nat) (x_c20 : Nat) (a_p21 : OA) (a_n22 : Nat) (a_c23 : Nat) (_xp24 : OA) (_xn25 : Nat) (_xc26 : Nat) (R : EW) (w : World) : Prop :=
 doAl (.cells #[.int .u8 x_2, .int .i64 x_3, .int .i64 x_4, .int .i64 x_5, .int .i64 x_6, .int .i64 x_7, .int .i64 x_8, .int .i64 x_9, .int .u8 x_10, .int .u8 x_11, .int .i64 x_12, .int .i64 x_13, .bool x_14, .slice x_p15 x_n16 x_c17, .slice x_p18 x_n19 x_c20] 30) w (fun b27 w28 =>
 doAl (.cells #[.int .i64 0, .bool false, .int .i64 0, .int .i64 0, .int .i64 0, .slice none 0 0, .slice none 0 0] 34) w28 (fun b29 w30 =>
 doDr w30 (fun w32 =>
 ∃ (C31 : World → Prop), C31 w32 ∧ (
 ∃ q33, b_1 = some q33 ∧ (
 ∃ x34, (∀ w, C31 w → w.cell? (q33.add 0) = some (.int .u8 x34)) ∧ (
 ∃ x35, (∀ w, C31 w → w.cell? ((blk b27).add 8) = some (.int .u8 x35)) ∧ (
 ∃ xp36 xn37 xc38, (∀ w, C31 w → w.cell? ((blk b27).add 13) = some (.slice xp36 xn37 xc38)) ∧ (
 doCall Tryz.prog (.func (.func 106) #[] #[]) #[.int .u8 x34, .int .u8 x35, .slice xp36 xn37 xc38] w32 (retS (fun v43 w44 => ∃ xp39 xn40 xc41 x42, v43 = (.tuple #[.slice xp39 xn40 xc41, .int .i64 x42] : Value) ∧ (
 doDr w44 (fun w46 =>
 ∃ (C45 : World → Prop), C45 w46 ∧ (
 ∃ q47, b_1 = some q47 ∧ (
 ∃ x48, (∀ w, C45 w → w.cell? (q47.add 0) = some (.int .u8 x48)) ∧ (
 ∃ x49, (∀ w, C45 w → w.cell? ((blk b27).add 8) = some (.int .u8 x49)) ∧ (
 doCall Tryz.prog (.func (.func 107) #[] #[]) #[.int .u8 x48, .int .u8 x49, .slice a_p21 a_n22 a_c23, .slice xp39 xn40 xc41] w46 (retS (fun v54 w55 => ∃ xp50 xn51 xc52 x53, v54 = (.tuple #[.slice xp50 xn51 xc52, .int .i64 x53] : Value) ∧ (
 doCall Tryz.prog (.func (.func 105) #[] #[]) #[.pointer b_1, .slice xp50 xn51 xc52, .int .i64 x53] w55 (retS (fun v67 w68 => ∃ x56 x57 x58 x59 x60 xp61 xn62 xc63 xp64 xn65 xc66, v67 = (.agg #[.int .i64 x56, .bool x57, .int .i64 x58, .int .i64 x59, .int .i64 x60, .slice xp61 xn62 xc63, .slice xp64 xn65 xc66] : Value) ∧ (
 C45 w68 ∧ (
 doSt ((blk b29).add 0) (.int .i64 x56) w68 (fun w69 =>
 doSt ((blk b29).add 1) (.bool x57) w69 (fun w70 =>
 doSt ((blk b29).add 2) (.int .i64 x58) w70 (fun w71 =>
 doSt ((blk b29).add 3) (.int .i64 x59) w71 (fun w72 =>
 doSt ((blk b29).add 4) (.int .i64 x60) w72 (fun w73 =>
 doSt ((blk b29).add 5) (.slice xp61 xn62 xc63) w73 (fun w74 =>
 doSt ((blk b29).add 6) (.slice xp64 xn65 xc66) w74 (fun w75 =>
 ∃ x76, w75.cell? ((blk b29).add 0) = some (.int .i64 x76) ∧ (
 ∃ x77, w75.cell? ((blk b29).add 1) = some (.bool x77) ∧ (
 ∃ x78, w75.cell? ((blk b29).add 2) = some (.int .i64 x78) ∧ (
 ∃ x79, w75.cell? ((blk b29).add 3) = some (.int .i64 x79) ∧ (
 ∃ x80, w75.cell? ((blk b29).add 4) = some (.int .i64 x80) ∧ (
 ∃ xp81 xn82 xc83, w75.cell? ((blk b29).add 5) = some (.slice xp81 xn82 xc83) ∧ (
 ∃ xp84 xn85 xc86, w75.cell? ((blk b29).add 6) = some (.slice xp84 xn85 xc86) ∧ (
 R (.returned (.agg #[.int .i64 x76, .bool x77, .int .i64 x78, .int .i64 x79, .int .i64 x80, .slice xp81 xn82 xc83, .slice xp84 xn85 xc86])) w75))))))))))))))))) (kN R)))) (kN R))))))))) (kN R))))))))))
theorem sh72_ok (b_1 : OA) (x_2 : Int) (x_3 : Int) (x_4 : Int) (x_5 : Int) (x_6 : Int) (x_7 : Int) (x_8 : Int) (x_9 : Int) (x_10 : Int) (x_11 : Int) (x_12 : Int) (x_13 : Int) (x_14 : Bool) (x_p15 : OA) (x_n16 : Nat) (x_c17 : Nat) (x_p18 : OA) (x_n19 : Nat) (x_c20 : Nat) (a_p21 : OA) (a_n22 : Nat) (a_c23 : Nat) (xp24 : OA) (xn25 : Nat) (xc26 : Nat) {R : EW} {w : World} : sh72 b_1 x_2 x_3 x_4 x_5 x_6 x_7 x_8 x_9 x_10 x_11 x_12 x_13 x_14 x_p15 x_n16 x_c17 x_p18 x_n19 x_c20 a_p21 a_n22 a_c23 xp24 xn25 xc26 R w → Calls Tryz.prog 72 #[.pointer b_1, .agg #[.int .u8 x_2, .int .i64 x_3, .int .i64 x_4, .int .i64 x_5, .int .i64 x_6, .int .i64 x_7, .int .i64 x_8, .int .i64 x_9, .int .u8 x_10, .int .u8 x_11, .int .i64 x_12, .int .i64 x_13, .bool x_14, .slice x_p15 x_n16 x_c17, .slice x_p18 x_n19 x_c20], .slice a_p21 a_n22 a_c23, .slice xp24 xn25 xc26] w R :=
  ceq Tryz.func72 (by kernel_rfl) (by kernel_rfl)
def sh73 (b_1 : OA) (x_2 : Int) (x_3 : Int) (x_4 : Int) (x_5 : Int) (x_6 : Int) (x_7 : Int) (x_8 : Int) (x_9 : Int) (x_10 : Int) (x_11 : Int) (x_12 : Int) (x_13 : Int) (x_14 : Bool) (x_p15 : OA) (x_n16 : Nat) (x_c17 : Nat) (x_p18 : OA) (x_n19 : Nat) (x_c20 : Nat) (a_p21 : OA) (a_n22 : Nat) (a_c23 : Nat) (_xp24 : OA) (_xn25 : Nat) (_xc26 : Nat) (R : EW) (w : World) : Prop :=
 doAl (.cells #[.int .u8 x_2, .int .i64 x_3, .int .i64 x_4, .int .i64 x_5, .int .i64 x_6, .int .i64 x_7, .int .i64 x_8, .int .i64 x_9, .int .u8 x_10, .int .u8 x_11, .int .i64 x_12, .int .i64 x_13, .bool x_14, .slice x_p15 x_n16 x_c17, .slice x_p18 x_n19 x_c20] 30) w (fun b27 w28 =>
 doAl (.cells #[.int .i64 0, .bool false, .int .i64 0, .int .i64 0, .int .i64 0, .slice none 0 0, .slice none 0 0] 34) w28 (fun b29 w30 =>
 ∃ xp31 xn32 xc33, w30.cell? ((blk b27).add 14) = some (.slice xp31 xn32 xc33) ∧ (
 ∃ (I34 : List Value → World → Prop) (μ35 : List Value → World → Nat), I34 [.slice none 0 0, .int .i64 0] w30 ∧ (∀ (l_p38 : OA), ∀ (l_n39 : Nat), ∀ (l_c40 : Nat), ∀ (x41 : Int), ∀ (_j36 : Nat → Value) (w37 : World), I34 [.slice l_p38 l_n39 l_c40, .int .i64 x41] w37 → (
 ifB (decide ((x41 : Int) < ((xn32 : Nat) : Int))) (
 doIx xp31 xn32 1 (x41) (fun a42 =>
 ∃ x43, w37.cell? a42 = some (.int .i64 x43) ∧ (
 doAl (.cells #[.int .i64 x43, .int .i64 0] 63) w37 (fun b44 w45 =>
 doGo Tryz.prog (.builtin .append #[22, 22] 22 #[false, false]) #[.slice l_p38 l_n39 l_c40, .slice (some (blk b44)) 1 1] w45 (retS (fun v49 w50 => ∃ xp46 xn47 xc48, v49 = (.slice xp46 xn47 xc48 : Value) ∧ (
 I34 [.slice xp46 xn47 xc48, .int .i64 (IntKind.wrap .i64 (x41 + 1))] w50 ∧ μ35 [.slice xp46 xn47 xc48, .int .i64 (IntKind.wrap .i64 (x41 + 1))] w50 < μ35 [.slice l_p38 l_n39 l_c40, .int .i64 x41] w37)) (kN R)))))) (
 ∃ q51, b_1 = some q51 ∧ (
 ∃ x52, w37.cell? (q51.add 0) = some (.int .u8 x52) ∧ (
 doCall Tryz.prog (.func (.func 106) #[] #[]) #[.int .u8 x52, .int .u8 1, .slice l_p38 l_n39 l_c40] w37 (retS (fun v57 w58 => ∃ xp53 xn54 xc55 x56, v57 = (.tuple #[.slice xp53 xn54 xc55, .int .i64 x56] : Value) ∧ (
 ∃ q59, b_1 = some q59 ∧ (
 ∃ x60, w58.cell? (q59.add 0) = some (.int .u8 x60) ∧ (
 doCall Tryz.prog (.func (.func 109) #[] #[]) #[.int .u8 x60, .slice a_p21 a_n22 a_c23, .slice xp53 xn54 xc55] w58 (retS (fun v65 w66 => ∃ xp61 xn62 xc63 x64, v65 = (.tuple #[.slice xp61 xn62 xc63, .int .i64 x64] : Value) ∧ (
 doCall Tryz.prog (.func (.func 105) #[] #[]) #[.pointer b_1, .slice xp61 xn62 xc63, .int .i64 x64] w66 (retS (fun v78 w79 => ∃ x67 x68 x69 x70 x71 xp72 xn73 xc74 xp75 xn76 xc77, v78 = (.agg #[.int .i64 x67, .bool x68, .int .i64 x69, .int .i64 x70, .int .i64 x71, .slice xp72 xn73 xc74, .slice xp75 xn76 xc77] : Value) ∧ (
 doSt ((blk b29).add 0) (.int .i64 x67) w79 (fun w80 =>
 doSt ((blk b29).add 1) (.bool x68) w80 (fun w81 =>
 doSt ((blk b29).add 2) (.int .i64 x69) w81 (fun w82 =>
 doSt ((blk b29).add 3) (.int .i64 x70) w82 (fun w83 =>
 doSt ((blk b29).add 4) (.int .i64 x71) w83 (fun w84 =>
 doSt ((blk b29).add 5) (.slice xp72 xn73 xc74) w84 (fun w85 =>
 doSt ((blk b29).add 6) (.slice xp75 xn76 xc77) w85 (fun w86 =>
 ∃ x87, w86.cell? ((blk b29).add 0) = some (.int .i64 x87) ∧ (
 ∃ x88, w86.cell? ((blk b29).add 1) = some (.bool x88) ∧ (
 ∃ x89, w86.cell? ((blk b29).add 2) = some (.int .i64 x89) ∧ (
 ∃ x90, w86.cell? ((blk b29).add 3) = some (.int .i64 x90) ∧ (
 ∃ x91, w86.cell? ((blk b29).add 4) = some (.int .i64 x91) ∧ (
 ∃ xp92 xn93 xc94, w86.cell? ((blk b29).add 5) = some (.slice xp92 xn93 xc94) ∧ (
 ∃ xp95 xn96 xc97, w86.cell? ((blk b29).add 6) = some (.slice xp95 xn96 xc97) ∧ (
 R (.returned (.agg #[.int .i64 x87, .bool x88, .int .i64 x89, .int .i64 x90, .int .i64 x91, .slice xp92 xn93 xc94, .slice xp95 xn96 xc97])) w86)))))))))))))))) (kN R)))) (kN R)))))) (kN R))))))))))
theorem sh73_ok (b_1 : OA) (x_2 : Int) (x_3 : Int) (x_4 : Int) (x_5 : Int) (x_6 : Int) (x_7 : Int) (x_8 : Int) (x_9 : Int) (x_10 : Int) (x_11 : Int) (x_12 : Int) (x_13 : Int) (x_14 : Bool) (x_p15 : OA) (x_n16 : Nat) (x_c17 : Nat) (x_p18 : OA) (x_n19 : Nat) (x_c20 : Nat) (a_p21 : OA) (a_n22 : Nat) (a_c23 : Nat) (xp24 : OA) (xn25 : Nat) (xc26 : Nat) {R : EW} {w : World} : sh73 b_1 x_2 x_3 x_4 x_5 x_6 x_7 x_8 x_9 x_10 x_11 x_12 x_13 x_14 x_p15 x_n16 x_c17 x_p18 x_n19 x_c20 a_p21 a_n22 a_c23 xp24 xn25 xc26 R w → Calls Tryz.prog 73 #[.pointer b_1, .agg #[.int .u8 x_2, .int .i64 x_3, .int .i64 x_4, .int .i64 x_5, .int .i64 x_6, .int .i64 x_7, .int .i64 x_8, .int .i64 x_9, .int .u8 x_10, .int .u8 x_11, .int .i64 x_12, .int .i64 x_13, .bool x_14, .slice x_p15 x_n16 x_c17, .slice x_p18 x_n19 x_c20], .slice a_p21 a_n22 a_c23, .slice xp24 xn25 xc26] w R :=
  Old.calls_of_eq (ann := fun i => if i = 0 then [(9, .slice none 0 0), (15, .int .i64 0)] else []) (fn := Tryz.f73) (c := bodyOf Tryz.f73) (args := #[.pointer b_1, .agg #[.int .u8 x_2, .int .i64 x_3, .int .i64 x_4, .int .i64 x_5, .int .i64 x_6, .int .i64 x_7, .int .i64 x_8, .int .i64 x_9, .int .u8 x_10, .int .u8 x_11, .int .i64 x_12, .int .i64 x_13, .bool x_14, .slice x_p15 x_n16 x_c17, .slice x_p18 x_n19 x_c20], .slice a_p21 a_n22 a_c23, .slice xp24 xn25 xc26]) 400 follows_mixed Tryz.func73 (by kernel_rfl) (by kernel_rfl)
end Go.Proofs.YtmdboekndjlmgaaGreat

