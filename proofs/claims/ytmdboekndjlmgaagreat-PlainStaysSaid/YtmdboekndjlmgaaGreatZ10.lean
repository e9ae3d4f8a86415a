/-
  Printed by a program (gen.py): what the functions of the program do, as formulas; each with the proof that its call is what the formula says.
-/
import Derived.Test.YtmdboekndjlmgaaGreatZ04
import Derived.Test.YtmdboekndjlmgaaGreatProg
import Derived.Test.YtmdboekndjlmgaaGreatZ05

set_option maxRecDepth 100000
set_option maxHeartbeats 6400000
namespace Go.Proofs.YtmdboekndjlmgaaGreat
open Go Go.Sh
def sh115 (o_1 : Int) (l_p2 : OA) (l_n3 : Nat) (l_c4 : Nat) (key_5 : Int) (R : EW) (w : World) : Prop :=
 doCall Tryz.prog (.func (.func 24) #[] #[]) #[.int .u8 o_1, .slice l_p2 l_n3 l_c4] w (retS (fun v7 w8 => ∃ x6, v7 = (.bool x6 : Value) ∧ (
 ifB (!x6) (
 R (.returned (.tuple #[.slice none 0 0, .int .i64 0, .bool false, .slice none 0 0])) w8) (
 doCall Tryz.prog (.func (.func 112) #[] #[]) #[.int .u8 o_1, .slice l_p2 l_n3 l_c4, .int .i64 key_5] w8 (retS (fun v11 w12 => ∃ x9 x10, v11 = (.tuple #[.int .i64 x9, .bool x10] : Value) ∧ (
 doDr w12 (fun w13 =>
 doSl l_p2 l_c4 2 (0) (x9) (fun p14 n15 c16 =>
 doSl l_p2 l_c4 2 (x9) (((l_n3 : Nat) : Int)) (fun p17 n18 c19 =>
 doCall Tryz.prog (.func (.func 27) #[] #[]) #[.slice p14 n15 c16] w13 (retS (fun v23 w24 => ∃ xp20 xn21 xc22, v23 = (.slice xp20 xn21 xc22 : Value) ∧ (
 doCall Tryz.prog (.func (.func 27) #[] #[]) #[.slice p17 n18 c19] w24 (retS (fun v28 w29 => ∃ xp25 xn26 xc27, v28 = (.slice xp25 xn26 xc27 : Value) ∧ (
 let K35 : Int → (OA) → Nat → Nat → World → Prop := fun val_30 behind_p31 behind_n32 behind_c33 w34 => 
 R (.returned (.tuple #[.slice xp20 xn21 xc22, .int .i64 val_30, .bool x10, .slice behind_p31 behind_n32 behind_c33])) w34
 ifB x10 (
 doDr w29 (fun w37 =>
 ∃ (C36 : World → Prop), C36 w37 ∧ (
 doIx xp25 xn26 2 (0) (fun a38 =>
 ∃ x39, (∀ w, C36 w → w.cell? (a38.add 1) = some (.int .i64 x39)) ∧ (
 doSl xp25 xc27 2 (1) (((xn26 : Nat) : Int)) (fun p40 n41 c42 =>
 K35 x39 p40 n41 c42 w37)))))) (
 K35 0 xp25 xn26 xc27 w29))) (kN R)))) (kN R))))))) (kN R))))) (kN R))
theorem sh115_ok (o_1 : Int) (l_p2 : OA) (l_n3 : Nat) (l_c4 : Nat) (key_5 : Int) {R : EW} {w : World} : sh115 o_1 l_p2 l_n3 l_c4 key_5 R w → Calls Tryz.prog 115 #[.int .u8 o_1, .slice l_p2 l_n3 l_c4, .int .i64 key_5] w R :=
  ceq Tryz.func115 (by kernel_rfl) (by kernel_rfl)
def sh116 (x_1 : Int) (x_2 : Int) (x_3 : Int) (x_4 : Int) (x_5 : Int) (x_6 : Int) (x_7 : Int) (x_8 : Int) (x_9 : Int) (x_10 : Int) (x_11 : Int) (x_12 : Int) (x_13 : Bool) (x_p14 : OA) (x_n15 : Nat) (x_c16 : Nat) (x_p17 : OA) (x_n18 : Nat) (x_c19 : Nat) (R : EW) (w : World) : Prop :=
 doAl (.cells #[.int .u8 x_1, .int .i64 x_2, .int .i64 x_3, .int .i64 x_4, .int .i64 x_5, .int .i64 x_6, .int .i64 x_7, .int .i64 x_8, .int .u8 x_9, .int .u8 x_10, .int .i64 x_11, .int .i64 x_12, .bool x_13, .slice x_p14 x_n15 x_c16, .slice x_p17 x_n18 x_c19] 30) w (fun b20 w21 =>
 doAl (.cells #[.int .u8 0, .int .i64 0, .int .i64 0, .int .i64 0, .int .i64 0, .int .i64 0, .int .i64 0, .int .i64 0, .int .u8 0, .int .u8 0, .int .i64 0, .int .i64 0, .bool false, .slice none 0 0, .slice none 0 0] 30) w21 (fun b22 w23 =>
 doAl (.cells #[.bool false] 4) w23 (fun b24 w25 =>
 doAl (.cells #[.slice none 0 0] 161) w25 (fun b26 w27 =>
 doCall Tryz.prog (.func (.func 157) #[] #[]) #[.pointer (some (blk b20)), .iface 158 (.pointer (some (blk b26)))] w27 (retS (fun v28 w29 => v28 = (.tuple #[] : Value) ∧ (
 ∃ q30, (some (blk b26)) = some q30 ∧ (
 ∃ xp31 xn32 xc33, w29.cell? (q30.add 0) = some (.slice xp31 xn32 xc33) ∧ (
 doBs Tryz.prog 159 9 (.slice xp31 xn32 xc33) w29 (fun s34 =>
 doAl (.cells #[.string s34] 166) w29 (fun b35 w36 =>
 doCall Tryz.prog (.func (.func 157) #[] #[]) #[.pointer (some (blk b22)), .iface 164 (.pointer (some (blk b35)))] w36 (retS (fun v37 w38 => v37 = (.tuple #[] : Value) ∧ (
 ∃ x39, w38.cell? ((blk b22).add 0) = some (.int .u8 x39) ∧ (
 ∃ x40, w38.cell? ((blk b22).add 1) = some (.int .i64 x40) ∧ (
 ∃ x41, w38.cell? ((blk b22).add 2) = some (.int .i64 x41) ∧ (
 ∃ x42, w38.cell? ((blk b22).add 3) = some (.int .i64 x42) ∧ (
 ∃ x43, w38.cell? ((blk b22).add 4) = some (.int .i64 x43) ∧ (
 ∃ x44, w38.cell? ((blk b22).add 5) = some (.int .i64 x44) ∧ (
 ∃ x45, w38.cell? ((blk b22).add 6) = some (.int .i64 x45) ∧ (
 ∃ x46, w38.cell? ((blk b22).add 7) = some (.int .i64 x46) ∧ (
 ∃ x47, w38.cell? ((blk b22).add 8) = some (.int .u8 x47) ∧ (
 ∃ x48, w38.cell? ((blk b22).add 9) = some (.int .u8 x48) ∧ (
 ∃ x49, w38.cell? ((blk b22).add 10) = some (.int .i64 x49) ∧ (
 ∃ x50, w38.cell? ((blk b22).add 11) = some (.int .i64 x50) ∧ (
 ∃ x51, w38.cell? ((blk b22).add 12) = some (.bool x51) ∧ (
 ∃ xp52 xn53 xc54, w38.cell? ((blk b22).add 13) = some (.slice xp52 xn53 xc54) ∧ (
 ∃ xp55 xn56 xc57, w38.cell? ((blk b22).add 14) = some (.slice xp55 xn56 xc57) ∧ (
 doSt ((blk b22).add 0) (.int .u8 x39) w38 (fun w58 =>
 doSt ((blk b22).add 1) (.int .i64 x40) w58 (fun w59 =>
 doSt ((blk b22).add 2) (.int .i64 x41) w59 (fun w60 =>
 doSt ((blk b22).add 3) (.int .i64 x42) w60 (fun w61 =>
 doSt ((blk b22).add 4) (.int .i64 x43) w61 (fun w62 =>
 doSt ((blk b22).add 5) (.int .i64 x44) w62 (fun w63 =>
 doSt ((blk b22).add 6) (.int .i64 x45) w63 (fun w64 =>
 doSt ((blk b22).add 7) (.int .i64 x46) w64 (fun w65 =>
 doSt ((blk b22).add 8) (.int .u8 x47) w65 (fun w66 =>
 doSt ((blk b22).add 9) (.int .u8 x48) w66 (fun w67 =>
 doSt ((blk b22).add 10) (.int .i64 x49) w67 (fun w68 =>
 doSt ((blk b22).add 11) (.int .i64 x50) w68 (fun w69 =>
 doSt ((blk b22).add 12) (.bool x51) w69 (fun w70 =>
 doSt ((blk b22).add 13) (.slice xp52 xn53 xc54) w70 (fun w71 =>
 doSt ((blk b22).add 14) (.slice xp55 xn56 xc57) w71 (fun w72 =>
 doSt ((blk b24).add 0) (.bool true) w72 (fun w73 =>
 doDf Tryz.prog (.fn (.func 155) #[.pointer (some (blk b24))]) #[] (.returning) w73 (fun u75 w74 =>
 doEnd (u75) (
 ∃ x77, w74.cell? ((blk b22).add 0) = some (.int .u8 x77) ∧ (
 ∃ x78, w74.cell? ((blk b22).add 1) = some (.int .i64 x78) ∧ (
 ∃ x79, w74.cell? ((blk b22).add 2) = some (.int .i64 x79) ∧ (
 ∃ x80, w74.cell? ((blk b22).add 3) = some (.int .i64 x80) ∧ (
 ∃ x81, w74.cell? ((blk b22).add 4) = some (.int .i64 x81) ∧ (
 ∃ x82, w74.cell? ((blk b22).add 5) = some (.int .i64 x82) ∧ (
 ∃ x83, w74.cell? ((blk b22).add 6) = some (.int .i64 x83) ∧ (
 ∃ x84, w74.cell? ((blk b22).add 7) = some (.int .i64 x84) ∧ (
 ∃ x85, w74.cell? ((blk b22).add 8) = some (.int .u8 x85) ∧ (
 ∃ x86, w74.cell? ((blk b22).add 9) = some (.int .u8 x86) ∧ (
 ∃ x87, w74.cell? ((blk b22).add 10) = some (.int .i64 x87) ∧ (
 ∃ x88, w74.cell? ((blk b22).add 11) = some (.int .i64 x88) ∧ (
 ∃ x89, w74.cell? ((blk b22).add 12) = some (.bool x89) ∧ (
 ∃ xp90 xn91 xc92, w74.cell? ((blk b22).add 13) = some (.slice xp90 xn91 xc92) ∧ (
 ∃ xp93 xn94 xc95, w74.cell? ((blk b22).add 14) = some (.slice xp93 xn94 xc95) ∧ (
 ∃ x96, w74.cell? (blk b24) = some (.bool x96) ∧ (
 R (.returned (.tuple #[.agg #[.int .u8 x77, .int .i64 x78, .int .i64 x79, .int .i64 x80, .int .i64 x81, .int .i64 x82, .int .i64 x83, .int .i64 x84, .int .u8 x85, .int .u8 x86, .int .i64 x87, .int .i64 x88, .bool x89, .slice xp90 xn91 xc92, .slice xp93 xn94 xc95], .bool x96])) w74))))))))))))))))) (fun ch76 => R (.panicked ch76) w74))))))))))))))))))))))))))))))))))) (fun (ch97 : List PanicEntry) (w98 : World) =>
 doDf Tryz.prog (.fn (.func 155) #[.pointer (some (blk b24))]) #[] (.panicking ch97) w98 (fun u100 w99 =>
 doEnd (u100) (
 ∃ x102, w99.cell? ((blk b22).add 0) = some (.int .u8 x102) ∧ (
 ∃ x103, w99.cell? ((blk b22).add 1) = some (.int .i64 x103) ∧ (
 ∃ x104, w99.cell? ((blk b22).add 2) = some (.int .i64 x104) ∧ (
 ∃ x105, w99.cell? ((blk b22).add 3) = some (.int .i64 x105) ∧ (
 ∃ x106, w99.cell? ((blk b22).add 4) = some (.int .i64 x106) ∧ (
 ∃ x107, w99.cell? ((blk b22).add 5) = some (.int .i64 x107) ∧ (
 ∃ x108, w99.cell? ((blk b22).add 6) = some (.int .i64 x108) ∧ (
 ∃ x109, w99.cell? ((blk b22).add 7) = some (.int .i64 x109) ∧ (
 ∃ x110, w99.cell? ((blk b22).add 8) = some (.int .u8 x110) ∧ (
 ∃ x111, w99.cell? ((blk b22).add 9) = some (.int .u8 x111) ∧ (
 ∃ x112, w99.cell? ((blk b22).add 10) = some (.int .i64 x112) ∧ (
 ∃ x113, w99.cell? ((blk b22).add 11) = some (.int .i64 x113) ∧ (
 ∃ x114, w99.cell? ((blk b22).add 12) = some (.bool x114) ∧ (
 ∃ xp115 xn116 xc117, w99.cell? ((blk b22).add 13) = some (.slice xp115 xn116 xc117) ∧ (
 ∃ xp118 xn119 xc120, w99.cell? ((blk b22).add 14) = some (.slice xp118 xn119 xc120) ∧ (
 ∃ x121, w99.cell? (blk b24) = some (.bool x121) ∧ (
 R (.returned (.tuple #[.agg #[.int .u8 x102, .int .i64 x103, .int .i64 x104, .int .i64 x105, .int .i64 x106, .int .i64 x107, .int .i64 x108, .int .i64 x109, .int .u8 x110, .int .u8 x111, .int .i64 x112, .int .i64 x113, .bool x114, .slice xp115 xn116 xc117, .slice xp118 xn119 xc120], .bool x121])) w99))))))))))))))))) (fun ch101 => R (.panicked ch101) w99)))))))))) (fun (ch122 : List PanicEntry) (w123 : World) =>
 doDf Tryz.prog (.fn (.func 155) #[.pointer (some (blk b24))]) #[] (.panicking ch122) w123 (fun u125 w124 =>
 doEnd (u125) (
 ∃ x127, w124.cell? ((blk b22).add 0) = some (.int .u8 x127) ∧ (
 ∃ x128, w124.cell? ((blk b22).add 1) = some (.int .i64 x128) ∧ (
 ∃ x129, w124.cell? ((blk b22).add 2) = some (.int .i64 x129) ∧ (
 ∃ x130, w124.cell? ((blk b22).add 3) = some (.int .i64 x130) ∧ (
 ∃ x131, w124.cell? ((blk b22).add 4) = some (.int .i64 x131) ∧ (
 ∃ x132, w124.cell? ((blk b22).add 5) = some (.int .i64 x132) ∧ (
 ∃ x133, w124.cell? ((blk b22).add 6) = some (.int .i64 x133) ∧ (
 ∃ x134, w124.cell? ((blk b22).add 7) = some (.int .i64 x134) ∧ (
 ∃ x135, w124.cell? ((blk b22).add 8) = some (.int .u8 x135) ∧ (
 ∃ x136, w124.cell? ((blk b22).add 9) = some (.int .u8 x136) ∧ (
 ∃ x137, w124.cell? ((blk b22).add 10) = some (.int .i64 x137) ∧ (
 ∃ x138, w124.cell? ((blk b22).add 11) = some (.int .i64 x138) ∧ (
 ∃ x139, w124.cell? ((blk b22).add 12) = some (.bool x139) ∧ (
 ∃ xp140 xn141 xc142, w124.cell? ((blk b22).add 13) = some (.slice xp140 xn141 xc142) ∧ (
 ∃ xp143 xn144 xc145, w124.cell? ((blk b22).add 14) = some (.slice xp143 xn144 xc145) ∧ (
 ∃ x146, w124.cell? (blk b24) = some (.bool x146) ∧ (
 R (.returned (.tuple #[.agg #[.int .u8 x127, .int .i64 x128, .int .i64 x129, .int .i64 x130, .int .i64 x131, .int .i64 x132, .int .i64 x133, .int .i64 x134, .int .u8 x135, .int .u8 x136, .int .i64 x137, .int .i64 x138, .bool x139, .slice xp140 xn141 xc142, .slice xp143 xn144 xc145], .bool x146])) w124))))))))))))))))) (fun ch126 => R (.panicked ch126) w124))))))))
theorem sh116_ok (x_1 : Int) (x_2 : Int) (x_3 : Int) (x_4 : Int) (x_5 : Int) (x_6 : Int) (x_7 : Int) (x_8 : Int) (x_9 : Int) (x_10 : Int) (x_11 : Int) (x_12 : Int) (x_13 : Bool) (x_p14 : OA) (x_n15 : Nat) (x_c16 : Nat) (x_p17 : OA) (x_n18 : Nat) (x_c19 : Nat) {R : EW} {w : World} : sh116 x_1 x_2 x_3 x_4 x_5 x_6 x_7 x_8 x_9 x_10 x_11 x_12 x_13 x_p14 x_n15 x_c16 x_p17 x_n18 x_c19 R w → Calls Tryz.prog 116 #[.agg #[.int .u8 x_1, .int .i64 x_2, .int .i64 x_3, .int .i64 x_4, .int .i64 x_5, .int .i64 x_6, .int .i64 x_7, .int .i64 x_8, .int .u8 x_9, .int .u8 x_10, .int .i64 x_11, .int .i64 x_12, .bool x_13, .slice x_p14 x_n15 x_c16, .slice x_p17 x_n18 x_c19]] w R :=
  calls_of_eqD (ann := fun _ => []) (fn := Tryz.f116) (c := bodyOf Tryz.f116) (args := #[.agg #[.int .u8 x_1, .int .i64 x_2, .int .i64 x_3, .int .i64 x_4, .int .i64 x_5, .int .i64 x_6, .int .i64 x_7, .int .i64 x_8, .int .u8 x_9, .int .u8 x_10, .int .i64 x_11, .int .i64 x_12, .bool x_13, .slice x_p14 x_n15 x_c16, .slice x_p17 x_n18 x_c19]]) 400 follows_mixed Tryz.func116 (by kernel_rfl) (by kernel_rfl)
def sh117 (x_1 : Int) (x_2 : Int) (x_3 : Int) (x_4 : Int) (x_5 : Int) (x_6 : Int) (x_7 : Int) (x_8 : Int) (x_9 : Int) (x_10 : Int) (x_11 : Int) (x_12 : Int) (x_13 : Bool) (x_p14 : OA) (x_n15 : Nat) (x_c16 : Nat) (x_p17 : OA) (x_n18 : Nat) (x_c19 : Nat) (y_20 : Int) (y_21 : Int) (y_22 : Int) (y_23 : Int) (y_24 : Int) (y_25 : Int) (y_26 : Int) (y_27 : Int) (y_28 : Int) (y_29 : Int) (y_30 : Int) (y_31 : Int) (y_32 : Bool) (y_p33 : OA) (y_n34 : Nat) (y_c35 : Nat) (y_p36 : OA) (y_n37 : Nat) (y_c38 : Nat) (R : EW) (w : World) : Prop :=
 doAl (.cells #[.int .u8 x_1, .int .i64 x_2, .int .i64 x_3, .int .i64 x_4, .int .i64 x_5, .int .i64 x_6, .int .i64 x_7, .int .i64 x_8, .int .u8 x_9, .int .u8 x_10, .int .i64 x_11, .int .i64 x_12, .bool x_13, .slice x_p14 x_n15 x_c16, .slice x_p17 x_n18 x_c19] 30) w (fun b39 w40 =>
 doAl (.cells #[.int .u8 y_20, .int .i64 y_21, .int .i64 y_22, .int .i64 y_23, .int .i64 y_24, .int .i64 y_25, .int .i64 y_26, .int .i64 y_27, .int .u8 y_28, .int .u8 y_29, .int .i64 y_30, .int .i64 y_31, .bool y_32, .slice y_p33 y_n34 y_c35, .slice y_p36 y_n37 y_c38] 30) w40 (fun b41 w42 =>
 let K45 : Bool → World → Prop := fun x43 w44 => 
 ifB x43 (
 R (.returned (.bool false)) w44) (
 ∃ xp46 xn47 xc48, w44.cell? ((blk b39).add 13) = some (.slice xp46 xn47 xc48) ∧ (
 ∃ (I49 : List Value → World → Prop) (μ50 : List Value → World → Nat), I49 [.int .i64 0] w44 ∧ (∀ (x53 : Int), ∀ (_j51 : Nat → Value) (w52 : World), I49 [.int .i64 x53] w52 → (
 ifB (decide ((x53 : Int) < ((xn47 : Nat) : Int))) (
 doDr w52 (fun w55 =>
 ∃ (C54 : World → Prop), C54 w55 ∧ (
 ∃ xp56 xn57 xc58, (∀ w, C54 w → w.cell? ((blk b39).add 13) = some (.slice xp56 xn57 xc58)) ∧ (
 doIx xp56 xn57 2 (x53) (fun a59 =>
 ∃ x60, (∀ w, C54 w → w.cell? (a59.add 0) = some (.int .i64 x60)) ∧ (
 ∃ x61, (∀ w, C54 w → w.cell? (a59.add 1) = some (.int .i64 x61)) ∧ (
 ∃ xp62 xn63 xc64, (∀ w, C54 w → w.cell? ((blk b41).add 13) = some (.slice xp62 xn63 xc64)) ∧ (
 doIx xp62 xn63 2 (x53) (fun a65 =>
 ∃ x66, (∀ w, C54 w → w.cell? (a65.add 0) = some (.int .i64 x66)) ∧ (
 ∃ x67, (∀ w, C54 w → w.cell? (a65.add 1) = some (.int .i64 x67)) ∧ (
 ifB (!(((x60 : Int) == x66) && (((x61 : Int) == x67) && true))) (
 R (.returned (.bool false)) w55) (
 I49 [.int .i64 (IntKind.wrap .i64 (x53 + 1))] w55 ∧ μ50 [.int .i64 (IntKind.wrap .i64 (x53 + 1))] w55 < μ50 [.int .i64 x53] w52)))))))))))) (
 ∃ xp68 xn69 xc70, w52.cell? ((blk b39).add 14) = some (.slice xp68 xn69 xc70) ∧ (
 ∃ (I71 : List Value → World → Prop) (μ72 : List Value → World → Nat), I71 [.int .i64 0] w52 ∧ (∀ (x75 : Int), ∀ (_j73 : Nat → Value) (w74 : World), I71 [.int .i64 x75] w74 → (
 ifB (decide ((x75 : Int) < ((xn69 : Nat) : Int))) (
 doDr w74 (fun w77 =>
 ∃ (C76 : World → Prop), C76 w77 ∧ (
 ∃ xp78 xn79 xc80, (∀ w, C76 w → w.cell? ((blk b39).add 14) = some (.slice xp78 xn79 xc80)) ∧ (
 doIx xp78 xn79 1 (x75) (fun a81 =>
 ∃ x82, (∀ w, C76 w → w.cell? a81 = some (.int .i64 x82)) ∧ (
 ∃ xp83 xn84 xc85, (∀ w, C76 w → w.cell? ((blk b41).add 14) = some (.slice xp83 xn84 xc85)) ∧ (
 doIx xp83 xn84 1 (x75) (fun a86 =>
 ∃ x87, (∀ w, C76 w → w.cell? a86 = some (.int .i64 x87)) ∧ (
 ifB ((x82 : Int) != x87) (
 R (.returned (.bool false)) w77) (
 I71 [.int .i64 (IntKind.wrap .i64 (x75 + 1))] w77 ∧ μ72 [.int .i64 (IntKind.wrap .i64 (x75 + 1))] w77 < μ72 [.int .i64 x75] w74)))))))))) (
 let K90 : Bool → World → Prop := fun x88 w89 => 
 R (.returned (.bool x88)) w89
 ∃ x91, w74.cell? ((blk b39).add 0) = some (.int .u8 x91) ∧ (
 ∃ x92, w74.cell? ((blk b41).add 0) = some (.int .u8 x92) ∧ (
 ifB ((x91 : Int) == x92) (
 ∃ x93, w74.cell? ((blk b39).add 1) = some (.int .i64 x93) ∧ (
 ∃ x94, w74.cell? ((blk b41).add 1) = some (.int .i64 x94) ∧ (
 ifB ((x93 : Int) == x94) (
 ∃ x95, w74.cell? ((blk b39).add 2) = some (.int .i64 x95) ∧ (
 ∃ x96, w74.cell? ((blk b41).add 2) = some (.int .i64 x96) ∧ (
 ifB ((x95 : Int) == x96) (
 ∃ x97, w74.cell? ((blk b39).add 3) = some (.int .i64 x97) ∧ (
 ∃ x98, w74.cell? ((blk b41).add 3) = some (.int .i64 x98) ∧ (
 ifB ((x97 : Int) == x98) (
 ∃ x99, w74.cell? ((blk b39).add 4) = some (.int .i64 x99) ∧ (
 ∃ x100, w74.cell? ((blk b41).add 4) = some (.int .i64 x100) ∧ (
 ifB ((x99 : Int) == x100) (
 ∃ x101, w74.cell? ((blk b39).add 5) = some (.int .i64 x101) ∧ (
 ∃ x102, w74.cell? ((blk b41).add 5) = some (.int .i64 x102) ∧ (
 ifB ((x101 : Int) == x102) (
 ∃ x103, w74.cell? ((blk b39).add 6) = some (.int .i64 x103) ∧ (
 ∃ x104, w74.cell? ((blk b41).add 6) = some (.int .i64 x104) ∧ (
 ifB ((x103 : Int) == x104) (
 ∃ x105, w74.cell? ((blk b39).add 7) = some (.int .i64 x105) ∧ (
 ∃ x106, w74.cell? ((blk b41).add 7) = some (.int .i64 x106) ∧ (
 ifB ((x105 : Int) == x106) (
 ∃ x107, w74.cell? ((blk b39).add 8) = some (.int .u8 x107) ∧ (
 ∃ x108, w74.cell? ((blk b41).add 8) = some (.int .u8 x108) ∧ (
 ifB ((x107 : Int) == x108) (
 ∃ x109, w74.cell? (((blk b39).add 9).add 0) = some (.int .u8 x109) ∧ (
 ∃ x110, w74.cell? (((blk b39).add 9).add 1) = some (.int .i64 x110) ∧ (
 ∃ x111, w74.cell? (((blk b39).add 9).add 2) = some (.int .i64 x111) ∧ (
 ∃ x112, w74.cell? (((blk b39).add 9).add 3) = some (.bool x112) ∧ (
 ∃ x113, w74.cell? (((blk b41).add 9).add 0) = some (.int .u8 x113) ∧ (
 ∃ x114, w74.cell? (((blk b41).add 9).add 1) = some (.int .i64 x114) ∧ (
 ∃ x115, w74.cell? (((blk b41).add 9).add 2) = some (.int .i64 x115) ∧ (
 ∃ x116, w74.cell? (((blk b41).add 9).add 3) = some (.bool x116) ∧ (
 K90 (((x109 : Int) == x113) && (((x110 : Int) == x114) && (((x111 : Int) == x115) && ((x112 == x116) && true)))) w74))))))))) (
 R (.returned (.bool false)) w74)))) (
 R (.returned (.bool false)) w74)))) (
 R (.returned (.bool false)) w74)))) (
 R (.returned (.bool false)) w74)))) (
 R (.returned (.bool false)) w74)))) (
 R (.returned (.bool false)) w74)))) (
 R (.returned (.bool false)) w74)))) (
 R (.returned (.bool false)) w74)))) (
 R (.returned (.bool false)) w74))))))))))))
 ∃ xp117 xn118 xc119, w42.cell? ((blk b39).add 13) = some (.slice xp117 xn118 xc119) ∧ (
 ∃ xp120 xn121 xc122, w42.cell? ((blk b41).add 13) = some (.slice xp120 xn121 xc122) ∧ (
 ifB ((((xn118 : Nat) : Int) : Int) != ((xn121 : Nat) : Int)) (
 R (.returned (.bool false)) w42) (
 ∃ xp123 xn124 xc125, w42.cell? ((blk b39).add 14) = some (.slice xp123 xn124 xc125) ∧ (
 ∃ xp126 xn127 xc128, w42.cell? ((blk b41).add 14) = some (.slice xp126 xn127 xc128) ∧ (
 K45 ((((xn124 : Nat) : Int) : Int) != ((xn127 : Nat) : Int)) w42)))))))
theorem sh117_ok (x_1 : Int) (x_2 : Int) (x_3 : Int) (x_4 : Int) (x_5 : Int) (x_6 : Int) (x_7 : Int) (x_8 : Int) (x_9 : Int) (x_10 : Int) (x_11 : Int) (x_12 : Int) (x_13 : Bool) (x_p14 : OA) (x_n15 : Nat) (x_c16 : Nat) (x_p17 : OA) (x_n18 : Nat) (x_c19 : Nat) (y_20 : Int) (y_21 : Int) (y_22 : Int) (y_23 : Int) (y_24 : Int) (y_25 : Int) (y_26 : Int) (y_27 : Int) (y_28 : Int) (y_29 : Int) (y_30 : Int) (y_31 : Int) (y_32 : Bool) (y_p33 : OA) (y_n34 : Nat) (y_c35 : Nat) (y_p36 : OA) (y_n37 : Nat) (y_c38 : Nat) {R : EW} {w : World} : sh117 x_1 x_2 x_3 x_4 x_5 x_6 x_7 x_8 x_9 x_10 x_11 x_12 x_13 x_p14 x_n15 x_c16 x_p17 x_n18 x_c19 y_20 y_21 y_22 y_23 y_24 y_25 y_26 y_27 y_28 y_29 y_30 y_31 y_32 y_p33 y_n34 y_c35 y_p36 y_n37 y_c38 R w → Calls Tryz.prog 117 #[.agg #[.int .u8 x_1, .int .i64 x_2, .int .i64 x_3, .int .i64 x_4, .int .i64 x_5, .int .i64 x_6, .int .i64 x_7, .int .i64 x_8, .int .u8 x_9, .int .u8 x_10, .int .i64 x_11, .int .i64 x_12, .bool x_13, .slice x_p14 x_n15 x_c16, .slice x_p17 x_n18 x_c19], .agg #[.int .u8 y_20, .int .i64 y_21, .int .i64 y_22, .int .i64 y_23, .int .i64 y_24, .int .i64 y_25, .int .i64 y_26, .int .i64 y_27, .int .u8 y_28, .int .u8 y_29, .int .i64 y_30, .int .i64 y_31, .bool y_32, .slice y_p33 y_n34 y_c35, .slice y_p36 y_n37 y_c38]] w R :=
  Old.calls_of_eq (ann := fun i => if i = 2 then [(44, .int .i64 0)] else if i = 0 then [(26, .int .i64 0)] else []) (fn := Tryz.f117) (c := bodyOf Tryz.f117) (args := #[.agg #[.int .u8 x_1, .int .i64 x_2, .int .i64 x_3, .int .i64 x_4, .int .i64 x_5, .int .i64 x_6, .int .i64 x_7, .int .i64 x_8, .int .u8 x_9, .int .u8 x_10, .int .i64 x_11, .int .i64 x_12, .bool x_13, .slice x_p14 x_n15 x_c16, .slice x_p17 x_n18 x_c19], .agg #[.int .u8 y_20, .int .i64 y_21, .int .i64 y_22, .int .i64 y_23, .int .i64 y_24, .int .i64 y_25, .int .i64 y_26, .int .i64 y_27, .int .u8 y_28, .int .u8 y_29, .int .i64 y_30, .int .i64 y_31, .bool y_32, .slice y_p33 y_n34 y_c35, .slice y_p36 y_n37 y_c38]]) 400 follows_mixed Tryz.func117 (by kernel_rfl) (by kernel_rfl)
def sh118 (p_1 : Int) (R : EW) (w : World) : Prop :=
 let K4 : Bool → World → Prop := fun is_2 w3 => 
 R (.returned (.bool is_2)) w3
 doCall Tryz.prog (.func (.func 158) #[] #[]) #[] w (retS (fun v6 w7 => ∃ x5, v6 = (.map x5 : Value) ∧ (
 doLk Tryz.prog 171 (.map x5) (.int .u8 p_1) true w7 (fun v12 => (∃ xf8 xx9 xc10 x11, v12 = (.tuple #[.agg #[.func xf8 xx9 xc10], .bool x11] : Value) ∧ (
 doAl (.cells #[.nilFunc] 169) w7 (fun b13 w14 =>
 doSt ((blk b13).add 0) (.func xf8 xx9 xc10) w14 (fun w15 =>
 K4 x11 w15)))) ∨ (v12 = (.tuple #[.agg #[.nilFunc], .bool false] : Value) ∧ (
 doAl (.cells #[.nilFunc] 169) w7 (fun b16 w17 =>
 doSt ((blk b16).add 0) (.nilFunc) w17 (fun w18 =>
 R (.returned (.bool false)) w18))))))) (kN R))
theorem sh118_ok (p_1 : Int) {R : EW} {w : World} : sh118 p_1 R w → Calls Tryz.prog 118 #[.int .u8 p_1] w R :=
  ceq Tryz.func118 (by kernel_rfl) (by kernel_rfl)
def sh119 (p_1 : Int) (p_2 : Int) (p_3 : Int) (p_4 : Bool) (R : EW) (w : World) : Prop :=
 doAl (.cells #[.int .u8 p_1, .int .i64 p_2, .int .i64 p_3, .bool p_4] 27) w (fun b5 w6 =>
 let K10 : Addr → Bool → World → Prop := fun k_7 is_8 w9 => 
 let K13 : Bool → World → Prop := fun x11 w12 => 
 R (.returned (.bool x11)) w12
 ifB is_8 (
 ∃ xf14 xx15 xc16, w9.cell? (k_7.add 0) = some (.func xf14 xx15 xc16) ∧ (
 ∃ x17, w9.cell? ((blk b5).add 1) = some (.int .i64 x17) ∧ (
 ∃ x18, w9.cell? ((blk b5).add 2) = some (.int .i64 x18) ∧ (
 doCall Tryz.prog (.func xf14 xx15 xc16) #[.int .i64 x17, .int .i64 x18] w9 (retS (fun v20 w21 => ∃ x19, v20 = (.bool x19 : Value) ∧ (
 K13 x19 w21)) (kN R)))))) (
 R (.returned (.bool false)) w9)
 doDr w6 (fun w23 =>
 ∃ (C22 : World → Prop), C22 w23 ∧ (
 ∃ x24, (∀ w, C22 w → w.cell? ((blk b5).add 0) = some (.int .u8 x24)) ∧ (
 (doCall Tryz.prog (.func (.func 159) #[] #[]) #[] w23 (retS (fun v26 w27 => ∃ x25, v26 = (.map x25 : Value) ∧ (
 C22 w27 ∧ (
 (doLk Tryz.prog 178 (.map x25) (.int .u8 x24) true w27 (fun v35 => (∃ xf28 xx29 xc30 xf31 xx32 xc33 x34, v35 = (.tuple #[.agg #[.func xf28 xx29 xc30, .func xf31 xx32 xc33], .bool x34] : Value) ∧ (
 doAl (.cells #[.nilFunc, .nilFunc] 176) w27 (fun b36 w37 =>
 C22 w37 ∧ (
 doSt ((blk b36).add 0) (.func xf28 xx29 xc30) w37 (fun w38 =>
 doSt ((blk b36).add 1) (.func xf31 xx32 xc33) w38 (fun w39 =>
 K10 (blk b36) x34 w39)))))) ∨ (v35 = (.tuple #[.agg #[.nilFunc, .nilFunc], .bool false] : Value) ∧ (
 doAl (.cells #[.nilFunc, .nilFunc] 176) w27 (fun b40 w41 =>
 C22 w41 ∧ (
 doSt ((blk b40).add 0) (.nilFunc) w41 (fun w42 =>
 doSt ((blk b40).add 1) (.nilFunc) w42 (fun w43 =>
 R (.returned (.bool false)) w43)))))))) ∧ (doAl (.cells #[.nilFunc, .nilFunc] 176) w27 (fun b44 w45 =>
 C22 w45 ∧ (
 doLk Tryz.prog 178 (.map x25) (.int .u8 x24) true w45 (fun v53 => (∃ xf46 xx47 xc48 xf49 xx50 xc51 x52, v53 = (.tuple #[.agg #[.func xf46 xx47 xc48, .func xf49 xx50 xc51], .bool x52] : Value) ∧ (
 doSt ((blk b44).add 0) (.func xf46 xx47 xc48) w45 (fun w54 =>
 doSt ((blk b44).add 1) (.func xf49 xx50 xc51) w54 (fun w55 =>
 K10 (blk b44) x52 w55)))) ∨ (v53 = (.tuple #[.agg #[.nilFunc, .nilFunc], .bool false] : Value) ∧ (
 doSt ((blk b44).add 0) (.nilFunc) w45 (fun w56 =>
 doSt ((blk b44).add 1) (.nilFunc) w56 (fun w57 =>
 R (.returned (.bool false)) w57))))))))))) (kN R))) ∧ (doAl (.cells #[.nilFunc, .nilFunc] 176) w23 (fun b58 w59 =>
 C22 w59 ∧ (
 doCall Tryz.prog (.func (.func 159) #[] #[]) #[] w59 (retS (fun v61 w62 => ∃ x60, v61 = (.map x60 : Value) ∧ (
 C22 w62 ∧ (
 doLk Tryz.prog 178 (.map x60) (.int .u8 x24) true w62 (fun v70 => (∃ xf63 xx64 xc65 xf66 xx67 xc68 x69, v70 = (.tuple #[.agg #[.func xf63 xx64 xc65, .func xf66 xx67 xc68], .bool x69] : Value) ∧ (
 doSt ((blk b58).add 0) (.func xf63 xx64 xc65) w62 (fun w71 =>
 doSt ((blk b58).add 1) (.func xf66 xx67 xc68) w71 (fun w72 =>
 K10 (blk b58) x69 w72)))) ∨ (v70 = (.tuple #[.agg #[.nilFunc, .nilFunc], .bool false] : Value) ∧ (
 doSt ((blk b58).add 0) (.nilFunc) w62 (fun w73 =>
 doSt ((blk b58).add 1) (.nilFunc) w73 (fun w74 =>
 R (.returned (.bool false)) w74)))))))) (kN R)))))))))
theorem sh119_ok (p_1 : Int) (p_2 : Int) (p_3 : Int) (p_4 : Bool) {R : EW} {w : World} : sh119 p_1 p_2 p_3 p_4 R w → Calls Tryz.prog 119 #[.agg #[.int .u8 p_1, .int .i64 p_2, .int .i64 p_3, .bool p_4]] w R :=
  ceq Tryz.func119 (by kernel_rfl) (by kernel_rfl)
def sh120 (k_1 : Int) (R : EW) (w : World) : Prop :=
 R (.returned (.int .u64 (bXor .u64 (IntKind.wrap .u64 k_1) 9223372036854775808))) w
theorem sh120_ok (k_1 : Int) {R : EW} {w : World} : sh120 k_1 R w → Calls Tryz.prog 120 #[.int .i64 k_1] w R :=
  ceq Tryz.func120 (by kernel_rfl) (by kernel_rfl)
def sh122 (k_1 : Int) (R : EW) (w : World) : Prop :=
 doCall Tryz.prog (.func (.func 120) #[] #[]) #[.int .i64 k_1] w (retS (fun v3 w4 => ∃ x2, v3 = (.int .u64 x2 : Value) ∧ (
 R (.returned (.int .u64 (bXor .u64 (IntKind.max .u64) x2))) w4)) (kN R))
theorem sh122_ok (k_1 : Int) {R : EW} {w : World} : sh122 k_1 R w → Calls Tryz.prog 122 #[.int .i64 k_1] w R :=
  ceq Tryz.func122 (by kernel_rfl) (by kernel_rfl)
def sh124 (k_1 : Int) (R : EW) (w : World) : Prop :=
 (0 : Int) ≤ 1 ∧ (
 (0 : Int) ≤ 63 ∧ (
 R (.returned (.int .u64 (IntKind.wrap .u64 (bXor .i64 (IntKind.wrap .i64 (k_1 * 2 ^ (min (1 : Int).toNat (IntKind.bits .i64)))) (Int.fdiv k_1 (2 ^ (min (63 : Int).toNat (IntKind.bits .i64)))))))) w))
theorem sh124_ok (k_1 : Int) {R : EW} {w : World} : sh124 k_1 R w → Calls Tryz.prog 124 #[.int .i64 k_1] w R :=
  ceq Tryz.func124 (by kernel_rfl) (by kernel_rfl)
def sh125 (c_1 : Int) (R : EW) (w : World) : Prop :=
 (0 : Int) ≤ 1 ∧ (
 R (.returned (.int .i64 (bXor .i64 (IntKind.wrap .i64 (Int.fdiv c_1 (2 ^ (min (1 : Int).toNat (IntKind.bits .u64))))) (IntKind.wrap .i64 (0 - (IntKind.wrap .i64 (bAnd .u64 c_1 1))))))) w)
theorem sh125_ok (c_1 : Int) {R : EW} {w : World} : sh125 c_1 R w → Calls Tryz.prog 125 #[.int .u64 c_1] w R :=
  ceq Tryz.func125 (by kernel_rfl) (by kernel_rfl)
def sh126 (k_1 : Int) (R : EW) (w : World) : Prop :=
 doCall Tryz.prog (.func (.func 127) #[] #[]) #[.int .u64 (IntKind.wrap .u64 k_1)] w (retS (fun v3 w4 => ∃ x2, v3 = (.int .u64 x2 : Value) ∧ (
 R (.returned (.int .u64 x2)) w4)) (kN R))
theorem sh126_ok (k_1 : Int) {R : EW} {w : World} : sh126 k_1 R w → Calls Tryz.prog 126 #[.int .i64 k_1] w R :=
  ceq Tryz.func126 (by kernel_rfl) (by kernel_rfl)
def sh127 (x_1 : Int) (R : EW) (w : World) : Prop :=
 doCall Tryz.prog (.func (.func 160) #[] #[]) #[.int .u64 x_1] w (retS (fun v3 w4 => ∃ x2, v3 = (.int .u64 x2 : Value) ∧ (
 R (.returned (.int .u64 x2)) w4)) (kN R))
theorem sh127_ok (x_1 : Int) {R : EW} {w : World} : sh127 x_1 R w → Calls Tryz.prog 127 #[.int .u64 x_1] w R :=
  ceq Tryz.func127 (by kernel_rfl) (by kernel_rfl)
def sh129 (k_1 : Int) (R : EW) (w : World) : Prop :=
 doCall Tryz.prog (.func (.func 120) #[] #[]) #[.int .i64 k_1] w (retS (fun v3 w4 => ∃ x2, v3 = (.int .u64 x2 : Value) ∧ (
 doCall Tryz.prog (.func (.func 130) #[] #[]) #[.int .u64 x2, .int .i64 (-1)] w4 (retS (fun v6 w7 => ∃ x5, v6 = (.int .u64 x5 : Value) ∧ (
 R (.returned (.int .u64 x5)) w7)) (kN R)))) (kN R))
theorem sh129_ok (k_1 : Int) {R : EW} {w : World} : sh129 k_1 R w → Calls Tryz.prog 129 #[.int .i64 k_1] w R :=
  ceq Tryz.func129 (by kernel_rfl) (by kernel_rfl)
def sh130 (x_1 : Int) (n_2 : Int) (R : EW) (w : World) : Prop :=
 64 ≠ (0 : Int) ∧ (
 doCall Tryz.prog (.func (.func 161) #[] #[]) #[.int .u64 x_1, .int .i64 (Int.tmod n_2 64)] w (retS (fun v4 w5 => ∃ x3, v4 = (.int .u64 x3 : Value) ∧ (
 R (.returned (.int .u64 x3)) w5)) (kN R)))
theorem sh130_ok (x_1 : Int) (n_2 : Int) {R : EW} {w : World} : sh130 x_1 n_2 R w → Calls Tryz.prog 130 #[.int .u64 x_1, .int .i64 n_2] w R :=
  ceq Tryz.func130 (by kernel_rfl) (by kernel_rfl)
def sh132 (k_1 : Int) (R : EW) (w : World) : Prop :=
 doCall Tryz.prog (.func (.func 120) #[] #[]) #[.int .i64 k_1] w (retS (fun v3 w4 => ∃ x2, v3 = (.int .u64 x2 : Value) ∧ (
 doCall Tryz.prog (.func (.func 130) #[] #[]) #[.int .u64 x2, .int .i64 32] w4 (retS (fun v6 w7 => ∃ x5, v6 = (.int .u64 x5 : Value) ∧ (
 R (.returned (.int .u64 x5)) w7)) (kN R)))) (kN R))
theorem sh132_ok (k_1 : Int) {R : EW} {w : World} : sh132 k_1 R w → Calls Tryz.prog 132 #[.int .i64 k_1] w R :=
  ceq Tryz.func132 (by kernel_rfl) (by kernel_rfl)
def sh134 (k_1 : Int) (R : EW) (w : World) : Prop :=
 doCall Tryz.prog (.func (.func 135) #[] #[]) #[.int .u64 (IntKind.wrap .u64 k_1)] w (retS (fun v3 w4 => ∃ x2, v3 = (.int .u64 x2 : Value) ∧ (
 R (.returned (.int .u64 x2)) w4)) (kN R))
theorem sh134_ok (k_1 : Int) {R : EW} {w : World} : sh134 k_1 R w → Calls Tryz.prog 134 #[.int .i64 k_1] w R :=
  ceq Tryz.func134 (by kernel_rfl) (by kernel_rfl)
def sh135 (x_1 : Int) (R : EW) (w : World) : Prop :=
 doAl (.cells #[.int .u64 x_1] 65) w (fun b2 w3 =>
 doCall Tryz.prog (.func (.func 162) #[] #[]) #[.bool false] w3 (retS (fun v7 w8 => ∃ xf4 xx5 xc6, v7 = (.func xf4 xx5 xc6 : Value) ∧ (
 rfW Tryz.prog (.func xf4 xx5 xc6) (mkLoop #[.int .u64 x_1, .pointer (some (blk b2)), .int .u64 0, undef, .func xf4 xx5 xc6, undef, undef, undef, undef, undef, undef, undef, undef, undef, undef, undef] (rfOf Tryz.f135 0).1 (rfOf Tryz.f135 0).2.1 (rfOf Tryz.f135 0).2.2)
 (fun w9 =>
 ∃ x10, w9.cell? (blk b2) = some (.int .u64 x10) ∧ (
 w9.heap[w8.heap.size]? = some (.deferred (some [])) ∧ (
 let w11 : World := w9.putObj w8.heap.size (.deferred none)
 R (.returned (.int .u64 x10)) w11)))
 (fun w12 =>
 w12.heap[w8.heap.size]? = some (.deferred (some [])) ∧ (
 let w13 : World := w12.putObj w8.heap.size (.deferred none)
 R (.returned (.int .u64 0)) w13))
 [] w8)) (kN R)))
theorem sh135_ok (x_1 : Int) {R : EW} {w : World} : sh135 x_1 R w → Calls Tryz.prog 135 #[.int .u64 x_1] w R :=
  ceq Tryz.func135 (by kernel_rfl) (by kernel_rfl)
def sh135_0 (x_1 : Addr) (y17 : Int) (y18 : Int) (l : Nat) (R : EW) (w : World) : Prop :=
 doAl (.cells #[.int .i64 0, .int .u64 0] 184) w (fun b19 w20 =>
 doSt ((blk b19).add 0) (.int .i64 y17) w20 (fun w21 =>
 doSt ((blk b19).add 1) (.int .u64 y18) w21 (fun w22 =>
 ∃ r23, w22.heap[l]? = some (.loop r23) ∧ r23.state = .ready ∧ (
 let w24 : World := w22.putObj l (.loop { r23 with state := .busy })
 doDr w24 (fun w26 =>
 ∃ (C25 : World → Prop), C25 w26 ∧ (
 ∃ x27, (∀ w, C25 w → w.cell? x_1 = some (.int .u64 x27)) ∧ (
 ∃ x28, (∀ w, C25 w → w.cell? x_1 = some (.int .u64 x28)) ∧ (
 ∃ x29, (∀ w, C25 w → w.cell? ((blk b19).add 0) = some (.int .i64 x29)) ∧ (
 (0 : Int) ≤ x29 ∧ (
 ∃ x30, (∀ w, C25 w → w.cell? ((blk b19).add 1) = some (.int .u64 x30)) ∧ (
 doSt (x_1.add 0) (.int .u64 (IntKind.wrap .u64 ((bXor .u64 x27 (Int.fdiv x28 (2 ^ (min (x29 : Int).toNat (IntKind.bits .u64))))) * x30))) w26 (fun w31 =>
 ∃ r32, w31.heap[l]? = some (.loop r32) ∧ R (.returned (.bool true)) (w31.putObj l (.loop { r32 with state := .ready, pending := none }))))))))))))))
theorem sh135_0_ok {dd2 : Value} {dd3 : Value} {dd4 : Value} {dd5 : Value} {dd6 : Value} {dd7 : Value} {dd8 : Value} {dd9 : Value} {dd10 : Value} {dd11 : Value} {dd12 : Value} {dd13 : Value} {dd14 : Value} {dd15 : Value} {dd16 : Value} {x_1 : Addr} {y17 : Int} {y18 : Int} {l fn D : Nat} {R : EW} {w : World} (hl : w.heap[l]? = some (.loop (mkLoop #[dd2, .pointer (some x_1), dd3, dd4, dd5, dd6, dd7, dd8, dd9, dd10, dd11, dd12, dd13, dd14, dd15, dd16] (rfOf Tryz.f135 0).1 (rfOf Tryz.f135 0).2.1 (rfOf Tryz.f135 0).2.2 fn D))) : sh135_0 x_1 y17 y18 l R w → doCall Tryz.prog (.func (.yield l) #[] #[]) #[.agg #[.int .i64 y17, .int .u64 y18]] w R :=
  fun h => ⟨Old.round_of_eq (ann := fun _ => []) 400 follows_mixed hl (by kernel_rfl) (by kernel_rfl) h⟩
def sh140 (x_1 : Int) (R : EW) (w : World) : Prop :=
 R (.returned (.bool ((x_1 : Int) != x_1))) w
theorem sh140_ok (x_1 : Int) {R : EW} {w : World} : sh140 x_1 R w → Calls Tryz.prog 140 #[.int .u64 x_1] w R :=
  ceq Tryz.func140 (by kernel_rfl) (by kernel_rfl)
def sh141 (s_p1 : OA) (s_n2 : Nat) (s_c3 : Nat) (i_4 : Int) (v_p5 : OA) (v_n6 : Nat) (v_c7 : Nat) (R : EW) (w : World) : Prop :=
 doSl s_p1 s_c3 2 (i_4) (((s_n2 : Nat) : Int)) (fun _p8 _n9 _c10 =>
 ifB ((((v_n6 : Nat) : Int) : Int) == 0) (
 R (.returned (.slice s_p1 s_n2 s_c3)) w) (
 ifB ((i_4 : Int) == ((s_n2 : Nat) : Int)) (
 doGo Tryz.prog (.builtin .append #[22, 22] 22 #[false, false]) #[.slice s_p1 s_n2 s_c3, .slice v_p5 v_n6 v_c7] w (retS (fun v14 w15 => ∃ xp11 xn12 xc13, v14 = (.slice xp11 xn12 xc13 : Value) ∧ (
 R (.returned (.slice xp11 xn12 xc13)) w15)) (kN R))) (
 doGo Tryz.prog (.builtin .cap #[22] 3 #[false]) #[.slice s_p1 s_n2 s_c3] w (retS (fun v17 w18 => ∃ x16, v17 = (.int .i64 x16 : Value) ∧ (
 ifB (decide (((IntKind.wrap .i64 (((s_n2 : Nat) : Int) + ((v_n6 : Nat) : Int))) : Int) > x16)) (
 doSl s_p1 s_c3 2 (0) (i_4) (fun p19 n20 c21 =>
 doGo Tryz.prog (.builtin .append #[22, 3] 22 #[false, false]) #[.slice p19 n20 c21, .int .i64 (IntKind.wrap .i64 ((IntKind.wrap .i64 (((s_n2 : Nat) : Int) + ((v_n6 : Nat) : Int))) - i_4))] w18 (retS (fun v25 w26 => ∃ xp22 xn23 xc24, v25 = (.slice xp22 xn23 xc24 : Value) ∧ (
 doSl xp22 xc24 2 (i_4) (((xn23 : Nat) : Int)) (fun p27 n28 c29 =>
 doGo Tryz.prog (.builtin .copy #[22, 22] 3 #[false, false]) #[.slice p27 n28 c29, .slice v_p5 v_n6 v_c7] w26 (retS (fun v31 w32 => ∃ x30, v31 = (.int .i64 x30 : Value) ∧ (
 doDr w32 (fun w33 =>
 doSl xp22 xc24 2 (IntKind.wrap .i64 (i_4 + ((v_n6 : Nat) : Int))) (((xn23 : Nat) : Int)) (fun p34 n35 c36 =>
 doSl s_p1 s_c3 2 (i_4) (((s_n2 : Nat) : Int)) (fun p37 n38 c39 =>
 doGo Tryz.prog (.builtin .copy #[22, 22] 3 #[false, false]) #[.slice p34 n35 c36, .slice p37 n38 c39] w33 (retS (fun v41 w42 => ∃ x40, v41 = (.int .i64 x40 : Value) ∧ (
 R (.returned (.slice xp22 xn23 xc24)) w42)) (kN R))))))) (kN R))))) (kN R)))) (
 doSl s_p1 s_c3 2 (0) (IntKind.wrap .i64 (((s_n2 : Nat) : Int) + ((v_n6 : Nat) : Int))) (fun p43 n44 c45 =>
 doSl p43 c45 2 (IntKind.wrap .i64 (i_4 + ((v_n6 : Nat) : Int))) (((n44 : Nat) : Int)) (fun p46 n47 c48 =>
 doCall Tryz.prog (.func (.func 165) #[] #[]) #[.slice v_p5 v_n6 v_c7, .slice p46 n47 c48] w18 (retS (fun v50 w51 => ∃ x49, v50 = (.bool x49 : Value) ∧ (
 ifB (!x49) (
 doDr w51 (fun w52 =>
 doSl p43 c45 2 (IntKind.wrap .i64 (i_4 + ((v_n6 : Nat) : Int))) (((n44 : Nat) : Int)) (fun p53 n54 c55 =>
 doSl p43 c45 2 (i_4) (((n44 : Nat) : Int)) (fun p56 n57 c58 =>
 doGo Tryz.prog (.builtin .copy #[22, 22] 3 #[false, false]) #[.slice p53 n54 c55, .slice p56 n57 c58] w52 (retS (fun v60 w61 => ∃ x59, v60 = (.int .i64 x59 : Value) ∧ (
 doSl p43 c45 2 (i_4) (((n44 : Nat) : Int)) (fun p62 n63 c64 =>
 doGo Tryz.prog (.builtin .copy #[22, 22] 3 #[false, false]) #[.slice p62 n63 c64, .slice v_p5 v_n6 v_c7] w61 (retS (fun v66 w67 => ∃ x65, v66 = (.int .i64 x65 : Value) ∧ (
 R (.returned (.slice p43 n44 c45)) w67)) (kN R))))) (kN R)))))) (
 doSl p43 c45 2 (((s_n2 : Nat) : Int)) (((n44 : Nat) : Int)) (fun p68 n69 c70 =>
 doGo Tryz.prog (.builtin .copy #[22, 22] 3 #[false, false]) #[.slice p68 n69 c70, .slice v_p5 v_n6 v_c7] w51 (retS (fun v72 w73 => ∃ x71, v72 = (.int .i64 x71 : Value) ∧ (
 doSl p43 c45 2 (i_4) (((n44 : Nat) : Int)) (fun p74 n75 c76 =>
 doCall Tryz.prog (.func (.func 166) #[] #[]) #[.slice p74 n75 c76, .int .i64 ((v_n6 : Nat) : Int)] w73 (retS (fun v77 w78 => v77 = (.tuple #[] : Value) ∧ (
 R (.returned (.slice p43 n44 c45)) w78)) (kN R))))) (kN R)))))) (kN R))))))) (kN R)))))
theorem sh141_ok (s_p1 : OA) (s_n2 : Nat) (s_c3 : Nat) (i_4 : Int) (v_p5 : OA) (v_n6 : Nat) (v_c7 : Nat) {R : EW} {w : World} : sh141 s_p1 s_n2 s_c3 i_4 v_p5 v_n6 v_c7 R w → Calls Tryz.prog 141 #[.slice s_p1 s_n2 s_c3, .int .i64 i_4, .slice v_p5 v_n6 v_c7] w R :=
  ceq Tryz.func141 (by kernel_rfl) (by kernel_rfl)
end Go.Proofs.YtmdboekndjlmgaaGreat

