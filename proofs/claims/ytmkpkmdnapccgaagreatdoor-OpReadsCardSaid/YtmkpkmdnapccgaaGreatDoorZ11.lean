/-
  Printed by a program (gen.py): what the functions of the program do, as formulas; each with the proof that its call is what the formula says.
-/
import Derived.Test.YtmkpkmdnapccgaaGreatDoorZ04
import Derived.Test.YtmkpkmdnapccgaaGreatDoorProg
import Derived.Test.YtmkpkmdnapccgaaGreatDoorZ05

set_option maxRecDepth 100000
set_option maxHeartbeats 6400000
namespace Go.Proofs.YtmkpkmdnapccgaaGreatDoor
open Go Go.Sh
def sh8  (R : EW) (w : World) : Prop :=
 doAl (.cells #[.int .u8 0, .int .i64 0, .int .i64 0, .int .i64 0, .int .i64 0, .int .i64 0, .int .i64 0, .int .i64 0, .int .u8 0, .int .u8 0, .int .i64 0, .int .i64 0, .bool false, .slice none 0 0, .slice none 0 0] 37) w (fun b1 w2 =>
 doSt ((blk b1).add 0) (.int .u8 3) w2 (fun w3 =>
 doSt ((blk b1).add 1) (.int .i64 0) w3 (fun w4 =>
 doSt ((blk b1).add 2) (.int .i64 0) w4 (fun w5 =>
 doSt ((blk b1).add 3) (.int .i64 (-1)) w5 (fun w6 =>
 doSt ((blk b1).add 4) (.int .i64 0) w6 (fun w7 =>
 doSt ((blk b1).add 5) (.int .i64 0) w7 (fun w8 =>
 doSt ((blk b1).add 6) (.int .i64 0) w8 (fun w9 =>
 doSt ((blk b1).add 7) (.int .i64 0) w9 (fun w10 =>
 doSt ((blk b1).add 8) (.int .u8 0) w10 (fun w11 =>
 doSt ((blk b1).add 9) (.int .u8 0) w11 (fun w12 =>
 doSt ((blk b1).add 10) (.int .i64 0) w12 (fun w13 =>
 doSt ((blk b1).add 11) (.int .i64 0) w13 (fun w14 =>
 doSt ((blk b1).add 12) (.bool false) w14 (fun w15 =>
 doSt ((blk b1).add 13) (.slice none 0 0) w15 (fun w16 =>
 doSt ((blk b1).add 14) (.slice none 0 0) w16 (fun w17 =>
 doAl (.cells #[.int .i64 5, .int .i64 64] 49) w17 (fun b18 w19 =>
 doAl (.cells #[.int .u8 0, .int .i64 0, .int .i64 0, .int .i64 0, .int .i64 0, .int .i64 0, .int .i64 0, .int .i64 0, .int .u8 0, .int .u8 0, .int .i64 0, .int .i64 0, .bool false, .slice none 0 0, .slice none 0 0] 37) w19 (fun b20 w21 =>
 doSt ((blk b20).add 0) (.int .u8 8) w21 (fun w22 =>
 doSt ((blk b20).add 1) (.int .i64 0) w22 (fun w23 =>
 doSt ((blk b20).add 2) (.int .i64 0) w23 (fun w24 =>
 doSt ((blk b20).add 3) (.int .i64 0) w24 (fun w25 =>
 doSt ((blk b20).add 4) (.int .i64 0) w25 (fun w26 =>
 doSt ((blk b20).add 5) (.int .i64 0) w26 (fun w27 =>
 doSt ((blk b20).add 6) (.int .i64 0) w27 (fun w28 =>
 doSt ((blk b20).add 7) (.int .i64 0) w28 (fun w29 =>
 doSt ((blk b20).add 8) (.int .u8 3) w29 (fun w30 =>
 doSt ((blk b20).add 9) (.int .u8 0) w30 (fun w31 =>
 doSt ((blk b20).add 10) (.int .i64 0) w31 (fun w32 =>
 doSt ((blk b20).add 11) (.int .i64 0) w32 (fun w33 =>
 doSt ((blk b20).add 12) (.bool false) w33 (fun w34 =>
 doSt ((blk b20).add 13) (.slice (some (blk b18)) 1 1) w34 (fun w35 =>
 doSt ((blk b20).add 14) (.slice none 0 0) w35 (fun w36 =>
 ∃ x37, w36.cell? ((blk b1).add 0) = some (.int .u8 x37) ∧ (
 ∃ x38, w36.cell? ((blk b1).add 1) = some (.int .i64 x38) ∧ (
 ∃ x39, w36.cell? ((blk b1).add 2) = some (.int .i64 x39) ∧ (
 ∃ x40, w36.cell? ((blk b1).add 3) = some (.int .i64 x40) ∧ (
 ∃ x41, w36.cell? ((blk b1).add 4) = some (.int .i64 x41) ∧ (
 ∃ x42, w36.cell? ((blk b1).add 5) = some (.int .i64 x42) ∧ (
 ∃ x43, w36.cell? ((blk b1).add 6) = some (.int .i64 x43) ∧ (
 ∃ x44, w36.cell? ((blk b1).add 7) = some (.int .i64 x44) ∧ (
 ∃ x45, w36.cell? ((blk b1).add 8) = some (.int .u8 x45) ∧ (
 ∃ x46, w36.cell? ((blk b1).add 9) = some (.int .u8 x46) ∧ (
 ∃ x47, w36.cell? ((blk b1).add 10) = some (.int .i64 x47) ∧ (
 ∃ x48, w36.cell? ((blk b1).add 11) = some (.int .i64 x48) ∧ (
 ∃ x49, w36.cell? ((blk b1).add 12) = some (.bool x49) ∧ (
 ∃ xp50 xn51 xc52, w36.cell? ((blk b1).add 13) = some (.slice xp50 xn51 xc52) ∧ (
 ∃ xp53 xn54 xc55, w36.cell? ((blk b1).add 14) = some (.slice xp53 xn54 xc55) ∧ (
 ∃ x56, w36.cell? ((blk b20).add 0) = some (.int .u8 x56) ∧ (
 ∃ x57, w36.cell? ((blk b20).add 1) = some (.int .i64 x57) ∧ (
 ∃ x58, w36.cell? ((blk b20).add 2) = some (.int .i64 x58) ∧ (
 ∃ x59, w36.cell? ((blk b20).add 3) = some (.int .i64 x59) ∧ (
 ∃ x60, w36.cell? ((blk b20).add 4) = some (.int .i64 x60) ∧ (
 ∃ x61, w36.cell? ((blk b20).add 5) = some (.int .i64 x61) ∧ (
 ∃ x62, w36.cell? ((blk b20).add 6) = some (.int .i64 x62) ∧ (
 ∃ x63, w36.cell? ((blk b20).add 7) = some (.int .i64 x63) ∧ (
 ∃ x64, w36.cell? ((blk b20).add 8) = some (.int .u8 x64) ∧ (
 ∃ x65, w36.cell? ((blk b20).add 9) = some (.int .u8 x65) ∧ (
 ∃ x66, w36.cell? ((blk b20).add 10) = some (.int .i64 x66) ∧ (
 ∃ x67, w36.cell? ((blk b20).add 11) = some (.int .i64 x67) ∧ (
 ∃ x68, w36.cell? ((blk b20).add 12) = some (.bool x68) ∧ (
 ∃ xp69 xn70 xc71, w36.cell? ((blk b20).add 13) = some (.slice xp69 xn70 xc71) ∧ (
 ∃ xp72 xn73 xc74, w36.cell? ((blk b20).add 14) = some (.slice xp72 xn73 xc74) ∧ (
 doAl (.cells #[.int .u8 x37, .int .i64 x38, .int .i64 x39, .int .i64 x40, .int .i64 x41, .int .i64 x42, .int .i64 x43, .int .i64 x44, .int .u8 x45, .int .u8 x46, .int .i64 x47, .int .i64 x48, .bool x49, .slice xp50 xn51 xc52, .slice xp53 xn54 xc55, .int .u8 x56, .int .i64 x57, .int .i64 x58, .int .i64 x59, .int .i64 x60, .int .i64 x61, .int .i64 x62, .int .i64 x63, .int .u8 x64, .int .u8 x65, .int .i64 x66, .int .i64 x67, .bool x68, .slice xp69 xn70 xc71, .slice xp72 xn73 xc74] 37) w36 (fun b75 w76 =>
 doCall Tryz.prog (.func (.func 10) #[] #[]) #[.slice (some (blk b75)) 2 2] w76 (retS (fun v79 w80 => ∃ x77 x78, v79 = (.tuple #[.string x77, .int .i64 x78] : Value) ∧ (
 doCall Tryz.prog (.func (.func 14) #[] #[]) #[.agg #[.int .u8 13, .int .i64 2, .int .i64 0, .int .i64 0, .int .i64 0, .int .i64 0, .int .i64 0, .int .i64 0, .int .u8 0, .int .u8 4, .int .i64 3, .int .i64 1, .bool true, .slice none 0 0, .slice none 0 0]] w80 (retS (fun v83 w84 => ∃ x81 x82, v83 = (.tuple #[.string x81, .int .i64 x82] : Value) ∧ (
 ∃ x85, w84.cell? ((blk b20).add 0) = some (.int .u8 x85) ∧ (
 ∃ x86, w84.cell? ((blk b20).add 1) = some (.int .i64 x86) ∧ (
 ∃ x87, w84.cell? ((blk b20).add 2) = some (.int .i64 x87) ∧ (
 ∃ x88, w84.cell? ((blk b20).add 3) = some (.int .i64 x88) ∧ (
 ∃ x89, w84.cell? ((blk b20).add 4) = some (.int .i64 x89) ∧ (
 ∃ x90, w84.cell? ((blk b20).add 5) = some (.int .i64 x90) ∧ (
 ∃ x91, w84.cell? ((blk b20).add 6) = some (.int .i64 x91) ∧ (
 ∃ x92, w84.cell? ((blk b20).add 7) = some (.int .i64 x92) ∧ (
 ∃ x93, w84.cell? ((blk b20).add 8) = some (.int .u8 x93) ∧ (
 ∃ x94, w84.cell? ((blk b20).add 9) = some (.int .u8 x94) ∧ (
 ∃ x95, w84.cell? ((blk b20).add 10) = some (.int .i64 x95) ∧ (
 ∃ x96, w84.cell? ((blk b20).add 11) = some (.int .i64 x96) ∧ (
 ∃ x97, w84.cell? ((blk b20).add 12) = some (.bool x97) ∧ (
 ∃ xp98 xn99 xc100, w84.cell? ((blk b20).add 13) = some (.slice xp98 xn99 xc100) ∧ (
 ∃ xp101 xn102 xc103, w84.cell? ((blk b20).add 14) = some (.slice xp101 xn102 xc103) ∧ (
 doCall Tryz.prog (.func (.func 14) #[] #[]) #[.agg #[.int .u8 x85, .int .i64 x86, .int .i64 x87, .int .i64 x88, .int .i64 x89, .int .i64 x90, .int .i64 x91, .int .i64 x92, .int .u8 x93, .int .u8 x94, .int .i64 x95, .int .i64 x96, .bool x97, .slice xp98 xn99 xc100, .slice xp101 xn102 xc103]] w84 (retS (fun v106 w107 => ∃ x104 x105, v106 = (.tuple #[.string x104, .int .i64 x105] : Value) ∧ (
 doCall Tryz.prog (.func (.func 21) #[] #[]) #[.string (⟨#[103, 101, 116, 32, 48, 32, 45, 49]⟩ : ByteArray)] w107 (retS (fun v128 w129 => ∃ x108 x109 x110 x111 x112 x113 x114 x115 x116 x117 x118 x119 x120 xp121 xn122 xc123 xp124 xn125 xc126 x127, v128 = (.tuple #[.agg #[.int .u8 x108, .int .i64 x109, .int .i64 x110, .int .i64 x111, .int .i64 x112, .int .i64 x113, .int .i64 x114, .int .i64 x115, .int .u8 x116, .int .u8 x117, .int .i64 x118, .int .i64 x119, .bool x120, .slice xp121 xn122 xc123, .slice xp124 xn125 xc126], .int .i64 x127] : Value) ∧ (
 doAl (.cells #[.int .u8 0, .int .i64 0, .int .i64 0, .int .i64 0, .int .i64 0, .int .i64 0, .int .i64 0, .int .i64 0, .int .u8 0, .int .u8 0, .int .i64 0, .int .i64 0, .bool false, .slice none 0 0, .slice none 0 0] 37) w129 (fun b130 w131 =>
 doSt ((blk b130).add 0) (.int .u8 x108) w131 (fun w132 =>
 doSt ((blk b130).add 1) (.int .i64 x109) w132 (fun w133 =>
 doSt ((blk b130).add 2) (.int .i64 x110) w133 (fun w134 =>
 doSt ((blk b130).add 3) (.int .i64 x111) w134 (fun w135 =>
 doSt ((blk b130).add 4) (.int .i64 x112) w135 (fun w136 =>
 doSt ((blk b130).add 5) (.int .i64 x113) w136 (fun w137 =>
 doSt ((blk b130).add 6) (.int .i64 x114) w137 (fun w138 =>
 doSt ((blk b130).add 7) (.int .i64 x115) w138 (fun w139 =>
 doSt ((blk b130).add 8) (.int .u8 x116) w139 (fun w140 =>
 doSt ((blk b130).add 9) (.int .u8 x117) w140 (fun w141 =>
 doSt ((blk b130).add 10) (.int .i64 x118) w141 (fun w142 =>
 doSt ((blk b130).add 11) (.int .i64 x119) w142 (fun w143 =>
 doSt ((blk b130).add 12) (.bool x120) w143 (fun w144 =>
 doSt ((blk b130).add 13) (.slice xp121 xn122 xc123) w144 (fun w145 =>
 doSt ((blk b130).add 14) (.slice xp124 xn125 xc126) w145 (fun w146 =>
 doCall Tryz.prog (.func (.func 21) #[] #[]) #[.string (⟨#[103, 101, 116, 32, 48, 32, 45, 48, 49]⟩ : ByteArray)] w146 (retS (fun v167 w168 => ∃ x147 x148 x149 x150 x151 x152 x153 x154 x155 x156 x157 x158 x159 xp160 xn161 xc162 xp163 xn164 xc165 x166, v167 = (.tuple #[.agg #[.int .u8 x147, .int .i64 x148, .int .i64 x149, .int .i64 x150, .int .i64 x151, .int .i64 x152, .int .i64 x153, .int .i64 x154, .int .u8 x155, .int .u8 x156, .int .i64 x157, .int .i64 x158, .bool x159, .slice xp160 xn161 xc162, .slice xp163 xn164 xc165], .int .i64 x166] : Value) ∧ (
 doAl (.cells #[.int .u8 0, .int .i64 0, .int .i64 0, .int .i64 0, .int .i64 0, .int .i64 0, .int .i64 0, .int .i64 0, .int .u8 0, .int .u8 0, .int .i64 0, .int .i64 0, .bool false, .slice none 0 0, .slice none 0 0] 37) w168 (fun b169 w170 =>
 doSt ((blk b169).add 0) (.int .u8 x147) w170 (fun w171 =>
 doSt ((blk b169).add 1) (.int .i64 x148) w171 (fun w172 =>
 doSt ((blk b169).add 2) (.int .i64 x149) w172 (fun w173 =>
 doSt ((blk b169).add 3) (.int .i64 x150) w173 (fun w174 =>
 doSt ((blk b169).add 4) (.int .i64 x151) w174 (fun w175 =>
 doSt ((blk b169).add 5) (.int .i64 x152) w175 (fun w176 =>
 doSt ((blk b169).add 6) (.int .i64 x153) w176 (fun w177 =>
 doSt ((blk b169).add 7) (.int .i64 x154) w177 (fun w178 =>
 doSt ((blk b169).add 8) (.int .u8 x155) w178 (fun w179 =>
 doSt ((blk b169).add 9) (.int .u8 x156) w179 (fun w180 =>
 doSt ((blk b169).add 10) (.int .i64 x157) w180 (fun w181 =>
 doSt ((blk b169).add 11) (.int .i64 x158) w181 (fun w182 =>
 doSt ((blk b169).add 12) (.bool x159) w182 (fun w183 =>
 doSt ((blk b169).add 13) (.slice xp160 xn161 xc162) w183 (fun w184 =>
 doSt ((blk b169).add 14) (.slice xp163 xn164 xc165) w184 (fun w185 =>
 let K188 : Bool → World → Prop := fun x186 w187 => 
 R (.returned (.bool x186)) w187
 ifB (x77.toList == (⟨#[3, 0, 1, 8, 3, 2, 10, 128, 1]⟩ : ByteArray).toList) (
 ifB ((x78 : Int) == 0) (
 ifB (x81.toList == (⟨#[107, 101, 101, 112, 32, 50, 32, 110, 111, 116, 32, 109, 111, 100, 32, 51, 32, 49]⟩ : ByteArray).toList) (
 ifB ((x82 : Int) == 0) (
 ifB (x104.toList == (⟨#[98, 117, 105, 108, 100, 32, 115, 117, 109, 32, 53, 58, 54, 52]⟩ : ByteArray).toList) (
 ifB ((x105 : Int) == 0) (
 ∃ x189, w185.cell? ((blk b130).add 0) = some (.int .u8 x189) ∧ (
 ∃ x190, w185.cell? ((blk b130).add 1) = some (.int .i64 x190) ∧ (
 ∃ x191, w185.cell? ((blk b130).add 2) = some (.int .i64 x191) ∧ (
 ∃ x192, w185.cell? ((blk b130).add 3) = some (.int .i64 x192) ∧ (
 ∃ x193, w185.cell? ((blk b130).add 4) = some (.int .i64 x193) ∧ (
 ∃ x194, w185.cell? ((blk b130).add 5) = some (.int .i64 x194) ∧ (
 ∃ x195, w185.cell? ((blk b130).add 6) = some (.int .i64 x195) ∧ (
 ∃ x196, w185.cell? ((blk b130).add 7) = some (.int .i64 x196) ∧ (
 ∃ x197, w185.cell? ((blk b130).add 8) = some (.int .u8 x197) ∧ (
 ∃ x198, w185.cell? ((blk b130).add 9) = some (.int .u8 x198) ∧ (
 ∃ x199, w185.cell? ((blk b130).add 10) = some (.int .i64 x199) ∧ (
 ∃ x200, w185.cell? ((blk b130).add 11) = some (.int .i64 x200) ∧ (
 ∃ x201, w185.cell? ((blk b130).add 12) = some (.bool x201) ∧ (
 ∃ xp202 xn203 xc204, w185.cell? ((blk b130).add 13) = some (.slice xp202 xn203 xc204) ∧ (
 ∃ xp205 xn206 xc207, w185.cell? ((blk b130).add 14) = some (.slice xp205 xn206 xc207) ∧ (
 ∃ x208, w185.cell? ((blk b1).add 0) = some (.int .u8 x208) ∧ (
 ∃ x209, w185.cell? ((blk b1).add 1) = some (.int .i64 x209) ∧ (
 ∃ x210, w185.cell? ((blk b1).add 2) = some (.int .i64 x210) ∧ (
 ∃ x211, w185.cell? ((blk b1).add 3) = some (.int .i64 x211) ∧ (
 ∃ x212, w185.cell? ((blk b1).add 4) = some (.int .i64 x212) ∧ (
 ∃ x213, w185.cell? ((blk b1).add 5) = some (.int .i64 x213) ∧ (
 ∃ x214, w185.cell? ((blk b1).add 6) = some (.int .i64 x214) ∧ (
 ∃ x215, w185.cell? ((blk b1).add 7) = some (.int .i64 x215) ∧ (
 ∃ x216, w185.cell? ((blk b1).add 8) = some (.int .u8 x216) ∧ (
 ∃ x217, w185.cell? ((blk b1).add 9) = some (.int .u8 x217) ∧ (
 ∃ x218, w185.cell? ((blk b1).add 10) = some (.int .i64 x218) ∧ (
 ∃ x219, w185.cell? ((blk b1).add 11) = some (.int .i64 x219) ∧ (
 ∃ x220, w185.cell? ((blk b1).add 12) = some (.bool x220) ∧ (
 ∃ xp221 xn222 xc223, w185.cell? ((blk b1).add 13) = some (.slice xp221 xn222 xc223) ∧ (
 ∃ xp224 xn225 xc226, w185.cell? ((blk b1).add 14) = some (.slice xp224 xn225 xc226) ∧ (
 doCall Tryz.prog (.func (.func 17) #[] #[]) #[.agg #[.int .u8 x189, .int .i64 x190, .int .i64 x191, .int .i64 x192, .int .i64 x193, .int .i64 x194, .int .i64 x195, .int .i64 x196, .int .u8 x197, .int .u8 x198, .int .i64 x199, .int .i64 x200, .bool x201, .slice xp202 xn203 xc204, .slice xp205 xn206 xc207], .agg #[.int .u8 x208, .int .i64 x209, .int .i64 x210, .int .i64 x211, .int .i64 x212, .int .i64 x213, .int .i64 x214, .int .i64 x215, .int .u8 x216, .int .u8 x217, .int .i64 x218, .int .i64 x219, .bool x220, .slice xp221 xn222 xc223, .slice xp224 xn225 xc226]] w185 (retS (fun v228 w229 => ∃ x227, v228 = (.bool x227 : Value) ∧ (
 ifB x227 (
 ifB ((x127 : Int) == 0) (
 K188 ((x166 : Int) == 7) w229) (
 R (.returned (.bool false)) w229)) (
 R (.returned (.bool false)) w229))) (kN R))))))))))))))))))))))))))))))))) (
 R (.returned (.bool false)) w185)) (
 R (.returned (.bool false)) w185)) (
 R (.returned (.bool false)) w185)) (
 R (.returned (.bool false)) w185)) (
 R (.returned (.bool false)) w185)) (
 R (.returned (.bool false)) w185))))))))))))))))))) (kN R)))))))))))))))))))) (kN R)))) (kN R))))))))))))))))))) (kN R)))) (kN R))))))))))))))))))))))))))))))))))))))))))))))))))))))))))))))))))
theorem sh8_ok  {R : EW} {w : World} : sh8  R w → Calls Tryz.prog 8 #[] w R :=
  ceq Tryz.func8 (by kernel_rfl) (by kernel_rfl)
end Go.Proofs.YtmkpkmdnapccgaaGreatDoor

