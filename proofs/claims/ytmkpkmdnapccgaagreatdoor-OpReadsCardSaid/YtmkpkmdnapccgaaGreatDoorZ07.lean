/-
  Printed by a program (gen.py): what the functions of the program do, as formulas; each with the proof that its call is what the formula says.
-/
import Derived.Test.YtmkpkmdnapccgaaGreatDoorZ04
import Derived.Test.YtmkpkmdnapccgaaGreatDoorProg
import Derived.Test.YtmkpkmdnapccgaaGreatDoorZ05

set_option maxRecDepth 100000
set_option maxHeartbeats 6400000
namespace Go.Proofs.YtmkpkmdnapccgaaGreatDoor
open Go Go.Sh
def sh21 (s_1 : ByteArray) (R : EW) (w : World) : Prop :=
 doAl (.cells #[.int .u8 0, .int .i64 0, .int .i64 0, .int .i64 0, .int .i64 0, .int .i64 0, .int .i64 0, .int .i64 0, .int .u8 0, .int .u8 0, .int .i64 0, .int .i64 0, .bool false, .slice none 0 0, .slice none 0 0] 37) w (fun b2 w3 =>
 doAl (.cells #[.int .i64 0] 26) w3 (fun b4 w5 =>
 ifB (decide ((((s_1.size : Nat) : Int) : Int) > 262144)) (
 ∃ x6, w5.cell? ((blk b2).add 0) = some (.int .u8 x6) ∧ (
 ∃ x7, w5.cell? ((blk b2).add 1) = some (.int .i64 x7) ∧ (
 ∃ x8, w5.cell? ((blk b2).add 2) = some (.int .i64 x8) ∧ (
 ∃ x9, w5.cell? ((blk b2).add 3) = some (.int .i64 x9) ∧ (
 ∃ x10, w5.cell? ((blk b2).add 4) = some (.int .i64 x10) ∧ (
 ∃ x11, w5.cell? ((blk b2).add 5) = some (.int .i64 x11) ∧ (
 ∃ x12, w5.cell? ((blk b2).add 6) = some (.int .i64 x12) ∧ (
 ∃ x13, w5.cell? ((blk b2).add 7) = some (.int .i64 x13) ∧ (
 ∃ x14, w5.cell? ((blk b2).add 8) = some (.int .u8 x14) ∧ (
 ∃ x15, w5.cell? ((blk b2).add 9) = some (.int .u8 x15) ∧ (
 ∃ x16, w5.cell? ((blk b2).add 10) = some (.int .i64 x16) ∧ (
 ∃ x17, w5.cell? ((blk b2).add 11) = some (.int .i64 x17) ∧ (
 ∃ x18, w5.cell? ((blk b2).add 12) = some (.bool x18) ∧ (
 ∃ xp19 xn20 xc21, w5.cell? ((blk b2).add 13) = some (.slice xp19 xn20 xc21) ∧ (
 ∃ xp22 xn23 xc24, w5.cell? ((blk b2).add 14) = some (.slice xp22 xn23 xc24) ∧ (
 doSt ((blk b2).add 0) (.int .u8 x6) w5 (fun w25 =>
 doSt ((blk b2).add 1) (.int .i64 x7) w25 (fun w26 =>
 doSt ((blk b2).add 2) (.int .i64 x8) w26 (fun w27 =>
 doSt ((blk b2).add 3) (.int .i64 x9) w27 (fun w28 =>
 doSt ((blk b2).add 4) (.int .i64 x10) w28 (fun w29 =>
 doSt ((blk b2).add 5) (.int .i64 x11) w29 (fun w30 =>
 doSt ((blk b2).add 6) (.int .i64 x12) w30 (fun w31 =>
 doSt ((blk b2).add 7) (.int .i64 x13) w31 (fun w32 =>
 doSt ((blk b2).add 8) (.int .u8 x14) w32 (fun w33 =>
 doSt ((blk b2).add 9) (.int .u8 x15) w33 (fun w34 =>
 doSt ((blk b2).add 10) (.int .i64 x16) w34 (fun w35 =>
 doSt ((blk b2).add 11) (.int .i64 x17) w35 (fun w36 =>
 doSt ((blk b2).add 12) (.bool x18) w36 (fun w37 =>
 doSt ((blk b2).add 13) (.slice xp19 xn20 xc21) w37 (fun w38 =>
 doSt ((blk b2).add 14) (.slice xp22 xn23 xc24) w38 (fun w39 =>
 doSt ((blk b4).add 0) (.int .i64 5) w39 (fun w40 =>
 doEnd (.returning) (
 ∃ x42, w40.cell? ((blk b2).add 0) = some (.int .u8 x42) ∧ (
 ∃ x43, w40.cell? ((blk b2).add 1) = some (.int .i64 x43) ∧ (
 ∃ x44, w40.cell? ((blk b2).add 2) = some (.int .i64 x44) ∧ (
 ∃ x45, w40.cell? ((blk b2).add 3) = some (.int .i64 x45) ∧ (
 ∃ x46, w40.cell? ((blk b2).add 4) = some (.int .i64 x46) ∧ (
 ∃ x47, w40.cell? ((blk b2).add 5) = some (.int .i64 x47) ∧ (
 ∃ x48, w40.cell? ((blk b2).add 6) = some (.int .i64 x48) ∧ (
 ∃ x49, w40.cell? ((blk b2).add 7) = some (.int .i64 x49) ∧ (
 ∃ x50, w40.cell? ((blk b2).add 8) = some (.int .u8 x50) ∧ (
 ∃ x51, w40.cell? ((blk b2).add 9) = some (.int .u8 x51) ∧ (
 ∃ x52, w40.cell? ((blk b2).add 10) = some (.int .i64 x52) ∧ (
 ∃ x53, w40.cell? ((blk b2).add 11) = some (.int .i64 x53) ∧ (
 ∃ x54, w40.cell? ((blk b2).add 12) = some (.bool x54) ∧ (
 ∃ xp55 xn56 xc57, w40.cell? ((blk b2).add 13) = some (.slice xp55 xn56 xc57) ∧ (
 ∃ xp58 xn59 xc60, w40.cell? ((blk b2).add 14) = some (.slice xp58 xn59 xc60) ∧ (
 ∃ x61, w40.cell? (blk b4) = some (.int .i64 x61) ∧ (
 R (.returned (.tuple #[.agg #[.int .u8 x42, .int .i64 x43, .int .i64 x44, .int .i64 x45, .int .i64 x46, .int .i64 x47, .int .i64 x48, .int .i64 x49, .int .u8 x50, .int .u8 x51, .int .i64 x52, .int .i64 x53, .bool x54, .slice xp55 xn56 xc57, .slice xp58 xn59 xc60], .int .i64 x61])) w40))))))))))))))))) (fun ch41 => R (.panicked ch41) w40))))))))))))))))))))))))))))))))) (
 doCall Tryz.prog (.func (.func 45) #[] #[]) #[.string s_1, .string (⟨#[32]⟩ : ByteArray)] w5 (retS (fun v65 w66 => ∃ xp62 xn63 xc64, v65 = (.slice xp62 xn63 xc64 : Value) ∧ (
 doAl (.cells #[.slice xp62 xn63 xc64] 87) w66 (fun b67 w68 =>
 doCall Tryz.prog (.func (.func 23) #[] #[]) #[.pointer (some (blk b2)), .iface 85 (.pointer (some (blk b67)))] w68 (retS (fun v69 w70 => v69 = (.tuple #[] : Value) ∧ (
 let K72 : World → Prop := fun w71 => 
 ∃ x73, w71.cell? ((blk b2).add 0) = some (.int .u8 x73) ∧ (
 ∃ x74, w71.cell? ((blk b2).add 1) = some (.int .i64 x74) ∧ (
 ∃ x75, w71.cell? ((blk b2).add 2) = some (.int .i64 x75) ∧ (
 ∃ x76, w71.cell? ((blk b2).add 3) = some (.int .i64 x76) ∧ (
 ∃ x77, w71.cell? ((blk b2).add 4) = some (.int .i64 x77) ∧ (
 ∃ x78, w71.cell? ((blk b2).add 5) = some (.int .i64 x78) ∧ (
 ∃ x79, w71.cell? ((blk b2).add 6) = some (.int .i64 x79) ∧ (
 ∃ x80, w71.cell? ((blk b2).add 7) = some (.int .i64 x80) ∧ (
 ∃ x81, w71.cell? ((blk b2).add 8) = some (.int .u8 x81) ∧ (
 ∃ x82, w71.cell? ((blk b2).add 9) = some (.int .u8 x82) ∧ (
 ∃ x83, w71.cell? ((blk b2).add 10) = some (.int .i64 x83) ∧ (
 ∃ x84, w71.cell? ((blk b2).add 11) = some (.int .i64 x84) ∧ (
 ∃ x85, w71.cell? ((blk b2).add 12) = some (.bool x85) ∧ (
 ∃ xp86 xn87 xc88, w71.cell? ((blk b2).add 13) = some (.slice xp86 xn87 xc88) ∧ (
 ∃ xp89 xn90 xc91, w71.cell? ((blk b2).add 14) = some (.slice xp89 xn90 xc91) ∧ (
 doSt ((blk b2).add 0) (.int .u8 x73) w71 (fun w92 =>
 doSt ((blk b2).add 1) (.int .i64 x74) w92 (fun w93 =>
 doSt ((blk b2).add 2) (.int .i64 x75) w93 (fun w94 =>
 doSt ((blk b2).add 3) (.int .i64 x76) w94 (fun w95 =>
 doSt ((blk b2).add 4) (.int .i64 x77) w95 (fun w96 =>
 doSt ((blk b2).add 5) (.int .i64 x78) w96 (fun w97 =>
 doSt ((blk b2).add 6) (.int .i64 x79) w97 (fun w98 =>
 doSt ((blk b2).add 7) (.int .i64 x80) w98 (fun w99 =>
 doSt ((blk b2).add 8) (.int .u8 x81) w99 (fun w100 =>
 doSt ((blk b2).add 9) (.int .u8 x82) w100 (fun w101 =>
 doSt ((blk b2).add 10) (.int .i64 x83) w101 (fun w102 =>
 doSt ((blk b2).add 11) (.int .i64 x84) w102 (fun w103 =>
 doSt ((blk b2).add 12) (.bool x85) w103 (fun w104 =>
 doSt ((blk b2).add 13) (.slice xp86 xn87 xc88) w104 (fun w105 =>
 doSt ((blk b2).add 14) (.slice xp89 xn90 xc91) w105 (fun w106 =>
 doSt ((blk b4).add 0) (.int .i64 0) w106 (fun w107 =>
 doDf Tryz.prog (.fn (.func 44) #[.pointer (some (blk b2)), .pointer (some (blk b4))]) #[] (.returning) w107 (fun u109 w108 =>
 doEnd (u109) (
 ∃ x111, w108.cell? ((blk b2).add 0) = some (.int .u8 x111) ∧ (
 ∃ x112, w108.cell? ((blk b2).add 1) = some (.int .i64 x112) ∧ (
 ∃ x113, w108.cell? ((blk b2).add 2) = some (.int .i64 x113) ∧ (
 ∃ x114, w108.cell? ((blk b2).add 3) = some (.int .i64 x114) ∧ (
 ∃ x115, w108.cell? ((blk b2).add 4) = some (.int .i64 x115) ∧ (
 ∃ x116, w108.cell? ((blk b2).add 5) = some (.int .i64 x116) ∧ (
 ∃ x117, w108.cell? ((blk b2).add 6) = some (.int .i64 x117) ∧ (
 ∃ x118, w108.cell? ((blk b2).add 7) = some (.int .i64 x118) ∧ (
 ∃ x119, w108.cell? ((blk b2).add 8) = some (.int .u8 x119) ∧ (
 ∃ x120, w108.cell? ((blk b2).add 9) = some (.int .u8 x120) ∧ (
 ∃ x121, w108.cell? ((blk b2).add 10) = some (.int .i64 x121) ∧ (
 ∃ x122, w108.cell? ((blk b2).add 11) = some (.int .i64 x122) ∧ (
 ∃ x123, w108.cell? ((blk b2).add 12) = some (.bool x123) ∧ (
 ∃ xp124 xn125 xc126, w108.cell? ((blk b2).add 13) = some (.slice xp124 xn125 xc126) ∧ (
 ∃ xp127 xn128 xc129, w108.cell? ((blk b2).add 14) = some (.slice xp127 xn128 xc129) ∧ (
 ∃ x130, w108.cell? (blk b4) = some (.int .i64 x130) ∧ (
 R (.returned (.tuple #[.agg #[.int .u8 x111, .int .i64 x112, .int .i64 x113, .int .i64 x114, .int .i64 x115, .int .i64 x116, .int .i64 x117, .int .i64 x118, .int .u8 x119, .int .u8 x120, .int .i64 x121, .int .i64 x122, .bool x123, .slice xp124 xn125 xc126, .slice xp127 xn128 xc129], .int .i64 x130])) w108))))))))))))))))) (fun ch110 => R (.panicked ch110) w108)))))))))))))))))))))))))))))))))
 ∃ q131, (some (blk b67)) = some q131 ∧ (
 ∃ xp132 xn133 xc134, w70.cell? (q131.add 0) = some (.slice xp132 xn133 xc134) ∧ (
 ifB ((((xn133 : Nat) : Int) : Int) == 0) (
 ∃ x135, w70.cell? ((blk b2).add 0) = some (.int .u8 x135) ∧ (
 ∃ x136, w70.cell? ((blk b2).add 1) = some (.int .i64 x136) ∧ (
 ∃ x137, w70.cell? ((blk b2).add 2) = some (.int .i64 x137) ∧ (
 ∃ x138, w70.cell? ((blk b2).add 3) = some (.int .i64 x138) ∧ (
 ∃ x139, w70.cell? ((blk b2).add 4) = some (.int .i64 x139) ∧ (
 ∃ x140, w70.cell? ((blk b2).add 5) = some (.int .i64 x140) ∧ (
 ∃ x141, w70.cell? ((blk b2).add 6) = some (.int .i64 x141) ∧ (
 ∃ x142, w70.cell? ((blk b2).add 7) = some (.int .i64 x142) ∧ (
 ∃ x143, w70.cell? ((blk b2).add 8) = some (.int .u8 x143) ∧ (
 ∃ x144, w70.cell? ((blk b2).add 9) = some (.int .u8 x144) ∧ (
 ∃ x145, w70.cell? ((blk b2).add 10) = some (.int .i64 x145) ∧ (
 ∃ x146, w70.cell? ((blk b2).add 11) = some (.int .i64 x146) ∧ (
 ∃ x147, w70.cell? ((blk b2).add 12) = some (.bool x147) ∧ (
 ∃ xp148 xn149 xc150, w70.cell? ((blk b2).add 13) = some (.slice xp148 xn149 xc150) ∧ (
 ∃ xp151 xn152 xc153, w70.cell? ((blk b2).add 14) = some (.slice xp151 xn152 xc153) ∧ (
 doCall Tryz.prog (.func (.func 13) #[] #[]) #[.agg #[.int .u8 x135, .int .i64 x136, .int .i64 x137, .int .i64 x138, .int .i64 x139, .int .i64 x140, .int .i64 x141, .int .i64 x142, .int .u8 x143, .int .u8 x144, .int .i64 x145, .int .i64 x146, .bool x147, .slice xp148 xn149 xc150, .slice xp151 xn152 xc153]] w70 (retS (fun v155 w156 => ∃ x154, v155 = (.int .i64 x154 : Value) ∧ (
 doCall Tryz.prog (.func (.func 42) #[] #[]) #[.bool ((x154 : Int) == 0)] w156 (retS (fun v157 w158 => v157 = (.tuple #[] : Value) ∧ (
 K72 w158)) (fun (ch159 : List PanicEntry) (w160 : World) =>
 doDf Tryz.prog (.fn (.func 44) #[.pointer (some (blk b2)), .pointer (some (blk b4))]) #[] (.panicking ch159) w160 (fun u162 w161 =>
 doEnd (u162) (
 ∃ x164, w161.cell? ((blk b2).add 0) = some (.int .u8 x164) ∧ (
 ∃ x165, w161.cell? ((blk b2).add 1) = some (.int .i64 x165) ∧ (
 ∃ x166, w161.cell? ((blk b2).add 2) = some (.int .i64 x166) ∧ (
 ∃ x167, w161.cell? ((blk b2).add 3) = some (.int .i64 x167) ∧ (
 ∃ x168, w161.cell? ((blk b2).add 4) = some (.int .i64 x168) ∧ (
 ∃ x169, w161.cell? ((blk b2).add 5) = some (.int .i64 x169) ∧ (
 ∃ x170, w161.cell? ((blk b2).add 6) = some (.int .i64 x170) ∧ (
 ∃ x171, w161.cell? ((blk b2).add 7) = some (.int .i64 x171) ∧ (
 ∃ x172, w161.cell? ((blk b2).add 8) = some (.int .u8 x172) ∧ (
 ∃ x173, w161.cell? ((blk b2).add 9) = some (.int .u8 x173) ∧ (
 ∃ x174, w161.cell? ((blk b2).add 10) = some (.int .i64 x174) ∧ (
 ∃ x175, w161.cell? ((blk b2).add 11) = some (.int .i64 x175) ∧ (
 ∃ x176, w161.cell? ((blk b2).add 12) = some (.bool x176) ∧ (
 ∃ xp177 xn178 xc179, w161.cell? ((blk b2).add 13) = some (.slice xp177 xn178 xc179) ∧ (
 ∃ xp180 xn181 xc182, w161.cell? ((blk b2).add 14) = some (.slice xp180 xn181 xc182) ∧ (
 ∃ x183, w161.cell? (blk b4) = some (.int .i64 x183) ∧ (
 R (.returned (.tuple #[.agg #[.int .u8 x164, .int .i64 x165, .int .i64 x166, .int .i64 x167, .int .i64 x168, .int .i64 x169, .int .i64 x170, .int .i64 x171, .int .u8 x172, .int .u8 x173, .int .i64 x174, .int .i64 x175, .bool x176, .slice xp177 xn178 xc179, .slice xp180 xn181 xc182], .int .i64 x183])) w161))))))))))))))))) (fun ch163 => R (.panicked ch163) w161)))))) (fun (ch184 : List PanicEntry) (w185 : World) =>
 doDf Tryz.prog (.fn (.func 44) #[.pointer (some (blk b2)), .pointer (some (blk b4))]) #[] (.panicking ch184) w185 (fun u187 w186 =>
 doEnd (u187) (
 ∃ x189, w186.cell? ((blk b2).add 0) = some (.int .u8 x189) ∧ (
 ∃ x190, w186.cell? ((blk b2).add 1) = some (.int .i64 x190) ∧ (
 ∃ x191, w186.cell? ((blk b2).add 2) = some (.int .i64 x191) ∧ (
 ∃ x192, w186.cell? ((blk b2).add 3) = some (.int .i64 x192) ∧ (
 ∃ x193, w186.cell? ((blk b2).add 4) = some (.int .i64 x193) ∧ (
 ∃ x194, w186.cell? ((blk b2).add 5) = some (.int .i64 x194) ∧ (
 ∃ x195, w186.cell? ((blk b2).add 6) = some (.int .i64 x195) ∧ (
 ∃ x196, w186.cell? ((blk b2).add 7) = some (.int .i64 x196) ∧ (
 ∃ x197, w186.cell? ((blk b2).add 8) = some (.int .u8 x197) ∧ (
 ∃ x198, w186.cell? ((blk b2).add 9) = some (.int .u8 x198) ∧ (
 ∃ x199, w186.cell? ((blk b2).add 10) = some (.int .i64 x199) ∧ (
 ∃ x200, w186.cell? ((blk b2).add 11) = some (.int .i64 x200) ∧ (
 ∃ x201, w186.cell? ((blk b2).add 12) = some (.bool x201) ∧ (
 ∃ xp202 xn203 xc204, w186.cell? ((blk b2).add 13) = some (.slice xp202 xn203 xc204) ∧ (
 ∃ xp205 xn206 xc207, w186.cell? ((blk b2).add 14) = some (.slice xp205 xn206 xc207) ∧ (
 ∃ x208, w186.cell? (blk b4) = some (.int .i64 x208) ∧ (
 R (.returned (.tuple #[.agg #[.int .u8 x189, .int .i64 x190, .int .i64 x191, .int .i64 x192, .int .i64 x193, .int .i64 x194, .int .i64 x195, .int .i64 x196, .int .u8 x197, .int .u8 x198, .int .i64 x199, .int .i64 x200, .bool x201, .slice xp202 xn203 xc204, .slice xp205 xn206 xc207], .int .i64 x208])) w186))))))))))))))))) (fun ch188 => R (.panicked ch188) w186)))))))))))))))))))) (
 doCall Tryz.prog (.func (.func 42) #[] #[]) #[.bool false] w70 (retS (fun v209 w210 => v209 = (.tuple #[] : Value) ∧ (
 K72 w210)) (fun (ch211 : List PanicEntry) (w212 : World) =>
 doDf Tryz.prog (.fn (.func 44) #[.pointer (some (blk b2)), .pointer (some (blk b4))]) #[] (.panicking ch211) w212 (fun u214 w213 =>
 doEnd (u214) (
 ∃ x216, w213.cell? ((blk b2).add 0) = some (.int .u8 x216) ∧ (
 ∃ x217, w213.cell? ((blk b2).add 1) = some (.int .i64 x217) ∧ (
 ∃ x218, w213.cell? ((blk b2).add 2) = some (.int .i64 x218) ∧ (
 ∃ x219, w213.cell? ((blk b2).add 3) = some (.int .i64 x219) ∧ (
 ∃ x220, w213.cell? ((blk b2).add 4) = some (.int .i64 x220) ∧ (
 ∃ x221, w213.cell? ((blk b2).add 5) = some (.int .i64 x221) ∧ (
 ∃ x222, w213.cell? ((blk b2).add 6) = some (.int .i64 x222) ∧ (
 ∃ x223, w213.cell? ((blk b2).add 7) = some (.int .i64 x223) ∧ (
 ∃ x224, w213.cell? ((blk b2).add 8) = some (.int .u8 x224) ∧ (
 ∃ x225, w213.cell? ((blk b2).add 9) = some (.int .u8 x225) ∧ (
 ∃ x226, w213.cell? ((blk b2).add 10) = some (.int .i64 x226) ∧ (
 ∃ x227, w213.cell? ((blk b2).add 11) = some (.int .i64 x227) ∧ (
 ∃ x228, w213.cell? ((blk b2).add 12) = some (.bool x228) ∧ (
 ∃ xp229 xn230 xc231, w213.cell? ((blk b2).add 13) = some (.slice xp229 xn230 xc231) ∧ (
 ∃ xp232 xn233 xc234, w213.cell? ((blk b2).add 14) = some (.slice xp232 xn233 xc234) ∧ (
 ∃ x235, w213.cell? (blk b4) = some (.int .i64 x235) ∧ (
 R (.returned (.tuple #[.agg #[.int .u8 x216, .int .i64 x217, .int .i64 x218, .int .i64 x219, .int .i64 x220, .int .i64 x221, .int .i64 x222, .int .i64 x223, .int .u8 x224, .int .u8 x225, .int .i64 x226, .int .i64 x227, .bool x228, .slice xp229 xn230 xc231, .slice xp232 xn233 xc234], .int .i64 x235])) w213))))))))))))))))) (fun ch215 => R (.panicked ch215) w213))))))))) (fun (ch236 : List PanicEntry) (w237 : World) =>
 doDf Tryz.prog (.fn (.func 44) #[.pointer (some (blk b2)), .pointer (some (blk b4))]) #[] (.panicking ch236) w237 (fun u239 w238 =>
 doEnd (u239) (
 ∃ x241, w238.cell? ((blk b2).add 0) = some (.int .u8 x241) ∧ (
 ∃ x242, w238.cell? ((blk b2).add 1) = some (.int .i64 x242) ∧ (
 ∃ x243, w238.cell? ((blk b2).add 2) = some (.int .i64 x243) ∧ (
 ∃ x244, w238.cell? ((blk b2).add 3) = some (.int .i64 x244) ∧ (
 ∃ x245, w238.cell? ((blk b2).add 4) = some (.int .i64 x245) ∧ (
 ∃ x246, w238.cell? ((blk b2).add 5) = some (.int .i64 x246) ∧ (
 ∃ x247, w238.cell? ((blk b2).add 6) = some (.int .i64 x247) ∧ (
 ∃ x248, w238.cell? ((blk b2).add 7) = some (.int .i64 x248) ∧ (
 ∃ x249, w238.cell? ((blk b2).add 8) = some (.int .u8 x249) ∧ (
 ∃ x250, w238.cell? ((blk b2).add 9) = some (.int .u8 x250) ∧ (
 ∃ x251, w238.cell? ((blk b2).add 10) = some (.int .i64 x251) ∧ (
 ∃ x252, w238.cell? ((blk b2).add 11) = some (.int .i64 x252) ∧ (
 ∃ x253, w238.cell? ((blk b2).add 12) = some (.bool x253) ∧ (
 ∃ xp254 xn255 xc256, w238.cell? ((blk b2).add 13) = some (.slice xp254 xn255 xc256) ∧ (
 ∃ xp257 xn258 xc259, w238.cell? ((blk b2).add 14) = some (.slice xp257 xn258 xc259) ∧ (
 ∃ x260, w238.cell? (blk b4) = some (.int .i64 x260) ∧ (
 R (.returned (.tuple #[.agg #[.int .u8 x241, .int .i64 x242, .int .i64 x243, .int .i64 x244, .int .i64 x245, .int .i64 x246, .int .i64 x247, .int .i64 x248, .int .u8 x249, .int .u8 x250, .int .i64 x251, .int .i64 x252, .bool x253, .slice xp254 xn255 xc256, .slice xp257 xn258 xc259], .int .i64 x260])) w238))))))))))))))))) (fun ch240 => R (.panicked ch240) w238))))))) (fun (ch261 : List PanicEntry) (w262 : World) =>
 doDf Tryz.prog (.fn (.func 44) #[.pointer (some (blk b2)), .pointer (some (blk b4))]) #[] (.panicking ch261) w262 (fun u264 w263 =>
 doEnd (u264) (
 ∃ x266, w263.cell? ((blk b2).add 0) = some (.int .u8 x266) ∧ (
 ∃ x267, w263.cell? ((blk b2).add 1) = some (.int .i64 x267) ∧ (
 ∃ x268, w263.cell? ((blk b2).add 2) = some (.int .i64 x268) ∧ (
 ∃ x269, w263.cell? ((blk b2).add 3) = some (.int .i64 x269) ∧ (
 ∃ x270, w263.cell? ((blk b2).add 4) = some (.int .i64 x270) ∧ (
 ∃ x271, w263.cell? ((blk b2).add 5) = some (.int .i64 x271) ∧ (
 ∃ x272, w263.cell? ((blk b2).add 6) = some (.int .i64 x272) ∧ (
 ∃ x273, w263.cell? ((blk b2).add 7) = some (.int .i64 x273) ∧ (
 ∃ x274, w263.cell? ((blk b2).add 8) = some (.int .u8 x274) ∧ (
 ∃ x275, w263.cell? ((blk b2).add 9) = some (.int .u8 x275) ∧ (
 ∃ x276, w263.cell? ((blk b2).add 10) = some (.int .i64 x276) ∧ (
 ∃ x277, w263.cell? ((blk b2).add 11) = some (.int .i64 x277) ∧ (
 ∃ x278, w263.cell? ((blk b2).add 12) = some (.bool x278) ∧ (
 ∃ xp279 xn280 xc281, w263.cell? ((blk b2).add 13) = some (.slice xp279 xn280 xc281) ∧ (
 ∃ xp282 xn283 xc284, w263.cell? ((blk b2).add 14) = some (.slice xp282 xn283 xc284) ∧ (
 ∃ x285, w263.cell? (blk b4) = some (.int .i64 x285) ∧ (
 R (.returned (.tuple #[.agg #[.int .u8 x266, .int .i64 x267, .int .i64 x268, .int .i64 x269, .int .i64 x270, .int .i64 x271, .int .i64 x272, .int .i64 x273, .int .u8 x274, .int .u8 x275, .int .i64 x276, .int .i64 x277, .bool x278, .slice xp279 xn280 xc281, .slice xp282 xn283 xc284], .int .i64 x285])) w263))))))))))))))))) (fun ch265 => R (.panicked ch265) w263)))))))
theorem sh21_ok (s_1 : ByteArray) {R : EW} {w : World} : sh21 s_1 R w → Calls Tryz.prog 21 #[.string s_1] w R :=
  calls_of_eqD (ann := fun _ => []) (fn := Tryz.f21) (c := bodyOf Tryz.f21) (args := #[.string s_1]) 400 follows_mixed Tryz.func21 (by kernel_rfl) (by kernel_rfl)
end Go.Proofs.YtmkpkmdnapccgaaGreatDoor

namespace Go.Proofs.YtmkpkmdnapccgaaGreatDoor
open Go Go.Sh
def sh31 (do_1 : Int) (R : EW) (w : World) : Prop :=
 doAl (.cells #[.string (⟨#[]⟩ : ByteArray), .string (⟨#[105, 110, 115, 101, 114, 116]⟩ : ByteArray), .string (⟨#[100, 101, 108, 101, 116, 101]⟩ : ByteArray), .string (⟨#[103, 101, 116]⟩ : ByteArray), .string (⟨#[109, 105, 110]⟩ : ByteArray), .string (⟨#[109, 97, 120]⟩ : ByteArray), .string (⟨#[102, 108, 111, 111, 114]⟩ : ByteArray), .string (⟨#[99, 101, 105, 108]⟩ : ByteArray), .string (⟨#[98, 117, 105, 108, 100]⟩ : ByteArray), .string (⟨#[117, 110, 105, 111, 110]⟩ : ByteArray), .string (⟨#[109, 101, 101, 116]⟩ : ByteArray), .string (⟨#[108, 101, 115, 115]⟩ : ByteArray), .string (⟨#[97, 112, 97, 114, 116]⟩ : ByteArray), .string (⟨#[107, 101, 101, 112]⟩ : ByteArray), .string (⟨#[112, 117, 116, 115]⟩ : ByteArray), .string (⟨#[100, 114, 111, 112, 115]⟩ : ByteArray), .string (⟨#[114, 97, 110, 107]⟩ : ByteArray), .string (⟨#[115, 101, 108, 101, 99, 116]⟩ : ByteArray), .string (⟨#[114, 97, 110, 103, 101]⟩ : ByteArray), .string (⟨#[99, 111, 117, 110, 116]⟩ : ByteArray), .string (⟨#[115, 117, 109]⟩ : ByteArray), .string (⟨#[108, 105, 115, 116]⟩ : ByteArray), .string (⟨#[115, 112, 108, 105, 116]⟩ : ByteArray)] 9) w (fun b2 w3 =>
 ifB (decide (((IntKind.wrap .i64 do_1) : Int) ≥ ((23 : Nat) : Int))) (
 R (.returned (.string (⟨#[]⟩ : ByteArray))) w3) (
 doIx (some (blk b2)) 23 1 (do_1) (fun a4 =>
 ∃ x5, w3.cell? a4 = some (.string x5) ∧ (
 R (.returned (.string x5)) w3))))
theorem sh31_ok (do_1 : Int) {R : EW} {w : World} : sh31 do_1 R w → Calls Tryz.prog 31 #[.int .u8 do_1] w R :=
  ceq Tryz.func31 (by kernel_rfl) (by kernel_rfl)
def sh32 (v_1 : Int) (R : EW) (w : World) : Prop :=
 doCall Tryz.prog (.func (.func 35) #[] #[]) #[.int .i64 v_1, .int .i64 10] w (retS (fun v3 w4 => ∃ x2, v3 = (.string x2 : Value) ∧ (
 doCat (⟨#[32]⟩ : ByteArray) x2 (fun s5 =>
 R (.returned (.string s5)) w4))) (kN R))
theorem sh32_ok (v_1 : Int) {R : EW} {w : World} : sh32 v_1 R w → Calls Tryz.prog 32 #[.int .i64 v_1] w R :=
  ceq Tryz.func32 (by kernel_rfl) (by kernel_rfl)
def sh33 (p_1 : Int) (R : EW) (w : World) : Prop :=
 doAl (.cells #[.string (⟨#[]⟩ : ByteArray), .string (⟨#[108, 101, 102, 116]⟩ : ByteArray), .string (⟨#[114, 105, 103, 104, 116]⟩ : ByteArray), .string (⟨#[115, 117, 109]⟩ : ByteArray)] 9) w (fun b2 w3 =>
 ifB (decide (((IntKind.wrap .i64 p_1) : Int) ≥ ((4 : Nat) : Int))) (
 R (.returned (.string (⟨#[]⟩ : ByteArray))) w3) (
 doIx (some (blk b2)) 4 1 (p_1) (fun a4 =>
 ∃ x5, w3.cell? a4 = some (.string x5) ∧ (
 R (.returned (.string x5)) w3))))
theorem sh33_ok (p_1 : Int) {R : EW} {w : World} : sh33 p_1 R w → Calls Tryz.prog 33 #[.int .u8 p_1] w R :=
  ceq Tryz.func33 (by kernel_rfl) (by kernel_rfl)
def sh34 (p_1 : Int) (p_2 : Int) (p_3 : Int) (p_4 : Bool) (R : EW) (w : World) : Prop :=
 doAl (.cells #[.int .u8 p_1, .int .i64 p_2, .int .i64 p_3, .bool p_4] 33) w (fun b5 w6 =>
 let K9 : ByteArray → World → Prop := fun s_7 w8 => 
 doCat s_7 (⟨#[32]⟩ : ByteArray) (fun s10 =>
 ∃ x11, w8.cell? ((blk b5).add 0) = some (.int .u8 x11) ∧ (
 doCall Tryz.prog (.func (.func 61) #[] #[]) #[.int .u8 x11] w8 (retS (fun v13 w14 => ∃ x12, v13 = (.string x12 : Value) ∧ (
 doCat s10 x12 (fun s15 =>
 ∃ x16, w14.cell? ((blk b5).add 0) = some (.int .u8 x16) ∧ (
 ifB ((x16 : Int) == 1) (
 R (.returned (.string s15)) w14) (
 doDr w14 (fun w18 =>
 ∃ (C17 : World → Prop), C17 w18 ∧ (
 ∃ x19, (∀ w, C17 w → w.cell? ((blk b5).add 1) = some (.int .i64 x19)) ∧ (
 ∃ x20, (∀ w, C17 w → w.cell? ((blk b5).add 2) = some (.int .i64 x20)) ∧ (
 doCall Tryz.prog (.func (.func 32) #[] #[]) #[.int .i64 x19] w18 (retS (fun v22 w23 => ∃ x21, v22 = (.string x21 : Value) ∧ (
 C17 w23 ∧ (
 doCat s15 x21 (fun s24 =>
 doCall Tryz.prog (.func (.func 32) #[] #[]) #[.int .i64 x20] w23 (retS (fun v26 w27 => ∃ x25, v26 = (.string x25 : Value) ∧ (
 C17 w27 ∧ (
 doCat s24 x25 (fun s28 =>
 R (.returned (.string s28)) w27)))) (kN R)))))) (kN R))))))))))) (kN R))))
 ∃ x29, w6.cell? ((blk b5).add 3) = some (.bool x29) ∧ (
 ifB x29 (
 K9 (⟨#[32, 110, 111, 116]⟩ : ByteArray) w6) (
 K9 (⟨#[]⟩ : ByteArray) w6)))
theorem sh34_ok (p_1 : Int) (p_2 : Int) (p_3 : Int) (p_4 : Bool) {R : EW} {w : World} : sh34 p_1 p_2 p_3 p_4 R w → Calls Tryz.prog 34 #[.agg #[.int .u8 p_1, .int .i64 p_2, .int .i64 p_3, .bool p_4]] w R :=
  ceq Tryz.func34 (by kernel_rfl) (by kernel_rfl)
def sh61 (k_1 : Int) (R : EW) (w : World) : Prop :=
 doAl (.cells #[.string (⟨#[]⟩ : ByteArray), .string (⟨#[97, 108, 108]⟩ : ByteArray), .string (⟨#[107, 101, 121]⟩ : ByteArray), .string (⟨#[118, 97, 108]⟩ : ByteArray), .string (⟨#[109, 111, 100]⟩ : ByteArray), .string (⟨#[98, 105, 116, 115]⟩ : ByteArray)] 9) w (fun b2 w3 =>
 ifB (decide (((IntKind.wrap .i64 k_1) : Int) ≥ ((6 : Nat) : Int))) (
 R (.returned (.string (⟨#[]⟩ : ByteArray))) w3) (
 doIx (some (blk b2)) 6 1 (k_1) (fun a4 =>
 ∃ x5, w3.cell? a4 = some (.string x5) ∧ (
 R (.returned (.string x5)) w3))))
theorem sh61_ok (k_1 : Int) {R : EW} {w : World} : sh61 k_1 R w → Calls Tryz.prog 61 #[.int .u8 k_1] w R :=
  ceq Tryz.func61 (by kernel_rfl) (by kernel_rfl)
def sh63 (t_1 : OA) (R : EW) (w : World) : Prop :=
 let K4 : Bool → World → Prop := fun x2 w3 => 
 ifB x2 (
 ∃ q5, t_1 = some q5 ∧ (
 doSt ((q5.add 1).add 0) (.bool false) w3 (fun w6 =>
 R (.returned (.int .u8 0)) w6))) (
 ∃ q7, t_1 = some q7 ∧ (
 ∃ x8, w3.cell? (q7.add 0) = some (.string x8) ∧ (
 ∃ b9, (0 : Int) ≤ 0 ∧ x8[(0 : Int).toNat]? = some b9 ∧ (
 ∃ q10, t_1 = some q10 ∧ (
 ∃ x11, w3.cell? (q10.add 0) = some (.string x11) ∧ (
 doSs x11 (1) (((x11).size : Int)) (fun s12 =>
 ∃ q13, t_1 = some q13 ∧ (
 doSt ((q13.add 0).add 0) (.string s12) w3 (fun w14 =>
 R (.returned (.int .u8 ((b9.toNat : Nat) : Int))) w14)))))))))
 ∃ q15, t_1 = some q15 ∧ (
 ∃ x16, w.cell? (q15.add 1) = some (.bool x16) ∧ (
 ifB (!x16) (
 ∃ q17, t_1 = some q17 ∧ (
 doSt ((q17.add 1).add 0) (.bool false) w (fun w18 =>
 R (.returned (.int .u8 0)) w18))) (
 ∃ q19, t_1 = some q19 ∧ (
 ∃ x20, w.cell? (q19.add 0) = some (.string x20) ∧ (
 K4 (x20.toList == (⟨#[]⟩ : ByteArray).toList) w)))))
theorem sh63_ok (t_1 : OA) {R : EW} {w : World} : sh63 t_1 R w → Calls Tryz.prog 63 #[.pointer t_1] w R :=
  ceq Tryz.func63 (by kernel_rfl) (by kernel_rfl)
def sh64 (t_1 : OA) (R : EW) (w : World) : Prop :=
 ∃ (I2 : List Value → World → Prop) (μ3 : List Value → World → Nat), I2 [.int .u64 0, .int .i64 0] w ∧ (∀ (c_6 : Int), ∀ (k_7 : Int), ∀ (_j4 : Nat → Value) (w5 : World), I2 [.int .u64 c_6, .int .i64 k_7] w5 → (
 doCall Tryz.prog (.func (.func 63) #[] #[]) #[.pointer t_1] w5 (retS (fun v9 w10 => ∃ x8, v9 = (.int .u8 x8 : Value) ∧ (
 let K12 : World → Prop := fun w11 => 
 128 ≠ (0 : Int) ∧ (
 (0 : Int) ≤ (IntKind.wrap .u64 (IntKind.wrap .i64 (7 * k_7))) ∧ (
 ifB (decide ((x8 : Int) < 128)) (
 2 ≠ (0 : Int) ∧ (
 ifB (((Int.tmod (IntKind.wrap .u64 (c_6 + (IntKind.wrap .u64 ((IntKind.wrap .u64 (Int.tmod x8 128)) * 2 ^ (min ((IntKind.wrap .u64 (IntKind.wrap .i64 (7 * k_7))) : Int).toNat (IntKind.bits .u64)))))) 2) : Int) == 1) (
 2 ≠ (0 : Int) ∧ (
 R (.returned (.int .i64 (IntKind.wrap .i64 ((IntKind.wrap .i64 (0 - (IntKind.wrap .i64 (IntKind.wrap .u64 (Int.tdiv (IntKind.wrap .u64 (c_6 + (IntKind.wrap .u64 ((IntKind.wrap .u64 (Int.tmod x8 128)) * 2 ^ (min ((IntKind.wrap .u64 (IntKind.wrap .i64 (7 * k_7))) : Int).toNat (IntKind.bits .u64)))))) 2))))) - 1)))) w11)) (
 2 ≠ (0 : Int) ∧ (
 R (.returned (.int .i64 (IntKind.wrap .i64 (IntKind.wrap .u64 (Int.tdiv (IntKind.wrap .u64 (c_6 + (IntKind.wrap .u64 ((IntKind.wrap .u64 (Int.tmod x8 128)) * 2 ^ (min ((IntKind.wrap .u64 (IntKind.wrap .i64 (7 * k_7))) : Int).toNat (IntKind.bits .u64)))))) 2))))) w11)))) (
 I2 [.int .u64 (IntKind.wrap .u64 (c_6 + (IntKind.wrap .u64 ((IntKind.wrap .u64 (Int.tmod x8 128)) * 2 ^ (min ((IntKind.wrap .u64 (IntKind.wrap .i64 (7 * k_7))) : Int).toNat (IntKind.bits .u64)))))), .int .i64 (IntKind.wrap .i64 (k_7 + 1))] w11 ∧ μ3 [.int .u64 (IntKind.wrap .u64 (c_6 + (IntKind.wrap .u64 ((IntKind.wrap .u64 (Int.tmod x8 128)) * 2 ^ (min ((IntKind.wrap .u64 (IntKind.wrap .i64 (7 * k_7))) : Int).toNat (IntKind.bits .u64)))))), .int .i64 (IntKind.wrap .i64 (k_7 + 1))] w11 < μ3 [.int .u64 c_6, .int .i64 k_7] w5)))
 let K15 : Bool → World → Prop := fun x13 w14 => 
 ifB x13 (
 ∃ q16, t_1 = some q16 ∧ (
 doSt ((q16.add 1).add 0) (.bool false) w14 (fun w17 =>
 R (.returned (.int .i64 0)) w17))) (
 K12 w14)
 ∃ q18, t_1 = some q18 ∧ (
 ∃ x19, w10.cell? (q18.add 1) = some (.bool x19) ∧ (
 ifB (!x19) (
 ∃ q20, t_1 = some q20 ∧ (
 doSt ((q20.add 1).add 0) (.bool false) w10 (fun w21 =>
 R (.returned (.int .i64 0)) w21))) (
 ifB ((k_7 : Int) == 9) (
 ifB (decide ((x8 : Int) > 1)) (
 ∃ q22, t_1 = some q22 ∧ (
 doSt ((q22.add 1).add 0) (.bool false) w10 (fun w23 =>
 R (.returned (.int .i64 0)) w23))) (
 ifB (decide ((k_7 : Int) > 0)) (
 K15 ((x8 : Int) == 0) w10) (
 K12 w10))) (
 ifB (decide ((k_7 : Int) > 0)) (
 K15 ((x8 : Int) == 0) w10) (
 K12 w10))))))) (kN R))))
theorem sh64_ok (t_1 : OA) {R : EW} {w : World} : sh64 t_1 R w → Calls Tryz.prog 64 #[.pointer t_1] w R :=
  Old.calls_of_eq (ann := fun i => if i = 0 then [(3, .int .u64 0), (4, .int .i64 0)] else []) (fn := Tryz.f64) (c := bodyOf Tryz.f64) (args := #[.pointer t_1]) 400 follows_mixed Tryz.func64 (by kernel_rfl) (by kernel_rfl)
def sh65 (t_1 : OA) (R : EW) (w : World) : Prop :=
 doCall Tryz.prog (.func (.func 64) #[] #[]) #[.pointer t_1] w (retS (fun v3 w4 => ∃ x2, v3 = (.int .i64 x2 : Value) ∧ (
 let K7 : Bool → World → Prop := fun x5 w6 => 
 ifB x5 (
 ∃ q8, t_1 = some q8 ∧ (
 doSt ((q8.add 1).add 0) (.bool false) w6 (fun w9 =>
 R (.returned (.int .i64 0)) w9))) (
 R (.returned (.int .i64 x2)) w6)
 ifB (decide ((x2 : Int) < 0)) (
 ∃ q10, t_1 = some q10 ∧ (
 doSt ((q10.add 1).add 0) (.bool false) w4 (fun w11 =>
 R (.returned (.int .i64 0)) w11))) (
 K7 (decide ((x2 : Int) > 4096)) w4))) (kN R))
theorem sh65_ok (t_1 : OA) {R : EW} {w : World} : sh65 t_1 R w → Calls Tryz.prog 65 #[.pointer t_1] w R :=
  ceq Tryz.func65 (by kernel_rfl) (by kernel_rfl)
end Go.Proofs.YtmkpkmdnapccgaaGreatDoor

namespace Go.Sh.Old
open Go Go.Sh

def seqL : List Code → Code → Code
  | [], y => y
  | x :: xs, y => .seq x (seqL xs y)
def headsC : Nat → Code → List Code
  | k + 1, .seq x y => x :: headsC k y
  | _, _ => []
def tailC : Nat → Code → Code
  | k + 1, .seq _ y => tailC k y
  | _, c => c
theorem seqL_split : ∀ (k : Nat) (c : Code), seqL (headsC k c) (tailC k c) = c
  | 0, c => by cases c <;> rfl
  | k + 1, c => by
    cases c with
    | seq x y => simp only [headsC, tailC, seqL, seqL_split k y]
    | _ => rfl
section
variable {P : Program} {ann : Nat → List (Nat × Value)} {ro : Option Nat} {Kp : List PanicEntry → List Deferred → World → Prop}
def evs (P : Program) (ann : Nat → List (Nat × Value)) (ro : Option Nat) (Kp : List PanicEntry → List Deferred → World → Prop) (n : Nat) : List Code → (Exit → Act → World → Prop) → (Act → World → Prop) → Act → World → Prop
  | [], _, K => K
  | x :: xs, Q, K => ev P ann ro Kp n 0 x (Exit.then (evs P ann ro Kp n xs Q K) Q)
theorem evs_soundF (hm : P.follows .mixedOrders = true) {n : Nat} {y : Code} {Q : Exit → Act → World → Prop} {K : Act → World → Prop} :
    ∀ (xs : List Code) (a : Act) (w : World), xs.all noRF = true → (∀ a' w', K a' w' → a'.tmps.size = a.tmps.size → a'.defers = a.defers → y.wpIn (fen ro) 0 P (full Q Kp) a' w') → evs P ann ro Kp n xs Q K a w → (seqL xs y).wpIn (fen ro) 0 P (full Q Kp) a w
  | [], a, w, _, hK, h => hK a w h rfl rfl
  | x :: xs, a, w, hx, hK, h => by
    rw [List.all_cons, Bool.and_eq_true] at hx
    refine wpIn_seq (wpIn_mono (ev_sound hm n 0 x _ a w h) ?_)
    intro e a' w' he
    cases e with
    | normal =>
      have hf := he.2 hx.1
      exact evs_soundF hm xs a' w' hx.2 (fun a2 w2 h2 hs hd => hK a2 w2 h2 (hs.trans hf.size) (hd.trans hf.defers)) he.1
    | panic ch => exact he
    | outgrown => exact he
    | ret => exact he.1
    | exit id => exact he.1
    | goto l => exact he.1
theorem wp_part (hm : P.follows .mixedOrders = true) {n k : Nat} {c : Code} {Q : Exit → Act → World → Prop} {K : List Value → World → Prop} {is : List Nat} {a : Act} {w : World} {X : Prop} (hx : (headsC k c).all noRF = true)
    (e : evs P ann ro Kp n (headsC k c) Q (fun a w => K (getAll is a.tmps) w) a w = X)
    (hK : ∀ a' w', K (getAll is a'.tmps) w' → a'.tmps.size = a.tmps.size → a'.defers = a.defers → (tailC k c).wpIn (fen ro) 0 P (full Q Kp) a' w') (h : X) : c.wpIn (fen ro) 0 P (full Q Kp) a w := by
  rw [← e] at h
  have := evs_soundF hm (headsC k c) a w hx hK h
  rwa [seqL_split] at this
theorem wp_last (hm : P.follows .mixedOrders = true) {n : Nat} {c : Code} {Q : Exit → Act → World → Prop} {a : Act} {w : World} {X : Prop} (e : ev P ann ro Kp n 0 c Q a w = X) (h : X) : c.wpIn (fen ro) 0 P (full Q Kp) a w :=
  wpIn_mono (ev_sound hm n 0 _ _ a w (e ▸ h)) (full_mono fun e a' w' hq => hq.1)
theorem arr_lit {t : Array Value} {n : Nat} (hs : t.size = n) : t = ((List.range n).map fun i => t.getD i undef).toArray := by
  subst hs
  apply Array.ext_getElem?
  intro i
  simp only [List.getElem?_toArray, List.getElem?_map, List.getElem?_range, Array.getD_eq_getD_getElem?]
  rcases Nat.lt_or_ge i t.size with h | h
  · simp [h]
  · simp [h, Nat.not_lt.2 h]
theorem oper_bind {F : Fence} {n : Nat} {P : Program} {o : Oper} {a : Act} {w : World} {K K' : Act → World → Prop} {Q Q' : Exit → Act → World → Prop} (h : ∀ a w, K a w → K' a w) (hp : ∀ ch a w, Q (.panic ch) a w → Q' (.panic ch) a w) (ho : LetsOut Q → LetsOut Q') (hh : o.wpIn F n P a w K Q) : o.wpIn F n P a w K' Q' := by
  unfold Oper.wpIn at *
  refine ⟨hh.1, ?_⟩
  have hh := hh.2
  generalize (o.semAt F.round a.eval).run P w = r at *
  cases r with
  | ok x w' =>
    cases x <;> simp only [Oper.uponIn] at hh ⊢ <;>
      first
        | exact h _ _ hh
        | exact ⟨hh.1, CallsIn.mono hh.2 (fun e w'' he => by cases e <;> first | exact h _ _ he | exact hp _ _ _ he | exact ho he)⟩
        | exact ⟨hh.1, RowsIn.mono hh.2 (fun _ _ he => h _ _ he)⟩
        | exact ⟨hh.1, RoundIn.mono hh.2 (fun e w'' he => by cases e <;> first | exact h _ _ he | exact hp _ _ _ he | exact ho he)⟩
  | halt x w' => cases x <;> simp only [Oper.uponIn] at hh ⊢ <;> first | exact hp _ _ _ hh | exact hh
theorem ops_bind {F : Fence} {n : Nat} {P : Program} {ops : Array Oper} {Q Q' : Exit → Act → World → Prop} {l2 : List Nat} (hn : ∀ a w, Q .normal a w → wpOpsIn F n P ops Q' l2 a w) (hp : ∀ ch a w, Q (.panic ch) a w → Q' (.panic ch) a w) (ho : LetsOut Q → LetsOut Q') :
    ∀ (l1 : List Nat) (a : Act) (w : World), wpOpsIn F n P ops Q l1 a w → wpOpsIn F n P ops Q' (l1 ++ l2) a w
  | [], a, w, h => hn a w h
  | i :: l1, a, w, h => by
    rw [wpOpsIn_cons] at h
    rw [List.cons_append, wpOpsIn_cons]
    unfold wpOpIn at *
    split
    · exact ops_bind hn hp ho l1 _ _ (by simpa [*] using h)
    · rename_i o ho'
      simp only [ho'] at h
      split
      · rename_i hw; simp only [hw, if_true] at h; exact oper_bind (fun a w hk => ops_bind hn hp ho l1 a w hk) hp ho h
      · rename_i hw; simp only [hw] at h; exact ⟨h.1, ops_bind hn hp ho l1 _ _ h.2⟩
def midW (P : Program) (ro : Option Nat) (Kp : List PanicEntry → List Deferred → World → Prop) (m : Nat) (ops : Array Oper) (z y : Code) (Q : Exit → Act → World → Prop) : Act → World → Prop :=
  wpOpsIn (fen ro) 0 P ops (Exit.then (z.wpIn (fen ro) 0 P (Exit.then (y.wpIn (fen ro) 0 P (full Q Kp)) (full Q Kp))) (Exit.then (y.wpIn (fen ro) 0 P (full Q Kp)) (full Q Kp))) (List.range' m (ops.size - m))
def regOps : Code → Array Oper
  | .seq (.seq (.region _ ops _) _) _ => ops
  | _ => #[]
def regZ : Code → Code
  | .seq (.seq (.region _ _ _) z) _ => z
  | _ => .skip
def regY : Code → Code
  | .seq (.seq (.region _ _ _) _) y => y
  | _ => .skip
def regIs : Code → Bool
  | .seq (.seq (.region _ _ d) _) _ => !d
  | _ => false
theorem wp_half1 {n m : Nat} {c : Code} {Q : Exit → Act → World → Prop} {K : List Value → World → Prop} {is : List Nat} {a : Act} {w : World} {X : Prop} (hr : regIs c = true) (hnd : allND (regOps c) = true) (hm : m ≤ (regOps c).size)
    (e : evOps P (regOps c) (fun a w => K (getAll is a.tmps) w) Kp (List.range m) a w = X)
    (hK : ∀ a' w', K (getAll is a'.tmps) w' → a'.tmps.size = a.tmps.size → a'.defers = a.defers → midW P ro Kp m (regOps c) (regZ c) (regY c) Q a' w') (h : X) : c.wpIn (fen ro) 0 P (full Q Kp) a w := by
  rw [← e] at h
  unfold regIs at hr
  split at hr
  case h_2 => cases hr
  rename_i id ops d z y
  simp only [Bool.not_eq_true'] at hr
  subst hr
  refine wpIn_seq (wpIn_seq (wpIn_region ?_))
  have hs := evOps_sound (ro := ro) (Q := fun e a w => match e with | .normal => K (getAll is a.tmps) w | _ => False) hnd (List.range m) a w (.refl _ _) h
  have hl : List.range ops.size = List.range m ++ List.range' m (ops.size - m) := by
    have h0 := List.range'_append_1 (s := 0) (m := m) (n := ops.size - m)
    have hm' : m ≤ ops.size := hm
    rw [Nat.zero_add, Nat.add_sub_cancel' hm'] at h0
    rw [List.range_eq_range', List.range_eq_range', h0]
  rw [hl]
  refine ops_bind ?_ ?_ ?_ _ _ _ hs
  · intro a' w' hq
    exact hK a' w' hq.1 hq.2.size hq.2.defers
  · intro ch a' w' hq
    exact hq
  · intro hq
    exact hq
theorem wp_half2 (hmx : P.follows .mixedOrders = true) {n m : Nat} {ops : Array Oper} {z y : Code} {Q : Exit → Act → World → Prop} {K : List Value → World → Prop} {is : List Nat} {a : Act} {w : World} {X : Prop} (hnd : allND ops = true) (hz : noRF z = true)
    (e : evOps P ops (fun a w => ev P ann ro Kp n 0 z (Exit.then (fun a w => K (getAll is a.tmps) w) Q) a w) Kp (List.range' m (ops.size - m)) a w = X)
    (hK : ∀ a' w', K (getAll is a'.tmps) w' → a'.tmps.size = a.tmps.size → a'.defers = a.defers → y.wpIn (fen ro) 0 P (full Q Kp) a' w') (h : X) : midW P ro Kp m ops z y Q a w := by
  rw [← e] at h
  have hs := evOps_sound (ro := ro) (Q := fun e a w => match e with | .normal => ev P ann ro Kp n 0 z (Exit.then (fun a w => K (getAll is a.tmps) w) Q) a w | _ => False) hnd (List.range' m (ops.size - m)) a w (.refl _ _) h
  have hb : wpOpsIn (fen ro) 0 P ops (Exit.then (z.wpIn (fen ro) 0 P (Exit.then (y.wpIn (fen ro) 0 P (full Q Kp)) (full Q Kp))) (Exit.then (y.wpIn (fen ro) 0 P (full Q Kp)) (full Q Kp))) (List.range' m (ops.size - m) ++ []) a w := by
    refine ops_bind ?_ ?_ ?_ _ _ _ hs
    · intro a' w' hq
      refine wpIn_mono (ev_sound hmx n 0 z _ a' w' hq.1) fun e a2 w2 he => ?_
      cases e with
      | normal => exact hK a2 w2 he.1 ((he.2 hz).size.trans hq.2.size) ((he.2 hz).defers.trans hq.2.defers)
      | panic ch => exact he
      | outgrown => exact he
      | ret => exact he.1
      | exit id => exact he.1
      | goto l => exact he.1
    · intro ch a' w' hq
      exact hq
    · intro hq
      exact hq
  rwa [List.append_nil] at hb
end
theorem calls_of_wp {P : Program} {f : FuncId} {fn : Func} {c : Code} {args : Array Value} {w : World} {R : EW}
    (hf : P.funcs[f]? = some fn) (hb : fn.body = some c)
    (hw : c.wpIn (fen none) 0 P (full (Qfn P fn R) (Kfn R)) { tmps := args ++ Array.replicate (fn.ntmps - args.size) undef, defers := [] } w) : Calls P f args w R := by
  refine (callsIn_wide (n := 0)).1 (callsIn_of_wp_marks hf hb trivial (wpIn_mono hw ?_))
  intro e a' w' he
  cases e with
  | normal =>
    refine leaveW_sound (by simp) he fun w'' hr => ?_
    obtain ⟨vs, hF, hr⟩ := results_of_resL hr
    exact ⟨_, hr, hF⟩
  | ret =>
    refine leaveW_sound (by simp) he fun w'' hr => ?_
    obtain ⟨vs, hF, hr⟩ := results_of_resL hr
    exact ⟨_, hr, hF⟩
  | panic ch => exact leaveW_sound (by simp) he fun w'' hr => hr
  | outgrown => exact he.elim
  | exit id => exact he.elim
  | goto l => exact he.elim
end Go.Sh.Old

namespace Go.Proofs.YtmkpkmdnapccgaaGreatDoor
open Go Go.Sh
end Go.Proofs.YtmkpkmdnapccgaaGreatDoor

