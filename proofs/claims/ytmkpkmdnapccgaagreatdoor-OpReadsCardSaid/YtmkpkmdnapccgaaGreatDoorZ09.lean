/-
  Printed by a program (gen.py): what the functions of the program do, as formulas; each with the proof that its call is what the formula says.
-/
import Derived.Test.YtmkpkmdnapccgaaGreatDoorZ04
import Derived.Test.YtmkpkmdnapccgaaGreatDoorProg
import Derived.Test.YtmkpkmdnapccgaaGreatDoorZ05

set_option maxRecDepth 100000
set_option maxHeartbeats 6400000
namespace Go.Proofs.YtmkpkmdnapccgaaGreatDoor
open Go Go.Sh
def sh46 (s_1 : ByteArray) (R : EW) (w : World) : Prop :=
 ∃ (I2 : List Value → World → Prop) (μ3 : List Value → World → Nat), I2 [.slice none 0 0, .int .i64 0, .int .i64 0] w ∧ (∀ (l_p6 : OA), ∀ (l_n7 : Nat), ∀ (l_c8 : Nat), ∀ (from_9 : Int), ∀ (i_10 : Int), ∀ (_j4 : Nat → Value) (w5 : World), I2 [.slice l_p6 l_n7 l_c8, .int .i64 from_9, .int .i64 i_10] w5 → (
 ifB (decide ((i_10 : Int) < ((s_1.size : Nat) : Int))) (
 let K16 : (OA) → Nat → Nat → Int → World → Prop := fun l_p11 l_n12 l_c13 from_14 w15 => 
 I2 [.slice l_p11 l_n12 l_c13, .int .i64 from_14, .int .i64 (IntKind.wrap .i64 (i_10 + 1))] w15 ∧ μ3 [.slice l_p11 l_n12 l_c13, .int .i64 from_14, .int .i64 (IntKind.wrap .i64 (i_10 + 1))] w15 < μ3 [.slice l_p6 l_n7 l_c8, .int .i64 from_9, .int .i64 i_10] w5
 ∃ b17, (0 : Int) ≤ i_10 ∧ s_1[(i_10 : Int).toNat]? = some b17 ∧ (
 ifB ((((b17.toNat : Nat) : Int) : Int) == 32) (
 doSs s_1 (from_9) (i_10) (fun s18 =>
 doAl (.cells #[.string s18] 9) w5 (fun b19 w20 =>
 doGo Tryz.prog (.builtin .append #[62, 62] 62 #[false, false]) #[.slice l_p6 l_n7 l_c8, .slice (some (blk b19)) 1 1] w20 (retS (fun v24 w25 => ∃ xp21 xn22 xc23, v24 = (.slice xp21 xn22 xc23 : Value) ∧ (
 K16 xp21 xn22 xc23 (IntKind.wrap .i64 (i_10 + 1)) w25)) (kN R))))) (
 K16 l_p6 l_n7 l_c8 from_9 w5))) (
 doSs s_1 (from_9) (((s_1).size : Int)) (fun s26 =>
 doAl (.cells #[.string s26] 9) w5 (fun b27 w28 =>
 doGo Tryz.prog (.builtin .append #[62, 62] 62 #[false, false]) #[.slice l_p6 l_n7 l_c8, .slice (some (blk b27)) 1 1] w28 (retS (fun v32 w33 => ∃ xp29 xn30 xc31, v32 = (.slice xp29 xn30 xc31 : Value) ∧ (
 R (.returned (.slice xp29 xn30 xc31)) w33)) (kN R)))))))
theorem sh46_ok (s_1 : ByteArray) {R : EW} {w : World} : sh46 s_1 R w → Calls Tryz.prog 46 #[.string s_1] w R :=
  Old.calls_of_eq (ann := fun i => if i = 0 then [(3, .slice none 0 0), (4, .int .i64 0), (5, .int .i64 0)] else []) (fn := Tryz.f46) (c := bodyOf Tryz.f46) (args := #[.string s_1]) 400 follows_mixed Tryz.func46 (by kernel_rfl) (by kernel_rfl)
def sh47 (s_1 : ByteArray) (most_2 : Int) (what_3 : Int) (R : EW) (w : World) : Prop :=
 ∃ (I4 : List Value → World → Prop) (μ5 : List Value → World → Nat), I4 [.int .u8 1] w ∧ (∀ (k_8 : Int), ∀ (_j6 : Nat → Value) (w7 : World), I4 [.int .u8 k_8] w7 → (
 ifB (decide ((k_8 : Int) ≤ most_2)) (
 doCall Tryz.prog (.func (.func 67) #[] #[]) #[.int .i64 what_3, .int .u8 k_8] w7 (retS (fun v10 w11 => ∃ x9, v10 = (.string x9 : Value) ∧ (
 ifB (x9.toList == s_1.toList) (
 R (.returned (.int .u8 k_8)) w11) (
 I4 [.int .u8 (IntKind.wrap .u8 (k_8 + 1))] w11 ∧ μ5 [.int .u8 (IntKind.wrap .u8 (k_8 + 1))] w11 < μ5 [.int .u8 k_8] w7))) (kN R))) (
 R (.returned (.int .u8 0)) w7)))
theorem sh47_ok (s_1 : ByteArray) (most_2 : Int) (what_3 : Int) {R : EW} {w : World} : sh47 s_1 most_2 what_3 R w → Calls Tryz.prog 47 #[.string s_1, .int .u8 most_2, .int .i64 what_3] w R :=
  Old.calls_of_eq (ann := fun i => if i = 0 then [(7, .int .u8 0)] else []) (fn := Tryz.f47) (c := bodyOf Tryz.f47) (args := #[.string s_1, .int .u8 most_2, .int .i64 what_3]) 400 follows_mixed Tryz.func47 (by kernel_rfl) (by kernel_rfl)
def sh48 (t_1 : OA) (R : EW) (w : World) : Prop :=
 ∃ q2, t_1 = some q2 ∧ (
 ∃ xp3 xn4 xc5, w.cell? (q2.add 0) = some (.slice xp3 xn4 xc5) ∧ (
 ifB ((((xn4 : Nat) : Int) : Int) == 0) (
 R (.returned (.string (⟨#[]⟩ : ByteArray))) w) (
 ∃ q6, t_1 = some q6 ∧ (
 ∃ xp7 xn8 xc9, w.cell? (q6.add 0) = some (.slice xp7 xn8 xc9) ∧ (
 doIx xp7 xn8 1 (0) (fun a10 =>
 ∃ x11, w.cell? a10 = some (.string x11) ∧ (
 ∃ q12, t_1 = some q12 ∧ (
 ∃ xp13 xn14 xc15, w.cell? (q12.add 0) = some (.slice xp13 xn14 xc15) ∧ (
 doSl xp13 xc15 1 (1) (((xn14 : Nat) : Int)) (fun p16 n17 c18 =>
 ∃ q19, t_1 = some q19 ∧ (
 doSt ((q19.add 0).add 0) (.slice p16 n17 c18) w (fun w20 =>
 R (.returned (.string x11)) w20))))))))))))
theorem sh48_ok (t_1 : OA) {R : EW} {w : World} : sh48 t_1 R w → Calls Tryz.prog 48 #[.pointer t_1] w R :=
  ceq Tryz.func48 (by kernel_rfl) (by kernel_rfl)
def sh49 (t_1 : OA) (R : EW) (w : World) : Prop :=
 doCall Tryz.prog (.func (.func 48) #[] #[]) #[.pointer t_1] w (retS (fun v3 w4 => ∃ x2, v3 = (.string x2 : Value) ∧ (
 doCall Tryz.prog (.func (.func 68) #[] #[]) #[.string x2, .int .i64 10, .int .i64 64] w4 (retS (fun v7 w8 => ∃ x5 x6, v7 = (.tuple #[.int .i64 x5, x6] : Value) ∧ (
 R (.returned (.int .i64 x5)) w8)) (kN R)))) (kN R))
theorem sh49_ok (t_1 : OA) {R : EW} {w : World} : sh49 t_1 R w → Calls Tryz.prog 49 #[.pointer t_1] w R :=
  ceq Tryz.func49 (by kernel_rfl) (by kernel_rfl)
def sh50 (s_1 : ByteArray) (R : EW) (w : World) : Prop :=
 doAl (.cells #[.int .i64 0, .int .i64 0] 49) w (fun b2 w3 =>
 ∃ (I4 : List Value → World → Prop) (μ5 : List Value → World → Nat), I4 [.int .i64 0] w3 ∧ (∀ (i_8 : Int), ∀ (_j6 : Nat → Value) (w7 : World), I4 [.int .i64 i_8] w7 → (
 ifB (decide ((i_8 : Int) < ((s_1.size : Nat) : Int))) (
 ∃ b9, (0 : Int) ≤ i_8 ∧ s_1[(i_8 : Int).toNat]? = some b9 ∧ (
 ifB ((((b9.toNat : Nat) : Int) : Int) == 58) (
 doSs s_1 (0) (i_8) (fun s10 =>
 doCall Tryz.prog (.func (.func 68) #[] #[]) #[.string s10, .int .i64 10, .int .i64 64] w7 (retS (fun v13 w14 => ∃ x11 x12, v13 = (.tuple #[.int .i64 x11, x12] : Value) ∧ (
 doSs s_1 (IntKind.wrap .i64 (i_8 + 1)) (((s_1).size : Int)) (fun s15 =>
 doCall Tryz.prog (.func (.func 68) #[] #[]) #[.string s15, .int .i64 10, .int .i64 64] w14 (retS (fun v18 w19 => ∃ x16 x17, v18 = (.tuple #[.int .i64 x16, x17] : Value) ∧ (
 doSt ((blk b2).add 0) (.int .i64 x11) w19 (fun w20 =>
 doSt ((blk b2).add 1) (.int .i64 x16) w20 (fun w21 =>
 ∃ x22, w21.cell? ((blk b2).add 0) = some (.int .i64 x22) ∧ (
 ∃ x23, w21.cell? ((blk b2).add 1) = some (.int .i64 x23) ∧ (
 R (.returned (.agg #[.int .i64 x22, .int .i64 x23])) w21)))))) (kN R))))) (kN R)))) (
 I4 [.int .i64 (IntKind.wrap .i64 (i_8 + 1))] w7 ∧ μ5 [.int .i64 (IntKind.wrap .i64 (i_8 + 1))] w7 < μ5 [.int .i64 i_8] w7))) (
 doSt ((blk b2).add 0) (.int .i64 0) w7 (fun w24 =>
 doSt ((blk b2).add 1) (.int .i64 0) w24 (fun w25 =>
 ∃ x26, w25.cell? ((blk b2).add 0) = some (.int .i64 x26) ∧ (
 ∃ x27, w25.cell? ((blk b2).add 1) = some (.int .i64 x27) ∧ (
 R (.returned (.agg #[.int .i64 x26, .int .i64 x27])) w25))))))))
theorem sh50_ok (s_1 : ByteArray) {R : EW} {w : World} : sh50 s_1 R w → Calls Tryz.prog 50 #[.string s_1] w R :=
  Old.calls_of_eq (ann := fun i => if i = 0 then [(3, .int .i64 0)] else []) (fn := Tryz.f50) (c := bodyOf Tryz.f50) (args := #[.string s_1]) 400 follows_mixed Tryz.func50 (by kernel_rfl) (by kernel_rfl)
def sh67 (what_1 : Int) (k_2 : Int) (R : EW) (w : World) : Prop :=
 ifB ((what_1 : Int) == 0) (
 doCall Tryz.prog (.func (.func 31) #[] #[]) #[.int .u8 k_2] w (retS (fun v4 w5 => ∃ x3, v4 = (.string x3 : Value) ∧ (
 R (.returned (.string x3)) w5)) (kN R))) (
 ifB ((what_1 : Int) == 1) (
 doCall Tryz.prog (.func (.func 33) #[] #[]) #[.int .u8 k_2] w (retS (fun v7 w8 => ∃ x6, v7 = (.string x6 : Value) ∧ (
 R (.returned (.string x6)) w8)) (kN R))) (
 doCall Tryz.prog (.func (.func 61) #[] #[]) #[.int .u8 k_2] w (retS (fun v10 w11 => ∃ x9, v10 = (.string x9 : Value) ∧ (
 R (.returned (.string x9)) w11)) (kN R))))
theorem sh67_ok (what_1 : Int) (k_2 : Int) {R : EW} {w : World} : sh67 what_1 k_2 R w → Calls Tryz.prog 67 #[.int .i64 what_1, .int .u8 k_2] w R :=
  ceq Tryz.func67 (by kernel_rfl) (by kernel_rfl)
end Go.Proofs.YtmkpkmdnapccgaaGreatDoor

namespace Go.Proofs.YtmkpkmdnapccgaaGreatDoor
open Go Go.Sh
def sh20 (s_1 : ByteArray) (R : EW) (w : World) : Prop :=
 ifB (decide ((((s_1.size : Nat) : Int) : Int) > 1048576)) (
 R (.returned (.tuple #[.slice none 0 0, .int .i64 5])) w) (
 doAl (.cells #[.string s_1, .bool true] 83) w (fun b2 w3 =>
 ∃ (I4 : List Value → World → Prop) (μ5 : List Value → World → Nat), I4 [.slice none 0 0] w3 ∧ (∀ (l_p8 : OA), ∀ (l_n9 : Nat), ∀ (l_c10 : Nat), ∀ (_j6 : Nat → Value) (w7 : World), I4 [.slice l_p8 l_n9 l_c10] w7 → (
 ∃ q11, (some (blk b2)) = some q11 ∧ (
 ∃ x12, w7.cell? (q11.add 0) = some (.string x12) ∧ (
 ifB (!(x12.toList == (⟨#[]⟩ : ByteArray).toList)) (
 doCall Tryz.prog (.func (.func 43) #[] #[]) #[.pointer (some (blk b2))] w7 (retS (fun v32 w33 => ∃ x13 x14 x15 x16 x17 x18 x19 x20 x21 x22 x23 x24 x25 xp26 xn27 xc28 xp29 xn30 xc31, v32 = (.agg #[.int .u8 x13, .int .i64 x14, .int .i64 x15, .int .i64 x16, .int .i64 x17, .int .i64 x18, .int .i64 x19, .int .i64 x20, .int .u8 x21, .int .u8 x22, .int .i64 x23, .int .i64 x24, .bool x25, .slice xp26 xn27 xc28, .slice xp29 xn30 xc31] : Value) ∧ (
 doAl (.cells #[.int .u8 0, .int .i64 0, .int .i64 0, .int .i64 0, .int .i64 0, .int .i64 0, .int .i64 0, .int .i64 0, .int .u8 0, .int .u8 0, .int .i64 0, .int .i64 0, .bool false, .slice none 0 0, .slice none 0 0] 37) w33 (fun b34 w35 =>
 doSt ((blk b34).add 0) (.int .u8 x13) w35 (fun w36 =>
 doSt ((blk b34).add 1) (.int .i64 x14) w36 (fun w37 =>
 doSt ((blk b34).add 2) (.int .i64 x15) w37 (fun w38 =>
 doSt ((blk b34).add 3) (.int .i64 x16) w38 (fun w39 =>
 doSt ((blk b34).add 4) (.int .i64 x17) w39 (fun w40 =>
 doSt ((blk b34).add 5) (.int .i64 x18) w40 (fun w41 =>
 doSt ((blk b34).add 6) (.int .i64 x19) w41 (fun w42 =>
 doSt ((blk b34).add 7) (.int .i64 x20) w42 (fun w43 =>
 doSt ((blk b34).add 8) (.int .u8 x21) w43 (fun w44 =>
 doSt ((blk b34).add 9) (.int .u8 x22) w44 (fun w45 =>
 doSt ((blk b34).add 10) (.int .i64 x23) w45 (fun w46 =>
 doSt ((blk b34).add 11) (.int .i64 x24) w46 (fun w47 =>
 doSt ((blk b34).add 12) (.bool x25) w47 (fun w48 =>
 doSt ((blk b34).add 13) (.slice xp26 xn27 xc28) w48 (fun w49 =>
 doSt ((blk b34).add 14) (.slice xp29 xn30 xc31) w49 (fun w50 =>
 let K53 : Bool → World → Prop := fun x51 w52 => 
 ifB x51 (
 R (.returned (.tuple #[.slice none 0 0, .int .i64 7])) w52) (
 ∃ x54, w52.cell? ((blk b34).add 0) = some (.int .u8 x54) ∧ (
 ∃ x55, w52.cell? ((blk b34).add 1) = some (.int .i64 x55) ∧ (
 ∃ x56, w52.cell? ((blk b34).add 2) = some (.int .i64 x56) ∧ (
 ∃ x57, w52.cell? ((blk b34).add 3) = some (.int .i64 x57) ∧ (
 ∃ x58, w52.cell? ((blk b34).add 4) = some (.int .i64 x58) ∧ (
 ∃ x59, w52.cell? ((blk b34).add 5) = some (.int .i64 x59) ∧ (
 ∃ x60, w52.cell? ((blk b34).add 6) = some (.int .i64 x60) ∧ (
 ∃ x61, w52.cell? ((blk b34).add 7) = some (.int .i64 x61) ∧ (
 ∃ x62, w52.cell? ((blk b34).add 8) = some (.int .u8 x62) ∧ (
 ∃ x63, w52.cell? ((blk b34).add 9) = some (.int .u8 x63) ∧ (
 ∃ x64, w52.cell? ((blk b34).add 10) = some (.int .i64 x64) ∧ (
 ∃ x65, w52.cell? ((blk b34).add 11) = some (.int .i64 x65) ∧ (
 ∃ x66, w52.cell? ((blk b34).add 12) = some (.bool x66) ∧ (
 ∃ xp67 xn68 xc69, w52.cell? ((blk b34).add 13) = some (.slice xp67 xn68 xc69) ∧ (
 ∃ xp70 xn71 xc72, w52.cell? ((blk b34).add 14) = some (.slice xp70 xn71 xc72) ∧ (
 doAl (.cells #[.int .u8 x54, .int .i64 x55, .int .i64 x56, .int .i64 x57, .int .i64 x58, .int .i64 x59, .int .i64 x60, .int .i64 x61, .int .u8 x62, .int .u8 x63, .int .i64 x64, .int .i64 x65, .bool x66, .slice xp67 xn68 xc69, .slice xp70 xn71 xc72] 37) w52 (fun b73 w74 =>
 doGo Tryz.prog (.builtin .append #[22, 22] 22 #[false, false]) #[.slice l_p8 l_n9 l_c10, .slice (some (blk b73)) 1 1] w74 (retS (fun v78 w79 => ∃ xp75 xn76 xc77, v78 = (.slice xp75 xn76 xc77 : Value) ∧ (
 I4 [.slice xp75 xn76 xc77] w79 ∧ μ5 [.slice xp75 xn76 xc77] w79 < μ5 [.slice l_p8 l_n9 l_c10] w7)) (kN R)))))))))))))))))))
 ∃ q80, (some (blk b2)) = some q80 ∧ (
 ∃ x81, w50.cell? (q80.add 1) = some (.bool x81) ∧ (
 ifB (!x81) (
 R (.returned (.tuple #[.slice none 0 0, .int .i64 7])) w50) (
 ∃ x82, w50.cell? ((blk b34).add 0) = some (.int .u8 x82) ∧ (
 ∃ x83, w50.cell? ((blk b34).add 1) = some (.int .i64 x83) ∧ (
 ∃ x84, w50.cell? ((blk b34).add 2) = some (.int .i64 x84) ∧ (
 ∃ x85, w50.cell? ((blk b34).add 3) = some (.int .i64 x85) ∧ (
 ∃ x86, w50.cell? ((blk b34).add 4) = some (.int .i64 x86) ∧ (
 ∃ x87, w50.cell? ((blk b34).add 5) = some (.int .i64 x87) ∧ (
 ∃ x88, w50.cell? ((blk b34).add 6) = some (.int .i64 x88) ∧ (
 ∃ x89, w50.cell? ((blk b34).add 7) = some (.int .i64 x89) ∧ (
 ∃ x90, w50.cell? ((blk b34).add 8) = some (.int .u8 x90) ∧ (
 ∃ x91, w50.cell? ((blk b34).add 9) = some (.int .u8 x91) ∧ (
 ∃ x92, w50.cell? ((blk b34).add 10) = some (.int .i64 x92) ∧ (
 ∃ x93, w50.cell? ((blk b34).add 11) = some (.int .i64 x93) ∧ (
 ∃ x94, w50.cell? ((blk b34).add 12) = some (.bool x94) ∧ (
 ∃ xp95 xn96 xc97, w50.cell? ((blk b34).add 13) = some (.slice xp95 xn96 xc97) ∧ (
 ∃ xp98 xn99 xc100, w50.cell? ((blk b34).add 14) = some (.slice xp98 xn99 xc100) ∧ (
 doCall Tryz.prog (.func (.func 16) #[] #[]) #[.agg #[.int .u8 x82, .int .i64 x83, .int .i64 x84, .int .i64 x85, .int .i64 x86, .int .i64 x87, .int .i64 x88, .int .i64 x89, .int .u8 x90, .int .u8 x91, .int .i64 x92, .int .i64 x93, .bool x94, .slice xp95 xn96 xc97, .slice xp98 xn99 xc100]] w50 (retS (fun v102 w103 => ∃ x101, v102 = (.bool x101 : Value) ∧ (
 K53 (!x101) w103)) (kN R)))))))))))))))))))))))))))))))))))))) (kN R))) (
 R (.returned (.tuple #[.slice l_p8 l_n9 l_c10, .int .i64 0])) w7)))))))
theorem sh20_ok (s_1 : ByteArray) {R : EW} {w : World} : sh20 s_1 R w → Calls Tryz.prog 20 #[.string s_1] w R :=
  Old.calls_of_eq (ann := fun i => if i = 0 then [(4, .slice none 0 0)] else []) (fn := Tryz.f20) (c := bodyOf Tryz.f20) (args := #[.string s_1]) 400 follows_mixed Tryz.func20 (by kernel_rfl) (by kernel_rfl)
end Go.Proofs.YtmkpkmdnapccgaaGreatDoor

