/-
  Printed by a program (gen.py): what the functions of the program do, as formulas; each with the proof that its call is what the formula says.
-/
import Derived.Test.YtmkpkmdnapccgaaGreatDoorZ04
import Derived.Test.YtmkpkmdnapccgaaGreatDoorZ07
import Derived.Test.YtmkpkmdnapccgaaGreatDoorProg
import Derived.Test.YtmkpkmdnapccgaaGreatDoorZ05

set_option maxRecDepth 100000
set_option maxHeartbeats 6400000
namespace Go.Proofs.YtmkpkmdnapccgaaGreatDoor
open Go Go.Sh
def sh22b9 (s_1 : ByteArray) (x2 : Addr) (t_3 : Addr) (x_4 : Addr) (n_5 : Addr) (R : EW) (w : World) : Prop :=
 let K7 : World → Prop := fun w6 => 
 ∃ x8, w6.cell? (x_4.add 0) = some (.int .u8 x8) ∧ (
 ∃ x9, w6.cell? (x_4.add 1) = some (.int .i64 x9) ∧ (
 ∃ x10, w6.cell? (x_4.add 2) = some (.int .i64 x10) ∧ (
 ∃ x11, w6.cell? (x_4.add 3) = some (.int .i64 x11) ∧ (
 ∃ x12, w6.cell? (x_4.add 4) = some (.int .i64 x12) ∧ (
 ∃ x13, w6.cell? (x_4.add 5) = some (.int .i64 x13) ∧ (
 ∃ x14, w6.cell? (x_4.add 6) = some (.int .i64 x14) ∧ (
 ∃ x15, w6.cell? (x_4.add 7) = some (.int .i64 x15) ∧ (
 ∃ x16, w6.cell? (x_4.add 8) = some (.int .u8 x16) ∧ (
 ∃ x17, w6.cell? (x_4.add 9) = some (.int .u8 x17) ∧ (
 ∃ x18, w6.cell? (x_4.add 10) = some (.int .i64 x18) ∧ (
 ∃ x19, w6.cell? (x_4.add 11) = some (.int .i64 x19) ∧ (
 ∃ x20, w6.cell? (x_4.add 12) = some (.bool x20) ∧ (
 ∃ xp21 xn22 xc23, w6.cell? (x_4.add 13) = some (.slice xp21 xn22 xc23) ∧ (
 ∃ xp24 xn25 xc26, w6.cell? (x_4.add 14) = some (.slice xp24 xn25 xc26) ∧ (
 doCall Tryz.prog (.func (.func 15) #[] #[]) #[.agg #[.int .u8 x8, .int .i64 x9, .int .i64 x10, .int .i64 x11, .int .i64 x12, .int .i64 x13, .int .i64 x14, .int .i64 x15, .int .u8 x16, .int .u8 x17, .int .i64 x18, .int .i64 x19, .bool x20, .slice xp21 xn22 xc23, .slice xp24 xn25 xc26]] w6 (retS (fun v29 w30 => ∃ x27 x28, v29 = (.tuple #[.string x27, .int .i64 x28] : Value) ∧ (
 let K33 : Bool → World → Prop := fun x31 w32 => 
 ifB x31 (
 doSt (x2.add 0) (.int .u8 0) w32 (fun w34 =>
 doSt (x2.add 1) (.int .i64 0) w34 (fun w35 =>
 doSt (x2.add 2) (.int .i64 0) w35 (fun w36 =>
 doSt (x2.add 3) (.int .i64 0) w36 (fun w37 =>
 doSt (x2.add 4) (.int .i64 0) w37 (fun w38 =>
 doSt (x2.add 5) (.int .i64 0) w38 (fun w39 =>
 doSt (x2.add 6) (.int .i64 0) w39 (fun w40 =>
 doSt (x2.add 7) (.int .i64 0) w40 (fun w41 =>
 doSt (x2.add 8) (.int .u8 0) w41 (fun w42 =>
 doSt (x2.add 9) (.int .u8 0) w42 (fun w43 =>
 doSt (x2.add 10) (.int .i64 0) w43 (fun w44 =>
 doSt (x2.add 11) (.int .i64 0) w44 (fun w45 =>
 doSt (x2.add 12) (.bool false) w45 (fun w46 =>
 doSt (x2.add 13) (.slice none 0 0) w46 (fun w47 =>
 doSt (x2.add 14) (.slice none 0 0) w47 (fun w48 =>
 ∃ x49, w48.cell? (x2.add 0) = some (.int .u8 x49) ∧ (
 ∃ x50, w48.cell? (x2.add 1) = some (.int .i64 x50) ∧ (
 ∃ x51, w48.cell? (x2.add 2) = some (.int .i64 x51) ∧ (
 ∃ x52, w48.cell? (x2.add 3) = some (.int .i64 x52) ∧ (
 ∃ x53, w48.cell? (x2.add 4) = some (.int .i64 x53) ∧ (
 ∃ x54, w48.cell? (x2.add 5) = some (.int .i64 x54) ∧ (
 ∃ x55, w48.cell? (x2.add 6) = some (.int .i64 x55) ∧ (
 ∃ x56, w48.cell? (x2.add 7) = some (.int .i64 x56) ∧ (
 ∃ x57, w48.cell? (x2.add 8) = some (.int .u8 x57) ∧ (
 ∃ x58, w48.cell? (x2.add 9) = some (.int .u8 x58) ∧ (
 ∃ x59, w48.cell? (x2.add 10) = some (.int .i64 x59) ∧ (
 ∃ x60, w48.cell? (x2.add 11) = some (.int .i64 x60) ∧ (
 ∃ x61, w48.cell? (x2.add 12) = some (.bool x61) ∧ (
 ∃ xp62 xn63 xc64, w48.cell? (x2.add 13) = some (.slice xp62 xn63 xc64) ∧ (
 ∃ xp65 xn66 xc67, w48.cell? (x2.add 14) = some (.slice xp65 xn66 xc67) ∧ (
 R (.returned (.tuple #[.agg #[.int .u8 x49, .int .i64 x50, .int .i64 x51, .int .i64 x52, .int .i64 x53, .int .i64 x54, .int .i64 x55, .int .i64 x56, .int .u8 x57, .int .u8 x58, .int .i64 x59, .int .i64 x60, .bool x61, .slice xp62 xn63 xc64, .slice xp65 xn66 xc67], .int .i64 7])) w48))))))))))))))))))))))))))))))) (
 ∃ x68, w32.cell? (x_4.add 0) = some (.int .u8 x68) ∧ (
 ∃ x69, w32.cell? (x_4.add 1) = some (.int .i64 x69) ∧ (
 ∃ x70, w32.cell? (x_4.add 2) = some (.int .i64 x70) ∧ (
 ∃ x71, w32.cell? (x_4.add 3) = some (.int .i64 x71) ∧ (
 ∃ x72, w32.cell? (x_4.add 4) = some (.int .i64 x72) ∧ (
 ∃ x73, w32.cell? (x_4.add 5) = some (.int .i64 x73) ∧ (
 ∃ x74, w32.cell? (x_4.add 6) = some (.int .i64 x74) ∧ (
 ∃ x75, w32.cell? (x_4.add 7) = some (.int .i64 x75) ∧ (
 ∃ x76, w32.cell? (x_4.add 8) = some (.int .u8 x76) ∧ (
 ∃ x77, w32.cell? (x_4.add 9) = some (.int .u8 x77) ∧ (
 ∃ x78, w32.cell? (x_4.add 10) = some (.int .i64 x78) ∧ (
 ∃ x79, w32.cell? (x_4.add 11) = some (.int .i64 x79) ∧ (
 ∃ x80, w32.cell? (x_4.add 12) = some (.bool x80) ∧ (
 ∃ xp81 xn82 xc83, w32.cell? (x_4.add 13) = some (.slice xp81 xn82 xc83) ∧ (
 ∃ xp84 xn85 xc86, w32.cell? (x_4.add 14) = some (.slice xp84 xn85 xc86) ∧ (
 doSt (x2.add 0) (.int .u8 x68) w32 (fun w87 =>
 doSt (x2.add 1) (.int .i64 x69) w87 (fun w88 =>
 doSt (x2.add 2) (.int .i64 x70) w88 (fun w89 =>
 doSt (x2.add 3) (.int .i64 x71) w89 (fun w90 =>
 doSt (x2.add 4) (.int .i64 x72) w90 (fun w91 =>
 doSt (x2.add 5) (.int .i64 x73) w91 (fun w92 =>
 doSt (x2.add 6) (.int .i64 x74) w92 (fun w93 =>
 doSt (x2.add 7) (.int .i64 x75) w93 (fun w94 =>
 doSt (x2.add 8) (.int .u8 x76) w94 (fun w95 =>
 doSt (x2.add 9) (.int .u8 x77) w95 (fun w96 =>
 doSt (x2.add 10) (.int .i64 x78) w96 (fun w97 =>
 doSt (x2.add 11) (.int .i64 x79) w97 (fun w98 =>
 doSt (x2.add 12) (.bool x80) w98 (fun w99 =>
 doSt (x2.add 13) (.slice xp81 xn82 xc83) w99 (fun w100 =>
 doSt (x2.add 14) (.slice xp84 xn85 xc86) w100 (fun w101 =>
 ∃ x102, w101.cell? (x2.add 0) = some (.int .u8 x102) ∧ (
 ∃ x103, w101.cell? (x2.add 1) = some (.int .i64 x103) ∧ (
 ∃ x104, w101.cell? (x2.add 2) = some (.int .i64 x104) ∧ (
 ∃ x105, w101.cell? (x2.add 3) = some (.int .i64 x105) ∧ (
 ∃ x106, w101.cell? (x2.add 4) = some (.int .i64 x106) ∧ (
 ∃ x107, w101.cell? (x2.add 5) = some (.int .i64 x107) ∧ (
 ∃ x108, w101.cell? (x2.add 6) = some (.int .i64 x108) ∧ (
 ∃ x109, w101.cell? (x2.add 7) = some (.int .i64 x109) ∧ (
 ∃ x110, w101.cell? (x2.add 8) = some (.int .u8 x110) ∧ (
 ∃ x111, w101.cell? (x2.add 9) = some (.int .u8 x111) ∧ (
 ∃ x112, w101.cell? (x2.add 10) = some (.int .i64 x112) ∧ (
 ∃ x113, w101.cell? (x2.add 11) = some (.int .i64 x113) ∧ (
 ∃ x114, w101.cell? (x2.add 12) = some (.bool x114) ∧ (
 ∃ xp115 xn116 xc117, w101.cell? (x2.add 13) = some (.slice xp115 xn116 xc117) ∧ (
 ∃ xp118 xn119 xc120, w101.cell? (x2.add 14) = some (.slice xp118 xn119 xc120) ∧ (
 R (.returned (.tuple #[.agg #[.int .u8 x102, .int .i64 x103, .int .i64 x104, .int .i64 x105, .int .i64 x106, .int .i64 x107, .int .i64 x108, .int .i64 x109, .int .u8 x110, .int .u8 x111, .int .i64 x112, .int .i64 x113, .bool x114, .slice xp115 xn116 xc117, .slice xp118 xn119 xc120], .int .i64 0])) w101))))))))))))))))))))))))))))))))))))))))))))))
 ifB ((x28 : Int) != 0) (
 K33 true w30) (
 K33 (!(x27.toList == s_1.toList)) w30))) (kN R)))))))))))))))))
 ∃ (I121 : List Value → World → Prop) (μ122 : List Value → World → Nat), I121 [] w ∧ (∀ (_j123 : Nat → Value) (w124 : World), I121 [] w124 → (
 let K127 : Bool → World → Prop := fun x125 w126 => 
 ifB x125 (
 doDr w126 (fun w129 =>
 ∃ (C128 : World → Prop), C128 w129 ∧ (
 ∃ xp130 xn131 xc132, (∀ w, C128 w → w.cell? (x_4.add 14) = some (.slice xp130 xn131 xc132)) ∧ (
 doCall Tryz.prog (.func (.func 49) #[] #[]) #[.pointer (some t_3)] w129 (retS (fun v134 w135 => ∃ x133, v134 = (.int .i64 x133 : Value) ∧ (
 C128 w135 ∧ (
 doAl (.cells #[.int .i64 x133] 2) w135 (fun b136 w137 =>
 C128 w137 ∧ (
 doGo Tryz.prog (.builtin .append #[35, 35] 35 #[false, false]) #[.slice xp130 xn131 xc132, .slice (some (blk b136)) 1 1] w137 (retS (fun v141 w142 => ∃ xp138 xn139 xc140, v141 = (.slice xp138 xn139 xc140 : Value) ∧ (
 doSt ((x_4.add 14).add 0) (.slice xp138 xn139 xc140) w142 (fun w143 =>
 I121 [] w143 ∧ μ122 [] w143 < μ122 [] w124))) (kN R))))))) (kN R)))))) (
 K7 w126)
 ∃ x144, w124.cell? (n_5.add 10) = some (.bool x144) ∧ (
 ifB x144 (
 ∃ q145, (some t_3) = some q145 ∧ (
 ∃ xp146 xn147 xc148, w124.cell? (q145.add 0) = some (.slice xp146 xn147 xc148) ∧ (
 K127 (decide ((((xn147 : Nat) : Int) : Int) > 0)) w124))) (
 K7 w124))))
def sh22k9 (R : EW) : List Value → World → Prop := fun vs w => ∃ (s_1 : ByteArray), ∃ (x2 : Addr), ∃ (t_3 : Addr), ∃ (x_4 : Addr), ∃ (n_5 : Addr), vs = [.string s_1, .pointer (some x2), .pointer (some t_3), .pointer (some x_4), .pointer (some n_5)] ∧ sh22b9 s_1 x2 t_3 x_4 n_5 R w
theorem sh22b9_wp {j : Nat → Value} (s_1 : ByteArray) (x2 : Addr) (t_3 : Addr) (x_4 : Addr) (n_5 : Addr) {R : EW} {w : World} (g0 : j 0 = (.string s_1 : Value)) (g2 : j 2 = (.pointer (some x2) : Value)) (g4 : j 4 = (.pointer (some t_3) : Value)) (g5 : j 5 = (.pointer (some x_4) : Value)) (g6 : j 6 = (.pointer (some n_5) : Value)) (h : sh22b9 s_1 x2 t_3 x_4 n_5 R w) : Code.wpIn (fen none) 0 Tryz.prog (Old.tailC 14 (bodyOf Tryz.f22)) (Old.full (Qfn Tryz.prog Tryz.f22 R) (Kfn R)) { tmps := #[j 0, j 1, j 2, j 3, j 4, j 5, j 6, j 7, j 8, j 9, j 10, j 11, j 12, j 13, j 14, j 15, j 16, j 17, j 18, j 19, j 20, j 21, j 22, j 23, j 24, j 25, j 26, j 27, j 28, j 29, j 30, j 31, j 32, j 33, j 34, j 35, j 36, j 37, j 38, j 39, j 40, j 41, j 42, j 43, j 44, j 45, j 46, j 47, j 48, j 49, j 50, j 51, j 52, j 53, j 54, j 55, j 56, j 57, j 58, j 59, j 60, j 61, j 62, j 63, j 64, j 65, j 66, j 67, j 68, j 69, j 70, j 71, j 72, j 73, j 74, j 75, j 76, j 77, j 78, j 79, j 80, j 81, j 82, j 83, j 84, j 85, j 86, j 87, j 88, j 89, j 90, j 91, j 92, j 93, j 94, j 95, j 96, j 97, j 98, j 99, j 100, j 101, j 102, j 103, j 104, j 105, j 106, j 107, j 108, j 109, j 110, j 111, j 112, j 113, j 114, j 115, j 116, j 117, j 118, j 119, j 120, j 121, j 122, j 123, j 124, j 125, j 126, j 127, j 128, j 129, j 130, j 131, j 132, j 133, j 134, j 135, j 136, j 137, j 138, j 139, j 140, j 141, j 142], defers := [] } w := by
  rw [g0, g2, g4, g5, g6]
  exact Old.wp_last (ann := fun i => if i = 2 then [] else []) (n := 400) (X := sh22b9 s_1 x2 t_3 x_4 n_5 R w) follows_mixed (by kernel_rfl) h
def sh22b8 (s_1 : ByteArray) (x2 : Addr) (t_3 : Addr) (x_4 : Addr) (n_5 : Addr) (R : EW) (w : World) : Prop :=
 ∃ (I6 : List Value → World → Prop) (μ7 : List Value → World → Nat), I6 [] w ∧ (∀ (_j8 : Nat → Value) (w9 : World), I6 [] w9 → (
 let K12 : Bool → World → Prop := fun x10 w11 => 
 ifB x10 (
 doDr w11 (fun w14 =>
 ∃ (C13 : World → Prop), C13 w14 ∧ (
 ∃ xp15 xn16 xc17, (∀ w, C13 w → w.cell? (x_4.add 13) = some (.slice xp15 xn16 xc17)) ∧ (
 doCall Tryz.prog (.func (.func 48) #[] #[]) #[.pointer (some t_3)] w14 (retS (fun v19 w20 => ∃ x18, v19 = (.string x18 : Value) ∧ (
 C13 w20 ∧ (
 doCall Tryz.prog (.func (.func 50) #[] #[]) #[.string x18] w20 (retS (fun v23 w24 => ∃ x21 x22, v23 = (.agg #[.int .i64 x21, .int .i64 x22] : Value) ∧ (
 C13 w24 ∧ (
 doAl (.cells #[.int .i64 x21, .int .i64 x22] 49) w24 (fun b25 w26 =>
 C13 w26 ∧ (
 doGo Tryz.prog (.builtin .append #[34, 34] 34 #[false, false]) #[.slice xp15 xn16 xc17, .slice (some (blk b25)) 1 1] w26 (retS (fun v30 w31 => ∃ xp27 xn28 xc29, v30 = (.slice xp27 xn28 xc29 : Value) ∧ (
 doSt ((x_4.add 13).add 0) (.slice xp27 xn28 xc29) w31 (fun w32 =>
 I6 [] w32 ∧ μ7 [] w32 < μ7 [] w9))) (kN R))))))) (kN R))))) (kN R)))))) (
 sh22k9 R [.string s_1, .pointer (some x2), .pointer (some t_3), .pointer (some x_4), .pointer (some n_5)] w11)
 ∃ x33, w9.cell? (n_5.add 9) = some (.bool x33) ∧ (
 ifB x33 (
 ∃ q34, (some t_3) = some q34 ∧ (
 ∃ xp35 xn36 xc37, w9.cell? (q34.add 0) = some (.slice xp35 xn36 xc37) ∧ (
 K12 (decide ((((xn36 : Nat) : Int) : Int) > 0)) w9))) (
 sh22k9 R [.string s_1, .pointer (some x2), .pointer (some t_3), .pointer (some x_4), .pointer (some n_5)] w9))))
def sh22k8 (R : EW) : List Value → World → Prop := fun vs w => ∃ (s_1 : ByteArray), ∃ (x2 : Addr), ∃ (t_3 : Addr), ∃ (x_4 : Addr), ∃ (n_5 : Addr), vs = [.string s_1, .pointer (some x2), .pointer (some t_3), .pointer (some x_4), .pointer (some n_5)] ∧ sh22b8 s_1 x2 t_3 x_4 n_5 R w
theorem sh22b8_wp {j : Nat → Value} (s_1 : ByteArray) (x2 : Addr) (t_3 : Addr) (x_4 : Addr) (n_5 : Addr) {R : EW} {w : World} (g0 : j 0 = (.string s_1 : Value)) (g2 : j 2 = (.pointer (some x2) : Value)) (g4 : j 4 = (.pointer (some t_3) : Value)) (g5 : j 5 = (.pointer (some x_4) : Value)) (g6 : j 6 = (.pointer (some n_5) : Value)) (h : sh22b8 s_1 x2 t_3 x_4 n_5 R w) : Code.wpIn (fen none) 0 Tryz.prog (Old.tailC 13 (bodyOf Tryz.f22)) (Old.full (Qfn Tryz.prog Tryz.f22 R) (Kfn R)) { tmps := #[j 0, j 1, j 2, j 3, j 4, j 5, j 6, j 7, j 8, j 9, j 10, j 11, j 12, j 13, j 14, j 15, j 16, j 17, j 18, j 19, j 20, j 21, j 22, j 23, j 24, j 25, j 26, j 27, j 28, j 29, j 30, j 31, j 32, j 33, j 34, j 35, j 36, j 37, j 38, j 39, j 40, j 41, j 42, j 43, j 44, j 45, j 46, j 47, j 48, j 49, j 50, j 51, j 52, j 53, j 54, j 55, j 56, j 57, j 58, j 59, j 60, j 61, j 62, j 63, j 64, j 65, j 66, j 67, j 68, j 69, j 70, j 71, j 72, j 73, j 74, j 75, j 76, j 77, j 78, j 79, j 80, j 81, j 82, j 83, j 84, j 85, j 86, j 87, j 88, j 89, j 90, j 91, j 92, j 93, j 94, j 95, j 96, j 97, j 98, j 99, j 100, j 101, j 102, j 103, j 104, j 105, j 106, j 107, j 108, j 109, j 110, j 111, j 112, j 113, j 114, j 115, j 116, j 117, j 118, j 119, j 120, j 121, j 122, j 123, j 124, j 125, j 126, j 127, j 128, j 129, j 130, j 131, j 132, j 133, j 134, j 135, j 136, j 137, j 138, j 139, j 140, j 141, j 142], defers := [] } w := by
  rw [g0, g2, g4, g5, g6]
  exact Old.wp_part (ann := fun i => if i = 0 then [] else []) (n := 400) (k := 1) (K := sh22k9 R) (is := [0, 2, 4, 5, 6]) (X := sh22b8 s_1 x2 t_3 x_4 n_5 R w) follows_mixed (by kernel_rfl) (by kernel_rfl) (fun a' w' hK hs hd => by
    obtain ⟨s_1, x2, t_3, x_4, n_5, hv, h2⟩ := hK
    obtain ⟨tmps, defers⟩ := a'
    simp only at hs hd hv
    subst hd
    have hs : tmps.size = 143 := hs.trans (by kernel_rfl)
    have hl := Old.arr_lit hs
    obtain ⟨j, hj⟩ : ∃ j : Nat → Value, ∀ i, tmps.getD i undef = j i := ⟨_, fun _ => rfl⟩
    rw [show (fun i => tmps.getD i undef) = j from funext hj] at hl
    have e2 : tmps = #[j 0, j 1, j 2, j 3, j 4, j 5, j 6, j 7, j 8, j 9, j 10, j 11, j 12, j 13, j 14, j 15, j 16, j 17, j 18, j 19, j 20, j 21, j 22, j 23, j 24, j 25, j 26, j 27, j 28, j 29, j 30, j 31, j 32, j 33, j 34, j 35, j 36, j 37, j 38, j 39, j 40, j 41, j 42, j 43, j 44, j 45, j 46, j 47, j 48, j 49, j 50, j 51, j 52, j 53, j 54, j 55, j 56, j 57, j 58, j 59, j 60, j 61, j 62, j 63, j 64, j 65, j 66, j 67, j 68, j 69, j 70, j 71, j 72, j 73, j 74, j 75, j 76, j 77, j 78, j 79, j 80, j 81, j 82, j 83, j 84, j 85, j 86, j 87, j 88, j 89, j 90, j 91, j 92, j 93, j 94, j 95, j 96, j 97, j 98, j 99, j 100, j 101, j 102, j 103, j 104, j 105, j 106, j 107, j 108, j 109, j 110, j 111, j 112, j 113, j 114, j 115, j 116, j 117, j 118, j 119, j 120, j 121, j 122, j 123, j 124, j 125, j 126, j 127, j 128, j 129, j 130, j 131, j 132, j 133, j 134, j 135, j 136, j 137, j 138, j 139, j 140, j 141, j 142] := hl.trans (by kernel_rfl)
    simp only [Old.getAll, List.map_cons, List.map_nil, hj, List.cons.injEq, and_true] at hv
    obtain ⟨g0, g2, g4, g5, g6⟩ := hv
    rw [e2]
    exact sh22b9_wp s_1 x2 t_3 x_4 n_5 g0 g2 g4 g5 g6 h2) h
def sh22b7 (s_1 : ByteArray) (x2 : Addr) (t_3 : Addr) (x_4 : Addr) (n_5 : Addr) (R : EW) (w : World) : Prop :=
 ∃ x6, w.cell? (n_5.add 8) = some (.bool x6) ∧ (
 ifB x6 (
 doCall Tryz.prog (.func (.func 48) #[] #[]) #[.pointer (some t_3)] w (retS (fun v8 w9 => ∃ x7, v8 = (.string x7 : Value) ∧ (
 let K12 : ByteArray → World → Prop := fun w_10 w11 => 
 doCall Tryz.prog (.func (.func 47) #[] #[]) #[.string w_10, .int .u8 5, .int .i64 2] w11 (retS (fun v14 w15 => ∃ x13, v14 = (.int .u8 x13 : Value) ∧ (
 doSt (((x_4.add 9).add 0).add 0) (.int .u8 x13) w15 (fun w16 =>
 ∃ x17, w16.cell? ((x_4.add 9).add 0) = some (.int .u8 x17) ∧ (
 ifB ((x17 : Int) != 1) (
 doCall Tryz.prog (.func (.func 49) #[] #[]) #[.pointer (some t_3)] w16 (retS (fun v19 w20 => ∃ x18, v19 = (.int .i64 x18 : Value) ∧ (
 doSt (((x_4.add 9).add 1).add 0) (.int .i64 x18) w20 (fun w21 =>
 doCall Tryz.prog (.func (.func 49) #[] #[]) #[.pointer (some t_3)] w21 (retS (fun v23 w24 => ∃ x22, v23 = (.int .i64 x22 : Value) ∧ (
 doSt (((x_4.add 9).add 2).add 0) (.int .i64 x22) w24 (fun w25 =>
 sh22k8 R [.string s_1, .pointer (some x2), .pointer (some t_3), .pointer (some x_4), .pointer (some n_5)] w25))) (kN R))))) (kN R))) (
 sh22k8 R [.string s_1, .pointer (some x2), .pointer (some t_3), .pointer (some x_4), .pointer (some n_5)] w16))))) (kN R))
 ifB (x7.toList == (⟨#[110, 111, 116]⟩ : ByteArray).toList) (
 doSt (((x_4.add 9).add 3).add 0) (.bool true) w9 (fun w26 =>
 doCall Tryz.prog (.func (.func 48) #[] #[]) #[.pointer (some t_3)] w26 (retS (fun v28 w29 => ∃ x27, v28 = (.string x27 : Value) ∧ (
 K12 x27 w29)) (kN R)))) (
 K12 x7 w9))) (kN R))) (
 sh22k8 R [.string s_1, .pointer (some x2), .pointer (some t_3), .pointer (some x_4), .pointer (some n_5)] w))
def sh22k7 (R : EW) : List Value → World → Prop := fun vs w => ∃ (s_1 : ByteArray), ∃ (x2 : Addr), ∃ (t_3 : Addr), ∃ (x_4 : Addr), ∃ (n_5 : Addr), vs = [.string s_1, .pointer (some x2), .pointer (some t_3), .pointer (some x_4), .pointer (some n_5)] ∧ sh22b7 s_1 x2 t_3 x_4 n_5 R w
theorem sh22b7_wp {j : Nat → Value} (s_1 : ByteArray) (x2 : Addr) (t_3 : Addr) (x_4 : Addr) (n_5 : Addr) {R : EW} {w : World} (g0 : j 0 = (.string s_1 : Value)) (g2 : j 2 = (.pointer (some x2) : Value)) (g4 : j 4 = (.pointer (some t_3) : Value)) (g5 : j 5 = (.pointer (some x_4) : Value)) (g6 : j 6 = (.pointer (some n_5) : Value)) (h : sh22b7 s_1 x2 t_3 x_4 n_5 R w) : Code.wpIn (fen none) 0 Tryz.prog (Old.tailC 12 (bodyOf Tryz.f22)) (Old.full (Qfn Tryz.prog Tryz.f22 R) (Kfn R)) { tmps := #[j 0, j 1, j 2, j 3, j 4, j 5, j 6, j 7, j 8, j 9, j 10, j 11, j 12, j 13, j 14, j 15, j 16, j 17, j 18, j 19, j 20, j 21, j 22, j 23, j 24, j 25, j 26, j 27, j 28, j 29, j 30, j 31, j 32, j 33, j 34, j 35, j 36, j 37, j 38, j 39, j 40, j 41, j 42, j 43, j 44, j 45, j 46, j 47, j 48, j 49, j 50, j 51, j 52, j 53, j 54, j 55, j 56, j 57, j 58, j 59, j 60, j 61, j 62, j 63, j 64, j 65, j 66, j 67, j 68, j 69, j 70, j 71, j 72, j 73, j 74, j 75, j 76, j 77, j 78, j 79, j 80, j 81, j 82, j 83, j 84, j 85, j 86, j 87, j 88, j 89, j 90, j 91, j 92, j 93, j 94, j 95, j 96, j 97, j 98, j 99, j 100, j 101, j 102, j 103, j 104, j 105, j 106, j 107, j 108, j 109, j 110, j 111, j 112, j 113, j 114, j 115, j 116, j 117, j 118, j 119, j 120, j 121, j 122, j 123, j 124, j 125, j 126, j 127, j 128, j 129, j 130, j 131, j 132, j 133, j 134, j 135, j 136, j 137, j 138, j 139, j 140, j 141, j 142], defers := [] } w := by
  rw [g0, g2, g4, g5, g6]
  exact Old.wp_part (ann := fun _ => []) (n := 400) (k := 1) (K := sh22k8 R) (is := [0, 2, 4, 5, 6]) (X := sh22b7 s_1 x2 t_3 x_4 n_5 R w) follows_mixed (by kernel_rfl) (by kernel_rfl) (fun a' w' hK hs hd => by
    obtain ⟨s_1, x2, t_3, x_4, n_5, hv, h2⟩ := hK
    obtain ⟨tmps, defers⟩ := a'
    simp only at hs hd hv
    subst hd
    have hs : tmps.size = 143 := hs.trans (by kernel_rfl)
    have hl := Old.arr_lit hs
    obtain ⟨j, hj⟩ : ∃ j : Nat → Value, ∀ i, tmps.getD i undef = j i := ⟨_, fun _ => rfl⟩
    rw [show (fun i => tmps.getD i undef) = j from funext hj] at hl
    have e2 : tmps = #[j 0, j 1, j 2, j 3, j 4, j 5, j 6, j 7, j 8, j 9, j 10, j 11, j 12, j 13, j 14, j 15, j 16, j 17, j 18, j 19, j 20, j 21, j 22, j 23, j 24, j 25, j 26, j 27, j 28, j 29, j 30, j 31, j 32, j 33, j 34, j 35, j 36, j 37, j 38, j 39, j 40, j 41, j 42, j 43, j 44, j 45, j 46, j 47, j 48, j 49, j 50, j 51, j 52, j 53, j 54, j 55, j 56, j 57, j 58, j 59, j 60, j 61, j 62, j 63, j 64, j 65, j 66, j 67, j 68, j 69, j 70, j 71, j 72, j 73, j 74, j 75, j 76, j 77, j 78, j 79, j 80, j 81, j 82, j 83, j 84, j 85, j 86, j 87, j 88, j 89, j 90, j 91, j 92, j 93, j 94, j 95, j 96, j 97, j 98, j 99, j 100, j 101, j 102, j 103, j 104, j 105, j 106, j 107, j 108, j 109, j 110, j 111, j 112, j 113, j 114, j 115, j 116, j 117, j 118, j 119, j 120, j 121, j 122, j 123, j 124, j 125, j 126, j 127, j 128, j 129, j 130, j 131, j 132, j 133, j 134, j 135, j 136, j 137, j 138, j 139, j 140, j 141, j 142] := hl.trans (by kernel_rfl)
    simp only [Old.getAll, List.map_cons, List.map_nil, hj, List.cons.injEq, and_true] at hv
    obtain ⟨g0, g2, g4, g5, g6⟩ := hv
    rw [e2]
    exact sh22b8_wp s_1 x2 t_3 x_4 n_5 g0 g2 g4 g5 g6 h2) h
def sh22b6 (s_1 : ByteArray) (x2 : Addr) (t_3 : Addr) (x_4 : Addr) (n_5 : Addr) (R : EW) (w : World) : Prop :=
 ∃ x6, w.cell? (n_5.add 7) = some (.bool x6) ∧ (
 ifB x6 (
 doCall Tryz.prog (.func (.func 48) #[] #[]) #[.pointer (some t_3)] w (retS (fun v8 w9 => ∃ x7, v8 = (.string x7 : Value) ∧ (
 doCall Tryz.prog (.func (.func 47) #[] #[]) #[.string x7, .int .u8 3, .int .i64 1] w9 (retS (fun v11 w12 => ∃ x10, v11 = (.int .u8 x10 : Value) ∧ (
 doSt ((x_4.add 8).add 0) (.int .u8 x10) w12 (fun w13 =>
 sh22k7 R [.string s_1, .pointer (some x2), .pointer (some t_3), .pointer (some x_4), .pointer (some n_5)] w13))) (kN R)))) (kN R))) (
 sh22k7 R [.string s_1, .pointer (some x2), .pointer (some t_3), .pointer (some x_4), .pointer (some n_5)] w))
def sh22k6 (R : EW) : List Value → World → Prop := fun vs w => ∃ (s_1 : ByteArray), ∃ (x2 : Addr), ∃ (t_3 : Addr), ∃ (x_4 : Addr), ∃ (n_5 : Addr), vs = [.string s_1, .pointer (some x2), .pointer (some t_3), .pointer (some x_4), .pointer (some n_5)] ∧ sh22b6 s_1 x2 t_3 x_4 n_5 R w
theorem sh22b6_wp {j : Nat → Value} (s_1 : ByteArray) (x2 : Addr) (t_3 : Addr) (x_4 : Addr) (n_5 : Addr) {R : EW} {w : World} (g0 : j 0 = (.string s_1 : Value)) (g2 : j 2 = (.pointer (some x2) : Value)) (g4 : j 4 = (.pointer (some t_3) : Value)) (g5 : j 5 = (.pointer (some x_4) : Value)) (g6 : j 6 = (.pointer (some n_5) : Value)) (h : sh22b6 s_1 x2 t_3 x_4 n_5 R w) : Code.wpIn (fen none) 0 Tryz.prog (Old.tailC 11 (bodyOf Tryz.f22)) (Old.full (Qfn Tryz.prog Tryz.f22 R) (Kfn R)) { tmps := #[j 0, j 1, j 2, j 3, j 4, j 5, j 6, j 7, j 8, j 9, j 10, j 11, j 12, j 13, j 14, j 15, j 16, j 17, j 18, j 19, j 20, j 21, j 22, j 23, j 24, j 25, j 26, j 27, j 28, j 29, j 30, j 31, j 32, j 33, j 34, j 35, j 36, j 37, j 38, j 39, j 40, j 41, j 42, j 43, j 44, j 45, j 46, j 47, j 48, j 49, j 50, j 51, j 52, j 53, j 54, j 55, j 56, j 57, j 58, j 59, j 60, j 61, j 62, j 63, j 64, j 65, j 66, j 67, j 68, j 69, j 70, j 71, j 72, j 73, j 74, j 75, j 76, j 77, j 78, j 79, j 80, j 81, j 82, j 83, j 84, j 85, j 86, j 87, j 88, j 89, j 90, j 91, j 92, j 93, j 94, j 95, j 96, j 97, j 98, j 99, j 100, j 101, j 102, j 103, j 104, j 105, j 106, j 107, j 108, j 109, j 110, j 111, j 112, j 113, j 114, j 115, j 116, j 117, j 118, j 119, j 120, j 121, j 122, j 123, j 124, j 125, j 126, j 127, j 128, j 129, j 130, j 131, j 132, j 133, j 134, j 135, j 136, j 137, j 138, j 139, j 140, j 141, j 142], defers := [] } w := by
  rw [g0, g2, g4, g5, g6]
  exact Old.wp_part (ann := fun _ => []) (n := 400) (k := 1) (K := sh22k7 R) (is := [0, 2, 4, 5, 6]) (X := sh22b6 s_1 x2 t_3 x_4 n_5 R w) follows_mixed (by kernel_rfl) (by kernel_rfl) (fun a' w' hK hs hd => by
    obtain ⟨s_1, x2, t_3, x_4, n_5, hv, h2⟩ := hK
    obtain ⟨tmps, defers⟩ := a'
    simp only at hs hd hv
    subst hd
    have hs : tmps.size = 143 := hs.trans (by kernel_rfl)
    have hl := Old.arr_lit hs
    obtain ⟨j, hj⟩ : ∃ j : Nat → Value, ∀ i, tmps.getD i undef = j i := ⟨_, fun _ => rfl⟩
    rw [show (fun i => tmps.getD i undef) = j from funext hj] at hl
    have e2 : tmps = #[j 0, j 1, j 2, j 3, j 4, j 5, j 6, j 7, j 8, j 9, j 10, j 11, j 12, j 13, j 14, j 15, j 16, j 17, j 18, j 19, j 20, j 21, j 22, j 23, j 24, j 25, j 26, j 27, j 28, j 29, j 30, j 31, j 32, j 33, j 34, j 35, j 36, j 37, j 38, j 39, j 40, j 41, j 42, j 43, j 44, j 45, j 46, j 47, j 48, j 49, j 50, j 51, j 52, j 53, j 54, j 55, j 56, j 57, j 58, j 59, j 60, j 61, j 62, j 63, j 64, j 65, j 66, j 67, j 68, j 69, j 70, j 71, j 72, j 73, j 74, j 75, j 76, j 77, j 78, j 79, j 80, j 81, j 82, j 83, j 84, j 85, j 86, j 87, j 88, j 89, j 90, j 91, j 92, j 93, j 94, j 95, j 96, j 97, j 98, j 99, j 100, j 101, j 102, j 103, j 104, j 105, j 106, j 107, j 108, j 109, j 110, j 111, j 112, j 113, j 114, j 115, j 116, j 117, j 118, j 119, j 120, j 121, j 122, j 123, j 124, j 125, j 126, j 127, j 128, j 129, j 130, j 131, j 132, j 133, j 134, j 135, j 136, j 137, j 138, j 139, j 140, j 141, j 142] := hl.trans (by kernel_rfl)
    simp only [Old.getAll, List.map_cons, List.map_nil, hj, List.cons.injEq, and_true] at hv
    obtain ⟨g0, g2, g4, g5, g6⟩ := hv
    rw [e2]
    exact sh22b7_wp s_1 x2 t_3 x_4 n_5 g0 g2 g4 g5 g6 h2) h
def sh22b5 (s_1 : ByteArray) (x2 : Addr) (t_3 : Addr) (x_4 : Addr) (n_5 : Addr) (R : EW) (w : World) : Prop :=
 ∃ x6, w.cell? (n_5.add 6) = some (.bool x6) ∧ (
 ifB x6 (
 doCall Tryz.prog (.func (.func 49) #[] #[]) #[.pointer (some t_3)] w (retS (fun v8 w9 => ∃ x7, v8 = (.int .i64 x7 : Value) ∧ (
 doSt ((x_4.add 7).add 0) (.int .i64 x7) w9 (fun w10 =>
 sh22k6 R [.string s_1, .pointer (some x2), .pointer (some t_3), .pointer (some x_4), .pointer (some n_5)] w10))) (kN R))) (
 sh22k6 R [.string s_1, .pointer (some x2), .pointer (some t_3), .pointer (some x_4), .pointer (some n_5)] w))
def sh22k5 (R : EW) : List Value → World → Prop := fun vs w => ∃ (s_1 : ByteArray), ∃ (x2 : Addr), ∃ (t_3 : Addr), ∃ (x_4 : Addr), ∃ (n_5 : Addr), vs = [.string s_1, .pointer (some x2), .pointer (some t_3), .pointer (some x_4), .pointer (some n_5)] ∧ sh22b5 s_1 x2 t_3 x_4 n_5 R w
theorem sh22b5_wp {j : Nat → Value} (s_1 : ByteArray) (x2 : Addr) (t_3 : Addr) (x_4 : Addr) (n_5 : Addr) {R : EW} {w : World} (g0 : j 0 = (.string s_1 : Value)) (g2 : j 2 = (.pointer (some x2) : Value)) (g4 : j 4 = (.pointer (some t_3) : Value)) (g5 : j 5 = (.pointer (some x_4) : Value)) (g6 : j 6 = (.pointer (some n_5) : Value)) (h : sh22b5 s_1 x2 t_3 x_4 n_5 R w) : Code.wpIn (fen none) 0 Tryz.prog (Old.tailC 10 (bodyOf Tryz.f22)) (Old.full (Qfn Tryz.prog Tryz.f22 R) (Kfn R)) { tmps := #[j 0, j 1, j 2, j 3, j 4, j 5, j 6, j 7, j 8, j 9, j 10, j 11, j 12, j 13, j 14, j 15, j 16, j 17, j 18, j 19, j 20, j 21, j 22, j 23, j 24, j 25, j 26, j 27, j 28, j 29, j 30, j 31, j 32, j 33, j 34, j 35, j 36, j 37, j 38, j 39, j 40, j 41, j 42, j 43, j 44, j 45, j 46, j 47, j 48, j 49, j 50, j 51, j 52, j 53, j 54, j 55, j 56, j 57, j 58, j 59, j 60, j 61, j 62, j 63, j 64, j 65, j 66, j 67, j 68, j 69, j 70, j 71, j 72, j 73, j 74, j 75, j 76, j 77, j 78, j 79, j 80, j 81, j 82, j 83, j 84, j 85, j 86, j 87, j 88, j 89, j 90, j 91, j 92, j 93, j 94, j 95, j 96, j 97, j 98, j 99, j 100, j 101, j 102, j 103, j 104, j 105, j 106, j 107, j 108, j 109, j 110, j 111, j 112, j 113, j 114, j 115, j 116, j 117, j 118, j 119, j 120, j 121, j 122, j 123, j 124, j 125, j 126, j 127, j 128, j 129, j 130, j 131, j 132, j 133, j 134, j 135, j 136, j 137, j 138, j 139, j 140, j 141, j 142], defers := [] } w := by
  rw [g0, g2, g4, g5, g6]
  exact Old.wp_part (ann := fun _ => []) (n := 400) (k := 1) (K := sh22k6 R) (is := [0, 2, 4, 5, 6]) (X := sh22b5 s_1 x2 t_3 x_4 n_5 R w) follows_mixed (by kernel_rfl) (by kernel_rfl) (fun a' w' hK hs hd => by
    obtain ⟨s_1, x2, t_3, x_4, n_5, hv, h2⟩ := hK
    obtain ⟨tmps, defers⟩ := a'
    simp only at hs hd hv
    subst hd
    have hs : tmps.size = 143 := hs.trans (by kernel_rfl)
    have hl := Old.arr_lit hs
    obtain ⟨j, hj⟩ : ∃ j : Nat → Value, ∀ i, tmps.getD i undef = j i := ⟨_, fun _ => rfl⟩
    rw [show (fun i => tmps.getD i undef) = j from funext hj] at hl
    have e2 : tmps = #[j 0, j 1, j 2, j 3, j 4, j 5, j 6, j 7, j 8, j 9, j 10, j 11, j 12, j 13, j 14, j 15, j 16, j 17, j 18, j 19, j 20, j 21, j 22, j 23, j 24, j 25, j 26, j 27, j 28, j 29, j 30, j 31, j 32, j 33, j 34, j 35, j 36, j 37, j 38, j 39, j 40, j 41, j 42, j 43, j 44, j 45, j 46, j 47, j 48, j 49, j 50, j 51, j 52, j 53, j 54, j 55, j 56, j 57, j 58, j 59, j 60, j 61, j 62, j 63, j 64, j 65, j 66, j 67, j 68, j 69, j 70, j 71, j 72, j 73, j 74, j 75, j 76, j 77, j 78, j 79, j 80, j 81, j 82, j 83, j 84, j 85, j 86, j 87, j 88, j 89, j 90, j 91, j 92, j 93, j 94, j 95, j 96, j 97, j 98, j 99, j 100, j 101, j 102, j 103, j 104, j 105, j 106, j 107, j 108, j 109, j 110, j 111, j 112, j 113, j 114, j 115, j 116, j 117, j 118, j 119, j 120, j 121, j 122, j 123, j 124, j 125, j 126, j 127, j 128, j 129, j 130, j 131, j 132, j 133, j 134, j 135, j 136, j 137, j 138, j 139, j 140, j 141, j 142] := hl.trans (by kernel_rfl)
    simp only [Old.getAll, List.map_cons, List.map_nil, hj, List.cons.injEq, and_true] at hv
    obtain ⟨g0, g2, g4, g5, g6⟩ := hv
    rw [e2]
    exact sh22b6_wp s_1 x2 t_3 x_4 n_5 g0 g2 g4 g5 g6 h2) h
def sh22b4 (s_1 : ByteArray) (x2 : Addr) (t_3 : Addr) (x_4 : Addr) (n_5 : Addr) (R : EW) (w : World) : Prop :=
 ∃ x6, w.cell? (n_5.add 4) = some (.bool x6) ∧ (
 ifB x6 (
 doCall Tryz.prog (.func (.func 49) #[] #[]) #[.pointer (some t_3)] w (retS (fun v8 w9 => ∃ x7, v8 = (.int .i64 x7 : Value) ∧ (
 doSt ((x_4.add 5).add 0) (.int .i64 x7) w9 (fun w10 =>
 doCall Tryz.prog (.func (.func 49) #[] #[]) #[.pointer (some t_3)] w10 (retS (fun v12 w13 => ∃ x11, v12 = (.int .i64 x11 : Value) ∧ (
 doSt ((x_4.add 6).add 0) (.int .i64 x11) w13 (fun w14 =>
 sh22k5 R [.string s_1, .pointer (some x2), .pointer (some t_3), .pointer (some x_4), .pointer (some n_5)] w14))) (kN R))))) (kN R))) (
 sh22k5 R [.string s_1, .pointer (some x2), .pointer (some t_3), .pointer (some x_4), .pointer (some n_5)] w))
def sh22k4 (R : EW) : List Value → World → Prop := fun vs w => ∃ (s_1 : ByteArray), ∃ (x2 : Addr), ∃ (t_3 : Addr), ∃ (x_4 : Addr), ∃ (n_5 : Addr), vs = [.string s_1, .pointer (some x2), .pointer (some t_3), .pointer (some x_4), .pointer (some n_5)] ∧ sh22b4 s_1 x2 t_3 x_4 n_5 R w
theorem sh22b4_wp {j : Nat → Value} (s_1 : ByteArray) (x2 : Addr) (t_3 : Addr) (x_4 : Addr) (n_5 : Addr) {R : EW} {w : World} (g0 : j 0 = (.string s_1 : Value)) (g2 : j 2 = (.pointer (some x2) : Value)) (g4 : j 4 = (.pointer (some t_3) : Value)) (g5 : j 5 = (.pointer (some x_4) : Value)) (g6 : j 6 = (.pointer (some n_5) : Value)) (h : sh22b4 s_1 x2 t_3 x_4 n_5 R w) : Code.wpIn (fen none) 0 Tryz.prog (Old.tailC 9 (bodyOf Tryz.f22)) (Old.full (Qfn Tryz.prog Tryz.f22 R) (Kfn R)) { tmps := #[j 0, j 1, j 2, j 3, j 4, j 5, j 6, j 7, j 8, j 9, j 10, j 11, j 12, j 13, j 14, j 15, j 16, j 17, j 18, j 19, j 20, j 21, j 22, j 23, j 24, j 25, j 26, j 27, j 28, j 29, j 30, j 31, j 32, j 33, j 34, j 35, j 36, j 37, j 38, j 39, j 40, j 41, j 42, j 43, j 44, j 45, j 46, j 47, j 48, j 49, j 50, j 51, j 52, j 53, j 54, j 55, j 56, j 57, j 58, j 59, j 60, j 61, j 62, j 63, j 64, j 65, j 66, j 67, j 68, j 69, j 70, j 71, j 72, j 73, j 74, j 75, j 76, j 77, j 78, j 79, j 80, j 81, j 82, j 83, j 84, j 85, j 86, j 87, j 88, j 89, j 90, j 91, j 92, j 93, j 94, j 95, j 96, j 97, j 98, j 99, j 100, j 101, j 102, j 103, j 104, j 105, j 106, j 107, j 108, j 109, j 110, j 111, j 112, j 113, j 114, j 115, j 116, j 117, j 118, j 119, j 120, j 121, j 122, j 123, j 124, j 125, j 126, j 127, j 128, j 129, j 130, j 131, j 132, j 133, j 134, j 135, j 136, j 137, j 138, j 139, j 140, j 141, j 142], defers := [] } w := by
  rw [g0, g2, g4, g5, g6]
  exact Old.wp_part (ann := fun _ => []) (n := 400) (k := 1) (K := sh22k5 R) (is := [0, 2, 4, 5, 6]) (X := sh22b4 s_1 x2 t_3 x_4 n_5 R w) follows_mixed (by kernel_rfl) (by kernel_rfl) (fun a' w' hK hs hd => by
    obtain ⟨s_1, x2, t_3, x_4, n_5, hv, h2⟩ := hK
    obtain ⟨tmps, defers⟩ := a'
    simp only at hs hd hv
    subst hd
    have hs : tmps.size = 143 := hs.trans (by kernel_rfl)
    have hl := Old.arr_lit hs
    obtain ⟨j, hj⟩ : ∃ j : Nat → Value, ∀ i, tmps.getD i undef = j i := ⟨_, fun _ => rfl⟩
    rw [show (fun i => tmps.getD i undef) = j from funext hj] at hl
    have e2 : tmps = #[j 0, j 1, j 2, j 3, j 4, j 5, j 6, j 7, j 8, j 9, j 10, j 11, j 12, j 13, j 14, j 15, j 16, j 17, j 18, j 19, j 20, j 21, j 22, j 23, j 24, j 25, j 26, j 27, j 28, j 29, j 30, j 31, j 32, j 33, j 34, j 35, j 36, j 37, j 38, j 39, j 40, j 41, j 42, j 43, j 44, j 45, j 46, j 47, j 48, j 49, j 50, j 51, j 52, j 53, j 54, j 55, j 56, j 57, j 58, j 59, j 60, j 61, j 62, j 63, j 64, j 65, j 66, j 67, j 68, j 69, j 70, j 71, j 72, j 73, j 74, j 75, j 76, j 77, j 78, j 79, j 80, j 81, j 82, j 83, j 84, j 85, j 86, j 87, j 88, j 89, j 90, j 91, j 92, j 93, j 94, j 95, j 96, j 97, j 98, j 99, j 100, j 101, j 102, j 103, j 104, j 105, j 106, j 107, j 108, j 109, j 110, j 111, j 112, j 113, j 114, j 115, j 116, j 117, j 118, j 119, j 120, j 121, j 122, j 123, j 124, j 125, j 126, j 127, j 128, j 129, j 130, j 131, j 132, j 133, j 134, j 135, j 136, j 137, j 138, j 139, j 140, j 141, j 142] := hl.trans (by kernel_rfl)
    simp only [Old.getAll, List.map_cons, List.map_nil, hj, List.cons.injEq, and_true] at hv
    obtain ⟨g0, g2, g4, g5, g6⟩ := hv
    rw [e2]
    exact sh22b5_wp s_1 x2 t_3 x_4 n_5 g0 g2 g4 g5 g6 h2) h
def sh22b3 (s_1 : ByteArray) (x2 : Addr) (t_3 : Addr) (x_4 : Addr) (n_5 : Addr) (R : EW) (w : World) : Prop :=
 ∃ x6, w.cell? (n_5.add 2) = some (.bool x6) ∧ (
 ifB x6 (
 doCall Tryz.prog (.func (.func 49) #[] #[]) #[.pointer (some t_3)] w (retS (fun v8 w9 => ∃ x7, v8 = (.int .i64 x7 : Value) ∧ (
 doSt ((x_4.add 3).add 0) (.int .i64 x7) w9 (fun w10 =>
 ∃ x11, w10.cell? (n_5.add 3) = some (.bool x11) ∧ (
 ifB x11 (
 doCall Tryz.prog (.func (.func 49) #[] #[]) #[.pointer (some t_3)] w10 (retS (fun v13 w14 => ∃ x12, v13 = (.int .i64 x12 : Value) ∧ (
 doSt ((x_4.add 4).add 0) (.int .i64 x12) w14 (fun w15 =>
 sh22k4 R [.string s_1, .pointer (some x2), .pointer (some t_3), .pointer (some x_4), .pointer (some n_5)] w15))) (kN R))) (
 sh22k4 R [.string s_1, .pointer (some x2), .pointer (some t_3), .pointer (some x_4), .pointer (some n_5)] w10))))) (kN R))) (
 ∃ x16, w.cell? (n_5.add 3) = some (.bool x16) ∧ (
 ifB x16 (
 doCall Tryz.prog (.func (.func 49) #[] #[]) #[.pointer (some t_3)] w (retS (fun v18 w19 => ∃ x17, v18 = (.int .i64 x17 : Value) ∧ (
 doSt ((x_4.add 4).add 0) (.int .i64 x17) w19 (fun w20 =>
 sh22k4 R [.string s_1, .pointer (some x2), .pointer (some t_3), .pointer (some x_4), .pointer (some n_5)] w20))) (kN R))) (
 sh22k4 R [.string s_1, .pointer (some x2), .pointer (some t_3), .pointer (some x_4), .pointer (some n_5)] w))))
def sh22k3 (R : EW) : List Value → World → Prop := fun vs w => ∃ (s_1 : ByteArray), ∃ (x2 : Addr), ∃ (t_3 : Addr), ∃ (x_4 : Addr), ∃ (n_5 : Addr), vs = [.string s_1, .pointer (some x2), .pointer (some t_3), .pointer (some x_4), .pointer (some n_5)] ∧ sh22b3 s_1 x2 t_3 x_4 n_5 R w
theorem sh22b3_wp {j : Nat → Value} (s_1 : ByteArray) (x2 : Addr) (t_3 : Addr) (x_4 : Addr) (n_5 : Addr) {R : EW} {w : World} (g0 : j 0 = (.string s_1 : Value)) (g2 : j 2 = (.pointer (some x2) : Value)) (g4 : j 4 = (.pointer (some t_3) : Value)) (g5 : j 5 = (.pointer (some x_4) : Value)) (g6 : j 6 = (.pointer (some n_5) : Value)) (h : sh22b3 s_1 x2 t_3 x_4 n_5 R w) : Code.wpIn (fen none) 0 Tryz.prog (Old.tailC 7 (bodyOf Tryz.f22)) (Old.full (Qfn Tryz.prog Tryz.f22 R) (Kfn R)) { tmps := #[j 0, j 1, j 2, j 3, j 4, j 5, j 6, j 7, j 8, j 9, j 10, j 11, j 12, j 13, j 14, j 15, j 16, j 17, j 18, j 19, j 20, j 21, j 22, j 23, j 24, j 25, j 26, j 27, j 28, j 29, j 30, j 31, j 32, j 33, j 34, j 35, j 36, j 37, j 38, j 39, j 40, j 41, j 42, j 43, j 44, j 45, j 46, j 47, j 48, j 49, j 50, j 51, j 52, j 53, j 54, j 55, j 56, j 57, j 58, j 59, j 60, j 61, j 62, j 63, j 64, j 65, j 66, j 67, j 68, j 69, j 70, j 71, j 72, j 73, j 74, j 75, j 76, j 77, j 78, j 79, j 80, j 81, j 82, j 83, j 84, j 85, j 86, j 87, j 88, j 89, j 90, j 91, j 92, j 93, j 94, j 95, j 96, j 97, j 98, j 99, j 100, j 101, j 102, j 103, j 104, j 105, j 106, j 107, j 108, j 109, j 110, j 111, j 112, j 113, j 114, j 115, j 116, j 117, j 118, j 119, j 120, j 121, j 122, j 123, j 124, j 125, j 126, j 127, j 128, j 129, j 130, j 131, j 132, j 133, j 134, j 135, j 136, j 137, j 138, j 139, j 140, j 141, j 142], defers := [] } w := by
  rw [g0, g2, g4, g5, g6]
  exact Old.wp_part (ann := fun _ => []) (n := 400) (k := 2) (K := sh22k4 R) (is := [0, 2, 4, 5, 6]) (X := sh22b3 s_1 x2 t_3 x_4 n_5 R w) follows_mixed (by kernel_rfl) (by kernel_rfl) (fun a' w' hK hs hd => by
    obtain ⟨s_1, x2, t_3, x_4, n_5, hv, h2⟩ := hK
    obtain ⟨tmps, defers⟩ := a'
    simp only at hs hd hv
    subst hd
    have hs : tmps.size = 143 := hs.trans (by kernel_rfl)
    have hl := Old.arr_lit hs
    obtain ⟨j, hj⟩ : ∃ j : Nat → Value, ∀ i, tmps.getD i undef = j i := ⟨_, fun _ => rfl⟩
    rw [show (fun i => tmps.getD i undef) = j from funext hj] at hl
    have e2 : tmps = #[j 0, j 1, j 2, j 3, j 4, j 5, j 6, j 7, j 8, j 9, j 10, j 11, j 12, j 13, j 14, j 15, j 16, j 17, j 18, j 19, j 20, j 21, j 22, j 23, j 24, j 25, j 26, j 27, j 28, j 29, j 30, j 31, j 32, j 33, j 34, j 35, j 36, j 37, j 38, j 39, j 40, j 41, j 42, j 43, j 44, j 45, j 46, j 47, j 48, j 49, j 50, j 51, j 52, j 53, j 54, j 55, j 56, j 57, j 58, j 59, j 60, j 61, j 62, j 63, j 64, j 65, j 66, j 67, j 68, j 69, j 70, j 71, j 72, j 73, j 74, j 75, j 76, j 77, j 78, j 79, j 80, j 81, j 82, j 83, j 84, j 85, j 86, j 87, j 88, j 89, j 90, j 91, j 92, j 93, j 94, j 95, j 96, j 97, j 98, j 99, j 100, j 101, j 102, j 103, j 104, j 105, j 106, j 107, j 108, j 109, j 110, j 111, j 112, j 113, j 114, j 115, j 116, j 117, j 118, j 119, j 120, j 121, j 122, j 123, j 124, j 125, j 126, j 127, j 128, j 129, j 130, j 131, j 132, j 133, j 134, j 135, j 136, j 137, j 138, j 139, j 140, j 141, j 142] := hl.trans (by kernel_rfl)
    simp only [Old.getAll, List.map_cons, List.map_nil, hj, List.cons.injEq, and_true] at hv
    obtain ⟨g0, g2, g4, g5, g6⟩ := hv
    rw [e2]
    exact sh22b4_wp s_1 x2 t_3 x_4 n_5 g0 g2 g4 g5 g6 h2) h
def sh22b2 (s_1 : ByteArray) (x2 : Addr) (t_3 : Addr) (x_4 : Addr) (n_5 : Addr) (R : EW) (w : World) : Prop :=
 ∃ x6, w.cell? (n_5.add 0) = some (.bool x6) ∧ (
 ifB x6 (
 doCall Tryz.prog (.func (.func 49) #[] #[]) #[.pointer (some t_3)] w (retS (fun v8 w9 => ∃ x7, v8 = (.int .i64 x7 : Value) ∧ (
 doSt ((x_4.add 1).add 0) (.int .i64 x7) w9 (fun w10 =>
 ∃ x11, w10.cell? (n_5.add 1) = some (.bool x11) ∧ (
 ifB x11 (
 doCall Tryz.prog (.func (.func 49) #[] #[]) #[.pointer (some t_3)] w10 (retS (fun v13 w14 => ∃ x12, v13 = (.int .i64 x12 : Value) ∧ (
 doSt ((x_4.add 2).add 0) (.int .i64 x12) w14 (fun w15 =>
 sh22k3 R [.string s_1, .pointer (some x2), .pointer (some t_3), .pointer (some x_4), .pointer (some n_5)] w15))) (kN R))) (
 sh22k3 R [.string s_1, .pointer (some x2), .pointer (some t_3), .pointer (some x_4), .pointer (some n_5)] w10))))) (kN R))) (
 ∃ x16, w.cell? (n_5.add 1) = some (.bool x16) ∧ (
 ifB x16 (
 doCall Tryz.prog (.func (.func 49) #[] #[]) #[.pointer (some t_3)] w (retS (fun v18 w19 => ∃ x17, v18 = (.int .i64 x17 : Value) ∧ (
 doSt ((x_4.add 2).add 0) (.int .i64 x17) w19 (fun w20 =>
 sh22k3 R [.string s_1, .pointer (some x2), .pointer (some t_3), .pointer (some x_4), .pointer (some n_5)] w20))) (kN R))) (
 sh22k3 R [.string s_1, .pointer (some x2), .pointer (some t_3), .pointer (some x_4), .pointer (some n_5)] w))))
def sh22k2 (R : EW) : List Value → World → Prop := fun vs w => ∃ (s_1 : ByteArray), ∃ (x2 : Addr), ∃ (t_3 : Addr), ∃ (x_4 : Addr), ∃ (n_5 : Addr), vs = [.string s_1, .pointer (some x2), .pointer (some t_3), .pointer (some x_4), .pointer (some n_5)] ∧ sh22b2 s_1 x2 t_3 x_4 n_5 R w
theorem sh22b2_wp {j : Nat → Value} (s_1 : ByteArray) (x2 : Addr) (t_3 : Addr) (x_4 : Addr) (n_5 : Addr) {R : EW} {w : World} (g0 : j 0 = (.string s_1 : Value)) (g2 : j 2 = (.pointer (some x2) : Value)) (g4 : j 4 = (.pointer (some t_3) : Value)) (g5 : j 5 = (.pointer (some x_4) : Value)) (g6 : j 6 = (.pointer (some n_5) : Value)) (h : sh22b2 s_1 x2 t_3 x_4 n_5 R w) : Code.wpIn (fen none) 0 Tryz.prog (Old.tailC 5 (bodyOf Tryz.f22)) (Old.full (Qfn Tryz.prog Tryz.f22 R) (Kfn R)) { tmps := #[j 0, j 1, j 2, j 3, j 4, j 5, j 6, j 7, j 8, j 9, j 10, j 11, j 12, j 13, j 14, j 15, j 16, j 17, j 18, j 19, j 20, j 21, j 22, j 23, j 24, j 25, j 26, j 27, j 28, j 29, j 30, j 31, j 32, j 33, j 34, j 35, j 36, j 37, j 38, j 39, j 40, j 41, j 42, j 43, j 44, j 45, j 46, j 47, j 48, j 49, j 50, j 51, j 52, j 53, j 54, j 55, j 56, j 57, j 58, j 59, j 60, j 61, j 62, j 63, j 64, j 65, j 66, j 67, j 68, j 69, j 70, j 71, j 72, j 73, j 74, j 75, j 76, j 77, j 78, j 79, j 80, j 81, j 82, j 83, j 84, j 85, j 86, j 87, j 88, j 89, j 90, j 91, j 92, j 93, j 94, j 95, j 96, j 97, j 98, j 99, j 100, j 101, j 102, j 103, j 104, j 105, j 106, j 107, j 108, j 109, j 110, j 111, j 112, j 113, j 114, j 115, j 116, j 117, j 118, j 119, j 120, j 121, j 122, j 123, j 124, j 125, j 126, j 127, j 128, j 129, j 130, j 131, j 132, j 133, j 134, j 135, j 136, j 137, j 138, j 139, j 140, j 141, j 142], defers := [] } w := by
  rw [g0, g2, g4, g5, g6]
  exact Old.wp_part (ann := fun _ => []) (n := 400) (k := 2) (K := sh22k3 R) (is := [0, 2, 4, 5, 6]) (X := sh22b2 s_1 x2 t_3 x_4 n_5 R w) follows_mixed (by kernel_rfl) (by kernel_rfl) (fun a' w' hK hs hd => by
    obtain ⟨s_1, x2, t_3, x_4, n_5, hv, h2⟩ := hK
    obtain ⟨tmps, defers⟩ := a'
    simp only at hs hd hv
    subst hd
    have hs : tmps.size = 143 := hs.trans (by kernel_rfl)
    have hl := Old.arr_lit hs
    obtain ⟨j, hj⟩ : ∃ j : Nat → Value, ∀ i, tmps.getD i undef = j i := ⟨_, fun _ => rfl⟩
    rw [show (fun i => tmps.getD i undef) = j from funext hj] at hl
    have e2 : tmps = #[j 0, j 1, j 2, j 3, j 4, j 5, j 6, j 7, j 8, j 9, j 10, j 11, j 12, j 13, j 14, j 15, j 16, j 17, j 18, j 19, j 20, j 21, j 22, j 23, j 24, j 25, j 26, j 27, j 28, j 29, j 30, j 31, j 32, j 33, j 34, j 35, j 36, j 37, j 38, j 39, j 40, j 41, j 42, j 43, j 44, j 45, j 46, j 47, j 48, j 49, j 50, j 51, j 52, j 53, j 54, j 55, j 56, j 57, j 58, j 59, j 60, j 61, j 62, j 63, j 64, j 65, j 66, j 67, j 68, j 69, j 70, j 71, j 72, j 73, j 74, j 75, j 76, j 77, j 78, j 79, j 80, j 81, j 82, j 83, j 84, j 85, j 86, j 87, j 88, j 89, j 90, j 91, j 92, j 93, j 94, j 95, j 96, j 97, j 98, j 99, j 100, j 101, j 102, j 103, j 104, j 105, j 106, j 107, j 108, j 109, j 110, j 111, j 112, j 113, j 114, j 115, j 116, j 117, j 118, j 119, j 120, j 121, j 122, j 123, j 124, j 125, j 126, j 127, j 128, j 129, j 130, j 131, j 132, j 133, j 134, j 135, j 136, j 137, j 138, j 139, j 140, j 141, j 142] := hl.trans (by kernel_rfl)
    simp only [Old.getAll, List.map_cons, List.map_nil, hj, List.cons.injEq, and_true] at hv
    obtain ⟨g0, g2, g4, g5, g6⟩ := hv
    rw [e2]
    exact sh22b3_wp s_1 x2 t_3 x_4 n_5 g0 g2 g4 g5 g6 h2) h
def sh22b1 (s_1 : ByteArray) (x2 : Addr) (t_3 : Addr) (R : EW) (w : World) : Prop :=
 doCall Tryz.prog (.func (.func 48) #[] #[]) #[.pointer (some t_3)] w (retS (fun v5 w6 => ∃ x4, v5 = (.string x4 : Value) ∧ (
 doCall Tryz.prog (.func (.func 47) #[] #[]) #[.string x4, .int .u8 22, .int .i64 0] w6 (retS (fun v8 w9 => ∃ x7, v8 = (.int .u8 x7 : Value) ∧ (
 doAl (.cells #[.int .u8 0, .int .i64 0, .int .i64 0, .int .i64 0, .int .i64 0, .int .i64 0, .int .i64 0, .int .i64 0, .int .u8 0, .int .u8 0, .int .i64 0, .int .i64 0, .bool false, .slice none 0 0, .slice none 0 0] 37) w9 (fun b10 w11 =>
 doSt ((blk b10).add 0) (.int .u8 x7) w11 (fun w12 =>
 doSt ((blk b10).add 1) (.int .i64 0) w12 (fun w13 =>
 doSt ((blk b10).add 2) (.int .i64 0) w13 (fun w14 =>
 doSt ((blk b10).add 3) (.int .i64 0) w14 (fun w15 =>
 doSt ((blk b10).add 4) (.int .i64 0) w15 (fun w16 =>
 doSt ((blk b10).add 5) (.int .i64 0) w16 (fun w17 =>
 doSt ((blk b10).add 6) (.int .i64 0) w17 (fun w18 =>
 doSt ((blk b10).add 7) (.int .i64 0) w18 (fun w19 =>
 doSt ((blk b10).add 8) (.int .u8 0) w19 (fun w20 =>
 doSt ((blk b10).add 9) (.int .u8 0) w20 (fun w21 =>
 doSt ((blk b10).add 10) (.int .i64 0) w21 (fun w22 =>
 doSt ((blk b10).add 11) (.int .i64 0) w22 (fun w23 =>
 doSt ((blk b10).add 12) (.bool false) w23 (fun w24 =>
 doSt ((blk b10).add 13) (.slice none 0 0) w24 (fun w25 =>
 doSt ((blk b10).add 14) (.slice none 0 0) w25 (fun w26 =>
 ∃ x27, w26.cell? ((blk b10).add 0) = some (.int .u8 x27) ∧ (
 doCall Tryz.prog (.func (.func 30) #[] #[]) #[.int .u8 x27] w26 (retS (fun v40 w41 => ∃ x28 x29 x30 x31 x32 x33 x34 x35 x36 x37 x38 x39, v40 = (.tuple #[.agg #[.bool x28, .bool x29, .bool x30, .bool x31, .bool x32, .bool x33, .bool x34, .bool x35, .bool x36, .bool x37, .bool x38], .bool x39] : Value) ∧ (
 doAl (.cells #[.bool false, .bool false, .bool false, .bool false, .bool false, .bool false, .bool false, .bool false, .bool false, .bool false, .bool false] 67) w41 (fun b42 w43 =>
 doSt ((blk b42).add 0) (.bool x28) w43 (fun w44 =>
 doSt ((blk b42).add 1) (.bool x29) w44 (fun w45 =>
 doSt ((blk b42).add 2) (.bool x30) w45 (fun w46 =>
 doSt ((blk b42).add 3) (.bool x31) w46 (fun w47 =>
 doSt ((blk b42).add 4) (.bool x32) w47 (fun w48 =>
 doSt ((blk b42).add 5) (.bool x33) w48 (fun w49 =>
 doSt ((blk b42).add 6) (.bool x34) w49 (fun w50 =>
 doSt ((blk b42).add 7) (.bool x35) w50 (fun w51 =>
 doSt ((blk b42).add 8) (.bool x36) w51 (fun w52 =>
 doSt ((blk b42).add 9) (.bool x37) w52 (fun w53 =>
 doSt ((blk b42).add 10) (.bool x38) w53 (fun w54 =>
 sh22k2 R [.string s_1, .pointer (some x2), .pointer (some t_3), .pointer (some (blk b10)), .pointer (some (blk b42))] w54)))))))))))))) (kN R))))))))))))))))))))) (kN R)))) (kN R))
def sh22k1 (R : EW) : List Value → World → Prop := fun vs w => ∃ (s_1 : ByteArray), ∃ (x2 : Addr), ∃ (t_3 : Addr), vs = [.string s_1, .pointer (some x2), .pointer (some t_3)] ∧ sh22b1 s_1 x2 t_3 R w
theorem sh22b1_wp {j : Nat → Value} (s_1 : ByteArray) (x2 : Addr) (t_3 : Addr) {R : EW} {w : World} (g0 : j 0 = (.string s_1 : Value)) (g2 : j 2 = (.pointer (some x2) : Value)) (g4 : j 4 = (.pointer (some t_3) : Value)) (h : sh22b1 s_1 x2 t_3 R w) : Code.wpIn (fen none) 0 Tryz.prog (Old.tailC 3 (bodyOf Tryz.f22)) (Old.full (Qfn Tryz.prog Tryz.f22 R) (Kfn R)) { tmps := #[j 0, j 1, j 2, j 3, j 4, j 5, j 6, j 7, j 8, j 9, j 10, j 11, j 12, j 13, j 14, j 15, j 16, j 17, j 18, j 19, j 20, j 21, j 22, j 23, j 24, j 25, j 26, j 27, j 28, j 29, j 30, j 31, j 32, j 33, j 34, j 35, j 36, j 37, j 38, j 39, j 40, j 41, j 42, j 43, j 44, j 45, j 46, j 47, j 48, j 49, j 50, j 51, j 52, j 53, j 54, j 55, j 56, j 57, j 58, j 59, j 60, j 61, j 62, j 63, j 64, j 65, j 66, j 67, j 68, j 69, j 70, j 71, j 72, j 73, j 74, j 75, j 76, j 77, j 78, j 79, j 80, j 81, j 82, j 83, j 84, j 85, j 86, j 87, j 88, j 89, j 90, j 91, j 92, j 93, j 94, j 95, j 96, j 97, j 98, j 99, j 100, j 101, j 102, j 103, j 104, j 105, j 106, j 107, j 108, j 109, j 110, j 111, j 112, j 113, j 114, j 115, j 116, j 117, j 118, j 119, j 120, j 121, j 122, j 123, j 124, j 125, j 126, j 127, j 128, j 129, j 130, j 131, j 132, j 133, j 134, j 135, j 136, j 137, j 138, j 139, j 140, j 141, j 142], defers := [] } w := by
  rw [g0, g2, g4]
  exact Old.wp_part (ann := fun _ => []) (n := 400) (k := 2) (K := sh22k2 R) (is := [0, 2, 4, 5, 6]) (X := sh22b1 s_1 x2 t_3 R w) follows_mixed (by kernel_rfl) (by kernel_rfl) (fun a' w' hK hs hd => by
    obtain ⟨s_1, x2, t_3, x_4, n_5, hv, h2⟩ := hK
    obtain ⟨tmps, defers⟩ := a'
    simp only at hs hd hv
    subst hd
    have hs : tmps.size = 143 := hs.trans (by kernel_rfl)
    have hl := Old.arr_lit hs
    obtain ⟨j, hj⟩ : ∃ j : Nat → Value, ∀ i, tmps.getD i undef = j i := ⟨_, fun _ => rfl⟩
    rw [show (fun i => tmps.getD i undef) = j from funext hj] at hl
    have e2 : tmps = #[j 0, j 1, j 2, j 3, j 4, j 5, j 6, j 7, j 8, j 9, j 10, j 11, j 12, j 13, j 14, j 15, j 16, j 17, j 18, j 19, j 20, j 21, j 22, j 23, j 24, j 25, j 26, j 27, j 28, j 29, j 30, j 31, j 32, j 33, j 34, j 35, j 36, j 37, j 38, j 39, j 40, j 41, j 42, j 43, j 44, j 45, j 46, j 47, j 48, j 49, j 50, j 51, j 52, j 53, j 54, j 55, j 56, j 57, j 58, j 59, j 60, j 61, j 62, j 63, j 64, j 65, j 66, j 67, j 68, j 69, j 70, j 71, j 72, j 73, j 74, j 75, j 76, j 77, j 78, j 79, j 80, j 81, j 82, j 83, j 84, j 85, j 86, j 87, j 88, j 89, j 90, j 91, j 92, j 93, j 94, j 95, j 96, j 97, j 98, j 99, j 100, j 101, j 102, j 103, j 104, j 105, j 106, j 107, j 108, j 109, j 110, j 111, j 112, j 113, j 114, j 115, j 116, j 117, j 118, j 119, j 120, j 121, j 122, j 123, j 124, j 125, j 126, j 127, j 128, j 129, j 130, j 131, j 132, j 133, j 134, j 135, j 136, j 137, j 138, j 139, j 140, j 141, j 142] := hl.trans (by kernel_rfl)
    simp only [Old.getAll, List.map_cons, List.map_nil, hj, List.cons.injEq, and_true] at hv
    obtain ⟨g0, g2, g4, g5, g6⟩ := hv
    rw [e2]
    exact sh22b2_wp s_1 x2 t_3 x_4 n_5 g0 g2 g4 g5 g6 h2) h
def sh22 (s_1 : ByteArray) (R : EW) (w : World) : Prop :=
 doAl (.cells #[.int .u8 0, .int .i64 0, .int .i64 0, .int .i64 0, .int .i64 0, .int .i64 0, .int .i64 0, .int .i64 0, .int .u8 0, .int .u8 0, .int .i64 0, .int .i64 0, .bool false, .slice none 0 0, .slice none 0 0] 37) w (fun b2 w3 =>
 ifB (decide ((((s_1.size : Nat) : Int) : Int) > 262144)) (
 doSt ((blk b2).add 0) (.int .u8 0) w3 (fun w4 =>
 doSt ((blk b2).add 1) (.int .i64 0) w4 (fun w5 =>
 doSt ((blk b2).add 2) (.int .i64 0) w5 (fun w6 =>
 doSt ((blk b2).add 3) (.int .i64 0) w6 (fun w7 =>
 doSt ((blk b2).add 4) (.int .i64 0) w7 (fun w8 =>
 doSt ((blk b2).add 5) (.int .i64 0) w8 (fun w9 =>
 doSt ((blk b2).add 6) (.int .i64 0) w9 (fun w10 =>
 doSt ((blk b2).add 7) (.int .i64 0) w10 (fun w11 =>
 doSt ((blk b2).add 8) (.int .u8 0) w11 (fun w12 =>
 doSt ((blk b2).add 9) (.int .u8 0) w12 (fun w13 =>
 doSt ((blk b2).add 10) (.int .i64 0) w13 (fun w14 =>
 doSt ((blk b2).add 11) (.int .i64 0) w14 (fun w15 =>
 doSt ((blk b2).add 12) (.bool false) w15 (fun w16 =>
 doSt ((blk b2).add 13) (.slice none 0 0) w16 (fun w17 =>
 doSt ((blk b2).add 14) (.slice none 0 0) w17 (fun w18 =>
 ∃ x19, w18.cell? ((blk b2).add 0) = some (.int .u8 x19) ∧ (
 ∃ x20, w18.cell? ((blk b2).add 1) = some (.int .i64 x20) ∧ (
 ∃ x21, w18.cell? ((blk b2).add 2) = some (.int .i64 x21) ∧ (
 ∃ x22, w18.cell? ((blk b2).add 3) = some (.int .i64 x22) ∧ (
 ∃ x23, w18.cell? ((blk b2).add 4) = some (.int .i64 x23) ∧ (
 ∃ x24, w18.cell? ((blk b2).add 5) = some (.int .i64 x24) ∧ (
 ∃ x25, w18.cell? ((blk b2).add 6) = some (.int .i64 x25) ∧ (
 ∃ x26, w18.cell? ((blk b2).add 7) = some (.int .i64 x26) ∧ (
 ∃ x27, w18.cell? ((blk b2).add 8) = some (.int .u8 x27) ∧ (
 ∃ x28, w18.cell? ((blk b2).add 9) = some (.int .u8 x28) ∧ (
 ∃ x29, w18.cell? ((blk b2).add 10) = some (.int .i64 x29) ∧ (
 ∃ x30, w18.cell? ((blk b2).add 11) = some (.int .i64 x30) ∧ (
 ∃ x31, w18.cell? ((blk b2).add 12) = some (.bool x31) ∧ (
 ∃ xp32 xn33 xc34, w18.cell? ((blk b2).add 13) = some (.slice xp32 xn33 xc34) ∧ (
 ∃ xp35 xn36 xc37, w18.cell? ((blk b2).add 14) = some (.slice xp35 xn36 xc37) ∧ (
 R (.returned (.tuple #[.agg #[.int .u8 x19, .int .i64 x20, .int .i64 x21, .int .i64 x22, .int .i64 x23, .int .i64 x24, .int .i64 x25, .int .i64 x26, .int .u8 x27, .int .u8 x28, .int .i64 x29, .int .i64 x30, .bool x31, .slice xp32 xn33 xc34, .slice xp35 xn36 xc37], .int .i64 5])) w18))))))))))))))))))))))))))))))) (
 doCall Tryz.prog (.func (.func 46) #[] #[]) #[.string s_1] w3 (retS (fun v41 w42 => ∃ xp38 xn39 xc40, v41 = (.slice xp38 xn39 xc40 : Value) ∧ (
 doAl (.cells #[.slice xp38 xn39 xc40] 91) w42 (fun b43 w44 =>
 sh22k1 R [.string s_1, .pointer (some (blk b2)), .pointer (some (blk b43))] w44))) (kN R))))
theorem sh22_ok (s_1 : ByteArray) {R : EW} {w : World} : sh22 s_1 R w → Calls Tryz.prog 22 #[.string s_1] w R := fun h =>
  Old.calls_of_wp (fn := Tryz.f22) (c := bodyOf Tryz.f22) (args := #[.string s_1]) Tryz.func22 (by kernel_rfl) (Old.wp_part (ann := fun _ => []) (n := 400) (k := 3) (K := sh22k1 R) (is := [0, 2, 4]) (X := sh22 s_1 R w) follows_mixed (by kernel_rfl) (by kernel_rfl) (fun a' w' hK hs hd => by
    obtain ⟨s_1, x2, t_3, hv, h2⟩ := hK
    obtain ⟨tmps, defers⟩ := a'
    simp only at hs hd hv
    subst hd
    have hs : tmps.size = 143 := hs.trans (by kernel_rfl)
    have hl := Old.arr_lit hs
    obtain ⟨j, hj⟩ : ∃ j : Nat → Value, ∀ i, tmps.getD i undef = j i := ⟨_, fun _ => rfl⟩
    rw [show (fun i => tmps.getD i undef) = j from funext hj] at hl
    have e2 : tmps = #[j 0, j 1, j 2, j 3, j 4, j 5, j 6, j 7, j 8, j 9, j 10, j 11, j 12, j 13, j 14, j 15, j 16, j 17, j 18, j 19, j 20, j 21, j 22, j 23, j 24, j 25, j 26, j 27, j 28, j 29, j 30, j 31, j 32, j 33, j 34, j 35, j 36, j 37, j 38, j 39, j 40, j 41, j 42, j 43, j 44, j 45, j 46, j 47, j 48, j 49, j 50, j 51, j 52, j 53, j 54, j 55, j 56, j 57, j 58, j 59, j 60, j 61, j 62, j 63, j 64, j 65, j 66, j 67, j 68, j 69, j 70, j 71, j 72, j 73, j 74, j 75, j 76, j 77, j 78, j 79, j 80, j 81, j 82, j 83, j 84, j 85, j 86, j 87, j 88, j 89, j 90, j 91, j 92, j 93, j 94, j 95, j 96, j 97, j 98, j 99, j 100, j 101, j 102, j 103, j 104, j 105, j 106, j 107, j 108, j 109, j 110, j 111, j 112, j 113, j 114, j 115, j 116, j 117, j 118, j 119, j 120, j 121, j 122, j 123, j 124, j 125, j 126, j 127, j 128, j 129, j 130, j 131, j 132, j 133, j 134, j 135, j 136, j 137, j 138, j 139, j 140, j 141, j 142] := hl.trans (by kernel_rfl)
    simp only [Old.getAll, List.map_cons, List.map_nil, hj, List.cons.injEq, and_true] at hv
    obtain ⟨g0, g2, g4⟩ := hv
    rw [e2]
    exact sh22b1_wp s_1 x2 t_3 g0 g2 g4 h2) h)
end Go.Proofs.YtmkpkmdnapccgaaGreatDoor

