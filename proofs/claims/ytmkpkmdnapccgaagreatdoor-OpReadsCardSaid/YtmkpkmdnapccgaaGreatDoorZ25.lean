/-
  Printed by a program (gen.py): what the functions of the program do, as formulas; each with the proof that its call is what the formula says.
-/
import Derived.Test.YtmkpkmdnapccgaaGreatDoorZ04
import Derived.Test.YtmkpkmdnapccgaaGreatDoorZ07
import Derived.Test.YtmkpkmdnapccgaaGreatDoorProg
import Derived.Test.YtmkpkmdnapccgaaGreatDoorZ05
import Derived.Test.YtmkpkmdnapccgaaGreatDoorZ24

set_option maxRecDepth 100000
set_option maxHeartbeats 6400000
namespace Go.Proofs.YtmkpkmdnapccgaaGreatDoor
open Go Go.Sh
def sh16b4 (x_1 : Addr) (n_2 : Addr) (R : EW) (w : World) : Prop :=
 let K5 : Bool → World → Prop := fun x3 w4 => 
 R (.returned (.bool x3)) w4
 ∃ x6, w.cell? (n_2.add 7) = some (.bool x6) ∧ (
 ifB (!x6) (
 ∃ x7, w.cell? (n_2.add 8) = some (.bool x7) ∧ (
 ifB (!x7) (
 ∃ xp8 xn9 xc10, w.cell? (x_1.add 13) = some (.slice xp8 xn9 xc10) ∧ (
 ifB (decide ((((xn9 : Nat) : Int) : Int) ≤ 4096)) (
 ∃ xp11 xn12 xc13, w.cell? (x_1.add 14) = some (.slice xp11 xn12 xc13) ∧ (
 K5 (decide ((((xn12 : Nat) : Int) : Int) ≤ 4096)) w)) (
 R (.returned (.bool false)) w))) (
 ∃ x14, w.cell? ((x_1.add 9).add 0) = some (.int .u8 x14) ∧ (
 ∃ x15, w.cell? ((x_1.add 9).add 1) = some (.int .i64 x15) ∧ (
 ∃ x16, w.cell? ((x_1.add 9).add 2) = some (.int .i64 x16) ∧ (
 ∃ x17, w.cell? ((x_1.add 9).add 3) = some (.bool x17) ∧ (
 doCall Tryz.prog (.func (.func 37) #[] #[]) #[.agg #[.int .u8 x14, .int .i64 x15, .int .i64 x16, .bool x17]] w (retS (fun v19 w20 => ∃ x18, v19 = (.bool x18 : Value) ∧ (
 ifB x18 (
 ∃ xp21 xn22 xc23, w20.cell? (x_1.add 13) = some (.slice xp21 xn22 xc23) ∧ (
 ifB (decide ((((xn22 : Nat) : Int) : Int) ≤ 4096)) (
 ∃ xp24 xn25 xc26, w20.cell? (x_1.add 14) = some (.slice xp24 xn25 xc26) ∧ (
 K5 (decide ((((xn25 : Nat) : Int) : Int) ≤ 4096)) w20)) (
 R (.returned (.bool false)) w20))) (
 R (.returned (.bool false)) w20))) (kN R))))))))) (
 ∃ x27, w.cell? (x_1.add 8) = some (.int .u8 x27) ∧ (
 doCall Tryz.prog (.func (.func 36) #[] #[]) #[.int .u8 x27] w (retS (fun v29 w30 => ∃ x28, v29 = (.bool x28 : Value) ∧ (
 ifB x28 (
 ∃ x31, w30.cell? (n_2.add 8) = some (.bool x31) ∧ (
 ifB (!x31) (
 ∃ xp32 xn33 xc34, w30.cell? (x_1.add 13) = some (.slice xp32 xn33 xc34) ∧ (
 ifB (decide ((((xn33 : Nat) : Int) : Int) ≤ 4096)) (
 ∃ xp35 xn36 xc37, w30.cell? (x_1.add 14) = some (.slice xp35 xn36 xc37) ∧ (
 K5 (decide ((((xn36 : Nat) : Int) : Int) ≤ 4096)) w30)) (
 R (.returned (.bool false)) w30))) (
 ∃ x38, w30.cell? ((x_1.add 9).add 0) = some (.int .u8 x38) ∧ (
 ∃ x39, w30.cell? ((x_1.add 9).add 1) = some (.int .i64 x39) ∧ (
 ∃ x40, w30.cell? ((x_1.add 9).add 2) = some (.int .i64 x40) ∧ (
 ∃ x41, w30.cell? ((x_1.add 9).add 3) = some (.bool x41) ∧ (
 doCall Tryz.prog (.func (.func 37) #[] #[]) #[.agg #[.int .u8 x38, .int .i64 x39, .int .i64 x40, .bool x41]] w30 (retS (fun v43 w44 => ∃ x42, v43 = (.bool x42 : Value) ∧ (
 ifB x42 (
 ∃ xp45 xn46 xc47, w44.cell? (x_1.add 13) = some (.slice xp45 xn46 xc47) ∧ (
 ifB (decide ((((xn46 : Nat) : Int) : Int) ≤ 4096)) (
 ∃ xp48 xn49 xc50, w44.cell? (x_1.add 14) = some (.slice xp48 xn49 xc50) ∧ (
 K5 (decide ((((xn49 : Nat) : Int) : Int) ≤ 4096)) w44)) (
 R (.returned (.bool false)) w44))) (
 R (.returned (.bool false)) w44))) (kN R))))))))) (
 R (.returned (.bool false)) w30))) (kN R)))))
def sh16k4 (R : EW) : List Value → World → Prop := fun vs w => ∃ (x_1 : Addr), ∃ (n_2 : Addr), vs = [.pointer (some x_1), .pointer (some n_2)] ∧ sh16b4 x_1 n_2 R w
theorem sh16b4_wp {j : Nat → Value} (x_1 : Addr) (n_2 : Addr) {R : EW} {w : World} (g1 : j 1 = (.pointer (some x_1) : Value)) (g3 : j 3 = (.pointer (some n_2) : Value)) (h : sh16b4 x_1 n_2 R w) : Code.wpIn (fen none) 0 Tryz.prog (Old.tailC 4 (bodyOf Tryz.f16)) (Old.full (Qfn Tryz.prog Tryz.f16 R) (Kfn R)) { tmps := #[j 0, j 1, j 2, j 3, j 4, j 5, j 6, j 7, j 8, j 9, j 10, j 11, j 12, j 13, j 14, j 15, j 16, j 17, j 18, j 19, j 20, j 21, j 22, j 23, j 24, j 25, j 26, j 27, j 28, j 29, j 30, j 31, j 32, j 33, j 34, j 35, j 36, j 37, j 38, j 39, j 40, j 41, j 42, j 43, j 44, j 45, j 46, j 47, j 48, j 49, j 50, j 51, j 52, j 53, j 54, j 55, j 56, j 57, j 58, j 59, j 60, j 61, j 62, j 63, j 64, j 65, j 66, j 67, j 68, j 69, j 70, j 71, j 72, j 73, j 74, j 75, j 76, j 77, j 78, j 79, j 80, j 81, j 82, j 83, j 84, j 85, j 86, j 87, j 88, j 89, j 90, j 91, j 92, j 93, j 94, j 95, j 96, j 97, j 98, j 99, j 100, j 101, j 102, j 103, j 104, j 105, j 106, j 107, j 108, j 109, j 110, j 111, j 112, j 113, j 114, j 115, j 116, j 117, j 118, j 119, j 120, j 121, j 122, j 123, j 124, j 125, j 126, j 127, j 128, j 129, j 130, j 131, j 132, j 133, j 134, j 135, j 136, j 137, j 138, j 139, j 140, j 141, j 142, j 143, j 144, j 145, j 146, j 147, j 148, j 149, j 150, j 151, j 152, j 153], defers := [] } w := by
  rw [g1, g3]
  exact Old.wp_last (ann := fun _ => []) (n := 400) (X := sh16b4 x_1 n_2 R w) follows_mixed (by kernel_rfl) h
def sh16b3 (x_1 : Addr) (n_2 : Addr) (R : EW) (w : World) : Prop :=
 let K5 : Bool → World → Prop := fun x3 w4 => 
 ifB x3 (
 R (.returned (.bool false)) w4) (
 sh16k4 R [.pointer (some x_1), .pointer (some n_2)] w4)
 ∃ x6, w.cell? (n_2.add 7) = some (.bool x6) ∧ (
 ifB (!x6) (
 ∃ x7, w.cell? (x_1.add 8) = some (.int .u8 x7) ∧ (
 ifB ((x7 : Int) != 0) (
 R (.returned (.bool false)) w) (
 ∃ x8, w.cell? (n_2.add 8) = some (.bool x8) ∧ (
 ifB (!x8) (
 ∃ x9, w.cell? ((x_1.add 9).add 0) = some (.int .u8 x9) ∧ (
 ∃ x10, w.cell? ((x_1.add 9).add 1) = some (.int .i64 x10) ∧ (
 ∃ x11, w.cell? ((x_1.add 9).add 2) = some (.int .i64 x11) ∧ (
 ∃ x12, w.cell? ((x_1.add 9).add 3) = some (.bool x12) ∧ (
 ifB (!(((x9 : Int) == 0) && (((x10 : Int) == 0) && (((x11 : Int) == 0) && ((x12 == false) && true))))) (
 R (.returned (.bool false)) w) (
 ∃ x13, w.cell? (n_2.add 9) = some (.bool x13) ∧ (
 ifB (!x13) (
 ∃ xp14 xn15 xc16, w.cell? (x_1.add 13) = some (.slice xp14 xn15 xc16) ∧ (
 ifB (decide ((((xn15 : Nat) : Int) : Int) > 0)) (
 R (.returned (.bool false)) w) (
 ∃ x17, w.cell? (n_2.add 10) = some (.bool x17) ∧ (
 ifB (!x17) (
 ∃ xp18 xn19 xc20, w.cell? (x_1.add 14) = some (.slice xp18 xn19 xc20) ∧ (
 K5 (decide ((((xn19 : Nat) : Int) : Int) > 0)) w)) (
 sh16k4 R [.pointer (some x_1), .pointer (some n_2)] w))))) (
 ∃ x21, w.cell? (n_2.add 10) = some (.bool x21) ∧ (
 ifB (!x21) (
 ∃ xp22 xn23 xc24, w.cell? (x_1.add 14) = some (.slice xp22 xn23 xc24) ∧ (
 K5 (decide ((((xn23 : Nat) : Int) : Int) > 0)) w)) (
 sh16k4 R [.pointer (some x_1), .pointer (some n_2)] w)))))))))) (
 ∃ x25, w.cell? (n_2.add 9) = some (.bool x25) ∧ (
 ifB (!x25) (
 ∃ xp26 xn27 xc28, w.cell? (x_1.add 13) = some (.slice xp26 xn27 xc28) ∧ (
 ifB (decide ((((xn27 : Nat) : Int) : Int) > 0)) (
 R (.returned (.bool false)) w) (
 ∃ x29, w.cell? (n_2.add 10) = some (.bool x29) ∧ (
 ifB (!x29) (
 ∃ xp30 xn31 xc32, w.cell? (x_1.add 14) = some (.slice xp30 xn31 xc32) ∧ (
 K5 (decide ((((xn31 : Nat) : Int) : Int) > 0)) w)) (
 sh16k4 R [.pointer (some x_1), .pointer (some n_2)] w))))) (
 ∃ x33, w.cell? (n_2.add 10) = some (.bool x33) ∧ (
 ifB (!x33) (
 ∃ xp34 xn35 xc36, w.cell? (x_1.add 14) = some (.slice xp34 xn35 xc36) ∧ (
 K5 (decide ((((xn35 : Nat) : Int) : Int) > 0)) w)) (
 sh16k4 R [.pointer (some x_1), .pointer (some n_2)] w))))))))) (
 ∃ x37, w.cell? (n_2.add 8) = some (.bool x37) ∧ (
 ifB (!x37) (
 ∃ x38, w.cell? ((x_1.add 9).add 0) = some (.int .u8 x38) ∧ (
 ∃ x39, w.cell? ((x_1.add 9).add 1) = some (.int .i64 x39) ∧ (
 ∃ x40, w.cell? ((x_1.add 9).add 2) = some (.int .i64 x40) ∧ (
 ∃ x41, w.cell? ((x_1.add 9).add 3) = some (.bool x41) ∧ (
 ifB (!(((x38 : Int) == 0) && (((x39 : Int) == 0) && (((x40 : Int) == 0) && ((x41 == false) && true))))) (
 R (.returned (.bool false)) w) (
 ∃ x42, w.cell? (n_2.add 9) = some (.bool x42) ∧ (
 ifB (!x42) (
 ∃ xp43 xn44 xc45, w.cell? (x_1.add 13) = some (.slice xp43 xn44 xc45) ∧ (
 ifB (decide ((((xn44 : Nat) : Int) : Int) > 0)) (
 R (.returned (.bool false)) w) (
 ∃ x46, w.cell? (n_2.add 10) = some (.bool x46) ∧ (
 ifB (!x46) (
 ∃ xp47 xn48 xc49, w.cell? (x_1.add 14) = some (.slice xp47 xn48 xc49) ∧ (
 K5 (decide ((((xn48 : Nat) : Int) : Int) > 0)) w)) (
 sh16k4 R [.pointer (some x_1), .pointer (some n_2)] w))))) (
 ∃ x50, w.cell? (n_2.add 10) = some (.bool x50) ∧ (
 ifB (!x50) (
 ∃ xp51 xn52 xc53, w.cell? (x_1.add 14) = some (.slice xp51 xn52 xc53) ∧ (
 K5 (decide ((((xn52 : Nat) : Int) : Int) > 0)) w)) (
 sh16k4 R [.pointer (some x_1), .pointer (some n_2)] w)))))))))) (
 ∃ x54, w.cell? (n_2.add 9) = some (.bool x54) ∧ (
 ifB (!x54) (
 ∃ xp55 xn56 xc57, w.cell? (x_1.add 13) = some (.slice xp55 xn56 xc57) ∧ (
 ifB (decide ((((xn56 : Nat) : Int) : Int) > 0)) (
 R (.returned (.bool false)) w) (
 ∃ x58, w.cell? (n_2.add 10) = some (.bool x58) ∧ (
 ifB (!x58) (
 ∃ xp59 xn60 xc61, w.cell? (x_1.add 14) = some (.slice xp59 xn60 xc61) ∧ (
 K5 (decide ((((xn60 : Nat) : Int) : Int) > 0)) w)) (
 sh16k4 R [.pointer (some x_1), .pointer (some n_2)] w))))) (
 ∃ x62, w.cell? (n_2.add 10) = some (.bool x62) ∧ (
 ifB (!x62) (
 ∃ xp63 xn64 xc65, w.cell? (x_1.add 14) = some (.slice xp63 xn64 xc65) ∧ (
 K5 (decide ((((xn64 : Nat) : Int) : Int) > 0)) w)) (
 sh16k4 R [.pointer (some x_1), .pointer (some n_2)] w))))))))
def sh16k3 (R : EW) : List Value → World → Prop := fun vs w => ∃ (x_1 : Addr), ∃ (n_2 : Addr), vs = [.pointer (some x_1), .pointer (some n_2)] ∧ sh16b3 x_1 n_2 R w
theorem sh16b3_wp {j : Nat → Value} (x_1 : Addr) (n_2 : Addr) {R : EW} {w : World} (g1 : j 1 = (.pointer (some x_1) : Value)) (g3 : j 3 = (.pointer (some n_2) : Value)) (h : sh16b3 x_1 n_2 R w) : Code.wpIn (fen none) 0 Tryz.prog (Old.tailC 3 (bodyOf Tryz.f16)) (Old.full (Qfn Tryz.prog Tryz.f16 R) (Kfn R)) { tmps := #[j 0, j 1, j 2, j 3, j 4, j 5, j 6, j 7, j 8, j 9, j 10, j 11, j 12, j 13, j 14, j 15, j 16, j 17, j 18, j 19, j 20, j 21, j 22, j 23, j 24, j 25, j 26, j 27, j 28, j 29, j 30, j 31, j 32, j 33, j 34, j 35, j 36, j 37, j 38, j 39, j 40, j 41, j 42, j 43, j 44, j 45, j 46, j 47, j 48, j 49, j 50, j 51, j 52, j 53, j 54, j 55, j 56, j 57, j 58, j 59, j 60, j 61, j 62, j 63, j 64, j 65, j 66, j 67, j 68, j 69, j 70, j 71, j 72, j 73, j 74, j 75, j 76, j 77, j 78, j 79, j 80, j 81, j 82, j 83, j 84, j 85, j 86, j 87, j 88, j 89, j 90, j 91, j 92, j 93, j 94, j 95, j 96, j 97, j 98, j 99, j 100, j 101, j 102, j 103, j 104, j 105, j 106, j 107, j 108, j 109, j 110, j 111, j 112, j 113, j 114, j 115, j 116, j 117, j 118, j 119, j 120, j 121, j 122, j 123, j 124, j 125, j 126, j 127, j 128, j 129, j 130, j 131, j 132, j 133, j 134, j 135, j 136, j 137, j 138, j 139, j 140, j 141, j 142, j 143, j 144, j 145, j 146, j 147, j 148, j 149, j 150, j 151, j 152, j 153], defers := [] } w := by
  rw [g1, g3]
  exact Old.wp_part (ann := fun _ => []) (n := 400) (k := 1) (K := sh16k4 R) (is := [1, 3]) (X := sh16b3 x_1 n_2 R w) follows_mixed (by kernel_rfl) (by kernel_rfl) (fun a' w' hK hs hd => by
    obtain ⟨x_1, n_2, hv, h2⟩ := hK
    obtain ⟨tmps, defers⟩ := a'
    simp only at hs hd hv
    subst hd
    have hs : tmps.size = 154 := hs.trans (by kernel_rfl)
    have hl := Old.arr_lit hs
    obtain ⟨j, hj⟩ : ∃ j : Nat → Value, ∀ i, tmps.getD i undef = j i := ⟨_, fun _ => rfl⟩
    rw [show (fun i => tmps.getD i undef) = j from funext hj] at hl
    have e2 : tmps = #[j 0, j 1, j 2, j 3, j 4, j 5, j 6, j 7, j 8, j 9, j 10, j 11, j 12, j 13, j 14, j 15, j 16, j 17, j 18, j 19, j 20, j 21, j 22, j 23, j 24, j 25, j 26, j 27, j 28, j 29, j 30, j 31, j 32, j 33, j 34, j 35, j 36, j 37, j 38, j 39, j 40, j 41, j 42, j 43, j 44, j 45, j 46, j 47, j 48, j 49, j 50, j 51, j 52, j 53, j 54, j 55, j 56, j 57, j 58, j 59, j 60, j 61, j 62, j 63, j 64, j 65, j 66, j 67, j 68, j 69, j 70, j 71, j 72, j 73, j 74, j 75, j 76, j 77, j 78, j 79, j 80, j 81, j 82, j 83, j 84, j 85, j 86, j 87, j 88, j 89, j 90, j 91, j 92, j 93, j 94, j 95, j 96, j 97, j 98, j 99, j 100, j 101, j 102, j 103, j 104, j 105, j 106, j 107, j 108, j 109, j 110, j 111, j 112, j 113, j 114, j 115, j 116, j 117, j 118, j 119, j 120, j 121, j 122, j 123, j 124, j 125, j 126, j 127, j 128, j 129, j 130, j 131, j 132, j 133, j 134, j 135, j 136, j 137, j 138, j 139, j 140, j 141, j 142, j 143, j 144, j 145, j 146, j 147, j 148, j 149, j 150, j 151, j 152, j 153] := hl.trans (by kernel_rfl)
    simp only [Old.getAll, List.map_cons, List.map_nil, hj, List.cons.injEq, and_true] at hv
    obtain ⟨g1, g3⟩ := hv
    rw [e2]
    exact sh16b4_wp x_1 n_2 g1 g3 h2) h
def sh16b2 (x_1 : Addr) (n_2 : Addr) (x3 : Bool) (R : EW) (w : World) : Prop :=
 ifB x3 (
 R (.returned (.bool false)) w) (
 ∃ x4, w.cell? (n_2.add 3) = some (.bool x4) ∧ (
 ifB (!x4) (
 ∃ x5, w.cell? (x_1.add 4) = some (.int .i64 x5) ∧ (
 ifB ((x5 : Int) != 0) (
 R (.returned (.bool false)) w) (
 ∃ x6, w.cell? (n_2.add 4) = some (.bool x6) ∧ (
 ifB (!x6) (
 ∃ x7, w.cell? (x_1.add 5) = some (.int .i64 x7) ∧ (
 ifB ((x7 : Int) != 0) (
 R (.returned (.bool false)) w) (
 ∃ x8, w.cell? (n_2.add 5) = some (.bool x8) ∧ (
 ifB (!x8) (
 ∃ x9, w.cell? (x_1.add 6) = some (.int .i64 x9) ∧ (
 ifB ((x9 : Int) != 0) (
 R (.returned (.bool false)) w) (
 ∃ x10, w.cell? (n_2.add 6) = some (.bool x10) ∧ (
 ifB (!x10) (
 ∃ x11, w.cell? (x_1.add 7) = some (.int .i64 x11) ∧ (
 ifB ((x11 : Int) != 0) (
 R (.returned (.bool false)) w) (
 sh16k3 R [.pointer (some x_1), .pointer (some n_2)] w))) (
 sh16k3 R [.pointer (some x_1), .pointer (some n_2)] w))))) (
 ∃ x12, w.cell? (n_2.add 6) = some (.bool x12) ∧ (
 ifB (!x12) (
 ∃ x13, w.cell? (x_1.add 7) = some (.int .i64 x13) ∧ (
 ifB ((x13 : Int) != 0) (
 R (.returned (.bool false)) w) (
 sh16k3 R [.pointer (some x_1), .pointer (some n_2)] w))) (
 sh16k3 R [.pointer (some x_1), .pointer (some n_2)] w))))))) (
 ∃ x14, w.cell? (n_2.add 5) = some (.bool x14) ∧ (
 ifB (!x14) (
 ∃ x15, w.cell? (x_1.add 6) = some (.int .i64 x15) ∧ (
 ifB ((x15 : Int) != 0) (
 R (.returned (.bool false)) w) (
 ∃ x16, w.cell? (n_2.add 6) = some (.bool x16) ∧ (
 ifB (!x16) (
 ∃ x17, w.cell? (x_1.add 7) = some (.int .i64 x17) ∧ (
 ifB ((x17 : Int) != 0) (
 R (.returned (.bool false)) w) (
 sh16k3 R [.pointer (some x_1), .pointer (some n_2)] w))) (
 sh16k3 R [.pointer (some x_1), .pointer (some n_2)] w))))) (
 ∃ x18, w.cell? (n_2.add 6) = some (.bool x18) ∧ (
 ifB (!x18) (
 ∃ x19, w.cell? (x_1.add 7) = some (.int .i64 x19) ∧ (
 ifB ((x19 : Int) != 0) (
 R (.returned (.bool false)) w) (
 sh16k3 R [.pointer (some x_1), .pointer (some n_2)] w))) (
 sh16k3 R [.pointer (some x_1), .pointer (some n_2)] w))))))))) (
 ∃ x20, w.cell? (n_2.add 4) = some (.bool x20) ∧ (
 ifB (!x20) (
 ∃ x21, w.cell? (x_1.add 5) = some (.int .i64 x21) ∧ (
 ifB ((x21 : Int) != 0) (
 R (.returned (.bool false)) w) (
 ∃ x22, w.cell? (n_2.add 5) = some (.bool x22) ∧ (
 ifB (!x22) (
 ∃ x23, w.cell? (x_1.add 6) = some (.int .i64 x23) ∧ (
 ifB ((x23 : Int) != 0) (
 R (.returned (.bool false)) w) (
 ∃ x24, w.cell? (n_2.add 6) = some (.bool x24) ∧ (
 ifB (!x24) (
 ∃ x25, w.cell? (x_1.add 7) = some (.int .i64 x25) ∧ (
 ifB ((x25 : Int) != 0) (
 R (.returned (.bool false)) w) (
 sh16k3 R [.pointer (some x_1), .pointer (some n_2)] w))) (
 sh16k3 R [.pointer (some x_1), .pointer (some n_2)] w))))) (
 ∃ x26, w.cell? (n_2.add 6) = some (.bool x26) ∧ (
 ifB (!x26) (
 ∃ x27, w.cell? (x_1.add 7) = some (.int .i64 x27) ∧ (
 ifB ((x27 : Int) != 0) (
 R (.returned (.bool false)) w) (
 sh16k3 R [.pointer (some x_1), .pointer (some n_2)] w))) (
 sh16k3 R [.pointer (some x_1), .pointer (some n_2)] w))))))) (
 ∃ x28, w.cell? (n_2.add 5) = some (.bool x28) ∧ (
 ifB (!x28) (
 ∃ x29, w.cell? (x_1.add 6) = some (.int .i64 x29) ∧ (
 ifB ((x29 : Int) != 0) (
 R (.returned (.bool false)) w) (
 ∃ x30, w.cell? (n_2.add 6) = some (.bool x30) ∧ (
 ifB (!x30) (
 ∃ x31, w.cell? (x_1.add 7) = some (.int .i64 x31) ∧ (
 ifB ((x31 : Int) != 0) (
 R (.returned (.bool false)) w) (
 sh16k3 R [.pointer (some x_1), .pointer (some n_2)] w))) (
 sh16k3 R [.pointer (some x_1), .pointer (some n_2)] w))))) (
 ∃ x32, w.cell? (n_2.add 6) = some (.bool x32) ∧ (
 ifB (!x32) (
 ∃ x33, w.cell? (x_1.add 7) = some (.int .i64 x33) ∧ (
 ifB ((x33 : Int) != 0) (
 R (.returned (.bool false)) w) (
 sh16k3 R [.pointer (some x_1), .pointer (some n_2)] w))) (
 sh16k3 R [.pointer (some x_1), .pointer (some n_2)] w)))))))))
def sh16k2 (R : EW) : List Value → World → Prop := fun vs w => ∃ (x_1 : Addr), ∃ (n_2 : Addr), ∃ (x3 : Bool), vs = [.pointer (some x_1), .pointer (some n_2), .bool x3] ∧ sh16b2 x_1 n_2 x3 R w
theorem sh16b2_wp {j : Nat → Value} (x_1 : Addr) (n_2 : Addr) (x3 : Bool) {R : EW} {w : World} (g1 : j 1 = (.pointer (some x_1) : Value)) (g3 : j 3 = (.pointer (some n_2) : Value)) (g42 : j 42 = (.bool x3 : Value)) (h : sh16b2 x_1 n_2 x3 R w) : Old.midW Tryz.prog none (Kfn R) 32 (Old.regOps (Old.tailC 2 (bodyOf Tryz.f16))) (Old.regZ (Old.tailC 2 (bodyOf Tryz.f16))) (Old.regY (Old.tailC 2 (bodyOf Tryz.f16))) (Qfn Tryz.prog Tryz.f16 R) { tmps := #[j 0, j 1, j 2, j 3, j 4, j 5, j 6, j 7, j 8, j 9, j 10, j 11, j 12, j 13, j 14, j 15, j 16, j 17, j 18, j 19, j 20, j 21, j 22, j 23, j 24, j 25, j 26, j 27, j 28, j 29, j 30, j 31, j 32, j 33, j 34, j 35, j 36, j 37, j 38, j 39, j 40, j 41, j 42, j 43, j 44, j 45, j 46, j 47, j 48, j 49, j 50, j 51, j 52, j 53, j 54, j 55, j 56, j 57, j 58, j 59, j 60, j 61, j 62, j 63, j 64, j 65, j 66, j 67, j 68, j 69, j 70, j 71, j 72, j 73, j 74, j 75, j 76, j 77, j 78, j 79, j 80, j 81, j 82, j 83, j 84, j 85, j 86, j 87, j 88, j 89, j 90, j 91, j 92, j 93, j 94, j 95, j 96, j 97, j 98, j 99, j 100, j 101, j 102, j 103, j 104, j 105, j 106, j 107, j 108, j 109, j 110, j 111, j 112, j 113, j 114, j 115, j 116, j 117, j 118, j 119, j 120, j 121, j 122, j 123, j 124, j 125, j 126, j 127, j 128, j 129, j 130, j 131, j 132, j 133, j 134, j 135, j 136, j 137, j 138, j 139, j 140, j 141, j 142, j 143, j 144, j 145, j 146, j 147, j 148, j 149, j 150, j 151, j 152, j 153], defers := [] } w := by
  rw [g1, g3, g42]
  exact Old.wp_half2 (ann := fun _ => []) (n := 400) (K := sh16k3 R) (is := [1, 3]) (X := sh16b2 x_1 n_2 x3 R w) follows_mixed (by kernel_rfl) (by kernel_rfl) (by kernel_rfl) (fun a' w' hK hs hd => by
    obtain ⟨x_1, n_2, hv, h2⟩ := hK
    obtain ⟨tmps, defers⟩ := a'
    simp only at hs hd hv
    subst hd
    have hs : tmps.size = 154 := hs.trans (by kernel_rfl)
    have hl := Old.arr_lit hs
    obtain ⟨j, hj⟩ : ∃ j : Nat → Value, ∀ i, tmps.getD i undef = j i := ⟨_, fun _ => rfl⟩
    rw [show (fun i => tmps.getD i undef) = j from funext hj] at hl
    have e2 : tmps = #[j 0, j 1, j 2, j 3, j 4, j 5, j 6, j 7, j 8, j 9, j 10, j 11, j 12, j 13, j 14, j 15, j 16, j 17, j 18, j 19, j 20, j 21, j 22, j 23, j 24, j 25, j 26, j 27, j 28, j 29, j 30, j 31, j 32, j 33, j 34, j 35, j 36, j 37, j 38, j 39, j 40, j 41, j 42, j 43, j 44, j 45, j 46, j 47, j 48, j 49, j 50, j 51, j 52, j 53, j 54, j 55, j 56, j 57, j 58, j 59, j 60, j 61, j 62, j 63, j 64, j 65, j 66, j 67, j 68, j 69, j 70, j 71, j 72, j 73, j 74, j 75, j 76, j 77, j 78, j 79, j 80, j 81, j 82, j 83, j 84, j 85, j 86, j 87, j 88, j 89, j 90, j 91, j 92, j 93, j 94, j 95, j 96, j 97, j 98, j 99, j 100, j 101, j 102, j 103, j 104, j 105, j 106, j 107, j 108, j 109, j 110, j 111, j 112, j 113, j 114, j 115, j 116, j 117, j 118, j 119, j 120, j 121, j 122, j 123, j 124, j 125, j 126, j 127, j 128, j 129, j 130, j 131, j 132, j 133, j 134, j 135, j 136, j 137, j 138, j 139, j 140, j 141, j 142, j 143, j 144, j 145, j 146, j 147, j 148, j 149, j 150, j 151, j 152, j 153] := hl.trans (by kernel_rfl)
    simp only [Old.getAll, List.map_cons, List.map_nil, hj, List.cons.injEq, and_true] at hv
    obtain ⟨g1, g3⟩ := hv
    rw [e2]
    exact sh16b3_wp x_1 n_2 g1 g3 h2) h
def sh16b1 (x_1 : Addr) (n_2 : Addr) (is_3 : Bool) (R : EW) (w : World) : Prop :=
 ifB (!is_3) (
 sh16k2 R [.pointer (some x_1), .pointer (some n_2), .bool true] w) (
 ∃ x4, w.cell? (n_2.add 0) = some (.bool x4) ∧ (
 ifB (!x4) (
 ∃ x5, w.cell? (x_1.add 1) = some (.int .i64 x5) ∧ (
 ifB ((x5 : Int) != 0) (
 sh16k2 R [.pointer (some x_1), .pointer (some n_2), .bool true] w) (
 ∃ x6, w.cell? (n_2.add 1) = some (.bool x6) ∧ (
 ifB (!x6) (
 ∃ x7, w.cell? (x_1.add 2) = some (.int .i64 x7) ∧ (
 ifB ((x7 : Int) != 0) (
 sh16k2 R [.pointer (some x_1), .pointer (some n_2), .bool true] w) (
 ∃ x8, w.cell? (n_2.add 2) = some (.bool x8) ∧ (
 ifB (!x8) (
 ∃ x9, w.cell? (x_1.add 3) = some (.int .i64 x9) ∧ (
 sh16k2 R [.pointer (some x_1), .pointer (some n_2), .bool ((x9 : Int) != 0)] w)) (
 sh16k2 R [.pointer (some x_1), .pointer (some n_2), .bool false] w))))) (
 ∃ x10, w.cell? (n_2.add 2) = some (.bool x10) ∧ (
 ifB (!x10) (
 ∃ x11, w.cell? (x_1.add 3) = some (.int .i64 x11) ∧ (
 sh16k2 R [.pointer (some x_1), .pointer (some n_2), .bool ((x11 : Int) != 0)] w)) (
 sh16k2 R [.pointer (some x_1), .pointer (some n_2), .bool false] w))))))) (
 ∃ x12, w.cell? (n_2.add 1) = some (.bool x12) ∧ (
 ifB (!x12) (
 ∃ x13, w.cell? (x_1.add 2) = some (.int .i64 x13) ∧ (
 ifB ((x13 : Int) != 0) (
 sh16k2 R [.pointer (some x_1), .pointer (some n_2), .bool true] w) (
 ∃ x14, w.cell? (n_2.add 2) = some (.bool x14) ∧ (
 ifB (!x14) (
 ∃ x15, w.cell? (x_1.add 3) = some (.int .i64 x15) ∧ (
 sh16k2 R [.pointer (some x_1), .pointer (some n_2), .bool ((x15 : Int) != 0)] w)) (
 sh16k2 R [.pointer (some x_1), .pointer (some n_2), .bool false] w))))) (
 ∃ x16, w.cell? (n_2.add 2) = some (.bool x16) ∧ (
 ifB (!x16) (
 ∃ x17, w.cell? (x_1.add 3) = some (.int .i64 x17) ∧ (
 sh16k2 R [.pointer (some x_1), .pointer (some n_2), .bool ((x17 : Int) != 0)] w)) (
 sh16k2 R [.pointer (some x_1), .pointer (some n_2), .bool false] w)))))))
def sh16k1 (R : EW) : List Value → World → Prop := fun vs w => ∃ (x_1 : Addr), ∃ (n_2 : Addr), ∃ (is_3 : Bool), vs = [.pointer (some x_1), .pointer (some n_2), .bool is_3] ∧ sh16b1 x_1 n_2 is_3 R w
theorem sh16b1_wp {j : Nat → Value} (x_1 : Addr) (n_2 : Addr) (is_3 : Bool) {R : EW} {w : World} (g1 : j 1 = (.pointer (some x_1) : Value)) (g3 : j 3 = (.pointer (some n_2) : Value)) (g4 : j 4 = (.bool is_3 : Value)) (h : sh16b1 x_1 n_2 is_3 R w) : Code.wpIn (fen none) 0 Tryz.prog (Old.tailC 2 (bodyOf Tryz.f16)) (Old.full (Qfn Tryz.prog Tryz.f16 R) (Kfn R)) { tmps := #[j 0, j 1, j 2, j 3, j 4, j 5, j 6, j 7, j 8, j 9, j 10, j 11, j 12, j 13, j 14, j 15, j 16, j 17, j 18, j 19, j 20, j 21, j 22, j 23, j 24, j 25, j 26, j 27, j 28, j 29, j 30, j 31, j 32, j 33, j 34, j 35, j 36, j 37, j 38, j 39, j 40, j 41, j 42, j 43, j 44, j 45, j 46, j 47, j 48, j 49, j 50, j 51, j 52, j 53, j 54, j 55, j 56, j 57, j 58, j 59, j 60, j 61, j 62, j 63, j 64, j 65, j 66, j 67, j 68, j 69, j 70, j 71, j 72, j 73, j 74, j 75, j 76, j 77, j 78, j 79, j 80, j 81, j 82, j 83, j 84, j 85, j 86, j 87, j 88, j 89, j 90, j 91, j 92, j 93, j 94, j 95, j 96, j 97, j 98, j 99, j 100, j 101, j 102, j 103, j 104, j 105, j 106, j 107, j 108, j 109, j 110, j 111, j 112, j 113, j 114, j 115, j 116, j 117, j 118, j 119, j 120, j 121, j 122, j 123, j 124, j 125, j 126, j 127, j 128, j 129, j 130, j 131, j 132, j 133, j 134, j 135, j 136, j 137, j 138, j 139, j 140, j 141, j 142, j 143, j 144, j 145, j 146, j 147, j 148, j 149, j 150, j 151, j 152, j 153], defers := [] } w := by
  rw [g1, g3, g4]
  exact Old.wp_half1 (n := 400) (m := 32) (K := sh16k2 R) (is := [1, 3, 42]) (X := sh16b1 x_1 n_2 is_3 R w) (by kernel_rfl) (by kernel_rfl) (by decide +kernel) (by kernel_rfl) (fun a' w' hK hs hd => by
    obtain ⟨x_1, n_2, x3, hv, h2⟩ := hK
    obtain ⟨tmps, defers⟩ := a'
    simp only at hs hd hv
    subst hd
    have hs : tmps.size = 154 := hs.trans (by kernel_rfl)
    have hl := Old.arr_lit hs
    obtain ⟨j, hj⟩ : ∃ j : Nat → Value, ∀ i, tmps.getD i undef = j i := ⟨_, fun _ => rfl⟩
    rw [show (fun i => tmps.getD i undef) = j from funext hj] at hl
    have e2 : tmps = #[j 0, j 1, j 2, j 3, j 4, j 5, j 6, j 7, j 8, j 9, j 10, j 11, j 12, j 13, j 14, j 15, j 16, j 17, j 18, j 19, j 20, j 21, j 22, j 23, j 24, j 25, j 26, j 27, j 28, j 29, j 30, j 31, j 32, j 33, j 34, j 35, j 36, j 37, j 38, j 39, j 40, j 41, j 42, j 43, j 44, j 45, j 46, j 47, j 48, j 49, j 50, j 51, j 52, j 53, j 54, j 55, j 56, j 57, j 58, j 59, j 60, j 61, j 62, j 63, j 64, j 65, j 66, j 67, j 68, j 69, j 70, j 71, j 72, j 73, j 74, j 75, j 76, j 77, j 78, j 79, j 80, j 81, j 82, j 83, j 84, j 85, j 86, j 87, j 88, j 89, j 90, j 91, j 92, j 93, j 94, j 95, j 96, j 97, j 98, j 99, j 100, j 101, j 102, j 103, j 104, j 105, j 106, j 107, j 108, j 109, j 110, j 111, j 112, j 113, j 114, j 115, j 116, j 117, j 118, j 119, j 120, j 121, j 122, j 123, j 124, j 125, j 126, j 127, j 128, j 129, j 130, j 131, j 132, j 133, j 134, j 135, j 136, j 137, j 138, j 139, j 140, j 141, j 142, j 143, j 144, j 145, j 146, j 147, j 148, j 149, j 150, j 151, j 152, j 153] := hl.trans (by kernel_rfl)
    simp only [Old.getAll, List.map_cons, List.map_nil, hj, List.cons.injEq, and_true] at hv
    obtain ⟨g1, g3, g42⟩ := hv
    rw [e2]
    exact sh16b2_wp x_1 n_2 x3 g1 g3 g42 h2) h
def sh16 (x_1 : Int) (x_2 : Int) (x_3 : Int) (x_4 : Int) (x_5 : Int) (x_6 : Int) (x_7 : Int) (x_8 : Int) (x_9 : Int) (x_10 : Int) (x_11 : Int) (x_12 : Int) (x_13 : Bool) (x_p14 : OA) (x_n15 : Nat) (x_c16 : Nat) (x_p17 : OA) (x_n18 : Nat) (x_c19 : Nat) (R : EW) (w : World) : Prop :=
 doAl (.cells #[.int .u8 x_1, .int .i64 x_2, .int .i64 x_3, .int .i64 x_4, .int .i64 x_5, .int .i64 x_6, .int .i64 x_7, .int .i64 x_8, .int .u8 x_9, .int .u8 x_10, .int .i64 x_11, .int .i64 x_12, .bool x_13, .slice x_p14 x_n15 x_c16, .slice x_p17 x_n18 x_c19] 37) w (fun b20 w21 =>
 ∃ x22, w21.cell? ((blk b20).add 0) = some (.int .u8 x22) ∧ (
 doCall Tryz.prog (.func (.func 30) #[] #[]) #[.int .u8 x22] w21 (retS (fun v35 w36 => ∃ x23 x24 x25 x26 x27 x28 x29 x30 x31 x32 x33 x34, v35 = (.tuple #[.agg #[.bool x23, .bool x24, .bool x25, .bool x26, .bool x27, .bool x28, .bool x29, .bool x30, .bool x31, .bool x32, .bool x33], .bool x34] : Value) ∧ (
 doAl (.cells #[.bool false, .bool false, .bool false, .bool false, .bool false, .bool false, .bool false, .bool false, .bool false, .bool false, .bool false] 67) w36 (fun b37 w38 =>
 doSt ((blk b37).add 0) (.bool x23) w38 (fun w39 =>
 doSt ((blk b37).add 1) (.bool x24) w39 (fun w40 =>
 doSt ((blk b37).add 2) (.bool x25) w40 (fun w41 =>
 doSt ((blk b37).add 3) (.bool x26) w41 (fun w42 =>
 doSt ((blk b37).add 4) (.bool x27) w42 (fun w43 =>
 doSt ((blk b37).add 5) (.bool x28) w43 (fun w44 =>
 doSt ((blk b37).add 6) (.bool x29) w44 (fun w45 =>
 doSt ((blk b37).add 7) (.bool x30) w45 (fun w46 =>
 doSt ((blk b37).add 8) (.bool x31) w46 (fun w47 =>
 doSt ((blk b37).add 9) (.bool x32) w47 (fun w48 =>
 doSt ((blk b37).add 10) (.bool x33) w48 (fun w49 =>
 sh16k1 R [.pointer (some (blk b20)), .pointer (some (blk b37)), .bool x34] w49)))))))))))))) (kN R))))
theorem sh16_ok (x_1 : Int) (x_2 : Int) (x_3 : Int) (x_4 : Int) (x_5 : Int) (x_6 : Int) (x_7 : Int) (x_8 : Int) (x_9 : Int) (x_10 : Int) (x_11 : Int) (x_12 : Int) (x_13 : Bool) (x_p14 : OA) (x_n15 : Nat) (x_c16 : Nat) (x_p17 : OA) (x_n18 : Nat) (x_c19 : Nat) {R : EW} {w : World} : sh16 x_1 x_2 x_3 x_4 x_5 x_6 x_7 x_8 x_9 x_10 x_11 x_12 x_13 x_p14 x_n15 x_c16 x_p17 x_n18 x_c19 R w → Calls Tryz.prog 16 #[.agg #[.int .u8 x_1, .int .i64 x_2, .int .i64 x_3, .int .i64 x_4, .int .i64 x_5, .int .i64 x_6, .int .i64 x_7, .int .i64 x_8, .int .u8 x_9, .int .u8 x_10, .int .i64 x_11, .int .i64 x_12, .bool x_13, .slice x_p14 x_n15 x_c16, .slice x_p17 x_n18 x_c19]] w R := fun h =>
  Old.calls_of_wp (fn := Tryz.f16) (c := bodyOf Tryz.f16) (args := #[.agg #[.int .u8 x_1, .int .i64 x_2, .int .i64 x_3, .int .i64 x_4, .int .i64 x_5, .int .i64 x_6, .int .i64 x_7, .int .i64 x_8, .int .u8 x_9, .int .u8 x_10, .int .i64 x_11, .int .i64 x_12, .bool x_13, .slice x_p14 x_n15 x_c16, .slice x_p17 x_n18 x_c19]]) Tryz.func16 (by kernel_rfl) (Old.wp_part (ann := fun _ => []) (n := 400) (k := 2) (K := sh16k1 R) (is := [1, 3, 4]) (X := sh16 x_1 x_2 x_3 x_4 x_5 x_6 x_7 x_8 x_9 x_10 x_11 x_12 x_13 x_p14 x_n15 x_c16 x_p17 x_n18 x_c19 R w) follows_mixed (by kernel_rfl) (by kernel_rfl) (fun a' w' hK hs hd => by
    obtain ⟨x_1, n_2, is_3, hv, h2⟩ := hK
    obtain ⟨tmps, defers⟩ := a'
    simp only at hs hd hv
    subst hd
    have hs : tmps.size = 154 := hs.trans (by kernel_rfl)
    have hl := Old.arr_lit hs
    obtain ⟨j, hj⟩ : ∃ j : Nat → Value, ∀ i, tmps.getD i undef = j i := ⟨_, fun _ => rfl⟩
    rw [show (fun i => tmps.getD i undef) = j from funext hj] at hl
    have e2 : tmps = #[j 0, j 1, j 2, j 3, j 4, j 5, j 6, j 7, j 8, j 9, j 10, j 11, j 12, j 13, j 14, j 15, j 16, j 17, j 18, j 19, j 20, j 21, j 22, j 23, j 24, j 25, j 26, j 27, j 28, j 29, j 30, j 31, j 32, j 33, j 34, j 35, j 36, j 37, j 38, j 39, j 40, j 41, j 42, j 43, j 44, j 45, j 46, j 47, j 48, j 49, j 50, j 51, j 52, j 53, j 54, j 55, j 56, j 57, j 58, j 59, j 60, j 61, j 62, j 63, j 64, j 65, j 66, j 67, j 68, j 69, j 70, j 71, j 72, j 73, j 74, j 75, j 76, j 77, j 78, j 79, j 80, j 81, j 82, j 83, j 84, j 85, j 86, j 87, j 88, j 89, j 90, j 91, j 92, j 93, j 94, j 95, j 96, j 97, j 98, j 99, j 100, j 101, j 102, j 103, j 104, j 105, j 106, j 107, j 108, j 109, j 110, j 111, j 112, j 113, j 114, j 115, j 116, j 117, j 118, j 119, j 120, j 121, j 122, j 123, j 124, j 125, j 126, j 127, j 128, j 129, j 130, j 131, j 132, j 133, j 134, j 135, j 136, j 137, j 138, j 139, j 140, j 141, j 142, j 143, j 144, j 145, j 146, j 147, j 148, j 149, j 150, j 151, j 152, j 153] := hl.trans (by kernel_rfl)
    simp only [Old.getAll, List.map_cons, List.map_nil, hj, List.cons.injEq, and_true] at hv
    obtain ⟨g1, g3, g4⟩ := hv
    rw [e2]
    exact sh16b1_wp x_1 n_2 is_3 g1 g3 g4 h2) h)
end Go.Proofs.YtmkpkmdnapccgaaGreatDoor

namespace Go.Proofs.YtmkpkmdnapccgaaGreatDoor
open Go Go.Sh Go.RowKit

theorem mayO_no {x : POp} {p : Part} (hp : p ∉ partsOf x.op) (ha : ¬ agree p POp.zero x) : mayO x = false := by
  cases hm : mayO x
  · rfl
  · exact absurd ((mayO_iff.1 hm).masked p hp) ha
theorem mayO_nop {x : POp} (h : ¬ (1 ≤ x.op ∧ x.op ≤ 22)) : mayO x = false := by
  cases hm : mayO x
  · rfl
  · exact absurd (mayO_iff.1 hm).op h
theorem mayO_npol {x : POp} (h : Part.pol ∈ partsOf x.op) (hp : polMay x.pol = false) : mayO x = false := by
  cases hm : mayO x
  · rfl
  · have := (mayO_iff.1 hm).pol h; rw [hp] at this; cases this
theorem mayO_npred {x : POp} (h : Part.pred ∈ partsOf x.op) (hp : predMay x.pk x.pa x.pb = false) : mayO x = false := by
  cases hm : mayO x
  · rfl
  · have := (mayO_iff.1 hm).pred h; rw [hp] at this; cases this
theorem mayO_npairs {x : POp} (h : ¬ x.pairs.length ≤ 4096) : mayO x = false := by
  cases hm : mayO x
  · rfl
  · exact absurd (mayO_iff.1 hm).pairs h
theorem mayO_end {x : POp} (hop : 1 ≤ x.op ∧ x.op ≤ 22) (hm : Masked x) (h7 : Part.pol ∈ partsOf x.op → polMay x.pol = true) (h8 : Part.pred ∈ partsOf x.op → predMay x.pk x.pa x.pb = true) (hp : x.pairs.length ≤ 4096) : mayO x = decide (x.keys.length ≤ 4096) := by
  rw [Bool.eq_iff_iff, mayO_iff, decide_eq_true_eq]
  exact ⟨fun h => h.keys, fun h => ⟨hop, hm, h7, h8, hp, h⟩⟩
theorem c_r37may {x : POp} {pp kp : OA} {pc kc : Nat} {w : World} {R : EW} (h : ∀ w', Ext w w' → R (.returned (.bool (mayO x))) w') :
    Calls Tryz.prog 16 #[.agg #[.int .u8 x.op, .int .i64 x.a, .int .i64 x.b, .int .i64 x.key, .int .i64 x.val, .int .i64 x.lo, .int .i64 x.hi, .int .i64 x.n, .int .u8 x.pol, .int .u8 x.pk, .int .i64 x.pa, .int .i64 x.pb, .bool x.pnot, .slice pp x.pairs.length pc, .slice kp x.keys.length kc]] w R := by
  refine sh16_ok _ _ _ _ _ _ _ _ _ _ _ _ _ _ _ _ _ _ _ ?_
  unfold sh16
  refine do_al fun b2 w2 e2 X2 l2 => ⟨_, X2.cell (i := 0) rfl rfl, ?_⟩
  refine do_call Tryz.call30 (c_r37of fun w3 e3 => retS_ret ⟨_, _, _, _, _, _, _, _, _, _, _, _, rfl, do_al fun b4 w4 e4 X4 l4 => st11 X4 fun w5 X5 g5 => ?_⟩)
  have XX : Blk w5 b2 #[.int .u8 x.op, .int .i64 x.a, .int .i64 x.b, .int .i64 x.key, .int .i64 x.val, .int .i64 x.lo, .int .i64 x.hi, .int .i64 x.n, .int .u8 x.pol, .int .u8 x.pk, .int .i64 x.pa, .int .i64 x.pb, .bool x.pnot, .slice pp x.pairs.length pc, .slice kp x.keys.length kc] 37 := ((X2.ext e3).ext e4).grown g5 (ne_some (by have := (X2.ext e3).lt; omega))
  have E5 : Ext w w5 := (((e2.trans e3).trans e4)).st g5 (by have := e2.size; have := e3.size; omega)
  have fin : ∀ w' b, Ext w5 w' → mayO x = b → R (.returned (.bool b)) w' := fun w' b e hb => by subst hb; exact h w' (E5.trans e)
  clear h X2 X4 g5 e2 e3 e4 l2 l4 E5
  refine ⟨_, _, _, rfl, ?_⟩
  have hno : mayO x = false → sh16k2 R [.pointer (some (blk b2)), .pointer (some (blk b4)), .bool true] w5 := fun hb => ⟨_, _, _, rfl, by unfold sh16b2; exact ifB_t rfl (fin _ false (ext_refl _) hb)⟩
  unfold sh16b1
  by_cases hop : 1 ≤ x.op ∧ x.op ≤ 22
  case neg => exact ifB_t (by rw [decide_eq_false hop]; rfl) (hno (mayO_nop hop))
  refine ifB_f (by rw [decide_eq_true hop]; rfl) ?_
  unfold hasP at X5
  refine partsOf_cases x.op (C := fun l => partsOf x.op = l → Blk w5 b4 #[.bool (decide (Part.a ∈ l)), .bool (decide (Part.b ∈ l)), .bool (decide (Part.key ∈ l)), .bool (decide (Part.val ∈ l)), .bool (decide (Part.lo ∈ l)), .bool (decide (Part.hi ∈ l)), .bool (decide (Part.n ∈ l)), .bool (decide (Part.pol ∈ l)), .bool (decide (Part.pred ∈ l)), .bool (decide (Part.pairs ∈ l)), .bool (decide (Part.keys ∈ l))] 67 → _) ?_ ?_ ?_ ?_ ?_ ?_ ?_ ?_ ?_ ?_ ?_ ?_ rfl X5
  all_goals (clear X5; intro hl X5)
  all_goals refine ⟨_, X5.cell (i := 0) rfl rfl, ?_⟩
  all_goals first
    | (refine ifB_f rfl ?_
       have ga : Part.a ∉ partsOf x.op → x.a = 0 := fun h => absurd (by rw [hl]; decide) h)
    | (refine ifB_t rfl ⟨_, XX.cell (i := 1) rfl rfl, ifB_intro (fun z => hno (mayO_no (p := .a) (by rw [hl]; decide) fun e => (by have e : (0 : Int) = x.a := e; simp [← e] at z))) fun z => ?_⟩
       have ga : Part.a ∉ partsOf x.op → x.a = 0 := fun _ => (by simpa using z))
  all_goals refine ⟨_, X5.cell (i := 1) rfl rfl, ?_⟩
  all_goals first
    | (refine ifB_f rfl ?_
       have gb : Part.b ∉ partsOf x.op → x.b = 0 := fun h => absurd (by rw [hl]; decide) h)
    | (refine ifB_t rfl ⟨_, XX.cell (i := 2) rfl rfl, ifB_intro (fun z => hno (mayO_no (p := .b) (by rw [hl]; decide) fun e => (by have e : (0 : Int) = x.b := e; simp [← e] at z))) fun z => ?_⟩
       have gb : Part.b ∉ partsOf x.op → x.b = 0 := fun _ => (by simpa using z))
  all_goals refine ⟨_, X5.cell (i := 2) rfl rfl, ?_⟩
  all_goals first
    | (refine ifB_f rfl ?_
       have gkey : Part.key ∉ partsOf x.op → x.key = 0 := fun h => absurd (by rw [hl]; decide) h
       refine ⟨_, _, _, rfl, ?_⟩
       unfold sh16b2
       refine ifB_f rfl ?_)
    | (refine ifB_t rfl ⟨_, XX.cell (i := 3) rfl rfl, ?_⟩
       refine ⟨_, _, _, rfl, ?_⟩
       unfold sh16b2
       refine ifB_intro (fun z => fin _ false (ext_refl _) (mayO_no (p := .key) (by rw [hl]; decide) fun e => (by have e : (0 : Int) = x.key := e; simp [← e] at z))) fun z => ?_
       have gkey : Part.key ∉ partsOf x.op → x.key = 0 := fun _ => (by simpa using z))
  all_goals refine ⟨_, X5.cell (i := 3) rfl rfl, ?_⟩
  all_goals first
    | (refine ifB_f rfl ?_
       have gval : Part.val ∉ partsOf x.op → x.val = 0 := fun h => absurd (by rw [hl]; decide) h)
    | (refine ifB_t rfl ⟨_, XX.cell (i := 4) rfl rfl, ifB_intro (fun z => fin _ false (ext_refl _) (mayO_no (p := .val) (by rw [hl]; decide) fun e => (by have e : (0 : Int) = x.val := e; simp [← e] at z))) fun z => ?_⟩
       have gval : Part.val ∉ partsOf x.op → x.val = 0 := fun _ => (by simpa using z))
  all_goals refine ⟨_, X5.cell (i := 4) rfl rfl, ?_⟩
  all_goals first
    | (refine ifB_f rfl ?_
       have glo : Part.lo ∉ partsOf x.op → x.lo = 0 := fun h => absurd (by rw [hl]; decide) h)
    | (refine ifB_t rfl ⟨_, XX.cell (i := 5) rfl rfl, ifB_intro (fun z => fin _ false (ext_refl _) (mayO_no (p := .lo) (by rw [hl]; decide) fun e => (by have e : (0 : Int) = x.lo := e; simp [← e] at z))) fun z => ?_⟩
       have glo : Part.lo ∉ partsOf x.op → x.lo = 0 := fun _ => (by simpa using z))
  all_goals refine ⟨_, X5.cell (i := 5) rfl rfl, ?_⟩
  all_goals first
    | (refine ifB_f rfl ?_
       have ghi : Part.hi ∉ partsOf x.op → x.hi = 0 := fun h => absurd (by rw [hl]; decide) h)
    | (refine ifB_t rfl ⟨_, XX.cell (i := 6) rfl rfl, ifB_intro (fun z => fin _ false (ext_refl _) (mayO_no (p := .hi) (by rw [hl]; decide) fun e => (by have e : (0 : Int) = x.hi := e; simp [← e] at z))) fun z => ?_⟩
       have ghi : Part.hi ∉ partsOf x.op → x.hi = 0 := fun _ => (by simpa using z))
  all_goals refine ⟨_, X5.cell (i := 6) rfl rfl, ?_⟩
  all_goals first
    | (refine ifB_f rfl ?_
       have gn : Part.n ∉ partsOf x.op → x.n = 0 := fun h => absurd (by rw [hl]; decide) h)
    | (refine ifB_t rfl ⟨_, XX.cell (i := 7) rfl rfl, ifB_intro (fun z => fin _ false (ext_refl _) (mayO_no (p := .n) (by rw [hl]; decide) fun e => (by have e : (0 : Int) = x.n := e; simp [← e] at z))) fun z => ?_⟩
       have gn : Part.n ∉ partsOf x.op → x.n = 0 := fun _ => (by simpa using z))
  all_goals (refine ⟨_, _, rfl, ?_⟩; unfold sh16b3; intro K2)
  all_goals refine ⟨_, X5.cell (i := 7) rfl rfl, ?_⟩
  all_goals first
    | (refine ifB_f rfl ?_
       have gpol : Part.pol ∉ partsOf x.op → x.pol = 0 := fun h => absurd (by rw [hl]; decide) h)
    | (refine ifB_t rfl ⟨_, XX.cell (i := 8) rfl rfl, ifB_intro (fun z => fin _ false (ext_refl _) (mayO_no (p := .pol) (by rw [hl]; decide) fun e => (by have e : (0 : Int) = x.pol := e; simp [← e] at z))) fun z => ?_⟩
       have gpol : Part.pol ∉ partsOf x.op → x.pol = 0 := fun _ => (by simpa using z))
  all_goals refine ⟨_, X5.cell (i := 8) rfl rfl, ?_⟩
  all_goals first
    | (refine ifB_f rfl ?_
       have gpred : Part.pred ∉ partsOf x.op → x.pk = 0 ∧ x.pa = 0 ∧ x.pb = 0 ∧ x.pnot = false := fun h => absurd (by rw [hl]; decide) h)
    | (refine ifB_t rfl ⟨_, XX.cell (i := 9) rfl rfl, _, XX.cell (i := 10) rfl rfl, _, XX.cell (i := 11) rfl rfl, _, XX.cell (i := 12) rfl rfl, ifB_intro (fun z => fin _ false (ext_refl _) (mayO_no (p := .pred) (by rw [hl]; decide) fun e => (by have e : (0 : Int) = x.pk ∧ (0 : Int) = x.pa ∧ (0 : Int) = x.pb ∧ false = x.pnot := e; simp [← e.1, ← e.2.1, ← e.2.2.1, ← e.2.2.2] at z))) fun z => ?_⟩
       have gpred : Part.pred ∉ partsOf x.op → x.pk = 0 ∧ x.pa = 0 ∧ x.pb = 0 ∧ x.pnot = false := fun _ => (by simpa using z))
  all_goals refine ⟨_, X5.cell (i := 9) rfl rfl, ?_⟩
  all_goals first
    | (refine ifB_f rfl ?_
       have gpairs : Part.pairs ∉ partsOf x.op → x.pairs = [] := fun h => absurd (by rw [hl]; decide) h)
    | (refine ifB_t rfl ⟨_, _, _, XX.cell (i := 13) rfl rfl, ifB_intro (fun z => fin _ false (ext_refl _) (mayO_no (p := .pairs) (by rw [hl]; decide) fun e => (by have e : ([] : List _) = x.pairs := e; simp [← e] at z))) fun z => ?_⟩
       have gpairs : Part.pairs ∉ partsOf x.op → x.pairs = [] := fun _ => (by simpa using z))
  all_goals refine ⟨_, X5.cell (i := 10) rfl rfl, ?_⟩
  all_goals first
    | (refine ifB_f rfl ?_
       have gkeys : Part.keys ∉ partsOf x.op → x.keys = [] := fun h => absurd (by rw [hl]; decide) h)
    | (refine ifB_t rfl ⟨_, _, _, XX.cell (i := 14) rfl rfl, ?_⟩
       simp -zeta -zetaHave only [K2]
       refine ifB_intro (fun z => fin _ false (ext_refl _) (mayO_no (p := .keys) (by rw [hl]; decide) fun e => (by have e : ([] : List _) = x.keys := e; simp [← e] at z))) fun z => ?_
       have gkeys : Part.keys ∉ partsOf x.op → x.keys = [] := fun _ => (by simpa using z))
  all_goals (refine ⟨_, _, rfl, ?_⟩; unfold sh16b4; intro K3)
  all_goals
    have hm : Masked x := fun p hp => by
      cases p
      · exact (ga hp).symm
      · exact (gb hp).symm
      · exact (gn hp).symm
      · exact (gkey hp).symm
      · exact (gval hp).symm
      · exact (glo hp).symm
      · exact (ghi hp).symm
      · exact (gpol hp).symm
      · exact ⟨(gpred hp).1.symm, (gpred hp).2.1.symm, (gpred hp).2.2.1.symm, (gpred hp).2.2.2.symm⟩
      · exact (gpairs hp).symm
      · exact (gkeys hp).symm
  all_goals refine ⟨_, X5.cell (i := 7) rfl rfl, ?_⟩
  all_goals first
    | (refine ifB_t rfl ?_
       have h7 : Part.pol ∈ partsOf x.op → polMay x.pol = true := fun h => absurd h (by rw [hl]; decide))
    | (refine ifB_f rfl ⟨_, XX.cell (i := 8) rfl rfl, do_call Tryz.call36 (c_rmay (retS_ret ⟨_, rfl, ifB_intro (fun z => ?_) fun z => fin _ false (ext_refl _) (mayO_npol (by rw [hl]; decide) z)⟩))⟩
       have h7 : Part.pol ∈ partsOf x.op → polMay x.pol = true := fun _ => z)
  all_goals refine ⟨_, X5.cell (i := 8) rfl rfl, ?_⟩
  all_goals first
    | (refine ifB_t rfl ?_
       have h8 : Part.pred ∈ partsOf x.op → predMay x.pk x.pa x.pb = true := fun h => absurd h (by rw [hl]; decide)
       have e6 := ext_refl w5)
    | (refine ifB_f rfl ⟨_, XX.cell (i := 9) rfl rfl, _, XX.cell (i := 10) rfl rfl, _, XX.cell (i := 11) rfl rfl, _, XX.cell (i := 12) rfl rfl, do_call Tryz.call37 (c_r6may fun w6 e6 => retS_ret ⟨_, rfl, ifB_intro (fun z => ?_) fun z => fin _ false e6 (mayO_npred (by rw [hl]; decide) z)⟩)⟩
       have h8 : Part.pred ∈ partsOf x.op → predMay x.pk x.pa x.pb = true := fun _ => z)
  all_goals refine ⟨_, _, _, (XX.ext e6).cell (i := 13) rfl rfl, ?_⟩
  all_goals refine ifB_intro (fun z => ⟨_, _, _, (XX.ext e6).cell (i := 14) rfl rfl, ?_⟩) fun z => fin _ false e6 (mayO_npairs (by have := of_decide_eq_false z; omega))
  all_goals simp -zeta -zetaHave only [K3]
  all_goals refine fin _ _ e6 ?_
  all_goals rw [mayO_end hop hm h7 h8 (by have := of_decide_eq_true z; omega)]
  all_goals (rw [Bool.eq_iff_iff]; simp; omega)
end Go.Proofs.YtmkpkmdnapccgaaGreatDoor

namespace Go.Proofs.YtmkpkmdnapccgaaGreatDoor
open Go Go.Sh Go.RowKit

theorem pstep {β : Type} {s : List β} {p : Part} {i : Nat} {f : Part → List β} {T : List β} (h : fixP.drop i = p :: fixP.drop (i + 1)) (hs : s ++ (fixP.drop i).flatMap f = T) : (s ++ f p) ++ (fixP.drop (i + 1)).flatMap f = T := by
  rw [h, List.flatMap_cons, ← List.append_assoc] at hs
  exact hs
theorem app_len {s t r T : Bs} (h : (s ++ t) ++ r = T) (hT : T.length ≤ 1000000) : s.length + t.length ≤ 1000000 := by
  have := congrArg List.length h
  simp only [List.length_append] at this
  omega
theorem hi_lo (d : Int) : hasP .hi d = hasP .lo d := by
  unfold hasP
  exact partsOf_cases d (C := fun l => decide (Part.hi ∈ l) = decide (Part.lo ∈ l)) (by decide) (by decide) (by decide) (by decide) (by decide) (by decide) (by decide) (by decide) (by decide) (by decide) (by decide) (by decide)
end Go.Proofs.YtmkpkmdnapccgaaGreatDoor

namespace Go.Proofs.YtmkpkmdnapccgaaGreatDoor
open Go Go.Sh Go.RowKit

end Go.Proofs.YtmkpkmdnapccgaaGreatDoor

