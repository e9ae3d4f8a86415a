/-
  Printed by a program (gen.py): what the functions of the program do, as formulas; each with the proof that its call is what the formula says.
-/
import Derived.Test.YtmkpkmdnapccgaaGreatDoorZ04
import Derived.Test.YtmkpkmdnapccgaaGreatDoorZ07
import Derived.Test.YtmkpkmdnapccgaaGreatDoorProg
import Derived.Test.YtmkpkmdnapccgaaGreatDoorZ05

set_option maxRecDepth 100000
set_option maxHeartbeats 6400000
namespace Go.Proofs.YtmkpkmdnapccgaaGreatDoor
open Go Go.Sh
def sh43b10 (t_1 : OA) (x2 : Addr) (x_3 : Addr) (n_4 : Addr) (R : EW) (w : World) : Prop :=
 let K6 : World → Prop := fun w5 => 
 ∃ x7, w5.cell? (x_3.add 0) = some (.int .u8 x7) ∧ (
 ∃ x8, w5.cell? (x_3.add 1) = some (.int .i64 x8) ∧ (
 ∃ x9, w5.cell? (x_3.add 2) = some (.int .i64 x9) ∧ (
 ∃ x10, w5.cell? (x_3.add 3) = some (.int .i64 x10) ∧ (
 ∃ x11, w5.cell? (x_3.add 4) = some (.int .i64 x11) ∧ (
 ∃ x12, w5.cell? (x_3.add 5) = some (.int .i64 x12) ∧ (
 ∃ x13, w5.cell? (x_3.add 6) = some (.int .i64 x13) ∧ (
 ∃ x14, w5.cell? (x_3.add 7) = some (.int .i64 x14) ∧ (
 ∃ x15, w5.cell? (x_3.add 8) = some (.int .u8 x15) ∧ (
 ∃ x16, w5.cell? (x_3.add 9) = some (.int .u8 x16) ∧ (
 ∃ x17, w5.cell? (x_3.add 10) = some (.int .i64 x17) ∧ (
 ∃ x18, w5.cell? (x_3.add 11) = some (.int .i64 x18) ∧ (
 ∃ x19, w5.cell? (x_3.add 12) = some (.bool x19) ∧ (
 ∃ xp20 xn21 xc22, w5.cell? (x_3.add 13) = some (.slice xp20 xn21 xc22) ∧ (
 ∃ xp23 xn24 xc25, w5.cell? (x_3.add 14) = some (.slice xp23 xn24 xc25) ∧ (
 doSt (x2.add 0) (.int .u8 x7) w5 (fun w26 =>
 doSt (x2.add 1) (.int .i64 x8) w26 (fun w27 =>
 doSt (x2.add 2) (.int .i64 x9) w27 (fun w28 =>
 doSt (x2.add 3) (.int .i64 x10) w28 (fun w29 =>
 doSt (x2.add 4) (.int .i64 x11) w29 (fun w30 =>
 doSt (x2.add 5) (.int .i64 x12) w30 (fun w31 =>
 doSt (x2.add 6) (.int .i64 x13) w31 (fun w32 =>
 doSt (x2.add 7) (.int .i64 x14) w32 (fun w33 =>
 doSt (x2.add 8) (.int .u8 x15) w33 (fun w34 =>
 doSt (x2.add 9) (.int .u8 x16) w34 (fun w35 =>
 doSt (x2.add 10) (.int .i64 x17) w35 (fun w36 =>
 doSt (x2.add 11) (.int .i64 x18) w36 (fun w37 =>
 doSt (x2.add 12) (.bool x19) w37 (fun w38 =>
 doSt (x2.add 13) (.slice xp20 xn21 xc22) w38 (fun w39 =>
 doSt (x2.add 14) (.slice xp23 xn24 xc25) w39 (fun w40 =>
 ∃ x41, w40.cell? (x2.add 0) = some (.int .u8 x41) ∧ (
 ∃ x42, w40.cell? (x2.add 1) = some (.int .i64 x42) ∧ (
 ∃ x43, w40.cell? (x2.add 2) = some (.int .i64 x43) ∧ (
 ∃ x44, w40.cell? (x2.add 3) = some (.int .i64 x44) ∧ (
 ∃ x45, w40.cell? (x2.add 4) = some (.int .i64 x45) ∧ (
 ∃ x46, w40.cell? (x2.add 5) = some (.int .i64 x46) ∧ (
 ∃ x47, w40.cell? (x2.add 6) = some (.int .i64 x47) ∧ (
 ∃ x48, w40.cell? (x2.add 7) = some (.int .i64 x48) ∧ (
 ∃ x49, w40.cell? (x2.add 8) = some (.int .u8 x49) ∧ (
 ∃ x50, w40.cell? (x2.add 9) = some (.int .u8 x50) ∧ (
 ∃ x51, w40.cell? (x2.add 10) = some (.int .i64 x51) ∧ (
 ∃ x52, w40.cell? (x2.add 11) = some (.int .i64 x52) ∧ (
 ∃ x53, w40.cell? (x2.add 12) = some (.bool x53) ∧ (
 ∃ xp54 xn55 xc56, w40.cell? (x2.add 13) = some (.slice xp54 xn55 xc56) ∧ (
 ∃ xp57 xn58 xc59, w40.cell? (x2.add 14) = some (.slice xp57 xn58 xc59) ∧ (
 R (.returned (.agg #[.int .u8 x41, .int .i64 x42, .int .i64 x43, .int .i64 x44, .int .i64 x45, .int .i64 x46, .int .i64 x47, .int .i64 x48, .int .u8 x49, .int .u8 x50, .int .i64 x51, .int .i64 x52, .bool x53, .slice xp54 xn55 xc56, .slice xp57 xn58 xc59])) w40)))))))))))))))))))))))))))))))))))))))))))))
 ∃ x60, w.cell? (n_4.add 10) = some (.bool x60) ∧ (
 ifB x60 (
 doCall Tryz.prog (.func (.func 65) #[] #[]) #[.pointer t_1] w (retS (fun v62 w63 => ∃ x61, v62 = (.int .i64 x61 : Value) ∧ (
 ∃ (I64 : List Value → World → Prop) (μ65 : List Value → World → Nat), I64 [.int .i64 0] w63 ∧ (∀ (i_68 : Int), ∀ (_j66 : Nat → Value) (w67 : World), I64 [.int .i64 i_68] w67 → (
 let K71 : Bool → World → Prop := fun x69 w70 => 
 ifB x69 (
 doDr w70 (fun w73 =>
 ∃ (C72 : World → Prop), C72 w73 ∧ (
 ∃ xp74 xn75 xc76, (∀ w, C72 w → w.cell? (x_3.add 14) = some (.slice xp74 xn75 xc76)) ∧ (
 doCall Tryz.prog (.func (.func 64) #[] #[]) #[.pointer t_1] w73 (retS (fun v78 w79 => ∃ x77, v78 = (.int .i64 x77 : Value) ∧ (
 C72 w79 ∧ (
 doAl (.cells #[.int .i64 x77] 2) w79 (fun b80 w81 =>
 C72 w81 ∧ (
 doGo Tryz.prog (.builtin .append #[35, 35] 35 #[false, false]) #[.slice xp74 xn75 xc76, .slice (some (blk b80)) 1 1] w81 (retS (fun v85 w86 => ∃ xp82 xn83 xc84, v85 = (.slice xp82 xn83 xc84 : Value) ∧ (
 doSt ((x_3.add 14).add 0) (.slice xp82 xn83 xc84) w86 (fun w87 =>
 I64 [.int .i64 (IntKind.wrap .i64 (i_68 + 1))] w87 ∧ μ65 [.int .i64 (IntKind.wrap .i64 (i_68 + 1))] w87 < μ65 [.int .i64 i_68] w67))) (kN R))))))) (kN R)))))) (
 K6 w70)
 ifB (decide ((i_68 : Int) < x61)) (
 ∃ q88, t_1 = some q88 ∧ (
 ∃ x89, w67.cell? (q88.add 1) = some (.bool x89) ∧ (
 K71 x89 w67))) (
 K6 w67))))) (kN R))) (
 K6 w))
def sh43k10 (R : EW) : List Value → World → Prop := fun vs w => ∃ (t_1 : OA), ∃ (x2 : Addr), ∃ (x_3 : Addr), ∃ (n_4 : Addr), vs = [.pointer t_1, .pointer (some x2), .pointer (some x_3), .pointer (some n_4)] ∧ sh43b10 t_1 x2 x_3 n_4 R w
theorem sh43b10_wp {j : Nat → Value} (t_1 : OA) (x2 : Addr) (x_3 : Addr) (n_4 : Addr) {R : EW} {w : World} (g0 : j 0 = (.pointer t_1 : Value)) (g2 : j 2 = (.pointer (some x2) : Value)) (g3 : j 3 = (.pointer (some x_3) : Value)) (g4 : j 4 = (.pointer (some n_4) : Value)) (h : sh43b10 t_1 x2 x_3 n_4 R w) : Code.wpIn (fen none) 0 Tryz.prog (Old.tailC 12 (bodyOf Tryz.f43)) (Old.full (Qfn Tryz.prog Tryz.f43 R) (Kfn R)) { tmps := #[j 0, j 1, j 2, j 3, j 4, j 5, j 6, j 7, j 8, j 9, j 10, j 11, j 12, j 13, j 14, j 15, j 16, j 17, j 18, j 19, j 20, j 21, j 22, j 23, j 24, j 25, j 26, j 27, j 28, j 29, j 30, j 31, j 32, j 33, j 34, j 35, j 36, j 37, j 38, j 39, j 40, j 41, j 42, j 43, j 44, j 45, j 46, j 47, j 48, j 49, j 50, j 51, j 52, j 53, j 54, j 55, j 56, j 57, j 58, j 59, j 60, j 61, j 62, j 63, j 64, j 65, j 66, j 67, j 68, j 69, j 70, j 71, j 72, j 73, j 74, j 75, j 76, j 77, j 78, j 79, j 80, j 81, j 82, j 83, j 84, j 85, j 86, j 87, j 88, j 89, j 90, j 91, j 92, j 93, j 94, j 95, j 96, j 97, j 98, j 99, j 100, j 101, j 102, j 103, j 104, j 105, j 106, j 107, j 108, j 109, j 110, j 111, j 112, j 113, j 114, j 115, j 116, j 117, j 118, j 119, j 120, j 121, j 122, j 123, j 124, j 125, j 126, j 127, j 128, j 129, j 130, j 131, j 132, j 133, j 134, j 135, j 136, j 137, j 138], defers := [] } w := by
  rw [g0, g2, g3, g4]
  exact Old.wp_last (ann := fun i => if i = 2 then [(11, .int .i64 0)] else []) (n := 400) (X := sh43b10 t_1 x2 x_3 n_4 R w) follows_mixed (by kernel_rfl) h
def sh43b9 (t_1 : OA) (x2 : Addr) (x_3 : Addr) (n_4 : Addr) (R : EW) (w : World) : Prop :=
 ∃ x5, w.cell? (n_4.add 9) = some (.bool x5) ∧ (
 ifB x5 (
 doCall Tryz.prog (.func (.func 65) #[] #[]) #[.pointer t_1] w (retS (fun v7 w8 => ∃ x6, v7 = (.int .i64 x6 : Value) ∧ (
 ∃ (I9 : List Value → World → Prop) (μ10 : List Value → World → Nat), I9 [.int .i64 0] w8 ∧ (∀ (i_13 : Int), ∀ (_j11 : Nat → Value) (w12 : World), I9 [.int .i64 i_13] w12 → (
 let K16 : Bool → World → Prop := fun x14 w15 => 
 ifB x14 (
 doCall Tryz.prog (.func (.func 64) #[] #[]) #[.pointer t_1] w15 (retS (fun v18 w19 => ∃ x17, v18 = (.int .i64 x17 : Value) ∧ (
 doDr w19 (fun w21 =>
 ∃ (C20 : World → Prop), C20 w21 ∧ (
 ∃ xp22 xn23 xc24, (∀ w, C20 w → w.cell? (x_3.add 13) = some (.slice xp22 xn23 xc24)) ∧ (
 doCall Tryz.prog (.func (.func 64) #[] #[]) #[.pointer t_1] w21 (retS (fun v26 w27 => ∃ x25, v26 = (.int .i64 x25 : Value) ∧ (
 C20 w27 ∧ (
 doAl (.cells #[.int .i64 x17, .int .i64 x25] 49) w27 (fun b28 w29 =>
 C20 w29 ∧ (
 doGo Tryz.prog (.builtin .append #[34, 34] 34 #[false, false]) #[.slice xp22 xn23 xc24, .slice (some (blk b28)) 1 1] w29 (retS (fun v33 w34 => ∃ xp30 xn31 xc32, v33 = (.slice xp30 xn31 xc32 : Value) ∧ (
 doSt ((x_3.add 13).add 0) (.slice xp30 xn31 xc32) w34 (fun w35 =>
 I9 [.int .i64 (IntKind.wrap .i64 (i_13 + 1))] w35 ∧ μ10 [.int .i64 (IntKind.wrap .i64 (i_13 + 1))] w35 < μ10 [.int .i64 i_13] w12))) (kN R))))))) (kN R))))))) (kN R))) (
 sh43k10 R [.pointer t_1, .pointer (some x2), .pointer (some x_3), .pointer (some n_4)] w15)
 ifB (decide ((i_13 : Int) < x6)) (
 ∃ q36, t_1 = some q36 ∧ (
 ∃ x37, w12.cell? (q36.add 1) = some (.bool x37) ∧ (
 K16 x37 w12))) (
 sh43k10 R [.pointer t_1, .pointer (some x2), .pointer (some x_3), .pointer (some n_4)] w12))))) (kN R))) (
 sh43k10 R [.pointer t_1, .pointer (some x2), .pointer (some x_3), .pointer (some n_4)] w))
def sh43k9 (R : EW) : List Value → World → Prop := fun vs w => ∃ (t_1 : OA), ∃ (x2 : Addr), ∃ (x_3 : Addr), ∃ (n_4 : Addr), vs = [.pointer t_1, .pointer (some x2), .pointer (some x_3), .pointer (some n_4)] ∧ sh43b9 t_1 x2 x_3 n_4 R w
theorem sh43b9_wp {j : Nat → Value} (t_1 : OA) (x2 : Addr) (x_3 : Addr) (n_4 : Addr) {R : EW} {w : World} (g0 : j 0 = (.pointer t_1 : Value)) (g2 : j 2 = (.pointer (some x2) : Value)) (g3 : j 3 = (.pointer (some x_3) : Value)) (g4 : j 4 = (.pointer (some n_4) : Value)) (h : sh43b9 t_1 x2 x_3 n_4 R w) : Code.wpIn (fen none) 0 Tryz.prog (Old.tailC 11 (bodyOf Tryz.f43)) (Old.full (Qfn Tryz.prog Tryz.f43 R) (Kfn R)) { tmps := #[j 0, j 1, j 2, j 3, j 4, j 5, j 6, j 7, j 8, j 9, j 10, j 11, j 12, j 13, j 14, j 15, j 16, j 17, j 18, j 19, j 20, j 21, j 22, j 23, j 24, j 25, j 26, j 27, j 28, j 29, j 30, j 31, j 32, j 33, j 34, j 35, j 36, j 37, j 38, j 39, j 40, j 41, j 42, j 43, j 44, j 45, j 46, j 47, j 48, j 49, j 50, j 51, j 52, j 53, j 54, j 55, j 56, j 57, j 58, j 59, j 60, j 61, j 62, j 63, j 64, j 65, j 66, j 67, j 68, j 69, j 70, j 71, j 72, j 73, j 74, j 75, j 76, j 77, j 78, j 79, j 80, j 81, j 82, j 83, j 84, j 85, j 86, j 87, j 88, j 89, j 90, j 91, j 92, j 93, j 94, j 95, j 96, j 97, j 98, j 99, j 100, j 101, j 102, j 103, j 104, j 105, j 106, j 107, j 108, j 109, j 110, j 111, j 112, j 113, j 114, j 115, j 116, j 117, j 118, j 119, j 120, j 121, j 122, j 123, j 124, j 125, j 126, j 127, j 128, j 129, j 130, j 131, j 132, j 133, j 134, j 135, j 136, j 137, j 138], defers := [] } w := by
  rw [g0, g2, g3, g4]
  exact Old.wp_part (ann := fun i => if i = 0 then [(8, .int .i64 0)] else []) (n := 400) (k := 1) (K := sh43k10 R) (is := [0, 2, 3, 4]) (X := sh43b9 t_1 x2 x_3 n_4 R w) follows_mixed (by kernel_rfl) (by kernel_rfl) (fun a' w' hK hs hd => by
    obtain ⟨t_1, x2, x_3, n_4, hv, h2⟩ := hK
    obtain ⟨tmps, defers⟩ := a'
    simp only at hs hd hv
    subst hd
    have hs : tmps.size = 139 := hs.trans (by kernel_rfl)
    have hl := Old.arr_lit hs
    obtain ⟨j, hj⟩ : ∃ j : Nat → Value, ∀ i, tmps.getD i undef = j i := ⟨_, fun _ => rfl⟩
    rw [show (fun i => tmps.getD i undef) = j from funext hj] at hl
    have e2 : tmps = #[j 0, j 1, j 2, j 3, j 4, j 5, j 6, j 7, j 8, j 9, j 10, j 11, j 12, j 13, j 14, j 15, j 16, j 17, j 18, j 19, j 20, j 21, j 22, j 23, j 24, j 25, j 26, j 27, j 28, j 29, j 30, j 31, j 32, j 33, j 34, j 35, j 36, j 37, j 38, j 39, j 40, j 41, j 42, j 43, j 44, j 45, j 46, j 47, j 48, j 49, j 50, j 51, j 52, j 53, j 54, j 55, j 56, j 57, j 58, j 59, j 60, j 61, j 62, j 63, j 64, j 65, j 66, j 67, j 68, j 69, j 70, j 71, j 72, j 73, j 74, j 75, j 76, j 77, j 78, j 79, j 80, j 81, j 82, j 83, j 84, j 85, j 86, j 87, j 88, j 89, j 90, j 91, j 92, j 93, j 94, j 95, j 96, j 97, j 98, j 99, j 100, j 101, j 102, j 103, j 104, j 105, j 106, j 107, j 108, j 109, j 110, j 111, j 112, j 113, j 114, j 115, j 116, j 117, j 118, j 119, j 120, j 121, j 122, j 123, j 124, j 125, j 126, j 127, j 128, j 129, j 130, j 131, j 132, j 133, j 134, j 135, j 136, j 137, j 138] := hl.trans (by kernel_rfl)
    simp only [Old.getAll, List.map_cons, List.map_nil, hj, List.cons.injEq, and_true] at hv
    obtain ⟨g0, g2, g3, g4⟩ := hv
    rw [e2]
    exact sh43b10_wp t_1 x2 x_3 n_4 g0 g2 g3 g4 h2) h
def sh43b8 (t_1 : OA) (x2 : Addr) (x_3 : Addr) (n_4 : Addr) (R : EW) (w : World) : Prop :=
 ∃ x5, w.cell? (n_4.add 8) = some (.bool x5) ∧ (
 ifB x5 (
 doCall Tryz.prog (.func (.func 63) #[] #[]) #[.pointer t_1] w (retS (fun v7 w8 => ∃ x6, v7 = (.int .u8 x6 : Value) ∧ (
 doSt (((x_3.add 9).add 0).add 0) (.int .u8 x6) w8 (fun w9 =>
 doCall Tryz.prog (.func (.func 64) #[] #[]) #[.pointer t_1] w9 (retS (fun v11 w12 => ∃ x10, v11 = (.int .i64 x10 : Value) ∧ (
 doSt (((x_3.add 9).add 1).add 0) (.int .i64 x10) w12 (fun w13 =>
 doCall Tryz.prog (.func (.func 64) #[] #[]) #[.pointer t_1] w13 (retS (fun v15 w16 => ∃ x14, v15 = (.int .i64 x14 : Value) ∧ (
 doSt (((x_3.add 9).add 2).add 0) (.int .i64 x14) w16 (fun w17 =>
 doCall Tryz.prog (.func (.func 63) #[] #[]) #[.pointer t_1] w17 (retS (fun v19 w20 => ∃ x18, v19 = (.int .u8 x18 : Value) ∧ (
 doSt (((x_3.add 9).add 3).add 0) (.bool ((x18 : Int) == 1)) w20 (fun w21 =>
 ∃ q22, t_1 = some q22 ∧ (
 ∃ x23, w21.cell? (q22.add 1) = some (.bool x23) ∧ (
 ifB x23 (
 ∃ q24, t_1 = some q24 ∧ (
 doSt ((q24.add 1).add 0) (.bool (decide ((x18 : Int) < 2))) w21 (fun w25 =>
 sh43k9 R [.pointer t_1, .pointer (some x2), .pointer (some x_3), .pointer (some n_4)] w25))) (
 ∃ q26, t_1 = some q26 ∧ (
 doSt ((q26.add 1).add 0) (.bool false) w21 (fun w27 =>
 sh43k9 R [.pointer t_1, .pointer (some x2), .pointer (some x_3), .pointer (some n_4)] w27)))))))) (kN R))))) (kN R))))) (kN R))))) (kN R))) (
 sh43k9 R [.pointer t_1, .pointer (some x2), .pointer (some x_3), .pointer (some n_4)] w))
def sh43k8 (R : EW) : List Value → World → Prop := fun vs w => ∃ (t_1 : OA), ∃ (x2 : Addr), ∃ (x_3 : Addr), ∃ (n_4 : Addr), vs = [.pointer t_1, .pointer (some x2), .pointer (some x_3), .pointer (some n_4)] ∧ sh43b8 t_1 x2 x_3 n_4 R w
theorem sh43b8_wp {j : Nat → Value} (t_1 : OA) (x2 : Addr) (x_3 : Addr) (n_4 : Addr) {R : EW} {w : World} (g0 : j 0 = (.pointer t_1 : Value)) (g2 : j 2 = (.pointer (some x2) : Value)) (g3 : j 3 = (.pointer (some x_3) : Value)) (g4 : j 4 = (.pointer (some n_4) : Value)) (h : sh43b8 t_1 x2 x_3 n_4 R w) : Code.wpIn (fen none) 0 Tryz.prog (Old.tailC 10 (bodyOf Tryz.f43)) (Old.full (Qfn Tryz.prog Tryz.f43 R) (Kfn R)) { tmps := #[j 0, j 1, j 2, j 3, j 4, j 5, j 6, j 7, j 8, j 9, j 10, j 11, j 12, j 13, j 14, j 15, j 16, j 17, j 18, j 19, j 20, j 21, j 22, j 23, j 24, j 25, j 26, j 27, j 28, j 29, j 30, j 31, j 32, j 33, j 34, j 35, j 36, j 37, j 38, j 39, j 40, j 41, j 42, j 43, j 44, j 45, j 46, j 47, j 48, j 49, j 50, j 51, j 52, j 53, j 54, j 55, j 56, j 57, j 58, j 59, j 60, j 61, j 62, j 63, j 64, j 65, j 66, j 67, j 68, j 69, j 70, j 71, j 72, j 73, j 74, j 75, j 76, j 77, j 78, j 79, j 80, j 81, j 82, j 83, j 84, j 85, j 86, j 87, j 88, j 89, j 90, j 91, j 92, j 93, j 94, j 95, j 96, j 97, j 98, j 99, j 100, j 101, j 102, j 103, j 104, j 105, j 106, j 107, j 108, j 109, j 110, j 111, j 112, j 113, j 114, j 115, j 116, j 117, j 118, j 119, j 120, j 121, j 122, j 123, j 124, j 125, j 126, j 127, j 128, j 129, j 130, j 131, j 132, j 133, j 134, j 135, j 136, j 137, j 138], defers := [] } w := by
  rw [g0, g2, g3, g4]
  exact Old.wp_part (ann := fun _ => []) (n := 400) (k := 1) (K := sh43k9 R) (is := [0, 2, 3, 4]) (X := sh43b8 t_1 x2 x_3 n_4 R w) follows_mixed (by kernel_rfl) (by kernel_rfl) (fun a' w' hK hs hd => by
    obtain ⟨t_1, x2, x_3, n_4, hv, h2⟩ := hK
    obtain ⟨tmps, defers⟩ := a'
    simp only at hs hd hv
    subst hd
    have hs : tmps.size = 139 := hs.trans (by kernel_rfl)
    have hl := Old.arr_lit hs
    obtain ⟨j, hj⟩ : ∃ j : Nat → Value, ∀ i, tmps.getD i undef = j i := ⟨_, fun _ => rfl⟩
    rw [show (fun i => tmps.getD i undef) = j from funext hj] at hl
    have e2 : tmps = #[j 0, j 1, j 2, j 3, j 4, j 5, j 6, j 7, j 8, j 9, j 10, j 11, j 12, j 13, j 14, j 15, j 16, j 17, j 18, j 19, j 20, j 21, j 22, j 23, j 24, j 25, j 26, j 27, j 28, j 29, j 30, j 31, j 32, j 33, j 34, j 35, j 36, j 37, j 38, j 39, j 40, j 41, j 42, j 43, j 44, j 45, j 46, j 47, j 48, j 49, j 50, j 51, j 52, j 53, j 54, j 55, j 56, j 57, j 58, j 59, j 60, j 61, j 62, j 63, j 64, j 65, j 66, j 67, j 68, j 69, j 70, j 71, j 72, j 73, j 74, j 75, j 76, j 77, j 78, j 79, j 80, j 81, j 82, j 83, j 84, j 85, j 86, j 87, j 88, j 89, j 90, j 91, j 92, j 93, j 94, j 95, j 96, j 97, j 98, j 99, j 100, j 101, j 102, j 103, j 104, j 105, j 106, j 107, j 108, j 109, j 110, j 111, j 112, j 113, j 114, j 115, j 116, j 117, j 118, j 119, j 120, j 121, j 122, j 123, j 124, j 125, j 126, j 127, j 128, j 129, j 130, j 131, j 132, j 133, j 134, j 135, j 136, j 137, j 138] := hl.trans (by kernel_rfl)
    simp only [Old.getAll, List.map_cons, List.map_nil, hj, List.cons.injEq, and_true] at hv
    obtain ⟨g0, g2, g3, g4⟩ := hv
    rw [e2]
    exact sh43b9_wp t_1 x2 x_3 n_4 g0 g2 g3 g4 h2) h
def sh43b7 (t_1 : OA) (x2 : Addr) (x_3 : Addr) (n_4 : Addr) (R : EW) (w : World) : Prop :=
 ∃ x5, w.cell? (n_4.add 7) = some (.bool x5) ∧ (
 ifB x5 (
 doCall Tryz.prog (.func (.func 63) #[] #[]) #[.pointer t_1] w (retS (fun v7 w8 => ∃ x6, v7 = (.int .u8 x6 : Value) ∧ (
 doSt ((x_3.add 8).add 0) (.int .u8 x6) w8 (fun w9 =>
 sh43k8 R [.pointer t_1, .pointer (some x2), .pointer (some x_3), .pointer (some n_4)] w9))) (kN R))) (
 sh43k8 R [.pointer t_1, .pointer (some x2), .pointer (some x_3), .pointer (some n_4)] w))
def sh43k7 (R : EW) : List Value → World → Prop := fun vs w => ∃ (t_1 : OA), ∃ (x2 : Addr), ∃ (x_3 : Addr), ∃ (n_4 : Addr), vs = [.pointer t_1, .pointer (some x2), .pointer (some x_3), .pointer (some n_4)] ∧ sh43b7 t_1 x2 x_3 n_4 R w
theorem sh43b7_wp {j : Nat → Value} (t_1 : OA) (x2 : Addr) (x_3 : Addr) (n_4 : Addr) {R : EW} {w : World} (g0 : j 0 = (.pointer t_1 : Value)) (g2 : j 2 = (.pointer (some x2) : Value)) (g3 : j 3 = (.pointer (some x_3) : Value)) (g4 : j 4 = (.pointer (some n_4) : Value)) (h : sh43b7 t_1 x2 x_3 n_4 R w) : Code.wpIn (fen none) 0 Tryz.prog (Old.tailC 9 (bodyOf Tryz.f43)) (Old.full (Qfn Tryz.prog Tryz.f43 R) (Kfn R)) { tmps := #[j 0, j 1, j 2, j 3, j 4, j 5, j 6, j 7, j 8, j 9, j 10, j 11, j 12, j 13, j 14, j 15, j 16, j 17, j 18, j 19, j 20, j 21, j 22, j 23, j 24, j 25, j 26, j 27, j 28, j 29, j 30, j 31, j 32, j 33, j 34, j 35, j 36, j 37, j 38, j 39, j 40, j 41, j 42, j 43, j 44, j 45, j 46, j 47, j 48, j 49, j 50, j 51, j 52, j 53, j 54, j 55, j 56, j 57, j 58, j 59, j 60, j 61, j 62, j 63, j 64, j 65, j 66, j 67, j 68, j 69, j 70, j 71, j 72, j 73, j 74, j 75, j 76, j 77, j 78, j 79, j 80, j 81, j 82, j 83, j 84, j 85, j 86, j 87, j 88, j 89, j 90, j 91, j 92, j 93, j 94, j 95, j 96, j 97, j 98, j 99, j 100, j 101, j 102, j 103, j 104, j 105, j 106, j 107, j 108, j 109, j 110, j 111, j 112, j 113, j 114, j 115, j 116, j 117, j 118, j 119, j 120, j 121, j 122, j 123, j 124, j 125, j 126, j 127, j 128, j 129, j 130, j 131, j 132, j 133, j 134, j 135, j 136, j 137, j 138], defers := [] } w := by
  rw [g0, g2, g3, g4]
  exact Old.wp_part (ann := fun _ => []) (n := 400) (k := 1) (K := sh43k8 R) (is := [0, 2, 3, 4]) (X := sh43b7 t_1 x2 x_3 n_4 R w) follows_mixed (by kernel_rfl) (by kernel_rfl) (fun a' w' hK hs hd => by
    obtain ⟨t_1, x2, x_3, n_4, hv, h2⟩ := hK
    obtain ⟨tmps, defers⟩ := a'
    simp only at hs hd hv
    subst hd
    have hs : tmps.size = 139 := hs.trans (by kernel_rfl)
    have hl := Old.arr_lit hs
    obtain ⟨j, hj⟩ : ∃ j : Nat → Value, ∀ i, tmps.getD i undef = j i := ⟨_, fun _ => rfl⟩
    rw [show (fun i => tmps.getD i undef) = j from funext hj] at hl
    have e2 : tmps = #[j 0, j 1, j 2, j 3, j 4, j 5, j 6, j 7, j 8, j 9, j 10, j 11, j 12, j 13, j 14, j 15, j 16, j 17, j 18, j 19, j 20, j 21, j 22, j 23, j 24, j 25, j 26, j 27, j 28, j 29, j 30, j 31, j 32, j 33, j 34, j 35, j 36, j 37, j 38, j 39, j 40, j 41, j 42, j 43, j 44, j 45, j 46, j 47, j 48, j 49, j 50, j 51, j 52, j 53, j 54, j 55, j 56, j 57, j 58, j 59, j 60, j 61, j 62, j 63, j 64, j 65, j 66, j 67, j 68, j 69, j 70, j 71, j 72, j 73, j 74, j 75, j 76, j 77, j 78, j 79, j 80, j 81, j 82, j 83, j 84, j 85, j 86, j 87, j 88, j 89, j 90, j 91, j 92, j 93, j 94, j 95, j 96, j 97, j 98, j 99, j 100, j 101, j 102, j 103, j 104, j 105, j 106, j 107, j 108, j 109, j 110, j 111, j 112, j 113, j 114, j 115, j 116, j 117, j 118, j 119, j 120, j 121, j 122, j 123, j 124, j 125, j 126, j 127, j 128, j 129, j 130, j 131, j 132, j 133, j 134, j 135, j 136, j 137, j 138] := hl.trans (by kernel_rfl)
    simp only [Old.getAll, List.map_cons, List.map_nil, hj, List.cons.injEq, and_true] at hv
    obtain ⟨g0, g2, g3, g4⟩ := hv
    rw [e2]
    exact sh43b8_wp t_1 x2 x_3 n_4 g0 g2 g3 g4 h2) h
def sh43b6 (t_1 : OA) (x2 : Addr) (x_3 : Addr) (n_4 : Addr) (R : EW) (w : World) : Prop :=
 ∃ x5, w.cell? (n_4.add 6) = some (.bool x5) ∧ (
 ifB x5 (
 doCall Tryz.prog (.func (.func 64) #[] #[]) #[.pointer t_1] w (retS (fun v7 w8 => ∃ x6, v7 = (.int .i64 x6 : Value) ∧ (
 doSt ((x_3.add 7).add 0) (.int .i64 x6) w8 (fun w9 =>
 sh43k7 R [.pointer t_1, .pointer (some x2), .pointer (some x_3), .pointer (some n_4)] w9))) (kN R))) (
 sh43k7 R [.pointer t_1, .pointer (some x2), .pointer (some x_3), .pointer (some n_4)] w))
def sh43k6 (R : EW) : List Value → World → Prop := fun vs w => ∃ (t_1 : OA), ∃ (x2 : Addr), ∃ (x_3 : Addr), ∃ (n_4 : Addr), vs = [.pointer t_1, .pointer (some x2), .pointer (some x_3), .pointer (some n_4)] ∧ sh43b6 t_1 x2 x_3 n_4 R w
theorem sh43b6_wp {j : Nat → Value} (t_1 : OA) (x2 : Addr) (x_3 : Addr) (n_4 : Addr) {R : EW} {w : World} (g0 : j 0 = (.pointer t_1 : Value)) (g2 : j 2 = (.pointer (some x2) : Value)) (g3 : j 3 = (.pointer (some x_3) : Value)) (g4 : j 4 = (.pointer (some n_4) : Value)) (h : sh43b6 t_1 x2 x_3 n_4 R w) : Code.wpIn (fen none) 0 Tryz.prog (Old.tailC 8 (bodyOf Tryz.f43)) (Old.full (Qfn Tryz.prog Tryz.f43 R) (Kfn R)) { tmps := #[j 0, j 1, j 2, j 3, j 4, j 5, j 6, j 7, j 8, j 9, j 10, j 11, j 12, j 13, j 14, j 15, j 16, j 17, j 18, j 19, j 20, j 21, j 22, j 23, j 24, j 25, j 26, j 27, j 28, j 29, j 30, j 31, j 32, j 33, j 34, j 35, j 36, j 37, j 38, j 39, j 40, j 41, j 42, j 43, j 44, j 45, j 46, j 47, j 48, j 49, j 50, j 51, j 52, j 53, j 54, j 55, j 56, j 57, j 58, j 59, j 60, j 61, j 62, j 63, j 64, j 65, j 66, j 67, j 68, j 69, j 70, j 71, j 72, j 73, j 74, j 75, j 76, j 77, j 78, j 79, j 80, j 81, j 82, j 83, j 84, j 85, j 86, j 87, j 88, j 89, j 90, j 91, j 92, j 93, j 94, j 95, j 96, j 97, j 98, j 99, j 100, j 101, j 102, j 103, j 104, j 105, j 106, j 107, j 108, j 109, j 110, j 111, j 112, j 113, j 114, j 115, j 116, j 117, j 118, j 119, j 120, j 121, j 122, j 123, j 124, j 125, j 126, j 127, j 128, j 129, j 130, j 131, j 132, j 133, j 134, j 135, j 136, j 137, j 138], defers := [] } w := by
  rw [g0, g2, g3, g4]
  exact Old.wp_part (ann := fun _ => []) (n := 400) (k := 1) (K := sh43k7 R) (is := [0, 2, 3, 4]) (X := sh43b6 t_1 x2 x_3 n_4 R w) follows_mixed (by kernel_rfl) (by kernel_rfl) (fun a' w' hK hs hd => by
    obtain ⟨t_1, x2, x_3, n_4, hv, h2⟩ := hK
    obtain ⟨tmps, defers⟩ := a'
    simp only at hs hd hv
    subst hd
    have hs : tmps.size = 139 := hs.trans (by kernel_rfl)
    have hl := Old.arr_lit hs
    obtain ⟨j, hj⟩ : ∃ j : Nat → Value, ∀ i, tmps.getD i undef = j i := ⟨_, fun _ => rfl⟩
    rw [show (fun i => tmps.getD i undef) = j from funext hj] at hl
    have e2 : tmps = #[j 0, j 1, j 2, j 3, j 4, j 5, j 6, j 7, j 8, j 9, j 10, j 11, j 12, j 13, j 14, j 15, j 16, j 17, j 18, j 19, j 20, j 21, j 22, j 23, j 24, j 25, j 26, j 27, j 28, j 29, j 30, j 31, j 32, j 33, j 34, j 35, j 36, j 37, j 38, j 39, j 40, j 41, j 42, j 43, j 44, j 45, j 46, j 47, j 48, j 49, j 50, j 51, j 52, j 53, j 54, j 55, j 56, j 57, j 58, j 59, j 60, j 61, j 62, j 63, j 64, j 65, j 66, j 67, j 68, j 69, j 70, j 71, j 72, j 73, j 74, j 75, j 76, j 77, j 78, j 79, j 80, j 81, j 82, j 83, j 84, j 85, j 86, j 87, j 88, j 89, j 90, j 91, j 92, j 93, j 94, j 95, j 96, j 97, j 98, j 99, j 100, j 101, j 102, j 103, j 104, j 105, j 106, j 107, j 108, j 109, j 110, j 111, j 112, j 113, j 114, j 115, j 116, j 117, j 118, j 119, j 120, j 121, j 122, j 123, j 124, j 125, j 126, j 127, j 128, j 129, j 130, j 131, j 132, j 133, j 134, j 135, j 136, j 137, j 138] := hl.trans (by kernel_rfl)
    simp only [Old.getAll, List.map_cons, List.map_nil, hj, List.cons.injEq, and_true] at hv
    obtain ⟨g0, g2, g3, g4⟩ := hv
    rw [e2]
    exact sh43b7_wp t_1 x2 x_3 n_4 g0 g2 g3 g4 h2) h
def sh43b5 (t_1 : OA) (x2 : Addr) (x_3 : Addr) (n_4 : Addr) (R : EW) (w : World) : Prop :=
 ∃ x5, w.cell? (n_4.add 4) = some (.bool x5) ∧ (
 ifB x5 (
 doCall Tryz.prog (.func (.func 64) #[] #[]) #[.pointer t_1] w (retS (fun v7 w8 => ∃ x6, v7 = (.int .i64 x6 : Value) ∧ (
 doSt ((x_3.add 5).add 0) (.int .i64 x6) w8 (fun w9 =>
 doCall Tryz.prog (.func (.func 64) #[] #[]) #[.pointer t_1] w9 (retS (fun v11 w12 => ∃ x10, v11 = (.int .i64 x10 : Value) ∧ (
 doSt ((x_3.add 6).add 0) (.int .i64 x10) w12 (fun w13 =>
 sh43k6 R [.pointer t_1, .pointer (some x2), .pointer (some x_3), .pointer (some n_4)] w13))) (kN R))))) (kN R))) (
 sh43k6 R [.pointer t_1, .pointer (some x2), .pointer (some x_3), .pointer (some n_4)] w))
def sh43k5 (R : EW) : List Value → World → Prop := fun vs w => ∃ (t_1 : OA), ∃ (x2 : Addr), ∃ (x_3 : Addr), ∃ (n_4 : Addr), vs = [.pointer t_1, .pointer (some x2), .pointer (some x_3), .pointer (some n_4)] ∧ sh43b5 t_1 x2 x_3 n_4 R w
theorem sh43b5_wp {j : Nat → Value} (t_1 : OA) (x2 : Addr) (x_3 : Addr) (n_4 : Addr) {R : EW} {w : World} (g0 : j 0 = (.pointer t_1 : Value)) (g2 : j 2 = (.pointer (some x2) : Value)) (g3 : j 3 = (.pointer (some x_3) : Value)) (g4 : j 4 = (.pointer (some n_4) : Value)) (h : sh43b5 t_1 x2 x_3 n_4 R w) : Code.wpIn (fen none) 0 Tryz.prog (Old.tailC 7 (bodyOf Tryz.f43)) (Old.full (Qfn Tryz.prog Tryz.f43 R) (Kfn R)) { tmps := #[j 0, j 1, j 2, j 3, j 4, j 5, j 6, j 7, j 8, j 9, j 10, j 11, j 12, j 13, j 14, j 15, j 16, j 17, j 18, j 19, j 20, j 21, j 22, j 23, j 24, j 25, j 26, j 27, j 28, j 29, j 30, j 31, j 32, j 33, j 34, j 35, j 36, j 37, j 38, j 39, j 40, j 41, j 42, j 43, j 44, j 45, j 46, j 47, j 48, j 49, j 50, j 51, j 52, j 53, j 54, j 55, j 56, j 57, j 58, j 59, j 60, j 61, j 62, j 63, j 64, j 65, j 66, j 67, j 68, j 69, j 70, j 71, j 72, j 73, j 74, j 75, j 76, j 77, j 78, j 79, j 80, j 81, j 82, j 83, j 84, j 85, j 86, j 87, j 88, j 89, j 90, j 91, j 92, j 93, j 94, j 95, j 96, j 97, j 98, j 99, j 100, j 101, j 102, j 103, j 104, j 105, j 106, j 107, j 108, j 109, j 110, j 111, j 112, j 113, j 114, j 115, j 116, j 117, j 118, j 119, j 120, j 121, j 122, j 123, j 124, j 125, j 126, j 127, j 128, j 129, j 130, j 131, j 132, j 133, j 134, j 135, j 136, j 137, j 138], defers := [] } w := by
  rw [g0, g2, g3, g4]
  exact Old.wp_part (ann := fun _ => []) (n := 400) (k := 1) (K := sh43k6 R) (is := [0, 2, 3, 4]) (X := sh43b5 t_1 x2 x_3 n_4 R w) follows_mixed (by kernel_rfl) (by kernel_rfl) (fun a' w' hK hs hd => by
    obtain ⟨t_1, x2, x_3, n_4, hv, h2⟩ := hK
    obtain ⟨tmps, defers⟩ := a'
    simp only at hs hd hv
    subst hd
    have hs : tmps.size = 139 := hs.trans (by kernel_rfl)
    have hl := Old.arr_lit hs
    obtain ⟨j, hj⟩ : ∃ j : Nat → Value, ∀ i, tmps.getD i undef = j i := ⟨_, fun _ => rfl⟩
    rw [show (fun i => tmps.getD i undef) = j from funext hj] at hl
    have e2 : tmps = #[j 0, j 1, j 2, j 3, j 4, j 5, j 6, j 7, j 8, j 9, j 10, j 11, j 12, j 13, j 14, j 15, j 16, j 17, j 18, j 19, j 20, j 21, j 22, j 23, j 24, j 25, j 26, j 27, j 28, j 29, j 30, j 31, j 32, j 33, j 34, j 35, j 36, j 37, j 38, j 39, j 40, j 41, j 42, j 43, j 44, j 45, j 46, j 47, j 48, j 49, j 50, j 51, j 52, j 53, j 54, j 55, j 56, j 57, j 58, j 59, j 60, j 61, j 62, j 63, j 64, j 65, j 66, j 67, j 68, j 69, j 70, j 71, j 72, j 73, j 74, j 75, j 76, j 77, j 78, j 79, j 80, j 81, j 82, j 83, j 84, j 85, j 86, j 87, j 88, j 89, j 90, j 91, j 92, j 93, j 94, j 95, j 96, j 97, j 98, j 99, j 100, j 101, j 102, j 103, j 104, j 105, j 106, j 107, j 108, j 109, j 110, j 111, j 112, j 113, j 114, j 115, j 116, j 117, j 118, j 119, j 120, j 121, j 122, j 123, j 124, j 125, j 126, j 127, j 128, j 129, j 130, j 131, j 132, j 133, j 134, j 135, j 136, j 137, j 138] := hl.trans (by kernel_rfl)
    simp only [Old.getAll, List.map_cons, List.map_nil, hj, List.cons.injEq, and_true] at hv
    obtain ⟨g0, g2, g3, g4⟩ := hv
    rw [e2]
    exact sh43b6_wp t_1 x2 x_3 n_4 g0 g2 g3 g4 h2) h
def sh43b4 (t_1 : OA) (x2 : Addr) (x_3 : Addr) (n_4 : Addr) (R : EW) (w : World) : Prop :=
 ∃ x5, w.cell? (n_4.add 3) = some (.bool x5) ∧ (
 ifB x5 (
 doCall Tryz.prog (.func (.func 64) #[] #[]) #[.pointer t_1] w (retS (fun v7 w8 => ∃ x6, v7 = (.int .i64 x6 : Value) ∧ (
 doSt ((x_3.add 4).add 0) (.int .i64 x6) w8 (fun w9 =>
 sh43k5 R [.pointer t_1, .pointer (some x2), .pointer (some x_3), .pointer (some n_4)] w9))) (kN R))) (
 sh43k5 R [.pointer t_1, .pointer (some x2), .pointer (some x_3), .pointer (some n_4)] w))
def sh43k4 (R : EW) : List Value → World → Prop := fun vs w => ∃ (t_1 : OA), ∃ (x2 : Addr), ∃ (x_3 : Addr), ∃ (n_4 : Addr), vs = [.pointer t_1, .pointer (some x2), .pointer (some x_3), .pointer (some n_4)] ∧ sh43b4 t_1 x2 x_3 n_4 R w
theorem sh43b4_wp {j : Nat → Value} (t_1 : OA) (x2 : Addr) (x_3 : Addr) (n_4 : Addr) {R : EW} {w : World} (g0 : j 0 = (.pointer t_1 : Value)) (g2 : j 2 = (.pointer (some x2) : Value)) (g3 : j 3 = (.pointer (some x_3) : Value)) (g4 : j 4 = (.pointer (some n_4) : Value)) (h : sh43b4 t_1 x2 x_3 n_4 R w) : Code.wpIn (fen none) 0 Tryz.prog (Old.tailC 6 (bodyOf Tryz.f43)) (Old.full (Qfn Tryz.prog Tryz.f43 R) (Kfn R)) { tmps := #[j 0, j 1, j 2, j 3, j 4, j 5, j 6, j 7, j 8, j 9, j 10, j 11, j 12, j 13, j 14, j 15, j 16, j 17, j 18, j 19, j 20, j 21, j 22, j 23, j 24, j 25, j 26, j 27, j 28, j 29, j 30, j 31, j 32, j 33, j 34, j 35, j 36, j 37, j 38, j 39, j 40, j 41, j 42, j 43, j 44, j 45, j 46, j 47, j 48, j 49, j 50, j 51, j 52, j 53, j 54, j 55, j 56, j 57, j 58, j 59, j 60, j 61, j 62, j 63, j 64, j 65, j 66, j 67, j 68, j 69, j 70, j 71, j 72, j 73, j 74, j 75, j 76, j 77, j 78, j 79, j 80, j 81, j 82, j 83, j 84, j 85, j 86, j 87, j 88, j 89, j 90, j 91, j 92, j 93, j 94, j 95, j 96, j 97, j 98, j 99, j 100, j 101, j 102, j 103, j 104, j 105, j 106, j 107, j 108, j 109, j 110, j 111, j 112, j 113, j 114, j 115, j 116, j 117, j 118, j 119, j 120, j 121, j 122, j 123, j 124, j 125, j 126, j 127, j 128, j 129, j 130, j 131, j 132, j 133, j 134, j 135, j 136, j 137, j 138], defers := [] } w := by
  rw [g0, g2, g3, g4]
  exact Old.wp_part (ann := fun _ => []) (n := 400) (k := 1) (K := sh43k5 R) (is := [0, 2, 3, 4]) (X := sh43b4 t_1 x2 x_3 n_4 R w) follows_mixed (by kernel_rfl) (by kernel_rfl) (fun a' w' hK hs hd => by
    obtain ⟨t_1, x2, x_3, n_4, hv, h2⟩ := hK
    obtain ⟨tmps, defers⟩ := a'
    simp only at hs hd hv
    subst hd
    have hs : tmps.size = 139 := hs.trans (by kernel_rfl)
    have hl := Old.arr_lit hs
    obtain ⟨j, hj⟩ : ∃ j : Nat → Value, ∀ i, tmps.getD i undef = j i := ⟨_, fun _ => rfl⟩
    rw [show (fun i => tmps.getD i undef) = j from funext hj] at hl
    have e2 : tmps = #[j 0, j 1, j 2, j 3, j 4, j 5, j 6, j 7, j 8, j 9, j 10, j 11, j 12, j 13, j 14, j 15, j 16, j 17, j 18, j 19, j 20, j 21, j 22, j 23, j 24, j 25, j 26, j 27, j 28, j 29, j 30, j 31, j 32, j 33, j 34, j 35, j 36, j 37, j 38, j 39, j 40, j 41, j 42, j 43, j 44, j 45, j 46, j 47, j 48, j 49, j 50, j 51, j 52, j 53, j 54, j 55, j 56, j 57, j 58, j 59, j 60, j 61, j 62, j 63, j 64, j 65, j 66, j 67, j 68, j 69, j 70, j 71, j 72, j 73, j 74, j 75, j 76, j 77, j 78, j 79, j 80, j 81, j 82, j 83, j 84, j 85, j 86, j 87, j 88, j 89, j 90, j 91, j 92, j 93, j 94, j 95, j 96, j 97, j 98, j 99, j 100, j 101, j 102, j 103, j 104, j 105, j 106, j 107, j 108, j 109, j 110, j 111, j 112, j 113, j 114, j 115, j 116, j 117, j 118, j 119, j 120, j 121, j 122, j 123, j 124, j 125, j 126, j 127, j 128, j 129, j 130, j 131, j 132, j 133, j 134, j 135, j 136, j 137, j 138] := hl.trans (by kernel_rfl)
    simp only [Old.getAll, List.map_cons, List.map_nil, hj, List.cons.injEq, and_true] at hv
    obtain ⟨g0, g2, g3, g4⟩ := hv
    rw [e2]
    exact sh43b5_wp t_1 x2 x_3 n_4 g0 g2 g3 g4 h2) h
def sh43b3 (t_1 : OA) (x2 : Addr) (x_3 : Addr) (n_4 : Addr) (R : EW) (w : World) : Prop :=
 ∃ x5, w.cell? (n_4.add 2) = some (.bool x5) ∧ (
 ifB x5 (
 doCall Tryz.prog (.func (.func 64) #[] #[]) #[.pointer t_1] w (retS (fun v7 w8 => ∃ x6, v7 = (.int .i64 x6 : Value) ∧ (
 doSt ((x_3.add 3).add 0) (.int .i64 x6) w8 (fun w9 =>
 sh43k4 R [.pointer t_1, .pointer (some x2), .pointer (some x_3), .pointer (some n_4)] w9))) (kN R))) (
 sh43k4 R [.pointer t_1, .pointer (some x2), .pointer (some x_3), .pointer (some n_4)] w))
def sh43k3 (R : EW) : List Value → World → Prop := fun vs w => ∃ (t_1 : OA), ∃ (x2 : Addr), ∃ (x_3 : Addr), ∃ (n_4 : Addr), vs = [.pointer t_1, .pointer (some x2), .pointer (some x_3), .pointer (some n_4)] ∧ sh43b3 t_1 x2 x_3 n_4 R w
theorem sh43b3_wp {j : Nat → Value} (t_1 : OA) (x2 : Addr) (x_3 : Addr) (n_4 : Addr) {R : EW} {w : World} (g0 : j 0 = (.pointer t_1 : Value)) (g2 : j 2 = (.pointer (some x2) : Value)) (g3 : j 3 = (.pointer (some x_3) : Value)) (g4 : j 4 = (.pointer (some n_4) : Value)) (h : sh43b3 t_1 x2 x_3 n_4 R w) : Code.wpIn (fen none) 0 Tryz.prog (Old.tailC 5 (bodyOf Tryz.f43)) (Old.full (Qfn Tryz.prog Tryz.f43 R) (Kfn R)) { tmps := #[j 0, j 1, j 2, j 3, j 4, j 5, j 6, j 7, j 8, j 9, j 10, j 11, j 12, j 13, j 14, j 15, j 16, j 17, j 18, j 19, j 20, j 21, j 22, j 23, j 24, j 25, j 26, j 27, j 28, j 29, j 30, j 31, j 32, j 33, j 34, j 35, j 36, j 37, j 38, j 39, j 40, j 41, j 42, j 43, j 44, j 45, j 46, j 47, j 48, j 49, j 50, j 51, j 52, j 53, j 54, j 55, j 56, j 57, j 58, j 59, j 60, j 61, j 62, j 63, j 64, j 65, j 66, j 67, j 68, j 69, j 70, j 71, j 72, j 73, j 74, j 75, j 76, j 77, j 78, j 79, j 80, j 81, j 82, j 83, j 84, j 85, j 86, j 87, j 88, j 89, j 90, j 91, j 92, j 93, j 94, j 95, j 96, j 97, j 98, j 99, j 100, j 101, j 102, j 103, j 104, j 105, j 106, j 107, j 108, j 109, j 110, j 111, j 112, j 113, j 114, j 115, j 116, j 117, j 118, j 119, j 120, j 121, j 122, j 123, j 124, j 125, j 126, j 127, j 128, j 129, j 130, j 131, j 132, j 133, j 134, j 135, j 136, j 137, j 138], defers := [] } w := by
  rw [g0, g2, g3, g4]
  exact Old.wp_part (ann := fun _ => []) (n := 400) (k := 1) (K := sh43k4 R) (is := [0, 2, 3, 4]) (X := sh43b3 t_1 x2 x_3 n_4 R w) follows_mixed (by kernel_rfl) (by kernel_rfl) (fun a' w' hK hs hd => by
    obtain ⟨t_1, x2, x_3, n_4, hv, h2⟩ := hK
    obtain ⟨tmps, defers⟩ := a'
    simp only at hs hd hv
    subst hd
    have hs : tmps.size = 139 := hs.trans (by kernel_rfl)
    have hl := Old.arr_lit hs
    obtain ⟨j, hj⟩ : ∃ j : Nat → Value, ∀ i, tmps.getD i undef = j i := ⟨_, fun _ => rfl⟩
    rw [show (fun i => tmps.getD i undef) = j from funext hj] at hl
    have e2 : tmps = #[j 0, j 1, j 2, j 3, j 4, j 5, j 6, j 7, j 8, j 9, j 10, j 11, j 12, j 13, j 14, j 15, j 16, j 17, j 18, j 19, j 20, j 21, j 22, j 23, j 24, j 25, j 26, j 27, j 28, j 29, j 30, j 31, j 32, j 33, j 34, j 35, j 36, j 37, j 38, j 39, j 40, j 41, j 42, j 43, j 44, j 45, j 46, j 47, j 48, j 49, j 50, j 51, j 52, j 53, j 54, j 55, j 56, j 57, j 58, j 59, j 60, j 61, j 62, j 63, j 64, j 65, j 66, j 67, j 68, j 69, j 70, j 71, j 72, j 73, j 74, j 75, j 76, j 77, j 78, j 79, j 80, j 81, j 82, j 83, j 84, j 85, j 86, j 87, j 88, j 89, j 90, j 91, j 92, j 93, j 94, j 95, j 96, j 97, j 98, j 99, j 100, j 101, j 102, j 103, j 104, j 105, j 106, j 107, j 108, j 109, j 110, j 111, j 112, j 113, j 114, j 115, j 116, j 117, j 118, j 119, j 120, j 121, j 122, j 123, j 124, j 125, j 126, j 127, j 128, j 129, j 130, j 131, j 132, j 133, j 134, j 135, j 136, j 137, j 138] := hl.trans (by kernel_rfl)
    simp only [Old.getAll, List.map_cons, List.map_nil, hj, List.cons.injEq, and_true] at hv
    obtain ⟨g0, g2, g3, g4⟩ := hv
    rw [e2]
    exact sh43b4_wp t_1 x2 x_3 n_4 g0 g2 g3 g4 h2) h
def sh43b2 (t_1 : OA) (x2 : Addr) (x_3 : Addr) (n_4 : Addr) (R : EW) (w : World) : Prop :=
 ∃ x5, w.cell? (n_4.add 1) = some (.bool x5) ∧ (
 ifB x5 (
 doCall Tryz.prog (.func (.func 64) #[] #[]) #[.pointer t_1] w (retS (fun v7 w8 => ∃ x6, v7 = (.int .i64 x6 : Value) ∧ (
 doSt ((x_3.add 2).add 0) (.int .i64 x6) w8 (fun w9 =>
 sh43k3 R [.pointer t_1, .pointer (some x2), .pointer (some x_3), .pointer (some n_4)] w9))) (kN R))) (
 sh43k3 R [.pointer t_1, .pointer (some x2), .pointer (some x_3), .pointer (some n_4)] w))
def sh43k2 (R : EW) : List Value → World → Prop := fun vs w => ∃ (t_1 : OA), ∃ (x2 : Addr), ∃ (x_3 : Addr), ∃ (n_4 : Addr), vs = [.pointer t_1, .pointer (some x2), .pointer (some x_3), .pointer (some n_4)] ∧ sh43b2 t_1 x2 x_3 n_4 R w
theorem sh43b2_wp {j : Nat → Value} (t_1 : OA) (x2 : Addr) (x_3 : Addr) (n_4 : Addr) {R : EW} {w : World} (g0 : j 0 = (.pointer t_1 : Value)) (g2 : j 2 = (.pointer (some x2) : Value)) (g3 : j 3 = (.pointer (some x_3) : Value)) (g4 : j 4 = (.pointer (some n_4) : Value)) (h : sh43b2 t_1 x2 x_3 n_4 R w) : Code.wpIn (fen none) 0 Tryz.prog (Old.tailC 4 (bodyOf Tryz.f43)) (Old.full (Qfn Tryz.prog Tryz.f43 R) (Kfn R)) { tmps := #[j 0, j 1, j 2, j 3, j 4, j 5, j 6, j 7, j 8, j 9, j 10, j 11, j 12, j 13, j 14, j 15, j 16, j 17, j 18, j 19, j 20, j 21, j 22, j 23, j 24, j 25, j 26, j 27, j 28, j 29, j 30, j 31, j 32, j 33, j 34, j 35, j 36, j 37, j 38, j 39, j 40, j 41, j 42, j 43, j 44, j 45, j 46, j 47, j 48, j 49, j 50, j 51, j 52, j 53, j 54, j 55, j 56, j 57, j 58, j 59, j 60, j 61, j 62, j 63, j 64, j 65, j 66, j 67, j 68, j 69, j 70, j 71, j 72, j 73, j 74, j 75, j 76, j 77, j 78, j 79, j 80, j 81, j 82, j 83, j 84, j 85, j 86, j 87, j 88, j 89, j 90, j 91, j 92, j 93, j 94, j 95, j 96, j 97, j 98, j 99, j 100, j 101, j 102, j 103, j 104, j 105, j 106, j 107, j 108, j 109, j 110, j 111, j 112, j 113, j 114, j 115, j 116, j 117, j 118, j 119, j 120, j 121, j 122, j 123, j 124, j 125, j 126, j 127, j 128, j 129, j 130, j 131, j 132, j 133, j 134, j 135, j 136, j 137, j 138], defers := [] } w := by
  rw [g0, g2, g3, g4]
  exact Old.wp_part (ann := fun _ => []) (n := 400) (k := 1) (K := sh43k3 R) (is := [0, 2, 3, 4]) (X := sh43b2 t_1 x2 x_3 n_4 R w) follows_mixed (by kernel_rfl) (by kernel_rfl) (fun a' w' hK hs hd => by
    obtain ⟨t_1, x2, x_3, n_4, hv, h2⟩ := hK
    obtain ⟨tmps, defers⟩ := a'
    simp only at hs hd hv
    subst hd
    have hs : tmps.size = 139 := hs.trans (by kernel_rfl)
    have hl := Old.arr_lit hs
    obtain ⟨j, hj⟩ : ∃ j : Nat → Value, ∀ i, tmps.getD i undef = j i := ⟨_, fun _ => rfl⟩
    rw [show (fun i => tmps.getD i undef) = j from funext hj] at hl
    have e2 : tmps = #[j 0, j 1, j 2, j 3, j 4, j 5, j 6, j 7, j 8, j 9, j 10, j 11, j 12, j 13, j 14, j 15, j 16, j 17, j 18, j 19, j 20, j 21, j 22, j 23, j 24, j 25, j 26, j 27, j 28, j 29, j 30, j 31, j 32, j 33, j 34, j 35, j 36, j 37, j 38, j 39, j 40, j 41, j 42, j 43, j 44, j 45, j 46, j 47, j 48, j 49, j 50, j 51, j 52, j 53, j 54, j 55, j 56, j 57, j 58, j 59, j 60, j 61, j 62, j 63, j 64, j 65, j 66, j 67, j 68, j 69, j 70, j 71, j 72, j 73, j 74, j 75, j 76, j 77, j 78, j 79, j 80, j 81, j 82, j 83, j 84, j 85, j 86, j 87, j 88, j 89, j 90, j 91, j 92, j 93, j 94, j 95, j 96, j 97, j 98, j 99, j 100, j 101, j 102, j 103, j 104, j 105, j 106, j 107, j 108, j 109, j 110, j 111, j 112, j 113, j 114, j 115, j 116, j 117, j 118, j 119, j 120, j 121, j 122, j 123, j 124, j 125, j 126, j 127, j 128, j 129, j 130, j 131, j 132, j 133, j 134, j 135, j 136, j 137, j 138] := hl.trans (by kernel_rfl)
    simp only [Old.getAll, List.map_cons, List.map_nil, hj, List.cons.injEq, and_true] at hv
    obtain ⟨g0, g2, g3, g4⟩ := hv
    rw [e2]
    exact sh43b3_wp t_1 x2 x_3 n_4 g0 g2 g3 g4 h2) h
def sh43b1 (t_1 : OA) (x2 : Addr) (x_3 : Addr) (n_4 : Addr) (R : EW) (w : World) : Prop :=
 ∃ x5, w.cell? (n_4.add 0) = some (.bool x5) ∧ (
 ifB x5 (
 doCall Tryz.prog (.func (.func 64) #[] #[]) #[.pointer t_1] w (retS (fun v7 w8 => ∃ x6, v7 = (.int .i64 x6 : Value) ∧ (
 doSt ((x_3.add 1).add 0) (.int .i64 x6) w8 (fun w9 =>
 sh43k2 R [.pointer t_1, .pointer (some x2), .pointer (some x_3), .pointer (some n_4)] w9))) (kN R))) (
 sh43k2 R [.pointer t_1, .pointer (some x2), .pointer (some x_3), .pointer (some n_4)] w))
def sh43k1 (R : EW) : List Value → World → Prop := fun vs w => ∃ (t_1 : OA), ∃ (x2 : Addr), ∃ (x_3 : Addr), ∃ (n_4 : Addr), vs = [.pointer t_1, .pointer (some x2), .pointer (some x_3), .pointer (some n_4)] ∧ sh43b1 t_1 x2 x_3 n_4 R w
theorem sh43b1_wp {j : Nat → Value} (t_1 : OA) (x2 : Addr) (x_3 : Addr) (n_4 : Addr) {R : EW} {w : World} (g0 : j 0 = (.pointer t_1 : Value)) (g2 : j 2 = (.pointer (some x2) : Value)) (g3 : j 3 = (.pointer (some x_3) : Value)) (g4 : j 4 = (.pointer (some n_4) : Value)) (h : sh43b1 t_1 x2 x_3 n_4 R w) : Code.wpIn (fen none) 0 Tryz.prog (Old.tailC 3 (bodyOf Tryz.f43)) (Old.full (Qfn Tryz.prog Tryz.f43 R) (Kfn R)) { tmps := #[j 0, j 1, j 2, j 3, j 4, j 5, j 6, j 7, j 8, j 9, j 10, j 11, j 12, j 13, j 14, j 15, j 16, j 17, j 18, j 19, j 20, j 21, j 22, j 23, j 24, j 25, j 26, j 27, j 28, j 29, j 30, j 31, j 32, j 33, j 34, j 35, j 36, j 37, j 38, j 39, j 40, j 41, j 42, j 43, j 44, j 45, j 46, j 47, j 48, j 49, j 50, j 51, j 52, j 53, j 54, j 55, j 56, j 57, j 58, j 59, j 60, j 61, j 62, j 63, j 64, j 65, j 66, j 67, j 68, j 69, j 70, j 71, j 72, j 73, j 74, j 75, j 76, j 77, j 78, j 79, j 80, j 81, j 82, j 83, j 84, j 85, j 86, j 87, j 88, j 89, j 90, j 91, j 92, j 93, j 94, j 95, j 96, j 97, j 98, j 99, j 100, j 101, j 102, j 103, j 104, j 105, j 106, j 107, j 108, j 109, j 110, j 111, j 112, j 113, j 114, j 115, j 116, j 117, j 118, j 119, j 120, j 121, j 122, j 123, j 124, j 125, j 126, j 127, j 128, j 129, j 130, j 131, j 132, j 133, j 134, j 135, j 136, j 137, j 138], defers := [] } w := by
  rw [g0, g2, g3, g4]
  exact Old.wp_part (ann := fun _ => []) (n := 400) (k := 1) (K := sh43k2 R) (is := [0, 2, 3, 4]) (X := sh43b1 t_1 x2 x_3 n_4 R w) follows_mixed (by kernel_rfl) (by kernel_rfl) (fun a' w' hK hs hd => by
    obtain ⟨t_1, x2, x_3, n_4, hv, h2⟩ := hK
    obtain ⟨tmps, defers⟩ := a'
    simp only at hs hd hv
    subst hd
    have hs : tmps.size = 139 := hs.trans (by kernel_rfl)
    have hl := Old.arr_lit hs
    obtain ⟨j, hj⟩ : ∃ j : Nat → Value, ∀ i, tmps.getD i undef = j i := ⟨_, fun _ => rfl⟩
    rw [show (fun i => tmps.getD i undef) = j from funext hj] at hl
    have e2 : tmps = #[j 0, j 1, j 2, j 3, j 4, j 5, j 6, j 7, j 8, j 9, j 10, j 11, j 12, j 13, j 14, j 15, j 16, j 17, j 18, j 19, j 20, j 21, j 22, j 23, j 24, j 25, j 26, j 27, j 28, j 29, j 30, j 31, j 32, j 33, j 34, j 35, j 36, j 37, j 38, j 39, j 40, j 41, j 42, j 43, j 44, j 45, j 46, j 47, j 48, j 49, j 50, j 51, j 52, j 53, j 54, j 55, j 56, j 57, j 58, j 59, j 60, j 61, j 62, j 63, j 64, j 65, j 66, j 67, j 68, j 69, j 70, j 71, j 72, j 73, j 74, j 75, j 76, j 77, j 78, j 79, j 80, j 81, j 82, j 83, j 84, j 85, j 86, j 87, j 88, j 89, j 90, j 91, j 92, j 93, j 94, j 95, j 96, j 97, j 98, j 99, j 100, j 101, j 102, j 103, j 104, j 105, j 106, j 107, j 108, j 109, j 110, j 111, j 112, j 113, j 114, j 115, j 116, j 117, j 118, j 119, j 120, j 121, j 122, j 123, j 124, j 125, j 126, j 127, j 128, j 129, j 130, j 131, j 132, j 133, j 134, j 135, j 136, j 137, j 138] := hl.trans (by kernel_rfl)
    simp only [Old.getAll, List.map_cons, List.map_nil, hj, List.cons.injEq, and_true] at hv
    obtain ⟨g0, g2, g3, g4⟩ := hv
    rw [e2]
    exact sh43b2_wp t_1 x2 x_3 n_4 g0 g2 g3 g4 h2) h
def sh43 (t_1 : OA) (R : EW) (w : World) : Prop :=
 doAl (.cells #[.int .u8 0, .int .i64 0, .int .i64 0, .int .i64 0, .int .i64 0, .int .i64 0, .int .i64 0, .int .i64 0, .int .u8 0, .int .u8 0, .int .i64 0, .int .i64 0, .bool false, .slice none 0 0, .slice none 0 0] 37) w (fun b2 w3 =>
 doCall Tryz.prog (.func (.func 63) #[] #[]) #[.pointer t_1] w3 (retS (fun v5 w6 => ∃ x4, v5 = (.int .u8 x4 : Value) ∧ (
 doAl (.cells #[.int .u8 0, .int .i64 0, .int .i64 0, .int .i64 0, .int .i64 0, .int .i64 0, .int .i64 0, .int .i64 0, .int .u8 0, .int .u8 0, .int .i64 0, .int .i64 0, .bool false, .slice none 0 0, .slice none 0 0] 37) w6 (fun b7 w8 =>
 doSt ((blk b7).add 0) (.int .u8 x4) w8 (fun w9 =>
 doSt ((blk b7).add 1) (.int .i64 0) w9 (fun w10 =>
 doSt ((blk b7).add 2) (.int .i64 0) w10 (fun w11 =>
 doSt ((blk b7).add 3) (.int .i64 0) w11 (fun w12 =>
 doSt ((blk b7).add 4) (.int .i64 0) w12 (fun w13 =>
 doSt ((blk b7).add 5) (.int .i64 0) w13 (fun w14 =>
 doSt ((blk b7).add 6) (.int .i64 0) w14 (fun w15 =>
 doSt ((blk b7).add 7) (.int .i64 0) w15 (fun w16 =>
 doSt ((blk b7).add 8) (.int .u8 0) w16 (fun w17 =>
 doSt ((blk b7).add 9) (.int .u8 0) w17 (fun w18 =>
 doSt ((blk b7).add 10) (.int .i64 0) w18 (fun w19 =>
 doSt ((blk b7).add 11) (.int .i64 0) w19 (fun w20 =>
 doSt ((blk b7).add 12) (.bool false) w20 (fun w21 =>
 doSt ((blk b7).add 13) (.slice none 0 0) w21 (fun w22 =>
 doSt ((blk b7).add 14) (.slice none 0 0) w22 (fun w23 =>
 ∃ x24, w23.cell? ((blk b7).add 0) = some (.int .u8 x24) ∧ (
 doCall Tryz.prog (.func (.func 30) #[] #[]) #[.int .u8 x24] w23 (retS (fun v37 w38 => ∃ x25 x26 x27 x28 x29 x30 x31 x32 x33 x34 x35 x36, v37 = (.tuple #[.agg #[.bool x25, .bool x26, .bool x27, .bool x28, .bool x29, .bool x30, .bool x31, .bool x32, .bool x33, .bool x34, .bool x35], .bool x36] : Value) ∧ (
 doAl (.cells #[.bool false, .bool false, .bool false, .bool false, .bool false, .bool false, .bool false, .bool false, .bool false, .bool false, .bool false] 67) w38 (fun b39 w40 =>
 doSt ((blk b39).add 0) (.bool x25) w40 (fun w41 =>
 doSt ((blk b39).add 1) (.bool x26) w41 (fun w42 =>
 doSt ((blk b39).add 2) (.bool x27) w42 (fun w43 =>
 doSt ((blk b39).add 3) (.bool x28) w43 (fun w44 =>
 doSt ((blk b39).add 4) (.bool x29) w44 (fun w45 =>
 doSt ((blk b39).add 5) (.bool x30) w45 (fun w46 =>
 doSt ((blk b39).add 6) (.bool x31) w46 (fun w47 =>
 doSt ((blk b39).add 7) (.bool x32) w47 (fun w48 =>
 doSt ((blk b39).add 8) (.bool x33) w48 (fun w49 =>
 doSt ((blk b39).add 9) (.bool x34) w49 (fun w50 =>
 doSt ((blk b39).add 10) (.bool x35) w50 (fun w51 =>
 sh43k1 R [.pointer t_1, .pointer (some (blk b2)), .pointer (some (blk b7)), .pointer (some (blk b39))] w51)))))))))))))) (kN R))))))))))))))))))))) (kN R)))
theorem sh43_ok (t_1 : OA) {R : EW} {w : World} : sh43 t_1 R w → Calls Tryz.prog 43 #[.pointer t_1] w R := fun h =>
  Old.calls_of_wp (fn := Tryz.f43) (c := bodyOf Tryz.f43) (args := #[.pointer t_1]) Tryz.func43 (by kernel_rfl) (Old.wp_part (ann := fun _ => []) (n := 400) (k := 3) (K := sh43k1 R) (is := [0, 2, 3, 4]) (X := sh43 t_1 R w) follows_mixed (by kernel_rfl) (by kernel_rfl) (fun a' w' hK hs hd => by
    obtain ⟨t_1, x2, x_3, n_4, hv, h2⟩ := hK
    obtain ⟨tmps, defers⟩ := a'
    simp only at hs hd hv
    subst hd
    have hs : tmps.size = 139 := hs.trans (by kernel_rfl)
    have hl := Old.arr_lit hs
    obtain ⟨j, hj⟩ : ∃ j : Nat → Value, ∀ i, tmps.getD i undef = j i := ⟨_, fun _ => rfl⟩
    rw [show (fun i => tmps.getD i undef) = j from funext hj] at hl
    have e2 : tmps = #[j 0, j 1, j 2, j 3, j 4, j 5, j 6, j 7, j 8, j 9, j 10, j 11, j 12, j 13, j 14, j 15, j 16, j 17, j 18, j 19, j 20, j 21, j 22, j 23, j 24, j 25, j 26, j 27, j 28, j 29, j 30, j 31, j 32, j 33, j 34, j 35, j 36, j 37, j 38, j 39, j 40, j 41, j 42, j 43, j 44, j 45, j 46, j 47, j 48, j 49, j 50, j 51, j 52, j 53, j 54, j 55, j 56, j 57, j 58, j 59, j 60, j 61, j 62, j 63, j 64, j 65, j 66, j 67, j 68, j 69, j 70, j 71, j 72, j 73, j 74, j 75, j 76, j 77, j 78, j 79, j 80, j 81, j 82, j 83, j 84, j 85, j 86, j 87, j 88, j 89, j 90, j 91, j 92, j 93, j 94, j 95, j 96, j 97, j 98, j 99, j 100, j 101, j 102, j 103, j 104, j 105, j 106, j 107, j 108, j 109, j 110, j 111, j 112, j 113, j 114, j 115, j 116, j 117, j 118, j 119, j 120, j 121, j 122, j 123, j 124, j 125, j 126, j 127, j 128, j 129, j 130, j 131, j 132, j 133, j 134, j 135, j 136, j 137, j 138] := hl.trans (by kernel_rfl)
    simp only [Old.getAll, List.map_cons, List.map_nil, hj, List.cons.injEq, and_true] at hv
    obtain ⟨g0, g2, g3, g4⟩ := hv
    rw [e2]
    exact sh43b1_wp t_1 x2 x_3 n_4 g0 g2 g3 g4 h2) h)
end Go.Proofs.YtmkpkmdnapccgaaGreatDoor

