/-
  Printed by a program (gen.py): what the functions of the program do, as formulas; each with the proof that its call is what the formula says.
-/
import Derived.Test.YtmkpkmdnapccgaaGreatDoorZ04
import Derived.Test.YtmkpkmdnapccgaaGreatDoorZ07
import Derived.Test.YtmkpkmdnapccgaaGreatDoorProg
import Derived.Test.YtmkpkmdnapccgaaGreatDoorZ05

set_option maxRecDepth 100000
set_option maxHeartbeats 6400000
namespace Go.Proofs.YtmkpkmdnapccgaaGreatDoor
open Go Go.Sh
def sh24b10 (x_1 : Addr) (n_2 : Addr) (s_3 : ByteArray) (R : EW) (w : World) : Prop :=
 let K6 : ByteArray → World → Prop := fun s_4 w5 => 
 R (.returned (.string s_4)) w5
 ∃ x7, w.cell? (n_2.add 10) = some (.bool x7) ∧ (
 ifB x7 (
 ∃ xp8 xn9 xc10, w.cell? (x_1.add 14) = some (.slice xp8 xn9 xc10) ∧ (
 doCall Tryz.prog (.func (.func 53) #[] #[]) #[.int .i64 ((xn9 : Nat) : Int)] w (retS (fun v12 w13 => ∃ x11, v12 = (.string x11 : Value) ∧ (
 doCat s_3 x11 (fun s14 =>
 ∃ (I15 : List Value → World → Prop) (μ16 : List Value → World → Nat), I15 [.string s14, .int .i64 0] w13 ∧ (∀ (s_19 : ByteArray), ∀ (i_20 : Int), ∀ (_j17 : Nat → Value) (w18 : World), I15 [.string s_19, .int .i64 i_20] w18 → (
 ∃ xp21 xn22 xc23, w18.cell? (x_1.add 14) = some (.slice xp21 xn22 xc23) ∧ (
 ifB (decide ((i_20 : Int) < ((xn22 : Nat) : Int))) (
 ∃ xp24 xn25 xc26, w18.cell? (x_1.add 14) = some (.slice xp24 xn25 xc26) ∧ (
 doIx xp24 xn25 1 (i_20) (fun a27 =>
 ∃ x28, w18.cell? a27 = some (.int .i64 x28) ∧ (
 doCall Tryz.prog (.func (.func 53) #[] #[]) #[.int .i64 x28] w18 (retS (fun v30 w31 => ∃ x29, v30 = (.string x29 : Value) ∧ (
 doCat s_19 x29 (fun s32 =>
 I15 [.string s32, .int .i64 (IntKind.wrap .i64 (i_20 + 1))] w31 ∧ μ16 [.string s32, .int .i64 (IntKind.wrap .i64 (i_20 + 1))] w31 < μ16 [.string s_19, .int .i64 i_20] w18))) (kN R)))))) (
 K6 s_19 w18))))))) (kN R)))) (
 K6 s_3 w))
def sh24k10 (R : EW) : List Value → World → Prop := fun vs w => ∃ (x_1 : Addr), ∃ (n_2 : Addr), ∃ (s_3 : ByteArray), vs = [.pointer (some x_1), .pointer (some n_2), .string s_3] ∧ sh24b10 x_1 n_2 s_3 R w
theorem sh24b10_wp {j : Nat → Value} (x_1 : Addr) (n_2 : Addr) (s_3 : ByteArray) {R : EW} {w : World} (g1 : j 1 = (.pointer (some x_1) : Value)) (g3 : j 3 = (.pointer (some n_2) : Value)) (g5 : j 5 = (.string s_3 : Value)) (h : sh24b10 x_1 n_2 s_3 R w) : Code.wpIn (fen none) 0 Tryz.prog (Old.tailC 12 (bodyOf Tryz.f24)) (Old.full (Qfn Tryz.prog Tryz.f24 R) (Kfn R)) { tmps := #[j 0, j 1, j 2, j 3, j 4, j 5, j 6, j 7, j 8, j 9, j 10, j 11, j 12, j 13, j 14, j 15, j 16, j 17, j 18, j 19, j 20, j 21, j 22, j 23, j 24, j 25, j 26, j 27, j 28, j 29, j 30, j 31, j 32, j 33, j 34, j 35, j 36, j 37, j 38, j 39, j 40, j 41, j 42, j 43, j 44, j 45, j 46, j 47, j 48, j 49, j 50, j 51, j 52, j 53, j 54, j 55, j 56, j 57, j 58, j 59, j 60, j 61, j 62, j 63, j 64, j 65, j 66, j 67, j 68, j 69, j 70, j 71, j 72, j 73, j 74, j 75, j 76, j 77, j 78, j 79, j 80, j 81, j 82, j 83, j 84, j 85, j 86, j 87, j 88, j 89, j 90, j 91, j 92, j 93, j 94, j 95, j 96, j 97, j 98, j 99, j 100, j 101, j 102, j 103, j 104, j 105, j 106, j 107, j 108, j 109, j 110, j 111, j 112, j 113, j 114, j 115, j 116, j 117, j 118, j 119, j 120, j 121, j 122, j 123, j 124, j 125, j 126, j 127, j 128, j 129, j 130, j 131, j 132, j 133, j 134, j 135, j 136, j 137, j 138, j 139, j 140, j 141, j 142, j 143, j 144, j 145, j 146, j 147, j 148, j 149, j 150, j 151], defers := [] } w := by
  rw [g1, g3, g5]
  exact Old.wp_last (ann := fun i => if i = 2 then [(5, .string (⟨#[]⟩ : ByteArray)), (7, .int .i64 0)] else []) (n := 400) (X := sh24b10 x_1 n_2 s_3 R w) follows_mixed (by kernel_rfl) h
def sh24b9 (x_1 : Addr) (n_2 : Addr) (s_3 : ByteArray) (R : EW) (w : World) : Prop :=
 ∃ x4, w.cell? (n_2.add 9) = some (.bool x4) ∧ (
 ifB x4 (
 ∃ xp5 xn6 xc7, w.cell? (x_1.add 13) = some (.slice xp5 xn6 xc7) ∧ (
 doCall Tryz.prog (.func (.func 53) #[] #[]) #[.int .i64 ((xn6 : Nat) : Int)] w (retS (fun v9 w10 => ∃ x8, v9 = (.string x8 : Value) ∧ (
 doCat s_3 x8 (fun s11 =>
 ∃ (I12 : List Value → World → Prop) (μ13 : List Value → World → Nat), I12 [.string s11, .int .i64 0] w10 ∧ (∀ (s_16 : ByteArray), ∀ (i_17 : Int), ∀ (_j14 : Nat → Value) (w15 : World), I12 [.string s_16, .int .i64 i_17] w15 → (
 ∃ xp18 xn19 xc20, w15.cell? (x_1.add 13) = some (.slice xp18 xn19 xc20) ∧ (
 ifB (decide ((i_17 : Int) < ((xn19 : Nat) : Int))) (
 doDr w15 (fun w22 =>
 ∃ (C21 : World → Prop), C21 w22 ∧ (
 ∃ xp23 xn24 xc25, (∀ w, C21 w → w.cell? (x_1.add 13) = some (.slice xp23 xn24 xc25)) ∧ (
 doIx xp23 xn24 2 (i_17) (fun a26 =>
 ∃ x27, (∀ w, C21 w → w.cell? (a26.add 0) = some (.int .i64 x27)) ∧ (
 ∃ xp28 xn29 xc30, (∀ w, C21 w → w.cell? (x_1.add 13) = some (.slice xp28 xn29 xc30)) ∧ (
 doIx xp28 xn29 2 (i_17) (fun a31 =>
 ∃ x32, (∀ w, C21 w → w.cell? (a31.add 1) = some (.int .i64 x32)) ∧ (
 doCall Tryz.prog (.func (.func 53) #[] #[]) #[.int .i64 x27] w22 (retS (fun v34 w35 => ∃ x33, v34 = (.string x33 : Value) ∧ (
 C21 w35 ∧ (
 doCat s_16 x33 (fun s36 =>
 doCall Tryz.prog (.func (.func 53) #[] #[]) #[.int .i64 x32] w35 (retS (fun v38 w39 => ∃ x37, v38 = (.string x37 : Value) ∧ (
 C21 w39 ∧ (
 doCat s36 x37 (fun s40 =>
 I12 [.string s40, .int .i64 (IntKind.wrap .i64 (i_17 + 1))] w39 ∧ μ13 [.string s40, .int .i64 (IntKind.wrap .i64 (i_17 + 1))] w39 < μ13 [.string s_16, .int .i64 i_17] w15)))) (kN R)))))) (kN R))))))))))) (
 sh24k10 R [.pointer (some x_1), .pointer (some n_2), .string s_16] w15))))))) (kN R)))) (
 sh24k10 R [.pointer (some x_1), .pointer (some n_2), .string s_3] w))
def sh24k9 (R : EW) : List Value → World → Prop := fun vs w => ∃ (x_1 : Addr), ∃ (n_2 : Addr), ∃ (s_3 : ByteArray), vs = [.pointer (some x_1), .pointer (some n_2), .string s_3] ∧ sh24b9 x_1 n_2 s_3 R w
theorem sh24b9_wp {j : Nat → Value} (x_1 : Addr) (n_2 : Addr) (s_3 : ByteArray) {R : EW} {w : World} (g1 : j 1 = (.pointer (some x_1) : Value)) (g3 : j 3 = (.pointer (some n_2) : Value)) (g5 : j 5 = (.string s_3 : Value)) (h : sh24b9 x_1 n_2 s_3 R w) : Code.wpIn (fen none) 0 Tryz.prog (Old.tailC 11 (bodyOf Tryz.f24)) (Old.full (Qfn Tryz.prog Tryz.f24 R) (Kfn R)) { tmps := #[j 0, j 1, j 2, j 3, j 4, j 5, j 6, j 7, j 8, j 9, j 10, j 11, j 12, j 13, j 14, j 15, j 16, j 17, j 18, j 19, j 20, j 21, j 22, j 23, j 24, j 25, j 26, j 27, j 28, j 29, j 30, j 31, j 32, j 33, j 34, j 35, j 36, j 37, j 38, j 39, j 40, j 41, j 42, j 43, j 44, j 45, j 46, j 47, j 48, j 49, j 50, j 51, j 52, j 53, j 54, j 55, j 56, j 57, j 58, j 59, j 60, j 61, j 62, j 63, j 64, j 65, j 66, j 67, j 68, j 69, j 70, j 71, j 72, j 73, j 74, j 75, j 76, j 77, j 78, j 79, j 80, j 81, j 82, j 83, j 84, j 85, j 86, j 87, j 88, j 89, j 90, j 91, j 92, j 93, j 94, j 95, j 96, j 97, j 98, j 99, j 100, j 101, j 102, j 103, j 104, j 105, j 106, j 107, j 108, j 109, j 110, j 111, j 112, j 113, j 114, j 115, j 116, j 117, j 118, j 119, j 120, j 121, j 122, j 123, j 124, j 125, j 126, j 127, j 128, j 129, j 130, j 131, j 132, j 133, j 134, j 135, j 136, j 137, j 138, j 139, j 140, j 141, j 142, j 143, j 144, j 145, j 146, j 147, j 148, j 149, j 150, j 151], defers := [] } w := by
  rw [g1, g3, g5]
  exact Old.wp_part (ann := fun i => if i = 0 then [(5, .string (⟨#[]⟩ : ByteArray)), (6, .int .i64 0)] else []) (n := 400) (k := 1) (K := sh24k10 R) (is := [1, 3, 5]) (X := sh24b9 x_1 n_2 s_3 R w) follows_mixed (by kernel_rfl) (by kernel_rfl) (fun a' w' hK hs hd => by
    obtain ⟨x_1, n_2, s_3, hv, h2⟩ := hK
    obtain ⟨tmps, defers⟩ := a'
    simp only at hs hd hv
    subst hd
    have hs : tmps.size = 152 := hs.trans (by kernel_rfl)
    have hl := Old.arr_lit hs
    obtain ⟨j, hj⟩ : ∃ j : Nat → Value, ∀ i, tmps.getD i undef = j i := ⟨_, fun _ => rfl⟩
    rw [show (fun i => tmps.getD i undef) = j from funext hj] at hl
    have e2 : tmps = #[j 0, j 1, j 2, j 3, j 4, j 5, j 6, j 7, j 8, j 9, j 10, j 11, j 12, j 13, j 14, j 15, j 16, j 17, j 18, j 19, j 20, j 21, j 22, j 23, j 24, j 25, j 26, j 27, j 28, j 29, j 30, j 31, j 32, j 33, j 34, j 35, j 36, j 37, j 38, j 39, j 40, j 41, j 42, j 43, j 44, j 45, j 46, j 47, j 48, j 49, j 50, j 51, j 52, j 53, j 54, j 55, j 56, j 57, j 58, j 59, j 60, j 61, j 62, j 63, j 64, j 65, j 66, j 67, j 68, j 69, j 70, j 71, j 72, j 73, j 74, j 75, j 76, j 77, j 78, j 79, j 80, j 81, j 82, j 83, j 84, j 85, j 86, j 87, j 88, j 89, j 90, j 91, j 92, j 93, j 94, j 95, j 96, j 97, j 98, j 99, j 100, j 101, j 102, j 103, j 104, j 105, j 106, j 107, j 108, j 109, j 110, j 111, j 112, j 113, j 114, j 115, j 116, j 117, j 118, j 119, j 120, j 121, j 122, j 123, j 124, j 125, j 126, j 127, j 128, j 129, j 130, j 131, j 132, j 133, j 134, j 135, j 136, j 137, j 138, j 139, j 140, j 141, j 142, j 143, j 144, j 145, j 146, j 147, j 148, j 149, j 150, j 151] := hl.trans (by kernel_rfl)
    simp only [Old.getAll, List.map_cons, List.map_nil, hj, List.cons.injEq, and_true] at hv
    obtain ⟨g1, g3, g5⟩ := hv
    rw [e2]
    exact sh24b10_wp x_1 n_2 s_3 g1 g3 g5 h2) h
def sh24b8 (x_1 : Addr) (n_2 : Addr) (s_3 : ByteArray) (R : EW) (w : World) : Prop :=
 ∃ x4, w.cell? (n_2.add 8) = some (.bool x4) ∧ (
 ifB x4 (
 doDr w (fun w6 =>
 ∃ (C5 : World → Prop), C5 w6 ∧ (
 ∃ x7, (∀ w, C5 w → w.cell? ((x_1.add 9).add 0) = some (.int .u8 x7)) ∧ (
 ∃ x8, (∀ w, C5 w → w.cell? ((x_1.add 9).add 1) = some (.int .i64 x8)) ∧ (
 ∃ x9, (∀ w, C5 w → w.cell? ((x_1.add 9).add 2) = some (.int .i64 x9)) ∧ (
 ∃ x10, (∀ w, C5 w → w.cell? ((x_1.add 9).add 3) = some (.bool x10)) ∧ (
 (doAl (.cells #[.int .u8 x7] 5) w6 (fun b11 w12 =>
 C5 w12 ∧ (
 (doBs Tryz.prog 51 9 (.slice (some (blk b11)) 1 1) w12 (fun s13 =>
 C5 w12 ∧ (
 doCat s_3 s13 (fun s14 =>
 doCall Tryz.prog (.func (.func 53) #[] #[]) #[.int .i64 x8] w12 (retS (fun v16 w17 => ∃ x15, v16 = (.string x15 : Value) ∧ (
 C5 w17 ∧ (
 doCat s14 x15 (fun s18 =>
 doCall Tryz.prog (.func (.func 53) #[] #[]) #[.int .i64 x9] w17 (retS (fun v20 w21 => ∃ x19, v20 = (.string x19 : Value) ∧ (
 C5 w21 ∧ (
 doCat s18 x19 (fun s22 =>
 doCall Tryz.prog (.func (.func 54) #[] #[]) #[.bool x10] w21 (retS (fun v24 w25 => ∃ x23, v24 = (.string x23 : Value) ∧ (
 C5 w25 ∧ (
 doCat s22 x23 (fun s26 =>
 sh24k9 R [.pointer (some x_1), .pointer (some n_2), .string s26] w25)))) (kN R)))))) (kN R)))))) (kN R)))))) ∧ (doCall Tryz.prog (.func (.func 53) #[] #[]) #[.int .i64 x8] w12 (retS (fun v28 w29 => ∃ x27, v28 = (.string x27 : Value) ∧ (
 C5 w29 ∧ (
 (doBs Tryz.prog 51 9 (.slice (some (blk b11)) 1 1) w29 (fun s30 =>
 C5 w29 ∧ (
 doCat s_3 s30 (fun s31 =>
 doCat s31 x27 (fun s32 =>
 doCall Tryz.prog (.func (.func 53) #[] #[]) #[.int .i64 x9] w29 (retS (fun v34 w35 => ∃ x33, v34 = (.string x33 : Value) ∧ (
 C5 w35 ∧ (
 doCat s32 x33 (fun s36 =>
 doCall Tryz.prog (.func (.func 54) #[] #[]) #[.bool x10] w35 (retS (fun v38 w39 => ∃ x37, v38 = (.string x37 : Value) ∧ (
 C5 w39 ∧ (
 doCat s36 x37 (fun s40 =>
 sh24k9 R [.pointer (some x_1), .pointer (some n_2), .string s40] w39)))) (kN R)))))) (kN R))))))) ∧ (doCall Tryz.prog (.func (.func 53) #[] #[]) #[.int .i64 x9] w29 (retS (fun v42 w43 => ∃ x41, v42 = (.string x41 : Value) ∧ (
 C5 w43 ∧ (
 (doBs Tryz.prog 51 9 (.slice (some (blk b11)) 1 1) w43 (fun s44 =>
 C5 w43 ∧ (
 doCat s_3 s44 (fun s45 =>
 doCat s45 x27 (fun s46 =>
 doCat s46 x41 (fun s47 =>
 doCall Tryz.prog (.func (.func 54) #[] #[]) #[.bool x10] w43 (retS (fun v49 w50 => ∃ x48, v49 = (.string x48 : Value) ∧ (
 C5 w50 ∧ (
 doCat s47 x48 (fun s51 =>
 sh24k9 R [.pointer (some x_1), .pointer (some n_2), .string s51] w50)))) (kN R)))))))) ∧ (doCall Tryz.prog (.func (.func 54) #[] #[]) #[.bool x10] w43 (retS (fun v53 w54 => ∃ x52, v53 = (.string x52 : Value) ∧ (
 C5 w54 ∧ (
 doBs Tryz.prog 51 9 (.slice (some (blk b11)) 1 1) w54 (fun s55 =>
 C5 w54 ∧ (
 doCat s_3 s55 (fun s56 =>
 doCat s56 x27 (fun s57 =>
 doCat s57 x41 (fun s58 =>
 doCat s58 x52 (fun s59 =>
 sh24k9 R [.pointer (some x_1), .pointer (some n_2), .string s59] w54))))))))) (kN R)))))) (kN R)))))) (kN R)))))) ∧ (doCall Tryz.prog (.func (.func 53) #[] #[]) #[.int .i64 x8] w6 (retS (fun v61 w62 => ∃ x60, v61 = (.string x60 : Value) ∧ (
 C5 w62 ∧ (
 (doAl (.cells #[.int .u8 x7] 5) w62 (fun b63 w64 =>
 C5 w64 ∧ (
 (doBs Tryz.prog 51 9 (.slice (some (blk b63)) 1 1) w64 (fun s65 =>
 C5 w64 ∧ (
 doCat s_3 s65 (fun s66 =>
 doCat s66 x60 (fun s67 =>
 doCall Tryz.prog (.func (.func 53) #[] #[]) #[.int .i64 x9] w64 (retS (fun v69 w70 => ∃ x68, v69 = (.string x68 : Value) ∧ (
 C5 w70 ∧ (
 doCat s67 x68 (fun s71 =>
 doCall Tryz.prog (.func (.func 54) #[] #[]) #[.bool x10] w70 (retS (fun v73 w74 => ∃ x72, v73 = (.string x72 : Value) ∧ (
 C5 w74 ∧ (
 doCat s71 x72 (fun s75 =>
 sh24k9 R [.pointer (some x_1), .pointer (some n_2), .string s75] w74)))) (kN R)))))) (kN R))))))) ∧ (doCall Tryz.prog (.func (.func 53) #[] #[]) #[.int .i64 x9] w64 (retS (fun v77 w78 => ∃ x76, v77 = (.string x76 : Value) ∧ (
 C5 w78 ∧ (
 (doBs Tryz.prog 51 9 (.slice (some (blk b63)) 1 1) w78 (fun s79 =>
 C5 w78 ∧ (
 doCat s_3 s79 (fun s80 =>
 doCat s80 x60 (fun s81 =>
 doCat s81 x76 (fun s82 =>
 doCall Tryz.prog (.func (.func 54) #[] #[]) #[.bool x10] w78 (retS (fun v84 w85 => ∃ x83, v84 = (.string x83 : Value) ∧ (
 C5 w85 ∧ (
 doCat s82 x83 (fun s86 =>
 sh24k9 R [.pointer (some x_1), .pointer (some n_2), .string s86] w85)))) (kN R)))))))) ∧ (doCall Tryz.prog (.func (.func 54) #[] #[]) #[.bool x10] w78 (retS (fun v88 w89 => ∃ x87, v88 = (.string x87 : Value) ∧ (
 C5 w89 ∧ (
 doBs Tryz.prog 51 9 (.slice (some (blk b63)) 1 1) w89 (fun s90 =>
 C5 w89 ∧ (
 doCat s_3 s90 (fun s91 =>
 doCat s91 x60 (fun s92 =>
 doCat s92 x76 (fun s93 =>
 doCat s93 x87 (fun s94 =>
 sh24k9 R [.pointer (some x_1), .pointer (some n_2), .string s94] w89))))))))) (kN R)))))) (kN R)))))) ∧ (doCall Tryz.prog (.func (.func 53) #[] #[]) #[.int .i64 x9] w62 (retS (fun v96 w97 => ∃ x95, v96 = (.string x95 : Value) ∧ (
 C5 w97 ∧ (
 (doAl (.cells #[.int .u8 x7] 5) w97 (fun b98 w99 =>
 C5 w99 ∧ (
 (doBs Tryz.prog 51 9 (.slice (some (blk b98)) 1 1) w99 (fun s100 =>
 C5 w99 ∧ (
 doCat s_3 s100 (fun s101 =>
 doCat s101 x60 (fun s102 =>
 doCat s102 x95 (fun s103 =>
 doCall Tryz.prog (.func (.func 54) #[] #[]) #[.bool x10] w99 (retS (fun v105 w106 => ∃ x104, v105 = (.string x104 : Value) ∧ (
 C5 w106 ∧ (
 doCat s103 x104 (fun s107 =>
 sh24k9 R [.pointer (some x_1), .pointer (some n_2), .string s107] w106)))) (kN R)))))))) ∧ (doCall Tryz.prog (.func (.func 54) #[] #[]) #[.bool x10] w99 (retS (fun v109 w110 => ∃ x108, v109 = (.string x108 : Value) ∧ (
 C5 w110 ∧ (
 doBs Tryz.prog 51 9 (.slice (some (blk b98)) 1 1) w110 (fun s111 =>
 C5 w110 ∧ (
 doCat s_3 s111 (fun s112 =>
 doCat s112 x60 (fun s113 =>
 doCat s113 x95 (fun s114 =>
 doCat s114 x108 (fun s115 =>
 sh24k9 R [.pointer (some x_1), .pointer (some n_2), .string s115] w110))))))))) (kN R)))))) ∧ (doCall Tryz.prog (.func (.func 54) #[] #[]) #[.bool x10] w97 (retS (fun v117 w118 => ∃ x116, v117 = (.string x116 : Value) ∧ (
 C5 w118 ∧ (
 doAl (.cells #[.int .u8 x7] 5) w118 (fun b119 w120 =>
 C5 w120 ∧ (
 doBs Tryz.prog 51 9 (.slice (some (blk b119)) 1 1) w120 (fun s121 =>
 C5 w120 ∧ (
 doCat s_3 s121 (fun s122 =>
 doCat s122 x60 (fun s123 =>
 doCat s123 x95 (fun s124 =>
 doCat s124 x116 (fun s125 =>
 sh24k9 R [.pointer (some x_1), .pointer (some n_2), .string s125] w120))))))))))) (kN R)))))) (kN R)))))) (kN R)))))))))) (
 sh24k9 R [.pointer (some x_1), .pointer (some n_2), .string s_3] w))
def sh24k8 (R : EW) : List Value → World → Prop := fun vs w => ∃ (x_1 : Addr), ∃ (n_2 : Addr), ∃ (s_3 : ByteArray), vs = [.pointer (some x_1), .pointer (some n_2), .string s_3] ∧ sh24b8 x_1 n_2 s_3 R w
theorem sh24b8_wp {j : Nat → Value} (x_1 : Addr) (n_2 : Addr) (s_3 : ByteArray) {R : EW} {w : World} (g1 : j 1 = (.pointer (some x_1) : Value)) (g3 : j 3 = (.pointer (some n_2) : Value)) (g5 : j 5 = (.string s_3 : Value)) (h : sh24b8 x_1 n_2 s_3 R w) : Code.wpIn (fen none) 0 Tryz.prog (Old.tailC 10 (bodyOf Tryz.f24)) (Old.full (Qfn Tryz.prog Tryz.f24 R) (Kfn R)) { tmps := #[j 0, j 1, j 2, j 3, j 4, j 5, j 6, j 7, j 8, j 9, j 10, j 11, j 12, j 13, j 14, j 15, j 16, j 17, j 18, j 19, j 20, j 21, j 22, j 23, j 24, j 25, j 26, j 27, j 28, j 29, j 30, j 31, j 32, j 33, j 34, j 35, j 36, j 37, j 38, j 39, j 40, j 41, j 42, j 43, j 44, j 45, j 46, j 47, j 48, j 49, j 50, j 51, j 52, j 53, j 54, j 55, j 56, j 57, j 58, j 59, j 60, j 61, j 62, j 63, j 64, j 65, j 66, j 67, j 68, j 69, j 70, j 71, j 72, j 73, j 74, j 75, j 76, j 77, j 78, j 79, j 80, j 81, j 82, j 83, j 84, j 85, j 86, j 87, j 88, j 89, j 90, j 91, j 92, j 93, j 94, j 95, j 96, j 97, j 98, j 99, j 100, j 101, j 102, j 103, j 104, j 105, j 106, j 107, j 108, j 109, j 110, j 111, j 112, j 113, j 114, j 115, j 116, j 117, j 118, j 119, j 120, j 121, j 122, j 123, j 124, j 125, j 126, j 127, j 128, j 129, j 130, j 131, j 132, j 133, j 134, j 135, j 136, j 137, j 138, j 139, j 140, j 141, j 142, j 143, j 144, j 145, j 146, j 147, j 148, j 149, j 150, j 151], defers := [] } w := by
  rw [g1, g3, g5]
  exact Old.wp_part (ann := fun i => if i = 4000018 then [(5, .nilIface)] else []) (n := 400) (k := 1) (K := sh24k9 R) (is := [1, 3, 5]) (X := sh24b8 x_1 n_2 s_3 R w) follows_mixed (by kernel_rfl) (by kernel_rfl) (fun a' w' hK hs hd => by
    obtain ⟨x_1, n_2, s_3, hv, h2⟩ := hK
    obtain ⟨tmps, defers⟩ := a'
    simp only at hs hd hv
    subst hd
    have hs : tmps.size = 152 := hs.trans (by kernel_rfl)
    have hl := Old.arr_lit hs
    obtain ⟨j, hj⟩ : ∃ j : Nat → Value, ∀ i, tmps.getD i undef = j i := ⟨_, fun _ => rfl⟩
    rw [show (fun i => tmps.getD i undef) = j from funext hj] at hl
    have e2 : tmps = #[j 0, j 1, j 2, j 3, j 4, j 5, j 6, j 7, j 8, j 9, j 10, j 11, j 12, j 13, j 14, j 15, j 16, j 17, j 18, j 19, j 20, j 21, j 22, j 23, j 24, j 25, j 26, j 27, j 28, j 29, j 30, j 31, j 32, j 33, j 34, j 35, j 36, j 37, j 38, j 39, j 40, j 41, j 42, j 43, j 44, j 45, j 46, j 47, j 48, j 49, j 50, j 51, j 52, j 53, j 54, j 55, j 56, j 57, j 58, j 59, j 60, j 61, j 62, j 63, j 64, j 65, j 66, j 67, j 68, j 69, j 70, j 71, j 72, j 73, j 74, j 75, j 76, j 77, j 78, j 79, j 80, j 81, j 82, j 83, j 84, j 85, j 86, j 87, j 88, j 89, j 90, j 91, j 92, j 93, j 94, j 95, j 96, j 97, j 98, j 99, j 100, j 101, j 102, j 103, j 104, j 105, j 106, j 107, j 108, j 109, j 110, j 111, j 112, j 113, j 114, j 115, j 116, j 117, j 118, j 119, j 120, j 121, j 122, j 123, j 124, j 125, j 126, j 127, j 128, j 129, j 130, j 131, j 132, j 133, j 134, j 135, j 136, j 137, j 138, j 139, j 140, j 141, j 142, j 143, j 144, j 145, j 146, j 147, j 148, j 149, j 150, j 151] := hl.trans (by kernel_rfl)
    simp only [Old.getAll, List.map_cons, List.map_nil, hj, List.cons.injEq, and_true] at hv
    obtain ⟨g1, g3, g5⟩ := hv
    rw [e2]
    exact sh24b9_wp x_1 n_2 s_3 g1 g3 g5 h2) h
def sh24b7 (x_1 : Addr) (n_2 : Addr) (s_3 : ByteArray) (R : EW) (w : World) : Prop :=
 ∃ x4, w.cell? (n_2.add 7) = some (.bool x4) ∧ (
 ifB x4 (
 ∃ x5, w.cell? (x_1.add 8) = some (.int .u8 x5) ∧ (
 doAl (.cells #[.int .u8 x5] 5) w (fun b6 w7 =>
 doBs Tryz.prog 51 9 (.slice (some (blk b6)) 1 1) w7 (fun s8 =>
 doCat s_3 s8 (fun s9 =>
 sh24k8 R [.pointer (some x_1), .pointer (some n_2), .string s9] w7))))) (
 sh24k8 R [.pointer (some x_1), .pointer (some n_2), .string s_3] w))
def sh24k7 (R : EW) : List Value → World → Prop := fun vs w => ∃ (x_1 : Addr), ∃ (n_2 : Addr), ∃ (s_3 : ByteArray), vs = [.pointer (some x_1), .pointer (some n_2), .string s_3] ∧ sh24b7 x_1 n_2 s_3 R w
theorem sh24b7_wp {j : Nat → Value} (x_1 : Addr) (n_2 : Addr) (s_3 : ByteArray) {R : EW} {w : World} (g1 : j 1 = (.pointer (some x_1) : Value)) (g3 : j 3 = (.pointer (some n_2) : Value)) (g5 : j 5 = (.string s_3 : Value)) (h : sh24b7 x_1 n_2 s_3 R w) : Code.wpIn (fen none) 0 Tryz.prog (Old.tailC 9 (bodyOf Tryz.f24)) (Old.full (Qfn Tryz.prog Tryz.f24 R) (Kfn R)) { tmps := #[j 0, j 1, j 2, j 3, j 4, j 5, j 6, j 7, j 8, j 9, j 10, j 11, j 12, j 13, j 14, j 15, j 16, j 17, j 18, j 19, j 20, j 21, j 22, j 23, j 24, j 25, j 26, j 27, j 28, j 29, j 30, j 31, j 32, j 33, j 34, j 35, j 36, j 37, j 38, j 39, j 40, j 41, j 42, j 43, j 44, j 45, j 46, j 47, j 48, j 49, j 50, j 51, j 52, j 53, j 54, j 55, j 56, j 57, j 58, j 59, j 60, j 61, j 62, j 63, j 64, j 65, j 66, j 67, j 68, j 69, j 70, j 71, j 72, j 73, j 74, j 75, j 76, j 77, j 78, j 79, j 80, j 81, j 82, j 83, j 84, j 85, j 86, j 87, j 88, j 89, j 90, j 91, j 92, j 93, j 94, j 95, j 96, j 97, j 98, j 99, j 100, j 101, j 102, j 103, j 104, j 105, j 106, j 107, j 108, j 109, j 110, j 111, j 112, j 113, j 114, j 115, j 116, j 117, j 118, j 119, j 120, j 121, j 122, j 123, j 124, j 125, j 126, j 127, j 128, j 129, j 130, j 131, j 132, j 133, j 134, j 135, j 136, j 137, j 138, j 139, j 140, j 141, j 142, j 143, j 144, j 145, j 146, j 147, j 148, j 149, j 150, j 151], defers := [] } w := by
  rw [g1, g3, g5]
  exact Old.wp_part (ann := fun _ => []) (n := 400) (k := 1) (K := sh24k8 R) (is := [1, 3, 5]) (X := sh24b7 x_1 n_2 s_3 R w) follows_mixed (by kernel_rfl) (by kernel_rfl) (fun a' w' hK hs hd => by
    obtain ⟨x_1, n_2, s_3, hv, h2⟩ := hK
    obtain ⟨tmps, defers⟩ := a'
    simp only at hs hd hv
    subst hd
    have hs : tmps.size = 152 := hs.trans (by kernel_rfl)
    have hl := Old.arr_lit hs
    obtain ⟨j, hj⟩ : ∃ j : Nat → Value, ∀ i, tmps.getD i undef = j i := ⟨_, fun _ => rfl⟩
    rw [show (fun i => tmps.getD i undef) = j from funext hj] at hl
    have e2 : tmps = #[j 0, j 1, j 2, j 3, j 4, j 5, j 6, j 7, j 8, j 9, j 10, j 11, j 12, j 13, j 14, j 15, j 16, j 17, j 18, j 19, j 20, j 21, j 22, j 23, j 24, j 25, j 26, j 27, j 28, j 29, j 30, j 31, j 32, j 33, j 34, j 35, j 36, j 37, j 38, j 39, j 40, j 41, j 42, j 43, j 44, j 45, j 46, j 47, j 48, j 49, j 50, j 51, j 52, j 53, j 54, j 55, j 56, j 57, j 58, j 59, j 60, j 61, j 62, j 63, j 64, j 65, j 66, j 67, j 68, j 69, j 70, j 71, j 72, j 73, j 74, j 75, j 76, j 77, j 78, j 79, j 80, j 81, j 82, j 83, j 84, j 85, j 86, j 87, j 88, j 89, j 90, j 91, j 92, j 93, j 94, j 95, j 96, j 97, j 98, j 99, j 100, j 101, j 102, j 103, j 104, j 105, j 106, j 107, j 108, j 109, j 110, j 111, j 112, j 113, j 114, j 115, j 116, j 117, j 118, j 119, j 120, j 121, j 122, j 123, j 124, j 125, j 126, j 127, j 128, j 129, j 130, j 131, j 132, j 133, j 134, j 135, j 136, j 137, j 138, j 139, j 140, j 141, j 142, j 143, j 144, j 145, j 146, j 147, j 148, j 149, j 150, j 151] := hl.trans (by kernel_rfl)
    simp only [Old.getAll, List.map_cons, List.map_nil, hj, List.cons.injEq, and_true] at hv
    obtain ⟨g1, g3, g5⟩ := hv
    rw [e2]
    exact sh24b8_wp x_1 n_2 s_3 g1 g3 g5 h2) h
def sh24b6 (x_1 : Addr) (n_2 : Addr) (s_3 : ByteArray) (R : EW) (w : World) : Prop :=
 ∃ x4, w.cell? (n_2.add 6) = some (.bool x4) ∧ (
 ifB x4 (
 ∃ x5, w.cell? (x_1.add 7) = some (.int .i64 x5) ∧ (
 doCall Tryz.prog (.func (.func 53) #[] #[]) #[.int .i64 x5] w (retS (fun v7 w8 => ∃ x6, v7 = (.string x6 : Value) ∧ (
 doCat s_3 x6 (fun s9 =>
 sh24k7 R [.pointer (some x_1), .pointer (some n_2), .string s9] w8))) (kN R)))) (
 sh24k7 R [.pointer (some x_1), .pointer (some n_2), .string s_3] w))
def sh24k6 (R : EW) : List Value → World → Prop := fun vs w => ∃ (x_1 : Addr), ∃ (n_2 : Addr), ∃ (s_3 : ByteArray), vs = [.pointer (some x_1), .pointer (some n_2), .string s_3] ∧ sh24b6 x_1 n_2 s_3 R w
theorem sh24b6_wp {j : Nat → Value} (x_1 : Addr) (n_2 : Addr) (s_3 : ByteArray) {R : EW} {w : World} (g1 : j 1 = (.pointer (some x_1) : Value)) (g3 : j 3 = (.pointer (some n_2) : Value)) (g5 : j 5 = (.string s_3 : Value)) (h : sh24b6 x_1 n_2 s_3 R w) : Code.wpIn (fen none) 0 Tryz.prog (Old.tailC 8 (bodyOf Tryz.f24)) (Old.full (Qfn Tryz.prog Tryz.f24 R) (Kfn R)) { tmps := #[j 0, j 1, j 2, j 3, j 4, j 5, j 6, j 7, j 8, j 9, j 10, j 11, j 12, j 13, j 14, j 15, j 16, j 17, j 18, j 19, j 20, j 21, j 22, j 23, j 24, j 25, j 26, j 27, j 28, j 29, j 30, j 31, j 32, j 33, j 34, j 35, j 36, j 37, j 38, j 39, j 40, j 41, j 42, j 43, j 44, j 45, j 46, j 47, j 48, j 49, j 50, j 51, j 52, j 53, j 54, j 55, j 56, j 57, j 58, j 59, j 60, j 61, j 62, j 63, j 64, j 65, j 66, j 67, j 68, j 69, j 70, j 71, j 72, j 73, j 74, j 75, j 76, j 77, j 78, j 79, j 80, j 81, j 82, j 83, j 84, j 85, j 86, j 87, j 88, j 89, j 90, j 91, j 92, j 93, j 94, j 95, j 96, j 97, j 98, j 99, j 100, j 101, j 102, j 103, j 104, j 105, j 106, j 107, j 108, j 109, j 110, j 111, j 112, j 113, j 114, j 115, j 116, j 117, j 118, j 119, j 120, j 121, j 122, j 123, j 124, j 125, j 126, j 127, j 128, j 129, j 130, j 131, j 132, j 133, j 134, j 135, j 136, j 137, j 138, j 139, j 140, j 141, j 142, j 143, j 144, j 145, j 146, j 147, j 148, j 149, j 150, j 151], defers := [] } w := by
  rw [g1, g3, g5]
  exact Old.wp_part (ann := fun _ => []) (n := 400) (k := 1) (K := sh24k7 R) (is := [1, 3, 5]) (X := sh24b6 x_1 n_2 s_3 R w) follows_mixed (by kernel_rfl) (by kernel_rfl) (fun a' w' hK hs hd => by
    obtain ⟨x_1, n_2, s_3, hv, h2⟩ := hK
    obtain ⟨tmps, defers⟩ := a'
    simp only at hs hd hv
    subst hd
    have hs : tmps.size = 152 := hs.trans (by kernel_rfl)
    have hl := Old.arr_lit hs
    obtain ⟨j, hj⟩ : ∃ j : Nat → Value, ∀ i, tmps.getD i undef = j i := ⟨_, fun _ => rfl⟩
    rw [show (fun i => tmps.getD i undef) = j from funext hj] at hl
    have e2 : tmps = #[j 0, j 1, j 2, j 3, j 4, j 5, j 6, j 7, j 8, j 9, j 10, j 11, j 12, j 13, j 14, j 15, j 16, j 17, j 18, j 19, j 20, j 21, j 22, j 23, j 24, j 25, j 26, j 27, j 28, j 29, j 30, j 31, j 32, j 33, j 34, j 35, j 36, j 37, j 38, j 39, j 40, j 41, j 42, j 43, j 44, j 45, j 46, j 47, j 48, j 49, j 50, j 51, j 52, j 53, j 54, j 55, j 56, j 57, j 58, j 59, j 60, j 61, j 62, j 63, j 64, j 65, j 66, j 67, j 68, j 69, j 70, j 71, j 72, j 73, j 74, j 75, j 76, j 77, j 78, j 79, j 80, j 81, j 82, j 83, j 84, j 85, j 86, j 87, j 88, j 89, j 90, j 91, j 92, j 93, j 94, j 95, j 96, j 97, j 98, j 99, j 100, j 101, j 102, j 103, j 104, j 105, j 106, j 107, j 108, j 109, j 110, j 111, j 112, j 113, j 114, j 115, j 116, j 117, j 118, j 119, j 120, j 121, j 122, j 123, j 124, j 125, j 126, j 127, j 128, j 129, j 130, j 131, j 132, j 133, j 134, j 135, j 136, j 137, j 138, j 139, j 140, j 141, j 142, j 143, j 144, j 145, j 146, j 147, j 148, j 149, j 150, j 151] := hl.trans (by kernel_rfl)
    simp only [Old.getAll, List.map_cons, List.map_nil, hj, List.cons.injEq, and_true] at hv
    obtain ⟨g1, g3, g5⟩ := hv
    rw [e2]
    exact sh24b7_wp x_1 n_2 s_3 g1 g3 g5 h2) h
def sh24b5 (x_1 : Addr) (n_2 : Addr) (s_3 : ByteArray) (R : EW) (w : World) : Prop :=
 ∃ x4, w.cell? (n_2.add 4) = some (.bool x4) ∧ (
 ifB x4 (
 doDr w (fun w6 =>
 ∃ (C5 : World → Prop), C5 w6 ∧ (
 ∃ x7, (∀ w, C5 w → w.cell? (x_1.add 5) = some (.int .i64 x7)) ∧ (
 ∃ x8, (∀ w, C5 w → w.cell? (x_1.add 6) = some (.int .i64 x8)) ∧ (
 doCall Tryz.prog (.func (.func 53) #[] #[]) #[.int .i64 x7] w6 (retS (fun v10 w11 => ∃ x9, v10 = (.string x9 : Value) ∧ (
 C5 w11 ∧ (
 doCat s_3 x9 (fun s12 =>
 doCall Tryz.prog (.func (.func 53) #[] #[]) #[.int .i64 x8] w11 (retS (fun v14 w15 => ∃ x13, v14 = (.string x13 : Value) ∧ (
 C5 w15 ∧ (
 doCat s12 x13 (fun s16 =>
 sh24k6 R [.pointer (some x_1), .pointer (some n_2), .string s16] w15)))) (kN R)))))) (kN R))))))) (
 sh24k6 R [.pointer (some x_1), .pointer (some n_2), .string s_3] w))
def sh24k5 (R : EW) : List Value → World → Prop := fun vs w => ∃ (x_1 : Addr), ∃ (n_2 : Addr), ∃ (s_3 : ByteArray), vs = [.pointer (some x_1), .pointer (some n_2), .string s_3] ∧ sh24b5 x_1 n_2 s_3 R w
theorem sh24b5_wp {j : Nat → Value} (x_1 : Addr) (n_2 : Addr) (s_3 : ByteArray) {R : EW} {w : World} (g1 : j 1 = (.pointer (some x_1) : Value)) (g3 : j 3 = (.pointer (some n_2) : Value)) (g5 : j 5 = (.string s_3 : Value)) (h : sh24b5 x_1 n_2 s_3 R w) : Code.wpIn (fen none) 0 Tryz.prog (Old.tailC 7 (bodyOf Tryz.f24)) (Old.full (Qfn Tryz.prog Tryz.f24 R) (Kfn R)) { tmps := #[j 0, j 1, j 2, j 3, j 4, j 5, j 6, j 7, j 8, j 9, j 10, j 11, j 12, j 13, j 14, j 15, j 16, j 17, j 18, j 19, j 20, j 21, j 22, j 23, j 24, j 25, j 26, j 27, j 28, j 29, j 30, j 31, j 32, j 33, j 34, j 35, j 36, j 37, j 38, j 39, j 40, j 41, j 42, j 43, j 44, j 45, j 46, j 47, j 48, j 49, j 50, j 51, j 52, j 53, j 54, j 55, j 56, j 57, j 58, j 59, j 60, j 61, j 62, j 63, j 64, j 65, j 66, j 67, j 68, j 69, j 70, j 71, j 72, j 73, j 74, j 75, j 76, j 77, j 78, j 79, j 80, j 81, j 82, j 83, j 84, j 85, j 86, j 87, j 88, j 89, j 90, j 91, j 92, j 93, j 94, j 95, j 96, j 97, j 98, j 99, j 100, j 101, j 102, j 103, j 104, j 105, j 106, j 107, j 108, j 109, j 110, j 111, j 112, j 113, j 114, j 115, j 116, j 117, j 118, j 119, j 120, j 121, j 122, j 123, j 124, j 125, j 126, j 127, j 128, j 129, j 130, j 131, j 132, j 133, j 134, j 135, j 136, j 137, j 138, j 139, j 140, j 141, j 142, j 143, j 144, j 145, j 146, j 147, j 148, j 149, j 150, j 151], defers := [] } w := by
  rw [g1, g3, g5]
  exact Old.wp_part (ann := fun _ => []) (n := 400) (k := 1) (K := sh24k6 R) (is := [1, 3, 5]) (X := sh24b5 x_1 n_2 s_3 R w) follows_mixed (by kernel_rfl) (by kernel_rfl) (fun a' w' hK hs hd => by
    obtain ⟨x_1, n_2, s_3, hv, h2⟩ := hK
    obtain ⟨tmps, defers⟩ := a'
    simp only at hs hd hv
    subst hd
    have hs : tmps.size = 152 := hs.trans (by kernel_rfl)
    have hl := Old.arr_lit hs
    obtain ⟨j, hj⟩ : ∃ j : Nat → Value, ∀ i, tmps.getD i undef = j i := ⟨_, fun _ => rfl⟩
    rw [show (fun i => tmps.getD i undef) = j from funext hj] at hl
    have e2 : tmps = #[j 0, j 1, j 2, j 3, j 4, j 5, j 6, j 7, j 8, j 9, j 10, j 11, j 12, j 13, j 14, j 15, j 16, j 17, j 18, j 19, j 20, j 21, j 22, j 23, j 24, j 25, j 26, j 27, j 28, j 29, j 30, j 31, j 32, j 33, j 34, j 35, j 36, j 37, j 38, j 39, j 40, j 41, j 42, j 43, j 44, j 45, j 46, j 47, j 48, j 49, j 50, j 51, j 52, j 53, j 54, j 55, j 56, j 57, j 58, j 59, j 60, j 61, j 62, j 63, j 64, j 65, j 66, j 67, j 68, j 69, j 70, j 71, j 72, j 73, j 74, j 75, j 76, j 77, j 78, j 79, j 80, j 81, j 82, j 83, j 84, j 85, j 86, j 87, j 88, j 89, j 90, j 91, j 92, j 93, j 94, j 95, j 96, j 97, j 98, j 99, j 100, j 101, j 102, j 103, j 104, j 105, j 106, j 107, j 108, j 109, j 110, j 111, j 112, j 113, j 114, j 115, j 116, j 117, j 118, j 119, j 120, j 121, j 122, j 123, j 124, j 125, j 126, j 127, j 128, j 129, j 130, j 131, j 132, j 133, j 134, j 135, j 136, j 137, j 138, j 139, j 140, j 141, j 142, j 143, j 144, j 145, j 146, j 147, j 148, j 149, j 150, j 151] := hl.trans (by kernel_rfl)
    simp only [Old.getAll, List.map_cons, List.map_nil, hj, List.cons.injEq, and_true] at hv
    obtain ⟨g1, g3, g5⟩ := hv
    rw [e2]
    exact sh24b6_wp x_1 n_2 s_3 g1 g3 g5 h2) h
def sh24b4 (x_1 : Addr) (n_2 : Addr) (s_3 : ByteArray) (R : EW) (w : World) : Prop :=
 ∃ x4, w.cell? (n_2.add 3) = some (.bool x4) ∧ (
 ifB x4 (
 ∃ x5, w.cell? (x_1.add 4) = some (.int .i64 x5) ∧ (
 doCall Tryz.prog (.func (.func 53) #[] #[]) #[.int .i64 x5] w (retS (fun v7 w8 => ∃ x6, v7 = (.string x6 : Value) ∧ (
 doCat s_3 x6 (fun s9 =>
 sh24k5 R [.pointer (some x_1), .pointer (some n_2), .string s9] w8))) (kN R)))) (
 sh24k5 R [.pointer (some x_1), .pointer (some n_2), .string s_3] w))
def sh24k4 (R : EW) : List Value → World → Prop := fun vs w => ∃ (x_1 : Addr), ∃ (n_2 : Addr), ∃ (s_3 : ByteArray), vs = [.pointer (some x_1), .pointer (some n_2), .string s_3] ∧ sh24b4 x_1 n_2 s_3 R w
theorem sh24b4_wp {j : Nat → Value} (x_1 : Addr) (n_2 : Addr) (s_3 : ByteArray) {R : EW} {w : World} (g1 : j 1 = (.pointer (some x_1) : Value)) (g3 : j 3 = (.pointer (some n_2) : Value)) (g5 : j 5 = (.string s_3 : Value)) (h : sh24b4 x_1 n_2 s_3 R w) : Code.wpIn (fen none) 0 Tryz.prog (Old.tailC 6 (bodyOf Tryz.f24)) (Old.full (Qfn Tryz.prog Tryz.f24 R) (Kfn R)) { tmps := #[j 0, j 1, j 2, j 3, j 4, j 5, j 6, j 7, j 8, j 9, j 10, j 11, j 12, j 13, j 14, j 15, j 16, j 17, j 18, j 19, j 20, j 21, j 22, j 23, j 24, j 25, j 26, j 27, j 28, j 29, j 30, j 31, j 32, j 33, j 34, j 35, j 36, j 37, j 38, j 39, j 40, j 41, j 42, j 43, j 44, j 45, j 46, j 47, j 48, j 49, j 50, j 51, j 52, j 53, j 54, j 55, j 56, j 57, j 58, j 59, j 60, j 61, j 62, j 63, j 64, j 65, j 66, j 67, j 68, j 69, j 70, j 71, j 72, j 73, j 74, j 75, j 76, j 77, j 78, j 79, j 80, j 81, j 82, j 83, j 84, j 85, j 86, j 87, j 88, j 89, j 90, j 91, j 92, j 93, j 94, j 95, j 96, j 97, j 98, j 99, j 100, j 101, j 102, j 103, j 104, j 105, j 106, j 107, j 108, j 109, j 110, j 111, j 112, j 113, j 114, j 115, j 116, j 117, j 118, j 119, j 120, j 121, j 122, j 123, j 124, j 125, j 126, j 127, j 128, j 129, j 130, j 131, j 132, j 133, j 134, j 135, j 136, j 137, j 138, j 139, j 140, j 141, j 142, j 143, j 144, j 145, j 146, j 147, j 148, j 149, j 150, j 151], defers := [] } w := by
  rw [g1, g3, g5]
  exact Old.wp_part (ann := fun _ => []) (n := 400) (k := 1) (K := sh24k5 R) (is := [1, 3, 5]) (X := sh24b4 x_1 n_2 s_3 R w) follows_mixed (by kernel_rfl) (by kernel_rfl) (fun a' w' hK hs hd => by
    obtain ⟨x_1, n_2, s_3, hv, h2⟩ := hK
    obtain ⟨tmps, defers⟩ := a'
    simp only at hs hd hv
    subst hd
    have hs : tmps.size = 152 := hs.trans (by kernel_rfl)
    have hl := Old.arr_lit hs
    obtain ⟨j, hj⟩ : ∃ j : Nat → Value, ∀ i, tmps.getD i undef = j i := ⟨_, fun _ => rfl⟩
    rw [show (fun i => tmps.getD i undef) = j from funext hj] at hl
    have e2 : tmps = #[j 0, j 1, j 2, j 3, j 4, j 5, j 6, j 7, j 8, j 9, j 10, j 11, j 12, j 13, j 14, j 15, j 16, j 17, j 18, j 19, j 20, j 21, j 22, j 23, j 24, j 25, j 26, j 27, j 28, j 29, j 30, j 31, j 32, j 33, j 34, j 35, j 36, j 37, j 38, j 39, j 40, j 41, j 42, j 43, j 44, j 45, j 46, j 47, j 48, j 49, j 50, j 51, j 52, j 53, j 54, j 55, j 56, j 57, j 58, j 59, j 60, j 61, j 62, j 63, j 64, j 65, j 66, j 67, j 68, j 69, j 70, j 71, j 72, j 73, j 74, j 75, j 76, j 77, j 78, j 79, j 80, j 81, j 82, j 83, j 84, j 85, j 86, j 87, j 88, j 89, j 90, j 91, j 92, j 93, j 94, j 95, j 96, j 97, j 98, j 99, j 100, j 101, j 102, j 103, j 104, j 105, j 106, j 107, j 108, j 109, j 110, j 111, j 112, j 113, j 114, j 115, j 116, j 117, j 118, j 119, j 120, j 121, j 122, j 123, j 124, j 125, j 126, j 127, j 128, j 129, j 130, j 131, j 132, j 133, j 134, j 135, j 136, j 137, j 138, j 139, j 140, j 141, j 142, j 143, j 144, j 145, j 146, j 147, j 148, j 149, j 150, j 151] := hl.trans (by kernel_rfl)
    simp only [Old.getAll, List.map_cons, List.map_nil, hj, List.cons.injEq, and_true] at hv
    obtain ⟨g1, g3, g5⟩ := hv
    rw [e2]
    exact sh24b5_wp x_1 n_2 s_3 g1 g3 g5 h2) h
def sh24b3 (x_1 : Addr) (n_2 : Addr) (s_3 : ByteArray) (R : EW) (w : World) : Prop :=
 ∃ x4, w.cell? (n_2.add 2) = some (.bool x4) ∧ (
 ifB x4 (
 ∃ x5, w.cell? (x_1.add 3) = some (.int .i64 x5) ∧ (
 doCall Tryz.prog (.func (.func 53) #[] #[]) #[.int .i64 x5] w (retS (fun v7 w8 => ∃ x6, v7 = (.string x6 : Value) ∧ (
 doCat s_3 x6 (fun s9 =>
 sh24k4 R [.pointer (some x_1), .pointer (some n_2), .string s9] w8))) (kN R)))) (
 sh24k4 R [.pointer (some x_1), .pointer (some n_2), .string s_3] w))
def sh24k3 (R : EW) : List Value → World → Prop := fun vs w => ∃ (x_1 : Addr), ∃ (n_2 : Addr), ∃ (s_3 : ByteArray), vs = [.pointer (some x_1), .pointer (some n_2), .string s_3] ∧ sh24b3 x_1 n_2 s_3 R w
theorem sh24b3_wp {j : Nat → Value} (x_1 : Addr) (n_2 : Addr) (s_3 : ByteArray) {R : EW} {w : World} (g1 : j 1 = (.pointer (some x_1) : Value)) (g3 : j 3 = (.pointer (some n_2) : Value)) (g5 : j 5 = (.string s_3 : Value)) (h : sh24b3 x_1 n_2 s_3 R w) : Code.wpIn (fen none) 0 Tryz.prog (Old.tailC 5 (bodyOf Tryz.f24)) (Old.full (Qfn Tryz.prog Tryz.f24 R) (Kfn R)) { tmps := #[j 0, j 1, j 2, j 3, j 4, j 5, j 6, j 7, j 8, j 9, j 10, j 11, j 12, j 13, j 14, j 15, j 16, j 17, j 18, j 19, j 20, j 21, j 22, j 23, j 24, j 25, j 26, j 27, j 28, j 29, j 30, j 31, j 32, j 33, j 34, j 35, j 36, j 37, j 38, j 39, j 40, j 41, j 42, j 43, j 44, j 45, j 46, j 47, j 48, j 49, j 50, j 51, j 52, j 53, j 54, j 55, j 56, j 57, j 58, j 59, j 60, j 61, j 62, j 63, j 64, j 65, j 66, j 67, j 68, j 69, j 70, j 71, j 72, j 73, j 74, j 75, j 76, j 77, j 78, j 79, j 80, j 81, j 82, j 83, j 84, j 85, j 86, j 87, j 88, j 89, j 90, j 91, j 92, j 93, j 94, j 95, j 96, j 97, j 98, j 99, j 100, j 101, j 102, j 103, j 104, j 105, j 106, j 107, j 108, j 109, j 110, j 111, j 112, j 113, j 114, j 115, j 116, j 117, j 118, j 119, j 120, j 121, j 122, j 123, j 124, j 125, j 126, j 127, j 128, j 129, j 130, j 131, j 132, j 133, j 134, j 135, j 136, j 137, j 138, j 139, j 140, j 141, j 142, j 143, j 144, j 145, j 146, j 147, j 148, j 149, j 150, j 151], defers := [] } w := by
  rw [g1, g3, g5]
  exact Old.wp_part (ann := fun _ => []) (n := 400) (k := 1) (K := sh24k4 R) (is := [1, 3, 5]) (X := sh24b3 x_1 n_2 s_3 R w) follows_mixed (by kernel_rfl) (by kernel_rfl) (fun a' w' hK hs hd => by
    obtain ⟨x_1, n_2, s_3, hv, h2⟩ := hK
    obtain ⟨tmps, defers⟩ := a'
    simp only at hs hd hv
    subst hd
    have hs : tmps.size = 152 := hs.trans (by kernel_rfl)
    have hl := Old.arr_lit hs
    obtain ⟨j, hj⟩ : ∃ j : Nat → Value, ∀ i, tmps.getD i undef = j i := ⟨_, fun _ => rfl⟩
    rw [show (fun i => tmps.getD i undef) = j from funext hj] at hl
    have e2 : tmps = #[j 0, j 1, j 2, j 3, j 4, j 5, j 6, j 7, j 8, j 9, j 10, j 11, j 12, j 13, j 14, j 15, j 16, j 17, j 18, j 19, j 20, j 21, j 22, j 23, j 24, j 25, j 26, j 27, j 28, j 29, j 30, j 31, j 32, j 33, j 34, j 35, j 36, j 37, j 38, j 39, j 40, j 41, j 42, j 43, j 44, j 45, j 46, j 47, j 48, j 49, j 50, j 51, j 52, j 53, j 54, j 55, j 56, j 57, j 58, j 59, j 60, j 61, j 62, j 63, j 64, j 65, j 66, j 67, j 68, j 69, j 70, j 71, j 72, j 73, j 74, j 75, j 76, j 77, j 78, j 79, j 80, j 81, j 82, j 83, j 84, j 85, j 86, j 87, j 88, j 89, j 90, j 91, j 92, j 93, j 94, j 95, j 96, j 97, j 98, j 99, j 100, j 101, j 102, j 103, j 104, j 105, j 106, j 107, j 108, j 109, j 110, j 111, j 112, j 113, j 114, j 115, j 116, j 117, j 118, j 119, j 120, j 121, j 122, j 123, j 124, j 125, j 126, j 127, j 128, j 129, j 130, j 131, j 132, j 133, j 134, j 135, j 136, j 137, j 138, j 139, j 140, j 141, j 142, j 143, j 144, j 145, j 146, j 147, j 148, j 149, j 150, j 151] := hl.trans (by kernel_rfl)
    simp only [Old.getAll, List.map_cons, List.map_nil, hj, List.cons.injEq, and_true] at hv
    obtain ⟨g1, g3, g5⟩ := hv
    rw [e2]
    exact sh24b4_wp x_1 n_2 s_3 g1 g3 g5 h2) h
def sh24b2 (x_1 : Addr) (n_2 : Addr) (s_3 : ByteArray) (R : EW) (w : World) : Prop :=
 ∃ x4, w.cell? (n_2.add 1) = some (.bool x4) ∧ (
 ifB x4 (
 ∃ x5, w.cell? (x_1.add 2) = some (.int .i64 x5) ∧ (
 doCall Tryz.prog (.func (.func 53) #[] #[]) #[.int .i64 x5] w (retS (fun v7 w8 => ∃ x6, v7 = (.string x6 : Value) ∧ (
 doCat s_3 x6 (fun s9 =>
 sh24k3 R [.pointer (some x_1), .pointer (some n_2), .string s9] w8))) (kN R)))) (
 sh24k3 R [.pointer (some x_1), .pointer (some n_2), .string s_3] w))
def sh24k2 (R : EW) : List Value → World → Prop := fun vs w => ∃ (x_1 : Addr), ∃ (n_2 : Addr), ∃ (s_3 : ByteArray), vs = [.pointer (some x_1), .pointer (some n_2), .string s_3] ∧ sh24b2 x_1 n_2 s_3 R w
theorem sh24b2_wp {j : Nat → Value} (x_1 : Addr) (n_2 : Addr) (s_3 : ByteArray) {R : EW} {w : World} (g1 : j 1 = (.pointer (some x_1) : Value)) (g3 : j 3 = (.pointer (some n_2) : Value)) (g5 : j 5 = (.string s_3 : Value)) (h : sh24b2 x_1 n_2 s_3 R w) : Code.wpIn (fen none) 0 Tryz.prog (Old.tailC 4 (bodyOf Tryz.f24)) (Old.full (Qfn Tryz.prog Tryz.f24 R) (Kfn R)) { tmps := #[j 0, j 1, j 2, j 3, j 4, j 5, j 6, j 7, j 8, j 9, j 10, j 11, j 12, j 13, j 14, j 15, j 16, j 17, j 18, j 19, j 20, j 21, j 22, j 23, j 24, j 25, j 26, j 27, j 28, j 29, j 30, j 31, j 32, j 33, j 34, j 35, j 36, j 37, j 38, j 39, j 40, j 41, j 42, j 43, j 44, j 45, j 46, j 47, j 48, j 49, j 50, j 51, j 52, j 53, j 54, j 55, j 56, j 57, j 58, j 59, j 60, j 61, j 62, j 63, j 64, j 65, j 66, j 67, j 68, j 69, j 70, j 71, j 72, j 73, j 74, j 75, j 76, j 77, j 78, j 79, j 80, j 81, j 82, j 83, j 84, j 85, j 86, j 87, j 88, j 89, j 90, j 91, j 92, j 93, j 94, j 95, j 96, j 97, j 98, j 99, j 100, j 101, j 102, j 103, j 104, j 105, j 106, j 107, j 108, j 109, j 110, j 111, j 112, j 113, j 114, j 115, j 116, j 117, j 118, j 119, j 120, j 121, j 122, j 123, j 124, j 125, j 126, j 127, j 128, j 129, j 130, j 131, j 132, j 133, j 134, j 135, j 136, j 137, j 138, j 139, j 140, j 141, j 142, j 143, j 144, j 145, j 146, j 147, j 148, j 149, j 150, j 151], defers := [] } w := by
  rw [g1, g3, g5]
  exact Old.wp_part (ann := fun _ => []) (n := 400) (k := 1) (K := sh24k3 R) (is := [1, 3, 5]) (X := sh24b2 x_1 n_2 s_3 R w) follows_mixed (by kernel_rfl) (by kernel_rfl) (fun a' w' hK hs hd => by
    obtain ⟨x_1, n_2, s_3, hv, h2⟩ := hK
    obtain ⟨tmps, defers⟩ := a'
    simp only at hs hd hv
    subst hd
    have hs : tmps.size = 152 := hs.trans (by kernel_rfl)
    have hl := Old.arr_lit hs
    obtain ⟨j, hj⟩ : ∃ j : Nat → Value, ∀ i, tmps.getD i undef = j i := ⟨_, fun _ => rfl⟩
    rw [show (fun i => tmps.getD i undef) = j from funext hj] at hl
    have e2 : tmps = #[j 0, j 1, j 2, j 3, j 4, j 5, j 6, j 7, j 8, j 9, j 10, j 11, j 12, j 13, j 14, j 15, j 16, j 17, j 18, j 19, j 20, j 21, j 22, j 23, j 24, j 25, j 26, j 27, j 28, j 29, j 30, j 31, j 32, j 33, j 34, j 35, j 36, j 37, j 38, j 39, j 40, j 41, j 42, j 43, j 44, j 45, j 46, j 47, j 48, j 49, j 50, j 51, j 52, j 53, j 54, j 55, j 56, j 57, j 58, j 59, j 60, j 61, j 62, j 63, j 64, j 65, j 66, j 67, j 68, j 69, j 70, j 71, j 72, j 73, j 74, j 75, j 76, j 77, j 78, j 79, j 80, j 81, j 82, j 83, j 84, j 85, j 86, j 87, j 88, j 89, j 90, j 91, j 92, j 93, j 94, j 95, j 96, j 97, j 98, j 99, j 100, j 101, j 102, j 103, j 104, j 105, j 106, j 107, j 108, j 109, j 110, j 111, j 112, j 113, j 114, j 115, j 116, j 117, j 118, j 119, j 120, j 121, j 122, j 123, j 124, j 125, j 126, j 127, j 128, j 129, j 130, j 131, j 132, j 133, j 134, j 135, j 136, j 137, j 138, j 139, j 140, j 141, j 142, j 143, j 144, j 145, j 146, j 147, j 148, j 149, j 150, j 151] := hl.trans (by kernel_rfl)
    simp only [Old.getAll, List.map_cons, List.map_nil, hj, List.cons.injEq, and_true] at hv
    obtain ⟨g1, g3, g5⟩ := hv
    rw [e2]
    exact sh24b3_wp x_1 n_2 s_3 g1 g3 g5 h2) h
def sh24b1 (x_1 : Addr) (n_2 : Addr) (s_3 : ByteArray) (R : EW) (w : World) : Prop :=
 ∃ x4, w.cell? (n_2.add 0) = some (.bool x4) ∧ (
 ifB x4 (
 ∃ x5, w.cell? (x_1.add 1) = some (.int .i64 x5) ∧ (
 doCall Tryz.prog (.func (.func 53) #[] #[]) #[.int .i64 x5] w (retS (fun v7 w8 => ∃ x6, v7 = (.string x6 : Value) ∧ (
 doCat s_3 x6 (fun s9 =>
 sh24k2 R [.pointer (some x_1), .pointer (some n_2), .string s9] w8))) (kN R)))) (
 sh24k2 R [.pointer (some x_1), .pointer (some n_2), .string s_3] w))
def sh24k1 (R : EW) : List Value → World → Prop := fun vs w => ∃ (x_1 : Addr), ∃ (n_2 : Addr), ∃ (s_3 : ByteArray), vs = [.pointer (some x_1), .pointer (some n_2), .string s_3] ∧ sh24b1 x_1 n_2 s_3 R w
theorem sh24b1_wp {j : Nat → Value} (x_1 : Addr) (n_2 : Addr) (s_3 : ByteArray) {R : EW} {w : World} (g1 : j 1 = (.pointer (some x_1) : Value)) (g3 : j 3 = (.pointer (some n_2) : Value)) (g5 : j 5 = (.string s_3 : Value)) (h : sh24b1 x_1 n_2 s_3 R w) : Code.wpIn (fen none) 0 Tryz.prog (Old.tailC 3 (bodyOf Tryz.f24)) (Old.full (Qfn Tryz.prog Tryz.f24 R) (Kfn R)) { tmps := #[j 0, j 1, j 2, j 3, j 4, j 5, j 6, j 7, j 8, j 9, j 10, j 11, j 12, j 13, j 14, j 15, j 16, j 17, j 18, j 19, j 20, j 21, j 22, j 23, j 24, j 25, j 26, j 27, j 28, j 29, j 30, j 31, j 32, j 33, j 34, j 35, j 36, j 37, j 38, j 39, j 40, j 41, j 42, j 43, j 44, j 45, j 46, j 47, j 48, j 49, j 50, j 51, j 52, j 53, j 54, j 55, j 56, j 57, j 58, j 59, j 60, j 61, j 62, j 63, j 64, j 65, j 66, j 67, j 68, j 69, j 70, j 71, j 72, j 73, j 74, j 75, j 76, j 77, j 78, j 79, j 80, j 81, j 82, j 83, j 84, j 85, j 86, j 87, j 88, j 89, j 90, j 91, j 92, j 93, j 94, j 95, j 96, j 97, j 98, j 99, j 100, j 101, j 102, j 103, j 104, j 105, j 106, j 107, j 108, j 109, j 110, j 111, j 112, j 113, j 114, j 115, j 116, j 117, j 118, j 119, j 120, j 121, j 122, j 123, j 124, j 125, j 126, j 127, j 128, j 129, j 130, j 131, j 132, j 133, j 134, j 135, j 136, j 137, j 138, j 139, j 140, j 141, j 142, j 143, j 144, j 145, j 146, j 147, j 148, j 149, j 150, j 151], defers := [] } w := by
  rw [g1, g3, g5]
  exact Old.wp_part (ann := fun _ => []) (n := 400) (k := 1) (K := sh24k2 R) (is := [1, 3, 5]) (X := sh24b1 x_1 n_2 s_3 R w) follows_mixed (by kernel_rfl) (by kernel_rfl) (fun a' w' hK hs hd => by
    obtain ⟨x_1, n_2, s_3, hv, h2⟩ := hK
    obtain ⟨tmps, defers⟩ := a'
    simp only at hs hd hv
    subst hd
    have hs : tmps.size = 152 := hs.trans (by kernel_rfl)
    have hl := Old.arr_lit hs
    obtain ⟨j, hj⟩ : ∃ j : Nat → Value, ∀ i, tmps.getD i undef = j i := ⟨_, fun _ => rfl⟩
    rw [show (fun i => tmps.getD i undef) = j from funext hj] at hl
    have e2 : tmps = #[j 0, j 1, j 2, j 3, j 4, j 5, j 6, j 7, j 8, j 9, j 10, j 11, j 12, j 13, j 14, j 15, j 16, j 17, j 18, j 19, j 20, j 21, j 22, j 23, j 24, j 25, j 26, j 27, j 28, j 29, j 30, j 31, j 32, j 33, j 34, j 35, j 36, j 37, j 38, j 39, j 40, j 41, j 42, j 43, j 44, j 45, j 46, j 47, j 48, j 49, j 50, j 51, j 52, j 53, j 54, j 55, j 56, j 57, j 58, j 59, j 60, j 61, j 62, j 63, j 64, j 65, j 66, j 67, j 68, j 69, j 70, j 71, j 72, j 73, j 74, j 75, j 76, j 77, j 78, j 79, j 80, j 81, j 82, j 83, j 84, j 85, j 86, j 87, j 88, j 89, j 90, j 91, j 92, j 93, j 94, j 95, j 96, j 97, j 98, j 99, j 100, j 101, j 102, j 103, j 104, j 105, j 106, j 107, j 108, j 109, j 110, j 111, j 112, j 113, j 114, j 115, j 116, j 117, j 118, j 119, j 120, j 121, j 122, j 123, j 124, j 125, j 126, j 127, j 128, j 129, j 130, j 131, j 132, j 133, j 134, j 135, j 136, j 137, j 138, j 139, j 140, j 141, j 142, j 143, j 144, j 145, j 146, j 147, j 148, j 149, j 150, j 151] := hl.trans (by kernel_rfl)
    simp only [Old.getAll, List.map_cons, List.map_nil, hj, List.cons.injEq, and_true] at hv
    obtain ⟨g1, g3, g5⟩ := hv
    rw [e2]
    exact sh24b2_wp x_1 n_2 s_3 g1 g3 g5 h2) h
def sh24 (x_1 : Int) (x_2 : Int) (x_3 : Int) (x_4 : Int) (x_5 : Int) (x_6 : Int) (x_7 : Int) (x_8 : Int) (x_9 : Int) (x_10 : Int) (x_11 : Int) (x_12 : Int) (x_13 : Bool) (x_p14 : OA) (x_n15 : Nat) (x_c16 : Nat) (x_p17 : OA) (x_n18 : Nat) (x_c19 : Nat) (R : EW) (w : World) : Prop :=
 doAl (.cells #[.int .u8 x_1, .int .i64 x_2, .int .i64 x_3, .int .i64 x_4, .int .i64 x_5, .int .i64 x_6, .int .i64 x_7, .int .i64 x_8, .int .u8 x_9, .int .u8 x_10, .int .i64 x_11, .int .i64 x_12, .bool x_13, .slice x_p14 x_n15 x_c16, .slice x_p17 x_n18 x_c19] 37) w (fun b20 w21 =>
 ∃ x22, w21.cell? ((blk b20).add 0) = some (.int .u8 x22) ∧ (
 doCall Tryz.prog (.func (.func 30) #[] #[]) #[.int .u8 x22] w21 (retS (fun v35 w36 => ∃ x23 x24 x25 x26 x27 x28 x29 x30 x31 x32 x33 x34, v35 = (.tuple #[.agg #[.bool x23, .bool x24, .bool x25, .bool x26, .bool x27, .bool x28, .bool x29, .bool x30, .bool x31, .bool x32, .bool x33], .bool x34] : Value) ∧ (
 doAl (.cells #[.bool false, .bool false, .bool false, .bool false, .bool false, .bool false, .bool false, .bool false, .bool false, .bool false, .bool false] 67) w36 (fun b37 w38 =>
 doSt ((blk b37).add 0) (.bool x23) w38 (fun w39 =>
 doSt ((blk b37).add 1) (.bool x24) w39 (fun w40 =>
 doSt ((blk b37).add 2) (.bool x25) w40 (fun w41 =>
 doSt ((blk b37).add 3) (.bool x26) w41 (fun w42 =>
 doSt ((blk b37).add 4) (.bool x27) w42 (fun w43 =>
 doSt ((blk b37).add 5) (.bool x28) w43 (fun w44 =>
 doSt ((blk b37).add 6) (.bool x29) w44 (fun w45 =>
 doSt ((blk b37).add 7) (.bool x30) w45 (fun w46 =>
 doSt ((blk b37).add 8) (.bool x31) w46 (fun w47 =>
 doSt ((blk b37).add 9) (.bool x32) w47 (fun w48 =>
 doSt ((blk b37).add 10) (.bool x33) w48 (fun w49 =>
 ∃ x50, w49.cell? ((blk b20).add 0) = some (.int .u8 x50) ∧ (
 doAl (.cells #[.int .u8 x50] 5) w49 (fun b51 w52 =>
 doBs Tryz.prog 51 9 (.slice (some (blk b51)) 1 1) w52 (fun s53 =>
 sh24k1 R [.pointer (some (blk b20)), .pointer (some (blk b37)), .string s53] w52))))))))))))))))) (kN R))))
theorem sh24_ok (x_1 : Int) (x_2 : Int) (x_3 : Int) (x_4 : Int) (x_5 : Int) (x_6 : Int) (x_7 : Int) (x_8 : Int) (x_9 : Int) (x_10 : Int) (x_11 : Int) (x_12 : Int) (x_13 : Bool) (x_p14 : OA) (x_n15 : Nat) (x_c16 : Nat) (x_p17 : OA) (x_n18 : Nat) (x_c19 : Nat) {R : EW} {w : World} : sh24 x_1 x_2 x_3 x_4 x_5 x_6 x_7 x_8 x_9 x_10 x_11 x_12 x_13 x_p14 x_n15 x_c16 x_p17 x_n18 x_c19 R w → Calls Tryz.prog 24 #[.agg #[.int .u8 x_1, .int .i64 x_2, .int .i64 x_3, .int .i64 x_4, .int .i64 x_5, .int .i64 x_6, .int .i64 x_7, .int .i64 x_8, .int .u8 x_9, .int .u8 x_10, .int .i64 x_11, .int .i64 x_12, .bool x_13, .slice x_p14 x_n15 x_c16, .slice x_p17 x_n18 x_c19]] w R := fun h =>
  Old.calls_of_wp (fn := Tryz.f24) (c := bodyOf Tryz.f24) (args := #[.agg #[.int .u8 x_1, .int .i64 x_2, .int .i64 x_3, .int .i64 x_4, .int .i64 x_5, .int .i64 x_6, .int .i64 x_7, .int .i64 x_8, .int .u8 x_9, .int .u8 x_10, .int .i64 x_11, .int .i64 x_12, .bool x_13, .slice x_p14 x_n15 x_c16, .slice x_p17 x_n18 x_c19]]) Tryz.func24 (by kernel_rfl) (Old.wp_part (ann := fun _ => []) (n := 400) (k := 3) (K := sh24k1 R) (is := [1, 3, 5]) (X := sh24 x_1 x_2 x_3 x_4 x_5 x_6 x_7 x_8 x_9 x_10 x_11 x_12 x_13 x_p14 x_n15 x_c16 x_p17 x_n18 x_c19 R w) follows_mixed (by kernel_rfl) (by kernel_rfl) (fun a' w' hK hs hd => by
    obtain ⟨x_1, n_2, s_3, hv, h2⟩ := hK
    obtain ⟨tmps, defers⟩ := a'
    simp only at hs hd hv
    subst hd
    have hs : tmps.size = 152 := hs.trans (by kernel_rfl)
    have hl := Old.arr_lit hs
    obtain ⟨j, hj⟩ : ∃ j : Nat → Value, ∀ i, tmps.getD i undef = j i := ⟨_, fun _ => rfl⟩
    rw [show (fun i => tmps.getD i undef) = j from funext hj] at hl
    have e2 : tmps = #[j 0, j 1, j 2, j 3, j 4, j 5, j 6, j 7, j 8, j 9, j 10, j 11, j 12, j 13, j 14, j 15, j 16, j 17, j 18, j 19, j 20, j 21, j 22, j 23, j 24, j 25, j 26, j 27, j 28, j 29, j 30, j 31, j 32, j 33, j 34, j 35, j 36, j 37, j 38, j 39, j 40, j 41, j 42, j 43, j 44, j 45, j 46, j 47, j 48, j 49, j 50, j 51, j 52, j 53, j 54, j 55, j 56, j 57, j 58, j 59, j 60, j 61, j 62, j 63, j 64, j 65, j 66, j 67, j 68, j 69, j 70, j 71, j 72, j 73, j 74, j 75, j 76, j 77, j 78, j 79, j 80, j 81, j 82, j 83, j 84, j 85, j 86, j 87, j 88, j 89, j 90, j 91, j 92, j 93, j 94, j 95, j 96, j 97, j 98, j 99, j 100, j 101, j 102, j 103, j 104, j 105, j 106, j 107, j 108, j 109, j 110, j 111, j 112, j 113, j 114, j 115, j 116, j 117, j 118, j 119, j 120, j 121, j 122, j 123, j 124, j 125, j 126, j 127, j 128, j 129, j 130, j 131, j 132, j 133, j 134, j 135, j 136, j 137, j 138, j 139, j 140, j 141, j 142, j 143, j 144, j 145, j 146, j 147, j 148, j 149, j 150, j 151] := hl.trans (by kernel_rfl)
    simp only [Old.getAll, List.map_cons, List.map_nil, hj, List.cons.injEq, and_true] at hv
    obtain ⟨g1, g3, g5⟩ := hv
    rw [e2]
    exact sh24b1_wp x_1 n_2 s_3 g1 g3 g5 h2) h)
end Go.Proofs.YtmkpkmdnapccgaaGreatDoor

namespace Go.Proofs.YtmkpkmdnapccgaaGreatDoor
open Go Go.Sh
end Go.Proofs.YtmkpkmdnapccgaaGreatDoor

namespace Go.Proofs.YtmkpkmdnapccgaaGreatDoor
open Go Go.Sh
end Go.Proofs.YtmkpkmdnapccgaaGreatDoor

