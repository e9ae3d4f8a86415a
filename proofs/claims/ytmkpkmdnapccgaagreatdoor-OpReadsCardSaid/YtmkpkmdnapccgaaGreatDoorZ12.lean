/-
  Printed by a program (gen.py): what the functions of the program do, as formulas; each with the proof that its call is what the formula says.
-/
import Derived.Test.YtmkpkmdnapccgaaGreatDoorZ04
import Derived.Test.YtmkpkmdnapccgaaGreatDoorZ07
import Derived.Test.YtmkpkmdnapccgaaGreatDoorProg
import Derived.Test.YtmkpkmdnapccgaaGreatDoorZ05

set_option maxRecDepth 100000
set_option maxHeartbeats 6400000
namespace Go.Proofs.YtmkpkmdnapccgaaGreatDoor
open Go Go.Sh
def sh15b11 (x_1 : Addr) (s_2 : ByteArray) (R : EW) (w : World) : Prop :=
 ∃ (I3 : List Value → World → Prop) (μ4 : List Value → World → Nat), I3 [.string s_2, .int .i64 0] w ∧ (∀ (s_7 : ByteArray), ∀ (i_8 : Int), ∀ (_j5 : Nat → Value) (w6 : World), I3 [.string s_7, .int .i64 i_8] w6 → (
 ∃ xp9 xn10 xc11, w6.cell? (x_1.add 14) = some (.slice xp9 xn10 xc11) ∧ (
 ifB (decide ((i_8 : Int) < ((xn10 : Nat) : Int))) (
 ∃ xp12 xn13 xc14, w6.cell? (x_1.add 14) = some (.slice xp12 xn13 xc14) ∧ (
 doIx xp12 xn13 1 (i_8) (fun a15 =>
 ∃ x16, w6.cell? a15 = some (.int .i64 x16) ∧ (
 doCall Tryz.prog (.func (.func 32) #[] #[]) #[.int .i64 x16] w6 (retS (fun v18 w19 => ∃ x17, v18 = (.string x17 : Value) ∧ (
 doCat s_7 x17 (fun s20 =>
 I3 [.string s20, .int .i64 (IntKind.wrap .i64 (i_8 + 1))] w19 ∧ μ4 [.string s20, .int .i64 (IntKind.wrap .i64 (i_8 + 1))] w19 < μ4 [.string s_7, .int .i64 i_8] w6))) (kN R)))))) (
 R (.returned (.tuple #[.string s_7, .int .i64 0])) w6))))
def sh15k11 (R : EW) : List Value → World → Prop := fun vs w => ∃ (x_1 : Addr), ∃ (s_2 : ByteArray), vs = [.pointer (some x_1), .string s_2] ∧ sh15b11 x_1 s_2 R w
theorem sh15b11_wp {j : Nat → Value} (x_1 : Addr) (s_2 : ByteArray) {R : EW} {w : World} (g1 : j 1 = (.pointer (some x_1) : Value)) (g6 : j 6 = (.string s_2 : Value)) (h : sh15b11 x_1 s_2 R w) : Code.wpIn (fen none) 0 Tryz.prog (Old.tailC 13 (bodyOf Tryz.f15)) (Old.full (Qfn Tryz.prog Tryz.f15 R) (Kfn R)) { tmps := #[j 0, j 1, j 2, j 3, j 4, j 5, j 6, j 7, j 8, j 9, j 10, j 11, j 12, j 13, j 14, j 15, j 16, j 17, j 18, j 19, j 20, j 21, j 22, j 23, j 24, j 25, j 26, j 27, j 28, j 29, j 30, j 31, j 32, j 33, j 34, j 35, j 36, j 37, j 38, j 39, j 40, j 41, j 42, j 43, j 44, j 45, j 46, j 47, j 48, j 49, j 50, j 51, j 52, j 53, j 54, j 55, j 56, j 57, j 58, j 59, j 60, j 61, j 62, j 63, j 64, j 65, j 66, j 67, j 68, j 69, j 70, j 71, j 72, j 73, j 74, j 75, j 76, j 77, j 78, j 79, j 80, j 81, j 82, j 83, j 84, j 85, j 86, j 87, j 88, j 89, j 90, j 91, j 92, j 93, j 94, j 95, j 96, j 97, j 98, j 99, j 100, j 101, j 102, j 103, j 104, j 105, j 106, j 107, j 108, j 109, j 110, j 111, j 112, j 113, j 114, j 115, j 116, j 117, j 118, j 119, j 120, j 121, j 122], defers := [] } w := by
  rw [g1, g6]
  exact Old.wp_last (ann := fun i => if i = 2 then [(6, .string (⟨#[]⟩ : ByteArray)), (8, .int .i64 0)] else []) (n := 400) (X := sh15b11 x_1 s_2 R w) follows_mixed (by kernel_rfl) h
def sh15b10 (x_1 : Addr) (s_2 : ByteArray) (R : EW) (w : World) : Prop :=
 ∃ (I3 : List Value → World → Prop) (μ4 : List Value → World → Nat), I3 [.string s_2, .int .i64 0] w ∧ (∀ (s_7 : ByteArray), ∀ (i_8 : Int), ∀ (_j5 : Nat → Value) (w6 : World), I3 [.string s_7, .int .i64 i_8] w6 → (
 ∃ xp9 xn10 xc11, w6.cell? (x_1.add 13) = some (.slice xp9 xn10 xc11) ∧ (
 ifB (decide ((i_8 : Int) < ((xn10 : Nat) : Int))) (
 doDr w6 (fun w13 =>
 ∃ (C12 : World → Prop), C12 w13 ∧ (
 ∃ xp14 xn15 xc16, (∀ w, C12 w → w.cell? (x_1.add 13) = some (.slice xp14 xn15 xc16)) ∧ (
 doIx xp14 xn15 2 (i_8) (fun a17 =>
 ∃ x18, (∀ w, C12 w → w.cell? (a17.add 0) = some (.int .i64 x18)) ∧ (
 ∃ xp19 xn20 xc21, (∀ w, C12 w → w.cell? (x_1.add 13) = some (.slice xp19 xn20 xc21)) ∧ (
 doIx xp19 xn20 2 (i_8) (fun a22 =>
 ∃ x23, (∀ w, C12 w → w.cell? (a22.add 1) = some (.int .i64 x23)) ∧ (
 doCall Tryz.prog (.func (.func 32) #[] #[]) #[.int .i64 x18] w13 (retS (fun v25 w26 => ∃ x24, v25 = (.string x24 : Value) ∧ (
 C12 w26 ∧ (
 doCat s_7 x24 (fun s27 =>
 doCat s27 (⟨#[58]⟩ : ByteArray) (fun s28 =>
 doCall Tryz.prog (.func (.func 35) #[] #[]) #[.int .i64 x23, .int .i64 10] w26 (retS (fun v30 w31 => ∃ x29, v30 = (.string x29 : Value) ∧ (
 C12 w31 ∧ (
 doCat s28 x29 (fun s32 =>
 I3 [.string s32, .int .i64 (IntKind.wrap .i64 (i_8 + 1))] w31 ∧ μ4 [.string s32, .int .i64 (IntKind.wrap .i64 (i_8 + 1))] w31 < μ4 [.string s_7, .int .i64 i_8] w6)))) (kN R))))))) (kN R))))))))))) (
 sh15k11 R [.pointer (some x_1), .string s_7] w6))))
def sh15k10 (R : EW) : List Value → World → Prop := fun vs w => ∃ (x_1 : Addr), ∃ (s_2 : ByteArray), vs = [.pointer (some x_1), .string s_2] ∧ sh15b10 x_1 s_2 R w
theorem sh15b10_wp {j : Nat → Value} (x_1 : Addr) (s_2 : ByteArray) {R : EW} {w : World} (g1 : j 1 = (.pointer (some x_1) : Value)) (g6 : j 6 = (.string s_2 : Value)) (h : sh15b10 x_1 s_2 R w) : Code.wpIn (fen none) 0 Tryz.prog (Old.tailC 12 (bodyOf Tryz.f15)) (Old.full (Qfn Tryz.prog Tryz.f15 R) (Kfn R)) { tmps := #[j 0, j 1, j 2, j 3, j 4, j 5, j 6, j 7, j 8, j 9, j 10, j 11, j 12, j 13, j 14, j 15, j 16, j 17, j 18, j 19, j 20, j 21, j 22, j 23, j 24, j 25, j 26, j 27, j 28, j 29, j 30, j 31, j 32, j 33, j 34, j 35, j 36, j 37, j 38, j 39, j 40, j 41, j 42, j 43, j 44, j 45, j 46, j 47, j 48, j 49, j 50, j 51, j 52, j 53, j 54, j 55, j 56, j 57, j 58, j 59, j 60, j 61, j 62, j 63, j 64, j 65, j 66, j 67, j 68, j 69, j 70, j 71, j 72, j 73, j 74, j 75, j 76, j 77, j 78, j 79, j 80, j 81, j 82, j 83, j 84, j 85, j 86, j 87, j 88, j 89, j 90, j 91, j 92, j 93, j 94, j 95, j 96, j 97, j 98, j 99, j 100, j 101, j 102, j 103, j 104, j 105, j 106, j 107, j 108, j 109, j 110, j 111, j 112, j 113, j 114, j 115, j 116, j 117, j 118, j 119, j 120, j 121, j 122], defers := [] } w := by
  rw [g1, g6]
  exact Old.wp_part (ann := fun i => if i = 0 then [(6, .string (⟨#[]⟩ : ByteArray)), (7, .int .i64 0)] else []) (n := 400) (k := 1) (K := sh15k11 R) (is := [1, 6]) (X := sh15b10 x_1 s_2 R w) follows_mixed (by kernel_rfl) (by kernel_rfl) (fun a' w' hK hs hd => by
    obtain ⟨x_1, s_2, hv, h2⟩ := hK
    obtain ⟨tmps, defers⟩ := a'
    simp only at hs hd hv
    subst hd
    have hs : tmps.size = 123 := hs.trans (by kernel_rfl)
    have hl := Old.arr_lit hs
    obtain ⟨j, hj⟩ : ∃ j : Nat → Value, ∀ i, tmps.getD i undef = j i := ⟨_, fun _ => rfl⟩
    rw [show (fun i => tmps.getD i undef) = j from funext hj] at hl
    have e2 : tmps = #[j 0, j 1, j 2, j 3, j 4, j 5, j 6, j 7, j 8, j 9, j 10, j 11, j 12, j 13, j 14, j 15, j 16, j 17, j 18, j 19, j 20, j 21, j 22, j 23, j 24, j 25, j 26, j 27, j 28, j 29, j 30, j 31, j 32, j 33, j 34, j 35, j 36, j 37, j 38, j 39, j 40, j 41, j 42, j 43, j 44, j 45, j 46, j 47, j 48, j 49, j 50, j 51, j 52, j 53, j 54, j 55, j 56, j 57, j 58, j 59, j 60, j 61, j 62, j 63, j 64, j 65, j 66, j 67, j 68, j 69, j 70, j 71, j 72, j 73, j 74, j 75, j 76, j 77, j 78, j 79, j 80, j 81, j 82, j 83, j 84, j 85, j 86, j 87, j 88, j 89, j 90, j 91, j 92, j 93, j 94, j 95, j 96, j 97, j 98, j 99, j 100, j 101, j 102, j 103, j 104, j 105, j 106, j 107, j 108, j 109, j 110, j 111, j 112, j 113, j 114, j 115, j 116, j 117, j 118, j 119, j 120, j 121, j 122] := hl.trans (by kernel_rfl)
    simp only [Old.getAll, List.map_cons, List.map_nil, hj, List.cons.injEq, and_true] at hv
    obtain ⟨g1, g6⟩ := hv
    rw [e2]
    exact sh15b11_wp x_1 s_2 g1 g6 h2) h
def sh15b9 (x_1 : Addr) (n_2 : Addr) (s_3 : ByteArray) (R : EW) (w : World) : Prop :=
 ∃ x4, w.cell? (n_2.add 8) = some (.bool x4) ∧ (
 ifB x4 (
 ∃ x5, w.cell? ((x_1.add 9).add 0) = some (.int .u8 x5) ∧ (
 ∃ x6, w.cell? ((x_1.add 9).add 1) = some (.int .i64 x6) ∧ (
 ∃ x7, w.cell? ((x_1.add 9).add 2) = some (.int .i64 x7) ∧ (
 ∃ x8, w.cell? ((x_1.add 9).add 3) = some (.bool x8) ∧ (
 doCall Tryz.prog (.func (.func 34) #[] #[]) #[.agg #[.int .u8 x5, .int .i64 x6, .int .i64 x7, .bool x8]] w (retS (fun v10 w11 => ∃ x9, v10 = (.string x9 : Value) ∧ (
 doCat s_3 x9 (fun s12 =>
 sh15k10 R [.pointer (some x_1), .string s12] w11))) (kN R))))))) (
 sh15k10 R [.pointer (some x_1), .string s_3] w))
def sh15k9 (R : EW) : List Value → World → Prop := fun vs w => ∃ (x_1 : Addr), ∃ (n_2 : Addr), ∃ (s_3 : ByteArray), vs = [.pointer (some x_1), .pointer (some n_2), .string s_3] ∧ sh15b9 x_1 n_2 s_3 R w
theorem sh15b9_wp {j : Nat → Value} (x_1 : Addr) (n_2 : Addr) (s_3 : ByteArray) {R : EW} {w : World} (g1 : j 1 = (.pointer (some x_1) : Value)) (g4 : j 4 = (.pointer (some n_2) : Value)) (g6 : j 6 = (.string s_3 : Value)) (h : sh15b9 x_1 n_2 s_3 R w) : Code.wpIn (fen none) 0 Tryz.prog (Old.tailC 11 (bodyOf Tryz.f15)) (Old.full (Qfn Tryz.prog Tryz.f15 R) (Kfn R)) { tmps := #[j 0, j 1, j 2, j 3, j 4, j 5, j 6, j 7, j 8, j 9, j 10, j 11, j 12, j 13, j 14, j 15, j 16, j 17, j 18, j 19, j 20, j 21, j 22, j 23, j 24, j 25, j 26, j 27, j 28, j 29, j 30, j 31, j 32, j 33, j 34, j 35, j 36, j 37, j 38, j 39, j 40, j 41, j 42, j 43, j 44, j 45, j 46, j 47, j 48, j 49, j 50, j 51, j 52, j 53, j 54, j 55, j 56, j 57, j 58, j 59, j 60, j 61, j 62, j 63, j 64, j 65, j 66, j 67, j 68, j 69, j 70, j 71, j 72, j 73, j 74, j 75, j 76, j 77, j 78, j 79, j 80, j 81, j 82, j 83, j 84, j 85, j 86, j 87, j 88, j 89, j 90, j 91, j 92, j 93, j 94, j 95, j 96, j 97, j 98, j 99, j 100, j 101, j 102, j 103, j 104, j 105, j 106, j 107, j 108, j 109, j 110, j 111, j 112, j 113, j 114, j 115, j 116, j 117, j 118, j 119, j 120, j 121, j 122], defers := [] } w := by
  rw [g1, g4, g6]
  exact Old.wp_part (ann := fun _ => []) (n := 400) (k := 1) (K := sh15k10 R) (is := [1, 6]) (X := sh15b9 x_1 n_2 s_3 R w) follows_mixed (by kernel_rfl) (by kernel_rfl) (fun a' w' hK hs hd => by
    obtain ⟨x_1, s_2, hv, h2⟩ := hK
    obtain ⟨tmps, defers⟩ := a'
    simp only at hs hd hv
    subst hd
    have hs : tmps.size = 123 := hs.trans (by kernel_rfl)
    have hl := Old.arr_lit hs
    obtain ⟨j, hj⟩ : ∃ j : Nat → Value, ∀ i, tmps.getD i undef = j i := ⟨_, fun _ => rfl⟩
    rw [show (fun i => tmps.getD i undef) = j from funext hj] at hl
    have e2 : tmps = #[j 0, j 1, j 2, j 3, j 4, j 5, j 6, j 7, j 8, j 9, j 10, j 11, j 12, j 13, j 14, j 15, j 16, j 17, j 18, j 19, j 20, j 21, j 22, j 23, j 24, j 25, j 26, j 27, j 28, j 29, j 30, j 31, j 32, j 33, j 34, j 35, j 36, j 37, j 38, j 39, j 40, j 41, j 42, j 43, j 44, j 45, j 46, j 47, j 48, j 49, j 50, j 51, j 52, j 53, j 54, j 55, j 56, j 57, j 58, j 59, j 60, j 61, j 62, j 63, j 64, j 65, j 66, j 67, j 68, j 69, j 70, j 71, j 72, j 73, j 74, j 75, j 76, j 77, j 78, j 79, j 80, j 81, j 82, j 83, j 84, j 85, j 86, j 87, j 88, j 89, j 90, j 91, j 92, j 93, j 94, j 95, j 96, j 97, j 98, j 99, j 100, j 101, j 102, j 103, j 104, j 105, j 106, j 107, j 108, j 109, j 110, j 111, j 112, j 113, j 114, j 115, j 116, j 117, j 118, j 119, j 120, j 121, j 122] := hl.trans (by kernel_rfl)
    simp only [Old.getAll, List.map_cons, List.map_nil, hj, List.cons.injEq, and_true] at hv
    obtain ⟨g1, g6⟩ := hv
    rw [e2]
    exact sh15b10_wp x_1 s_2 g1 g6 h2) h
def sh15b8 (x_1 : Addr) (n_2 : Addr) (s_3 : ByteArray) (R : EW) (w : World) : Prop :=
 ∃ x4, w.cell? (n_2.add 7) = some (.bool x4) ∧ (
 ifB x4 (
 doCat s_3 (⟨#[32]⟩ : ByteArray) (fun s5 =>
 ∃ x6, w.cell? (x_1.add 8) = some (.int .u8 x6) ∧ (
 doCall Tryz.prog (.func (.func 33) #[] #[]) #[.int .u8 x6] w (retS (fun v8 w9 => ∃ x7, v8 = (.string x7 : Value) ∧ (
 doCat s5 x7 (fun s10 =>
 sh15k9 R [.pointer (some x_1), .pointer (some n_2), .string s10] w9))) (kN R))))) (
 sh15k9 R [.pointer (some x_1), .pointer (some n_2), .string s_3] w))
def sh15k8 (R : EW) : List Value → World → Prop := fun vs w => ∃ (x_1 : Addr), ∃ (n_2 : Addr), ∃ (s_3 : ByteArray), vs = [.pointer (some x_1), .pointer (some n_2), .string s_3] ∧ sh15b8 x_1 n_2 s_3 R w
theorem sh15b8_wp {j : Nat → Value} (x_1 : Addr) (n_2 : Addr) (s_3 : ByteArray) {R : EW} {w : World} (g1 : j 1 = (.pointer (some x_1) : Value)) (g4 : j 4 = (.pointer (some n_2) : Value)) (g6 : j 6 = (.string s_3 : Value)) (h : sh15b8 x_1 n_2 s_3 R w) : Code.wpIn (fen none) 0 Tryz.prog (Old.tailC 10 (bodyOf Tryz.f15)) (Old.full (Qfn Tryz.prog Tryz.f15 R) (Kfn R)) { tmps := #[j 0, j 1, j 2, j 3, j 4, j 5, j 6, j 7, j 8, j 9, j 10, j 11, j 12, j 13, j 14, j 15, j 16, j 17, j 18, j 19, j 20, j 21, j 22, j 23, j 24, j 25, j 26, j 27, j 28, j 29, j 30, j 31, j 32, j 33, j 34, j 35, j 36, j 37, j 38, j 39, j 40, j 41, j 42, j 43, j 44, j 45, j 46, j 47, j 48, j 49, j 50, j 51, j 52, j 53, j 54, j 55, j 56, j 57, j 58, j 59, j 60, j 61, j 62, j 63, j 64, j 65, j 66, j 67, j 68, j 69, j 70, j 71, j 72, j 73, j 74, j 75, j 76, j 77, j 78, j 79, j 80, j 81, j 82, j 83, j 84, j 85, j 86, j 87, j 88, j 89, j 90, j 91, j 92, j 93, j 94, j 95, j 96, j 97, j 98, j 99, j 100, j 101, j 102, j 103, j 104, j 105, j 106, j 107, j 108, j 109, j 110, j 111, j 112, j 113, j 114, j 115, j 116, j 117, j 118, j 119, j 120, j 121, j 122], defers := [] } w := by
  rw [g1, g4, g6]
  exact Old.wp_part (ann := fun _ => []) (n := 400) (k := 1) (K := sh15k9 R) (is := [1, 4, 6]) (X := sh15b8 x_1 n_2 s_3 R w) follows_mixed (by kernel_rfl) (by kernel_rfl) (fun a' w' hK hs hd => by
    obtain ⟨x_1, n_2, s_3, hv, h2⟩ := hK
    obtain ⟨tmps, defers⟩ := a'
    simp only at hs hd hv
    subst hd
    have hs : tmps.size = 123 := hs.trans (by kernel_rfl)
    have hl := Old.arr_lit hs
    obtain ⟨j, hj⟩ : ∃ j : Nat → Value, ∀ i, tmps.getD i undef = j i := ⟨_, fun _ => rfl⟩
    rw [show (fun i => tmps.getD i undef) = j from funext hj] at hl
    have e2 : tmps = #[j 0, j 1, j 2, j 3, j 4, j 5, j 6, j 7, j 8, j 9, j 10, j 11, j 12, j 13, j 14, j 15, j 16, j 17, j 18, j 19, j 20, j 21, j 22, j 23, j 24, j 25, j 26, j 27, j 28, j 29, j 30, j 31, j 32, j 33, j 34, j 35, j 36, j 37, j 38, j 39, j 40, j 41, j 42, j 43, j 44, j 45, j 46, j 47, j 48, j 49, j 50, j 51, j 52, j 53, j 54, j 55, j 56, j 57, j 58, j 59, j 60, j 61, j 62, j 63, j 64, j 65, j 66, j 67, j 68, j 69, j 70, j 71, j 72, j 73, j 74, j 75, j 76, j 77, j 78, j 79, j 80, j 81, j 82, j 83, j 84, j 85, j 86, j 87, j 88, j 89, j 90, j 91, j 92, j 93, j 94, j 95, j 96, j 97, j 98, j 99, j 100, j 101, j 102, j 103, j 104, j 105, j 106, j 107, j 108, j 109, j 110, j 111, j 112, j 113, j 114, j 115, j 116, j 117, j 118, j 119, j 120, j 121, j 122] := hl.trans (by kernel_rfl)
    simp only [Old.getAll, List.map_cons, List.map_nil, hj, List.cons.injEq, and_true] at hv
    obtain ⟨g1, g4, g6⟩ := hv
    rw [e2]
    exact sh15b9_wp x_1 n_2 s_3 g1 g4 g6 h2) h
def sh15b7 (x_1 : Addr) (n_2 : Addr) (s_3 : ByteArray) (R : EW) (w : World) : Prop :=
 ∃ x4, w.cell? (n_2.add 6) = some (.bool x4) ∧ (
 ifB x4 (
 ∃ x5, w.cell? (x_1.add 7) = some (.int .i64 x5) ∧ (
 doCall Tryz.prog (.func (.func 32) #[] #[]) #[.int .i64 x5] w (retS (fun v7 w8 => ∃ x6, v7 = (.string x6 : Value) ∧ (
 doCat s_3 x6 (fun s9 =>
 sh15k8 R [.pointer (some x_1), .pointer (some n_2), .string s9] w8))) (kN R)))) (
 sh15k8 R [.pointer (some x_1), .pointer (some n_2), .string s_3] w))
def sh15k7 (R : EW) : List Value → World → Prop := fun vs w => ∃ (x_1 : Addr), ∃ (n_2 : Addr), ∃ (s_3 : ByteArray), vs = [.pointer (some x_1), .pointer (some n_2), .string s_3] ∧ sh15b7 x_1 n_2 s_3 R w
theorem sh15b7_wp {j : Nat → Value} (x_1 : Addr) (n_2 : Addr) (s_3 : ByteArray) {R : EW} {w : World} (g1 : j 1 = (.pointer (some x_1) : Value)) (g4 : j 4 = (.pointer (some n_2) : Value)) (g6 : j 6 = (.string s_3 : Value)) (h : sh15b7 x_1 n_2 s_3 R w) : Code.wpIn (fen none) 0 Tryz.prog (Old.tailC 9 (bodyOf Tryz.f15)) (Old.full (Qfn Tryz.prog Tryz.f15 R) (Kfn R)) { tmps := #[j 0, j 1, j 2, j 3, j 4, j 5, j 6, j 7, j 8, j 9, j 10, j 11, j 12, j 13, j 14, j 15, j 16, j 17, j 18, j 19, j 20, j 21, j 22, j 23, j 24, j 25, j 26, j 27, j 28, j 29, j 30, j 31, j 32, j 33, j 34, j 35, j 36, j 37, j 38, j 39, j 40, j 41, j 42, j 43, j 44, j 45, j 46, j 47, j 48, j 49, j 50, j 51, j 52, j 53, j 54, j 55, j 56, j 57, j 58, j 59, j 60, j 61, j 62, j 63, j 64, j 65, j 66, j 67, j 68, j 69, j 70, j 71, j 72, j 73, j 74, j 75, j 76, j 77, j 78, j 79, j 80, j 81, j 82, j 83, j 84, j 85, j 86, j 87, j 88, j 89, j 90, j 91, j 92, j 93, j 94, j 95, j 96, j 97, j 98, j 99, j 100, j 101, j 102, j 103, j 104, j 105, j 106, j 107, j 108, j 109, j 110, j 111, j 112, j 113, j 114, j 115, j 116, j 117, j 118, j 119, j 120, j 121, j 122], defers := [] } w := by
  rw [g1, g4, g6]
  exact Old.wp_part (ann := fun _ => []) (n := 400) (k := 1) (K := sh15k8 R) (is := [1, 4, 6]) (X := sh15b7 x_1 n_2 s_3 R w) follows_mixed (by kernel_rfl) (by kernel_rfl) (fun a' w' hK hs hd => by
    obtain ⟨x_1, n_2, s_3, hv, h2⟩ := hK
    obtain ⟨tmps, defers⟩ := a'
    simp only at hs hd hv
    subst hd
    have hs : tmps.size = 123 := hs.trans (by kernel_rfl)
    have hl := Old.arr_lit hs
    obtain ⟨j, hj⟩ : ∃ j : Nat → Value, ∀ i, tmps.getD i undef = j i := ⟨_, fun _ => rfl⟩
    rw [show (fun i => tmps.getD i undef) = j from funext hj] at hl
    have e2 : tmps = #[j 0, j 1, j 2, j 3, j 4, j 5, j 6, j 7, j 8, j 9, j 10, j 11, j 12, j 13, j 14, j 15, j 16, j 17, j 18, j 19, j 20, j 21, j 22, j 23, j 24, j 25, j 26, j 27, j 28, j 29, j 30, j 31, j 32, j 33, j 34, j 35, j 36, j 37, j 38, j 39, j 40, j 41, j 42, j 43, j 44, j 45, j 46, j 47, j 48, j 49, j 50, j 51, j 52, j 53, j 54, j 55, j 56, j 57, j 58, j 59, j 60, j 61, j 62, j 63, j 64, j 65, j 66, j 67, j 68, j 69, j 70, j 71, j 72, j 73, j 74, j 75, j 76, j 77, j 78, j 79, j 80, j 81, j 82, j 83, j 84, j 85, j 86, j 87, j 88, j 89, j 90, j 91, j 92, j 93, j 94, j 95, j 96, j 97, j 98, j 99, j 100, j 101, j 102, j 103, j 104, j 105, j 106, j 107, j 108, j 109, j 110, j 111, j 112, j 113, j 114, j 115, j 116, j 117, j 118, j 119, j 120, j 121, j 122] := hl.trans (by kernel_rfl)
    simp only [Old.getAll, List.map_cons, List.map_nil, hj, List.cons.injEq, and_true] at hv
    obtain ⟨g1, g4, g6⟩ := hv
    rw [e2]
    exact sh15b8_wp x_1 n_2 s_3 g1 g4 g6 h2) h
def sh15b6 (x_1 : Addr) (n_2 : Addr) (s_3 : ByteArray) (R : EW) (w : World) : Prop :=
 ∃ x4, w.cell? (n_2.add 4) = some (.bool x4) ∧ (
 ifB x4 (
 doDr w (fun w6 =>
 ∃ (C5 : World → Prop), C5 w6 ∧ (
 ∃ x7, (∀ w, C5 w → w.cell? (x_1.add 5) = some (.int .i64 x7)) ∧ (
 ∃ x8, (∀ w, C5 w → w.cell? (x_1.add 6) = some (.int .i64 x8)) ∧ (
 doCall Tryz.prog (.func (.func 32) #[] #[]) #[.int .i64 x7] w6 (retS (fun v10 w11 => ∃ x9, v10 = (.string x9 : Value) ∧ (
 C5 w11 ∧ (
 doCat s_3 x9 (fun s12 =>
 doCall Tryz.prog (.func (.func 32) #[] #[]) #[.int .i64 x8] w11 (retS (fun v14 w15 => ∃ x13, v14 = (.string x13 : Value) ∧ (
 C5 w15 ∧ (
 doCat s12 x13 (fun s16 =>
 sh15k7 R [.pointer (some x_1), .pointer (some n_2), .string s16] w15)))) (kN R)))))) (kN R))))))) (
 sh15k7 R [.pointer (some x_1), .pointer (some n_2), .string s_3] w))
def sh15k6 (R : EW) : List Value → World → Prop := fun vs w => ∃ (x_1 : Addr), ∃ (n_2 : Addr), ∃ (s_3 : ByteArray), vs = [.pointer (some x_1), .pointer (some n_2), .string s_3] ∧ sh15b6 x_1 n_2 s_3 R w
theorem sh15b6_wp {j : Nat → Value} (x_1 : Addr) (n_2 : Addr) (s_3 : ByteArray) {R : EW} {w : World} (g1 : j 1 = (.pointer (some x_1) : Value)) (g4 : j 4 = (.pointer (some n_2) : Value)) (g6 : j 6 = (.string s_3 : Value)) (h : sh15b6 x_1 n_2 s_3 R w) : Code.wpIn (fen none) 0 Tryz.prog (Old.tailC 8 (bodyOf Tryz.f15)) (Old.full (Qfn Tryz.prog Tryz.f15 R) (Kfn R)) { tmps := #[j 0, j 1, j 2, j 3, j 4, j 5, j 6, j 7, j 8, j 9, j 10, j 11, j 12, j 13, j 14, j 15, j 16, j 17, j 18, j 19, j 20, j 21, j 22, j 23, j 24, j 25, j 26, j 27, j 28, j 29, j 30, j 31, j 32, j 33, j 34, j 35, j 36, j 37, j 38, j 39, j 40, j 41, j 42, j 43, j 44, j 45, j 46, j 47, j 48, j 49, j 50, j 51, j 52, j 53, j 54, j 55, j 56, j 57, j 58, j 59, j 60, j 61, j 62, j 63, j 64, j 65, j 66, j 67, j 68, j 69, j 70, j 71, j 72, j 73, j 74, j 75, j 76, j 77, j 78, j 79, j 80, j 81, j 82, j 83, j 84, j 85, j 86, j 87, j 88, j 89, j 90, j 91, j 92, j 93, j 94, j 95, j 96, j 97, j 98, j 99, j 100, j 101, j 102, j 103, j 104, j 105, j 106, j 107, j 108, j 109, j 110, j 111, j 112, j 113, j 114, j 115, j 116, j 117, j 118, j 119, j 120, j 121, j 122], defers := [] } w := by
  rw [g1, g4, g6]
  exact Old.wp_part (ann := fun _ => []) (n := 400) (k := 1) (K := sh15k7 R) (is := [1, 4, 6]) (X := sh15b6 x_1 n_2 s_3 R w) follows_mixed (by kernel_rfl) (by kernel_rfl) (fun a' w' hK hs hd => by
    obtain ⟨x_1, n_2, s_3, hv, h2⟩ := hK
    obtain ⟨tmps, defers⟩ := a'
    simp only at hs hd hv
    subst hd
    have hs : tmps.size = 123 := hs.trans (by kernel_rfl)
    have hl := Old.arr_lit hs
    obtain ⟨j, hj⟩ : ∃ j : Nat → Value, ∀ i, tmps.getD i undef = j i := ⟨_, fun _ => rfl⟩
    rw [show (fun i => tmps.getD i undef) = j from funext hj] at hl
    have e2 : tmps = #[j 0, j 1, j 2, j 3, j 4, j 5, j 6, j 7, j 8, j 9, j 10, j 11, j 12, j 13, j 14, j 15, j 16, j 17, j 18, j 19, j 20, j 21, j 22, j 23, j 24, j 25, j 26, j 27, j 28, j 29, j 30, j 31, j 32, j 33, j 34, j 35, j 36, j 37, j 38, j 39, j 40, j 41, j 42, j 43, j 44, j 45, j 46, j 47, j 48, j 49, j 50, j 51, j 52, j 53, j 54, j 55, j 56, j 57, j 58, j 59, j 60, j 61, j 62, j 63, j 64, j 65, j 66, j 67, j 68, j 69, j 70, j 71, j 72, j 73, j 74, j 75, j 76, j 77, j 78, j 79, j 80, j 81, j 82, j 83, j 84, j 85, j 86, j 87, j 88, j 89, j 90, j 91, j 92, j 93, j 94, j 95, j 96, j 97, j 98, j 99, j 100, j 101, j 102, j 103, j 104, j 105, j 106, j 107, j 108, j 109, j 110, j 111, j 112, j 113, j 114, j 115, j 116, j 117, j 118, j 119, j 120, j 121, j 122] := hl.trans (by kernel_rfl)
    simp only [Old.getAll, List.map_cons, List.map_nil, hj, List.cons.injEq, and_true] at hv
    obtain ⟨g1, g4, g6⟩ := hv
    rw [e2]
    exact sh15b7_wp x_1 n_2 s_3 g1 g4 g6 h2) h
def sh15b5 (x_1 : Addr) (n_2 : Addr) (s_3 : ByteArray) (R : EW) (w : World) : Prop :=
 ∃ x4, w.cell? (n_2.add 3) = some (.bool x4) ∧ (
 ifB x4 (
 ∃ x5, w.cell? (x_1.add 4) = some (.int .i64 x5) ∧ (
 doCall Tryz.prog (.func (.func 32) #[] #[]) #[.int .i64 x5] w (retS (fun v7 w8 => ∃ x6, v7 = (.string x6 : Value) ∧ (
 doCat s_3 x6 (fun s9 =>
 sh15k6 R [.pointer (some x_1), .pointer (some n_2), .string s9] w8))) (kN R)))) (
 sh15k6 R [.pointer (some x_1), .pointer (some n_2), .string s_3] w))
def sh15k5 (R : EW) : List Value → World → Prop := fun vs w => ∃ (x_1 : Addr), ∃ (n_2 : Addr), ∃ (s_3 : ByteArray), vs = [.pointer (some x_1), .pointer (some n_2), .string s_3] ∧ sh15b5 x_1 n_2 s_3 R w
theorem sh15b5_wp {j : Nat → Value} (x_1 : Addr) (n_2 : Addr) (s_3 : ByteArray) {R : EW} {w : World} (g1 : j 1 = (.pointer (some x_1) : Value)) (g4 : j 4 = (.pointer (some n_2) : Value)) (g6 : j 6 = (.string s_3 : Value)) (h : sh15b5 x_1 n_2 s_3 R w) : Code.wpIn (fen none) 0 Tryz.prog (Old.tailC 7 (bodyOf Tryz.f15)) (Old.full (Qfn Tryz.prog Tryz.f15 R) (Kfn R)) { tmps := #[j 0, j 1, j 2, j 3, j 4, j 5, j 6, j 7, j 8, j 9, j 10, j 11, j 12, j 13, j 14, j 15, j 16, j 17, j 18, j 19, j 20, j 21, j 22, j 23, j 24, j 25, j 26, j 27, j 28, j 29, j 30, j 31, j 32, j 33, j 34, j 35, j 36, j 37, j 38, j 39, j 40, j 41, j 42, j 43, j 44, j 45, j 46, j 47, j 48, j 49, j 50, j 51, j 52, j 53, j 54, j 55, j 56, j 57, j 58, j 59, j 60, j 61, j 62, j 63, j 64, j 65, j 66, j 67, j 68, j 69, j 70, j 71, j 72, j 73, j 74, j 75, j 76, j 77, j 78, j 79, j 80, j 81, j 82, j 83, j 84, j 85, j 86, j 87, j 88, j 89, j 90, j 91, j 92, j 93, j 94, j 95, j 96, j 97, j 98, j 99, j 100, j 101, j 102, j 103, j 104, j 105, j 106, j 107, j 108, j 109, j 110, j 111, j 112, j 113, j 114, j 115, j 116, j 117, j 118, j 119, j 120, j 121, j 122], defers := [] } w := by
  rw [g1, g4, g6]
  exact Old.wp_part (ann := fun _ => []) (n := 400) (k := 1) (K := sh15k6 R) (is := [1, 4, 6]) (X := sh15b5 x_1 n_2 s_3 R w) follows_mixed (by kernel_rfl) (by kernel_rfl) (fun a' w' hK hs hd => by
    obtain ⟨x_1, n_2, s_3, hv, h2⟩ := hK
    obtain ⟨tmps, defers⟩ := a'
    simp only at hs hd hv
    subst hd
    have hs : tmps.size = 123 := hs.trans (by kernel_rfl)
    have hl := Old.arr_lit hs
    obtain ⟨j, hj⟩ : ∃ j : Nat → Value, ∀ i, tmps.getD i undef = j i := ⟨_, fun _ => rfl⟩
    rw [show (fun i => tmps.getD i undef) = j from funext hj] at hl
    have e2 : tmps = #[j 0, j 1, j 2, j 3, j 4, j 5, j 6, j 7, j 8, j 9, j 10, j 11, j 12, j 13, j 14, j 15, j 16, j 17, j 18, j 19, j 20, j 21, j 22, j 23, j 24, j 25, j 26, j 27, j 28, j 29, j 30, j 31, j 32, j 33, j 34, j 35, j 36, j 37, j 38, j 39, j 40, j 41, j 42, j 43, j 44, j 45, j 46, j 47, j 48, j 49, j 50, j 51, j 52, j 53, j 54, j 55, j 56, j 57, j 58, j 59, j 60, j 61, j 62, j 63, j 64, j 65, j 66, j 67, j 68, j 69, j 70, j 71, j 72, j 73, j 74, j 75, j 76, j 77, j 78, j 79, j 80, j 81, j 82, j 83, j 84, j 85, j 86, j 87, j 88, j 89, j 90, j 91, j 92, j 93, j 94, j 95, j 96, j 97, j 98, j 99, j 100, j 101, j 102, j 103, j 104, j 105, j 106, j 107, j 108, j 109, j 110, j 111, j 112, j 113, j 114, j 115, j 116, j 117, j 118, j 119, j 120, j 121, j 122] := hl.trans (by kernel_rfl)
    simp only [Old.getAll, List.map_cons, List.map_nil, hj, List.cons.injEq, and_true] at hv
    obtain ⟨g1, g4, g6⟩ := hv
    rw [e2]
    exact sh15b6_wp x_1 n_2 s_3 g1 g4 g6 h2) h
def sh15b4 (x_1 : Addr) (n_2 : Addr) (s_3 : ByteArray) (R : EW) (w : World) : Prop :=
 ∃ x4, w.cell? (n_2.add 2) = some (.bool x4) ∧ (
 ifB x4 (
 ∃ x5, w.cell? (x_1.add 3) = some (.int .i64 x5) ∧ (
 doCall Tryz.prog (.func (.func 32) #[] #[]) #[.int .i64 x5] w (retS (fun v7 w8 => ∃ x6, v7 = (.string x6 : Value) ∧ (
 doCat s_3 x6 (fun s9 =>
 sh15k5 R [.pointer (some x_1), .pointer (some n_2), .string s9] w8))) (kN R)))) (
 sh15k5 R [.pointer (some x_1), .pointer (some n_2), .string s_3] w))
def sh15k4 (R : EW) : List Value → World → Prop := fun vs w => ∃ (x_1 : Addr), ∃ (n_2 : Addr), ∃ (s_3 : ByteArray), vs = [.pointer (some x_1), .pointer (some n_2), .string s_3] ∧ sh15b4 x_1 n_2 s_3 R w
theorem sh15b4_wp {j : Nat → Value} (x_1 : Addr) (n_2 : Addr) (s_3 : ByteArray) {R : EW} {w : World} (g1 : j 1 = (.pointer (some x_1) : Value)) (g4 : j 4 = (.pointer (some n_2) : Value)) (g6 : j 6 = (.string s_3 : Value)) (h : sh15b4 x_1 n_2 s_3 R w) : Code.wpIn (fen none) 0 Tryz.prog (Old.tailC 6 (bodyOf Tryz.f15)) (Old.full (Qfn Tryz.prog Tryz.f15 R) (Kfn R)) { tmps := #[j 0, j 1, j 2, j 3, j 4, j 5, j 6, j 7, j 8, j 9, j 10, j 11, j 12, j 13, j 14, j 15, j 16, j 17, j 18, j 19, j 20, j 21, j 22, j 23, j 24, j 25, j 26, j 27, j 28, j 29, j 30, j 31, j 32, j 33, j 34, j 35, j 36, j 37, j 38, j 39, j 40, j 41, j 42, j 43, j 44, j 45, j 46, j 47, j 48, j 49, j 50, j 51, j 52, j 53, j 54, j 55, j 56, j 57, j 58, j 59, j 60, j 61, j 62, j 63, j 64, j 65, j 66, j 67, j 68, j 69, j 70, j 71, j 72, j 73, j 74, j 75, j 76, j 77, j 78, j 79, j 80, j 81, j 82, j 83, j 84, j 85, j 86, j 87, j 88, j 89, j 90, j 91, j 92, j 93, j 94, j 95, j 96, j 97, j 98, j 99, j 100, j 101, j 102, j 103, j 104, j 105, j 106, j 107, j 108, j 109, j 110, j 111, j 112, j 113, j 114, j 115, j 116, j 117, j 118, j 119, j 120, j 121, j 122], defers := [] } w := by
  rw [g1, g4, g6]
  exact Old.wp_part (ann := fun _ => []) (n := 400) (k := 1) (K := sh15k5 R) (is := [1, 4, 6]) (X := sh15b4 x_1 n_2 s_3 R w) follows_mixed (by kernel_rfl) (by kernel_rfl) (fun a' w' hK hs hd => by
    obtain ⟨x_1, n_2, s_3, hv, h2⟩ := hK
    obtain ⟨tmps, defers⟩ := a'
    simp only at hs hd hv
    subst hd
    have hs : tmps.size = 123 := hs.trans (by kernel_rfl)
    have hl := Old.arr_lit hs
    obtain ⟨j, hj⟩ : ∃ j : Nat → Value, ∀ i, tmps.getD i undef = j i := ⟨_, fun _ => rfl⟩
    rw [show (fun i => tmps.getD i undef) = j from funext hj] at hl
    have e2 : tmps = #[j 0, j 1, j 2, j 3, j 4, j 5, j 6, j 7, j 8, j 9, j 10, j 11, j 12, j 13, j 14, j 15, j 16, j 17, j 18, j 19, j 20, j 21, j 22, j 23, j 24, j 25, j 26, j 27, j 28, j 29, j 30, j 31, j 32, j 33, j 34, j 35, j 36, j 37, j 38, j 39, j 40, j 41, j 42, j 43, j 44, j 45, j 46, j 47, j 48, j 49, j 50, j 51, j 52, j 53, j 54, j 55, j 56, j 57, j 58, j 59, j 60, j 61, j 62, j 63, j 64, j 65, j 66, j 67, j 68, j 69, j 70, j 71, j 72, j 73, j 74, j 75, j 76, j 77, j 78, j 79, j 80, j 81, j 82, j 83, j 84, j 85, j 86, j 87, j 88, j 89, j 90, j 91, j 92, j 93, j 94, j 95, j 96, j 97, j 98, j 99, j 100, j 101, j 102, j 103, j 104, j 105, j 106, j 107, j 108, j 109, j 110, j 111, j 112, j 113, j 114, j 115, j 116, j 117, j 118, j 119, j 120, j 121, j 122] := hl.trans (by kernel_rfl)
    simp only [Old.getAll, List.map_cons, List.map_nil, hj, List.cons.injEq, and_true] at hv
    obtain ⟨g1, g4, g6⟩ := hv
    rw [e2]
    exact sh15b5_wp x_1 n_2 s_3 g1 g4 g6 h2) h
def sh15b3 (x_1 : Addr) (n_2 : Addr) (s_3 : ByteArray) (R : EW) (w : World) : Prop :=
 ∃ x4, w.cell? (n_2.add 1) = some (.bool x4) ∧ (
 ifB x4 (
 ∃ x5, w.cell? (x_1.add 2) = some (.int .i64 x5) ∧ (
 doCall Tryz.prog (.func (.func 32) #[] #[]) #[.int .i64 x5] w (retS (fun v7 w8 => ∃ x6, v7 = (.string x6 : Value) ∧ (
 doCat s_3 x6 (fun s9 =>
 sh15k4 R [.pointer (some x_1), .pointer (some n_2), .string s9] w8))) (kN R)))) (
 sh15k4 R [.pointer (some x_1), .pointer (some n_2), .string s_3] w))
def sh15k3 (R : EW) : List Value → World → Prop := fun vs w => ∃ (x_1 : Addr), ∃ (n_2 : Addr), ∃ (s_3 : ByteArray), vs = [.pointer (some x_1), .pointer (some n_2), .string s_3] ∧ sh15b3 x_1 n_2 s_3 R w
theorem sh15b3_wp {j : Nat → Value} (x_1 : Addr) (n_2 : Addr) (s_3 : ByteArray) {R : EW} {w : World} (g1 : j 1 = (.pointer (some x_1) : Value)) (g4 : j 4 = (.pointer (some n_2) : Value)) (g6 : j 6 = (.string s_3 : Value)) (h : sh15b3 x_1 n_2 s_3 R w) : Code.wpIn (fen none) 0 Tryz.prog (Old.tailC 5 (bodyOf Tryz.f15)) (Old.full (Qfn Tryz.prog Tryz.f15 R) (Kfn R)) { tmps := #[j 0, j 1, j 2, j 3, j 4, j 5, j 6, j 7, j 8, j 9, j 10, j 11, j 12, j 13, j 14, j 15, j 16, j 17, j 18, j 19, j 20, j 21, j 22, j 23, j 24, j 25, j 26, j 27, j 28, j 29, j 30, j 31, j 32, j 33, j 34, j 35, j 36, j 37, j 38, j 39, j 40, j 41, j 42, j 43, j 44, j 45, j 46, j 47, j 48, j 49, j 50, j 51, j 52, j 53, j 54, j 55, j 56, j 57, j 58, j 59, j 60, j 61, j 62, j 63, j 64, j 65, j 66, j 67, j 68, j 69, j 70, j 71, j 72, j 73, j 74, j 75, j 76, j 77, j 78, j 79, j 80, j 81, j 82, j 83, j 84, j 85, j 86, j 87, j 88, j 89, j 90, j 91, j 92, j 93, j 94, j 95, j 96, j 97, j 98, j 99, j 100, j 101, j 102, j 103, j 104, j 105, j 106, j 107, j 108, j 109, j 110, j 111, j 112, j 113, j 114, j 115, j 116, j 117, j 118, j 119, j 120, j 121, j 122], defers := [] } w := by
  rw [g1, g4, g6]
  exact Old.wp_part (ann := fun _ => []) (n := 400) (k := 1) (K := sh15k4 R) (is := [1, 4, 6]) (X := sh15b3 x_1 n_2 s_3 R w) follows_mixed (by kernel_rfl) (by kernel_rfl) (fun a' w' hK hs hd => by
    obtain ⟨x_1, n_2, s_3, hv, h2⟩ := hK
    obtain ⟨tmps, defers⟩ := a'
    simp only at hs hd hv
    subst hd
    have hs : tmps.size = 123 := hs.trans (by kernel_rfl)
    have hl := Old.arr_lit hs
    obtain ⟨j, hj⟩ : ∃ j : Nat → Value, ∀ i, tmps.getD i undef = j i := ⟨_, fun _ => rfl⟩
    rw [show (fun i => tmps.getD i undef) = j from funext hj] at hl
    have e2 : tmps = #[j 0, j 1, j 2, j 3, j 4, j 5, j 6, j 7, j 8, j 9, j 10, j 11, j 12, j 13, j 14, j 15, j 16, j 17, j 18, j 19, j 20, j 21, j 22, j 23, j 24, j 25, j 26, j 27, j 28, j 29, j 30, j 31, j 32, j 33, j 34, j 35, j 36, j 37, j 38, j 39, j 40, j 41, j 42, j 43, j 44, j 45, j 46, j 47, j 48, j 49, j 50, j 51, j 52, j 53, j 54, j 55, j 56, j 57, j 58, j 59, j 60, j 61, j 62, j 63, j 64, j 65, j 66, j 67, j 68, j 69, j 70, j 71, j 72, j 73, j 74, j 75, j 76, j 77, j 78, j 79, j 80, j 81, j 82, j 83, j 84, j 85, j 86, j 87, j 88, j 89, j 90, j 91, j 92, j 93, j 94, j 95, j 96, j 97, j 98, j 99, j 100, j 101, j 102, j 103, j 104, j 105, j 106, j 107, j 108, j 109, j 110, j 111, j 112, j 113, j 114, j 115, j 116, j 117, j 118, j 119, j 120, j 121, j 122] := hl.trans (by kernel_rfl)
    simp only [Old.getAll, List.map_cons, List.map_nil, hj, List.cons.injEq, and_true] at hv
    obtain ⟨g1, g4, g6⟩ := hv
    rw [e2]
    exact sh15b4_wp x_1 n_2 s_3 g1 g4 g6 h2) h
def sh15b2 (x_1 : Addr) (n_2 : Addr) (s_3 : ByteArray) (R : EW) (w : World) : Prop :=
 ∃ x4, w.cell? (n_2.add 0) = some (.bool x4) ∧ (
 ifB x4 (
 ∃ x5, w.cell? (x_1.add 1) = some (.int .i64 x5) ∧ (
 doCall Tryz.prog (.func (.func 32) #[] #[]) #[.int .i64 x5] w (retS (fun v7 w8 => ∃ x6, v7 = (.string x6 : Value) ∧ (
 doCat s_3 x6 (fun s9 =>
 sh15k3 R [.pointer (some x_1), .pointer (some n_2), .string s9] w8))) (kN R)))) (
 sh15k3 R [.pointer (some x_1), .pointer (some n_2), .string s_3] w))
def sh15k2 (R : EW) : List Value → World → Prop := fun vs w => ∃ (x_1 : Addr), ∃ (n_2 : Addr), ∃ (s_3 : ByteArray), vs = [.pointer (some x_1), .pointer (some n_2), .string s_3] ∧ sh15b2 x_1 n_2 s_3 R w
theorem sh15b2_wp {j : Nat → Value} (x_1 : Addr) (n_2 : Addr) (s_3 : ByteArray) {R : EW} {w : World} (g1 : j 1 = (.pointer (some x_1) : Value)) (g4 : j 4 = (.pointer (some n_2) : Value)) (g6 : j 6 = (.string s_3 : Value)) (h : sh15b2 x_1 n_2 s_3 R w) : Code.wpIn (fen none) 0 Tryz.prog (Old.tailC 4 (bodyOf Tryz.f15)) (Old.full (Qfn Tryz.prog Tryz.f15 R) (Kfn R)) { tmps := #[j 0, j 1, j 2, j 3, j 4, j 5, j 6, j 7, j 8, j 9, j 10, j 11, j 12, j 13, j 14, j 15, j 16, j 17, j 18, j 19, j 20, j 21, j 22, j 23, j 24, j 25, j 26, j 27, j 28, j 29, j 30, j 31, j 32, j 33, j 34, j 35, j 36, j 37, j 38, j 39, j 40, j 41, j 42, j 43, j 44, j 45, j 46, j 47, j 48, j 49, j 50, j 51, j 52, j 53, j 54, j 55, j 56, j 57, j 58, j 59, j 60, j 61, j 62, j 63, j 64, j 65, j 66, j 67, j 68, j 69, j 70, j 71, j 72, j 73, j 74, j 75, j 76, j 77, j 78, j 79, j 80, j 81, j 82, j 83, j 84, j 85, j 86, j 87, j 88, j 89, j 90, j 91, j 92, j 93, j 94, j 95, j 96, j 97, j 98, j 99, j 100, j 101, j 102, j 103, j 104, j 105, j 106, j 107, j 108, j 109, j 110, j 111, j 112, j 113, j 114, j 115, j 116, j 117, j 118, j 119, j 120, j 121, j 122], defers := [] } w := by
  rw [g1, g4, g6]
  exact Old.wp_part (ann := fun _ => []) (n := 400) (k := 1) (K := sh15k3 R) (is := [1, 4, 6]) (X := sh15b2 x_1 n_2 s_3 R w) follows_mixed (by kernel_rfl) (by kernel_rfl) (fun a' w' hK hs hd => by
    obtain ⟨x_1, n_2, s_3, hv, h2⟩ := hK
    obtain ⟨tmps, defers⟩ := a'
    simp only at hs hd hv
    subst hd
    have hs : tmps.size = 123 := hs.trans (by kernel_rfl)
    have hl := Old.arr_lit hs
    obtain ⟨j, hj⟩ : ∃ j : Nat → Value, ∀ i, tmps.getD i undef = j i := ⟨_, fun _ => rfl⟩
    rw [show (fun i => tmps.getD i undef) = j from funext hj] at hl
    have e2 : tmps = #[j 0, j 1, j 2, j 3, j 4, j 5, j 6, j 7, j 8, j 9, j 10, j 11, j 12, j 13, j 14, j 15, j 16, j 17, j 18, j 19, j 20, j 21, j 22, j 23, j 24, j 25, j 26, j 27, j 28, j 29, j 30, j 31, j 32, j 33, j 34, j 35, j 36, j 37, j 38, j 39, j 40, j 41, j 42, j 43, j 44, j 45, j 46, j 47, j 48, j 49, j 50, j 51, j 52, j 53, j 54, j 55, j 56, j 57, j 58, j 59, j 60, j 61, j 62, j 63, j 64, j 65, j 66, j 67, j 68, j 69, j 70, j 71, j 72, j 73, j 74, j 75, j 76, j 77, j 78, j 79, j 80, j 81, j 82, j 83, j 84, j 85, j 86, j 87, j 88, j 89, j 90, j 91, j 92, j 93, j 94, j 95, j 96, j 97, j 98, j 99, j 100, j 101, j 102, j 103, j 104, j 105, j 106, j 107, j 108, j 109, j 110, j 111, j 112, j 113, j 114, j 115, j 116, j 117, j 118, j 119, j 120, j 121, j 122] := hl.trans (by kernel_rfl)
    simp only [Old.getAll, List.map_cons, List.map_nil, hj, List.cons.injEq, and_true] at hv
    obtain ⟨g1, g4, g6⟩ := hv
    rw [e2]
    exact sh15b3_wp x_1 n_2 s_3 g1 g4 g6 h2) h
def sh15b1 (x_1 : Addr) (n_2 : Addr) (R : EW) (w : World) : Prop :=
 ∃ x3, w.cell? (x_1.add 0) = some (.int .u8 x3) ∧ (
 doCall Tryz.prog (.func (.func 31) #[] #[]) #[.int .u8 x3] w (retS (fun v5 w6 => ∃ x4, v5 = (.string x4 : Value) ∧ (
 sh15k2 R [.pointer (some x_1), .pointer (some n_2), .string x4] w6)) (kN R)))
def sh15k1 (R : EW) : List Value → World → Prop := fun vs w => ∃ (x_1 : Addr), ∃ (n_2 : Addr), vs = [.pointer (some x_1), .pointer (some n_2)] ∧ sh15b1 x_1 n_2 R w
theorem sh15b1_wp {j : Nat → Value} (x_1 : Addr) (n_2 : Addr) {R : EW} {w : World} (g1 : j 1 = (.pointer (some x_1) : Value)) (g4 : j 4 = (.pointer (some n_2) : Value)) (h : sh15b1 x_1 n_2 R w) : Code.wpIn (fen none) 0 Tryz.prog (Old.tailC 3 (bodyOf Tryz.f15)) (Old.full (Qfn Tryz.prog Tryz.f15 R) (Kfn R)) { tmps := #[j 0, j 1, j 2, j 3, j 4, j 5, j 6, j 7, j 8, j 9, j 10, j 11, j 12, j 13, j 14, j 15, j 16, j 17, j 18, j 19, j 20, j 21, j 22, j 23, j 24, j 25, j 26, j 27, j 28, j 29, j 30, j 31, j 32, j 33, j 34, j 35, j 36, j 37, j 38, j 39, j 40, j 41, j 42, j 43, j 44, j 45, j 46, j 47, j 48, j 49, j 50, j 51, j 52, j 53, j 54, j 55, j 56, j 57, j 58, j 59, j 60, j 61, j 62, j 63, j 64, j 65, j 66, j 67, j 68, j 69, j 70, j 71, j 72, j 73, j 74, j 75, j 76, j 77, j 78, j 79, j 80, j 81, j 82, j 83, j 84, j 85, j 86, j 87, j 88, j 89, j 90, j 91, j 92, j 93, j 94, j 95, j 96, j 97, j 98, j 99, j 100, j 101, j 102, j 103, j 104, j 105, j 106, j 107, j 108, j 109, j 110, j 111, j 112, j 113, j 114, j 115, j 116, j 117, j 118, j 119, j 120, j 121, j 122], defers := [] } w := by
  rw [g1, g4]
  exact Old.wp_part (ann := fun _ => []) (n := 400) (k := 1) (K := sh15k2 R) (is := [1, 4, 6]) (X := sh15b1 x_1 n_2 R w) follows_mixed (by kernel_rfl) (by kernel_rfl) (fun a' w' hK hs hd => by
    obtain ⟨x_1, n_2, s_3, hv, h2⟩ := hK
    obtain ⟨tmps, defers⟩ := a'
    simp only at hs hd hv
    subst hd
    have hs : tmps.size = 123 := hs.trans (by kernel_rfl)
    have hl := Old.arr_lit hs
    obtain ⟨j, hj⟩ : ∃ j : Nat → Value, ∀ i, tmps.getD i undef = j i := ⟨_, fun _ => rfl⟩
    rw [show (fun i => tmps.getD i undef) = j from funext hj] at hl
    have e2 : tmps = #[j 0, j 1, j 2, j 3, j 4, j 5, j 6, j 7, j 8, j 9, j 10, j 11, j 12, j 13, j 14, j 15, j 16, j 17, j 18, j 19, j 20, j 21, j 22, j 23, j 24, j 25, j 26, j 27, j 28, j 29, j 30, j 31, j 32, j 33, j 34, j 35, j 36, j 37, j 38, j 39, j 40, j 41, j 42, j 43, j 44, j 45, j 46, j 47, j 48, j 49, j 50, j 51, j 52, j 53, j 54, j 55, j 56, j 57, j 58, j 59, j 60, j 61, j 62, j 63, j 64, j 65, j 66, j 67, j 68, j 69, j 70, j 71, j 72, j 73, j 74, j 75, j 76, j 77, j 78, j 79, j 80, j 81, j 82, j 83, j 84, j 85, j 86, j 87, j 88, j 89, j 90, j 91, j 92, j 93, j 94, j 95, j 96, j 97, j 98, j 99, j 100, j 101, j 102, j 103, j 104, j 105, j 106, j 107, j 108, j 109, j 110, j 111, j 112, j 113, j 114, j 115, j 116, j 117, j 118, j 119, j 120, j 121, j 122] := hl.trans (by kernel_rfl)
    simp only [Old.getAll, List.map_cons, List.map_nil, hj, List.cons.injEq, and_true] at hv
    obtain ⟨g1, g4, g6⟩ := hv
    rw [e2]
    exact sh15b2_wp x_1 n_2 s_3 g1 g4 g6 h2) h
def sh15 (x_1 : Int) (x_2 : Int) (x_3 : Int) (x_4 : Int) (x_5 : Int) (x_6 : Int) (x_7 : Int) (x_8 : Int) (x_9 : Int) (x_10 : Int) (x_11 : Int) (x_12 : Int) (x_13 : Bool) (x_p14 : OA) (x_n15 : Nat) (x_c16 : Nat) (x_p17 : OA) (x_n18 : Nat) (x_c19 : Nat) (R : EW) (w : World) : Prop :=
 doAl (.cells #[.int .u8 x_1, .int .i64 x_2, .int .i64 x_3, .int .i64 x_4, .int .i64 x_5, .int .i64 x_6, .int .i64 x_7, .int .i64 x_8, .int .u8 x_9, .int .u8 x_10, .int .i64 x_11, .int .i64 x_12, .bool x_13, .slice x_p14 x_n15 x_c16, .slice x_p17 x_n18 x_c19] 37) w (fun b20 w21 =>
 ∃ x22, w21.cell? ((blk b20).add 0) = some (.int .u8 x22) ∧ (
 ∃ x23, w21.cell? ((blk b20).add 1) = some (.int .i64 x23) ∧ (
 ∃ x24, w21.cell? ((blk b20).add 2) = some (.int .i64 x24) ∧ (
 ∃ x25, w21.cell? ((blk b20).add 3) = some (.int .i64 x25) ∧ (
 ∃ x26, w21.cell? ((blk b20).add 4) = some (.int .i64 x26) ∧ (
 ∃ x27, w21.cell? ((blk b20).add 5) = some (.int .i64 x27) ∧ (
 ∃ x28, w21.cell? ((blk b20).add 6) = some (.int .i64 x28) ∧ (
 ∃ x29, w21.cell? ((blk b20).add 7) = some (.int .i64 x29) ∧ (
 ∃ x30, w21.cell? ((blk b20).add 8) = some (.int .u8 x30) ∧ (
 ∃ x31, w21.cell? ((blk b20).add 9) = some (.int .u8 x31) ∧ (
 ∃ x32, w21.cell? ((blk b20).add 10) = some (.int .i64 x32) ∧ (
 ∃ x33, w21.cell? ((blk b20).add 11) = some (.int .i64 x33) ∧ (
 ∃ x34, w21.cell? ((blk b20).add 12) = some (.bool x34) ∧ (
 ∃ xp35 xn36 xc37, w21.cell? ((blk b20).add 13) = some (.slice xp35 xn36 xc37) ∧ (
 ∃ xp38 xn39 xc40, w21.cell? ((blk b20).add 14) = some (.slice xp38 xn39 xc40) ∧ (
 doCall Tryz.prog (.func (.func 16) #[] #[]) #[.agg #[.int .u8 x22, .int .i64 x23, .int .i64 x24, .int .i64 x25, .int .i64 x26, .int .i64 x27, .int .i64 x28, .int .i64 x29, .int .u8 x30, .int .u8 x31, .int .i64 x32, .int .i64 x33, .bool x34, .slice xp35 xn36 xc37, .slice xp38 xn39 xc40]] w21 (retS (fun v42 w43 => ∃ x41, v42 = (.bool x41 : Value) ∧ (
 ifB (!x41) (
 R (.returned (.tuple #[.string (⟨#[]⟩ : ByteArray), .int .i64 2])) w43) (
 ∃ x44, w43.cell? ((blk b20).add 0) = some (.int .u8 x44) ∧ (
 doCall Tryz.prog (.func (.func 30) #[] #[]) #[.int .u8 x44] w43 (retS (fun v57 w58 => ∃ x45 x46 x47 x48 x49 x50 x51 x52 x53 x54 x55 x56, v57 = (.tuple #[.agg #[.bool x45, .bool x46, .bool x47, .bool x48, .bool x49, .bool x50, .bool x51, .bool x52, .bool x53, .bool x54, .bool x55], .bool x56] : Value) ∧ (
 doAl (.cells #[.bool false, .bool false, .bool false, .bool false, .bool false, .bool false, .bool false, .bool false, .bool false, .bool false, .bool false] 67) w58 (fun b59 w60 =>
 doSt ((blk b59).add 0) (.bool x45) w60 (fun w61 =>
 doSt ((blk b59).add 1) (.bool x46) w61 (fun w62 =>
 doSt ((blk b59).add 2) (.bool x47) w62 (fun w63 =>
 doSt ((blk b59).add 3) (.bool x48) w63 (fun w64 =>
 doSt ((blk b59).add 4) (.bool x49) w64 (fun w65 =>
 doSt ((blk b59).add 5) (.bool x50) w65 (fun w66 =>
 doSt ((blk b59).add 6) (.bool x51) w66 (fun w67 =>
 doSt ((blk b59).add 7) (.bool x52) w67 (fun w68 =>
 doSt ((blk b59).add 8) (.bool x53) w68 (fun w69 =>
 doSt ((blk b59).add 9) (.bool x54) w69 (fun w70 =>
 doSt ((blk b59).add 10) (.bool x55) w70 (fun w71 =>
 sh15k1 R [.pointer (some (blk b20)), .pointer (some (blk b59))] w71)))))))))))))) (kN R)))))) (kN R))))))))))))))))))
theorem sh15_ok (x_1 : Int) (x_2 : Int) (x_3 : Int) (x_4 : Int) (x_5 : Int) (x_6 : Int) (x_7 : Int) (x_8 : Int) (x_9 : Int) (x_10 : Int) (x_11 : Int) (x_12 : Int) (x_13 : Bool) (x_p14 : OA) (x_n15 : Nat) (x_c16 : Nat) (x_p17 : OA) (x_n18 : Nat) (x_c19 : Nat) {R : EW} {w : World} : sh15 x_1 x_2 x_3 x_4 x_5 x_6 x_7 x_8 x_9 x_10 x_11 x_12 x_13 x_p14 x_n15 x_c16 x_p17 x_n18 x_c19 R w → Calls Tryz.prog 15 #[.agg #[.int .u8 x_1, .int .i64 x_2, .int .i64 x_3, .int .i64 x_4, .int .i64 x_5, .int .i64 x_6, .int .i64 x_7, .int .i64 x_8, .int .u8 x_9, .int .u8 x_10, .int .i64 x_11, .int .i64 x_12, .bool x_13, .slice x_p14 x_n15 x_c16, .slice x_p17 x_n18 x_c19]] w R := fun h =>
  Old.calls_of_wp (fn := Tryz.f15) (c := bodyOf Tryz.f15) (args := #[.agg #[.int .u8 x_1, .int .i64 x_2, .int .i64 x_3, .int .i64 x_4, .int .i64 x_5, .int .i64 x_6, .int .i64 x_7, .int .i64 x_8, .int .u8 x_9, .int .u8 x_10, .int .i64 x_11, .int .i64 x_12, .bool x_13, .slice x_p14 x_n15 x_c16, .slice x_p17 x_n18 x_c19]]) Tryz.func15 (by kernel_rfl) (Old.wp_part (ann := fun _ => []) (n := 400) (k := 3) (K := sh15k1 R) (is := [1, 4]) (X := sh15 x_1 x_2 x_3 x_4 x_5 x_6 x_7 x_8 x_9 x_10 x_11 x_12 x_13 x_p14 x_n15 x_c16 x_p17 x_n18 x_c19 R w) follows_mixed (by kernel_rfl) (by kernel_rfl) (fun a' w' hK hs hd => by
    obtain ⟨x_1, n_2, hv, h2⟩ := hK
    obtain ⟨tmps, defers⟩ := a'
    simp only at hs hd hv
    subst hd
    have hs : tmps.size = 123 := hs.trans (by kernel_rfl)
    have hl := Old.arr_lit hs
    obtain ⟨j, hj⟩ : ∃ j : Nat → Value, ∀ i, tmps.getD i undef = j i := ⟨_, fun _ => rfl⟩
    rw [show (fun i => tmps.getD i undef) = j from funext hj] at hl
    have e2 : tmps = #[j 0, j 1, j 2, j 3, j 4, j 5, j 6, j 7, j 8, j 9, j 10, j 11, j 12, j 13, j 14, j 15, j 16, j 17, j 18, j 19, j 20, j 21, j 22, j 23, j 24, j 25, j 26, j 27, j 28, j 29, j 30, j 31, j 32, j 33, j 34, j 35, j 36, j 37, j 38, j 39, j 40, j 41, j 42, j 43, j 44, j 45, j 46, j 47, j 48, j 49, j 50, j 51, j 52, j 53, j 54, j 55, j 56, j 57, j 58, j 59, j 60, j 61, j 62, j 63, j 64, j 65, j 66, j 67, j 68, j 69, j 70, j 71, j 72, j 73, j 74, j 75, j 76, j 77, j 78, j 79, j 80, j 81, j 82, j 83, j 84, j 85, j 86, j 87, j 88, j 89, j 90, j 91, j 92, j 93, j 94, j 95, j 96, j 97, j 98, j 99, j 100, j 101, j 102, j 103, j 104, j 105, j 106, j 107, j 108, j 109, j 110, j 111, j 112, j 113, j 114, j 115, j 116, j 117, j 118, j 119, j 120, j 121, j 122] := hl.trans (by kernel_rfl)
    simp only [Old.getAll, List.map_cons, List.map_nil, hj, List.cons.injEq, and_true] at hv
    obtain ⟨g1, g4⟩ := hv
    rw [e2]
    exact sh15b1_wp x_1 n_2 g1 g4 h2) h)
end Go.Proofs.YtmkpkmdnapccgaaGreatDoor

