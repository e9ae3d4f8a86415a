/-
  Printed by a program (gen.py): what the functions of the program do, as formulas; each with the proof that its call is what the formula says.
-/
import Derived.Test.YtmkpkmdnapccgaaGreatDoorZ04
import Derived.Test.YtmkpkmdnapccgaaGreatDoorProg
import Derived.Test.YtmkpkmdnapccgaaGreatDoorZ05

set_option maxRecDepth 100000
set_option maxHeartbeats 6400000
namespace Go.Proofs.YtmkpkmdnapccgaaGreatDoor
open Go Go.Sh
end Go.Proofs.YtmkpkmdnapccgaaGreatDoor

namespace Go.Proofs.YtmkpkmdnapccgaaGreatDoor
open Go Go.Sh
def sh189 (c_1 : OA) (is_2 : OA) (R : EW) (w : World) : Prop :=
 ∃ q3, is_2 = some q3 ∧ (
 ∃ x4, w.cell? q3 = some (.bool x4) ∧ (
 ifB x4 (
 ∃ q5, c_1 = some q5 ∧ (
 ∃ xp6 xn7 xc8, w.cell? (q5.add 0) = some (.slice xp6 xn7 xc8) ∧ (
 doAl (.cells #[.string (⟨#[110, 111, 116]⟩ : ByteArray)] 9) w (fun b9 w10 =>
 doGo Tryz.prog (.builtin .append #[62, 62] 62 #[false, false]) #[.slice xp6 xn7 xc8, .slice (some (blk b9)) 1 1] w10 (retS (fun v14 w15 => ∃ xp11 xn12 xc13, v14 = (.slice xp11 xn12 xc13 : Value) ∧ (
 ∃ q16, c_1 = some q16 ∧ (
 doSt ((q16.add 0).add 0) (.slice xp11 xn12 xc13) w15 (fun w17 =>
 R (.returned (.tuple #[])) w17)))) (kN R)))))) (
 R (.returned (.tuple #[])) w)))
theorem sh189_ok (c_1 : OA) (is_2 : OA) {R : EW} {w : World} : sh189 c_1 is_2 R w → Calls Tryz.prog 189 #[.pointer c_1, .pointer is_2] w R :=
  ceq Tryz.func189 (by kernel_rfl) (by kernel_rfl)
def sh190 (_c_1 : OA) (_x2 : OA) (R : EW) (w : World) : Prop :=
 R (.returned (.tuple #[])) w
theorem sh190_ok (c_1 : OA) (x2 : OA) {R : EW} {w : World} : sh190 c_1 x2 R w → Calls Tryz.prog 190 #[.pointer c_1, .pointer x2] w R :=
  ceq Tryz.func190 (by kernel_rfl) (by kernel_rfl)
def sh191 (c_1 : OA) (v_2 : OA) (R : EW) (w : World) : Prop :=
 doDr w (fun w4 =>
 ∃ (C3 : World → Prop), C3 w4 ∧ (
 ∃ q5, c_1 = some q5 ∧ (
 ∃ xp6 xn7 xc8, (∀ w, C3 w → w.cell? (q5.add 0) = some (.slice xp6 xn7 xc8)) ∧ (
 ∃ q9, v_2 = some q9 ∧ (
 ∃ x10, (∀ w, C3 w → w.cell? q9 = some (.int .i64 x10)) ∧ (
 doCall Tryz.prog (.func (.func 194) #[] #[]) #[.int .i64 x10] w4 (retS (fun v12 w13 => ∃ x11, v12 = (.string x11 : Value) ∧ (
 C3 w13 ∧ (
 doAl (.cells #[.string x11] 9) w13 (fun b14 w15 =>
 C3 w15 ∧ (
 doGo Tryz.prog (.builtin .append #[62, 62] 62 #[false, false]) #[.slice xp6 xn7 xc8, .slice (some (blk b14)) 1 1] w15 (retS (fun v19 w20 => ∃ xp16 xn17 xc18, v19 = (.slice xp16 xn17 xc18 : Value) ∧ (
 C3 w20 ∧ (
 ∃ q21, c_1 = some q21 ∧ (
 doSt ((q21.add 0).add 0) (.slice xp16 xn17 xc18) w20 (fun w22 =>
 R (.returned (.tuple #[])) w22))))) (kN R))))))) (kN R))))))))
theorem sh191_ok (c_1 : OA) (v_2 : OA) {R : EW} {w : World} : sh191 c_1 v_2 R w → Calls Tryz.prog 191 #[.pointer c_1, .pointer v_2] w R :=
  ceq Tryz.func191 (by kernel_rfl) (by kernel_rfl)
def sh192 (c_1 : OA) (x_2 : OA) (R : EW) (w : World) : Prop :=
 doDr w (fun w4 =>
 ∃ (C3 : World → Prop), C3 w4 ∧ (
 ∃ q5, c_1 = some q5 ∧ (
 ∃ xp6 xn7 xc8, (∀ w, C3 w → w.cell? (q5.add 0) = some (.slice xp6 xn7 xc8)) ∧ (
 ∃ q9, x_2 = some q9 ∧ (
 ∃ x10, (∀ w, C3 w → w.cell? (q9.add 0) = some (.int .i64 x10)) ∧ (
 ∃ q11, x_2 = some q11 ∧ (
 ∃ x12, (∀ w, C3 w → w.cell? (q11.add 1) = some (.int .i64 x12)) ∧ (
 doCall Tryz.prog (.func (.func 194) #[] #[]) #[.int .i64 x10] w4 (retS (fun v14 w15 => ∃ x13, v14 = (.string x13 : Value) ∧ (
 C3 w15 ∧ (
 doCat x13 (⟨#[58]⟩ : ByteArray) (fun s16 =>
 doCall Tryz.prog (.func (.func 194) #[] #[]) #[.int .i64 x12] w15 (retS (fun v18 w19 => ∃ x17, v18 = (.string x17 : Value) ∧ (
 C3 w19 ∧ (
 doCat s16 x17 (fun s20 =>
 doAl (.cells #[.string s20] 9) w19 (fun b21 w22 =>
 C3 w22 ∧ (
 doGo Tryz.prog (.builtin .append #[62, 62] 62 #[false, false]) #[.slice xp6 xn7 xc8, .slice (some (blk b21)) 1 1] w22 (retS (fun v26 w27 => ∃ xp23 xn24 xc25, v26 = (.slice xp23 xn24 xc25 : Value) ∧ (
 C3 w27 ∧ (
 ∃ q28, c_1 = some q28 ∧ (
 doSt ((q28.add 0).add 0) (.slice xp23 xn24 xc25) w27 (fun w29 =>
 R (.returned (.tuple #[])) w29))))) (kN R)))))))) (kN R)))))) (kN R))))))))))
theorem sh192_ok (c_1 : OA) (x_2 : OA) {R : EW} {w : World} : sh192 c_1 x_2 R w → Calls Tryz.prog 192 #[.pointer c_1, .pointer x_2] w R :=
  ceq Tryz.func192 (by kernel_rfl) (by kernel_rfl)
def sh193 (c_1 : OA) (k_2 : OA) (names_p3 : OA) (names_n4 : Nat) (_names_c5 : Nat) (R : EW) (w : World) : Prop :=
 doDr w (fun w7 =>
 ∃ (C6 : World → Prop), C6 w7 ∧ (
 ∃ q8, c_1 = some q8 ∧ (
 ∃ xp9 xn10 xc11, (∀ w, C6 w → w.cell? (q8.add 0) = some (.slice xp9 xn10 xc11)) ∧ (
 ∃ q12, k_2 = some q12 ∧ (
 ∃ x13, (∀ w, C6 w → w.cell? q12 = some (.int .u8 x13)) ∧ (
 doIx names_p3 names_n4 1 (x13) (fun a14 =>
 ∃ x15, (∀ w, C6 w → w.cell? a14 = some (.string x15)) ∧ (
 doAl (.cells #[.string x15] 9) w7 (fun b16 w17 =>
 C6 w17 ∧ (
 doGo Tryz.prog (.builtin .append #[62, 62] 62 #[false, false]) #[.slice xp9 xn10 xc11, .slice (some (blk b16)) 1 1] w17 (retS (fun v21 w22 => ∃ xp18 xn19 xc20, v21 = (.slice xp18 xn19 xc20 : Value) ∧ (
 ∃ (C23 : World → Prop), C23 w22 ∧ (
 ∃ q24, c_1 = some q24 ∧ (
 doSt ((q24.add 0).add 0) (.slice xp18 xn19 xc20) w22 (fun w25 =>
 ∃ (C26 : World → Prop), C26 w25 ∧ (
 R (.returned (.tuple #[])) w25)))))) (kN R))))))))))))
theorem sh193_ok (c_1 : OA) (k_2 : OA) (names_p3 : OA) (names_n4 : Nat) (names_c5 : Nat) {R : EW} {w : World} : sh193 c_1 k_2 names_p3 names_n4 names_c5 R w → Calls Tryz.prog 193 #[.pointer c_1, .pointer k_2, .slice names_p3 names_n4 names_c5] w R :=
  Old.calls_of_eq (ann := fun i => if i = 3000000 then [(0, .nilIface)] else []) (fn := Tryz.f193) (c := bodyOf Tryz.f193) (args := #[.pointer c_1, .pointer k_2, .slice names_p3 names_n4 names_c5]) 400 follows_mixed Tryz.func193 (by kernel_rfl) (by kernel_rfl)
def sh194 (v_1 : Int) (R : EW) (w : World) : Prop :=
 doCall Tryz.prog (.func (.func 35) #[] #[]) #[.int .i64 v_1, .int .i64 10] w (retS (fun v3 w4 => ∃ x2, v3 = (.string x2 : Value) ∧ (
 R (.returned (.string x2)) w4)) (kN R))
theorem sh194_ok (v_1 : Int) {R : EW} {w : World} : sh194 v_1 R w → Calls Tryz.prog 194 #[.int .i64 v_1] w R :=
  ceq Tryz.func194 (by kernel_rfl) (by kernel_rfl)
def sh201 (c_1 : OA) (is_2 : OA) (R : EW) (w : World) : Prop :=
 let K5 : Bool → World → Prop := fun x3 w4 => 
 ifB x3 (
 doCall Tryz.prog (.func (.func 203) #[] #[]) #[.pointer c_1] w4 (retS (fun v7 w8 => ∃ x6, v7 = (.string x6 : Value) ∧ (
 ∃ q9, is_2 = some q9 ∧ (
 doSt (q9.add 0) (.bool true) w8 (fun w10 =>
 R (.returned (.tuple #[])) w10)))) (kN R))) (
 R (.returned (.tuple #[])) w4)
 ∃ q11, c_1 = some q11 ∧ (
 ∃ xp12 xn13 xc14, w.cell? (q11.add 0) = some (.slice xp12 xn13 xc14) ∧ (
 ifB (decide ((((xn13 : Nat) : Int) : Int) > 0)) (
 ∃ q15, c_1 = some q15 ∧ (
 ∃ xp16 xn17 xc18, w.cell? (q15.add 0) = some (.slice xp16 xn17 xc18) ∧ (
 doIx xp16 xn17 1 (0) (fun a19 =>
 ∃ x20, w.cell? a19 = some (.string x20) ∧ (
 K5 (x20.toList == (⟨#[110, 111, 116]⟩ : ByteArray).toList) w))))) (
 R (.returned (.tuple #[])) w)))
theorem sh201_ok (c_1 : OA) (is_2 : OA) {R : EW} {w : World} : sh201 c_1 is_2 R w → Calls Tryz.prog 201 #[.pointer c_1, .pointer is_2] w R :=
  ceq Tryz.func201 (by kernel_rfl) (by kernel_rfl)
def sh202 (c_1 : OA) (n_2 : OA) (R : EW) (w : World) : Prop :=
 ∃ q3, c_1 = some q3 ∧ (
 ∃ xp4 xn5 xc6, w.cell? (q3.add 0) = some (.slice xp4 xn5 xc6) ∧ (
 ∃ q7, n_2 = some q7 ∧ (
 doSt (q7.add 0) (.int .i64 ((xn5 : Nat) : Int)) w (fun w8 =>
 ∃ q9, n_2 = some q9 ∧ (
 ∃ x10, w8.cell? q9 = some (.int .i64 x10) ∧ (
 doCall Tryz.prog (.func (.func 42) #[] #[]) #[.bool (decide ((x10 : Int) ≤ 4096))] w8 (retS (fun v11 w12 => v11 = (.tuple #[] : Value) ∧ (
 R (.returned (.tuple #[])) w12)) (kN R))))))))
theorem sh202_ok (c_1 : OA) (n_2 : OA) {R : EW} {w : World} : sh202 c_1 n_2 R w → Calls Tryz.prog 202 #[.pointer c_1, .pointer n_2] w R :=
  ceq Tryz.func202 (by kernel_rfl) (by kernel_rfl)
def sh203 (c_1 : OA) (R : EW) (w : World) : Prop :=
 ∃ q2, c_1 = some q2 ∧ (
 ∃ xp3 xn4 xc5, w.cell? (q2.add 0) = some (.slice xp3 xn4 xc5) ∧ (
 doCall Tryz.prog (.func (.func 42) #[] #[]) #[.bool (decide ((((xn4 : Nat) : Int) : Int) > 0))] w (retS (fun v6 w7 => v6 = (.tuple #[] : Value) ∧ (
 ∃ q8, c_1 = some q8 ∧ (
 ∃ xp9 xn10 xc11, w7.cell? (q8.add 0) = some (.slice xp9 xn10 xc11) ∧ (
 doIx xp9 xn10 1 (0) (fun a12 =>
 ∃ x13, w7.cell? a12 = some (.string x13) ∧ (
 ∃ q14, c_1 = some q14 ∧ (
 ∃ xp15 xn16 xc17, w7.cell? (q14.add 0) = some (.slice xp15 xn16 xc17) ∧ (
 doSl xp15 xc17 1 (1) (((xn16 : Nat) : Int)) (fun p18 n19 c20 =>
 ∃ q21, c_1 = some q21 ∧ (
 doSt ((q21.add 0).add 0) (.slice p18 n19 c20) w7 (fun w22 =>
 R (.returned (.string x13)) w22))))))))))) (kN R))))
theorem sh203_ok (c_1 : OA) {R : EW} {w : World} : sh203 c_1 R w → Calls Tryz.prog 203 #[.pointer c_1] w R :=
  ceq Tryz.func203 (by kernel_rfl) (by kernel_rfl)
def sh204 (c_1 : OA) (v_2 : OA) (R : EW) (w : World) : Prop :=
 doCall Tryz.prog (.func (.func 203) #[] #[]) #[.pointer c_1] w (retS (fun v4 w5 => ∃ x3, v4 = (.string x3 : Value) ∧ (
 doCall Tryz.prog (.func (.func 207) #[] #[]) #[.string x3] w5 (retS (fun v7 w8 => ∃ x6, v7 = (.int .i64 x6 : Value) ∧ (
 ∃ q9, v_2 = some q9 ∧ (
 doSt (q9.add 0) (.int .i64 x6) w8 (fun w10 =>
 R (.returned (.tuple #[])) w10)))) (kN R)))) (kN R))
theorem sh204_ok (c_1 : OA) (v_2 : OA) {R : EW} {w : World} : sh204 c_1 v_2 R w → Calls Tryz.prog 204 #[.pointer c_1, .pointer v_2] w R :=
  ceq Tryz.func204 (by kernel_rfl) (by kernel_rfl)
def sh205 (c_1 : OA) (x_2 : OA) (R : EW) (w : World) : Prop :=
 doCall Tryz.prog (.func (.func 203) #[] #[]) #[.pointer c_1] w (retS (fun v4 w5 => ∃ x3, v4 = (.string x3 : Value) ∧ (
 doCall Tryz.prog (.func (.func 208) #[] #[]) #[.string x3, .string (⟨#[58]⟩ : ByteArray)] w5 (retS (fun v9 w10 => ∃ x6 x7 x8, v9 = (.tuple #[.string x6, .string x7, .bool x8] : Value) ∧ (
 doCall Tryz.prog (.func (.func 42) #[] #[]) #[.bool x8] w10 (retS (fun v11 w12 => v11 = (.tuple #[] : Value) ∧ (
 doCall Tryz.prog (.func (.func 207) #[] #[]) #[.string x6] w12 (retS (fun v14 w15 => ∃ x13, v14 = (.int .i64 x13 : Value) ∧ (
 doCall Tryz.prog (.func (.func 207) #[] #[]) #[.string x7] w15 (retS (fun v17 w18 => ∃ x16, v17 = (.int .i64 x16 : Value) ∧ (
 ∃ q19, x_2 = some q19 ∧ (
 doSt ((q19.add 0).add 0) (.int .i64 x13) w18 (fun w20 =>
 ∃ q21, x_2 = some q21 ∧ (
 doSt ((q21.add 1).add 0) (.int .i64 x16) w20 (fun w22 =>
 R (.returned (.tuple #[])) w22)))))) (kN R)))) (kN R)))) (kN R)))) (kN R)))) (kN R))
theorem sh205_ok (c_1 : OA) (x_2 : OA) {R : EW} {w : World} : sh205 c_1 x_2 R w → Calls Tryz.prog 205 #[.pointer c_1, .pointer x_2] w R :=
  ceq Tryz.func205 (by kernel_rfl) (by kernel_rfl)
def sh206 (c_1 : OA) (k_2 : OA) (names_p3 : OA) (names_n4 : Nat) (_names_c5 : Nat) (R : EW) (w : World) : Prop :=
 doCall Tryz.prog (.func (.func 203) #[] #[]) #[.pointer c_1] w (retS (fun v7 w8 => ∃ x6, v7 = (.string x6 : Value) ∧ (
 ∃ (I9 : List Value → World → Prop) (μ10 : List Value → World → Nat), I9 [.int .i64 0] w8 ∧ (∀ (x13 : Int), ∀ (_j11 : Nat → Value) (w12 : World), I9 [.int .i64 x13] w12 → (
 ifB (decide ((x13 : Int) < ((names_n4 : Nat) : Int))) (
 let K15 : World → Prop := fun w14 => 
 I9 [.int .i64 (IntKind.wrap .i64 (x13 + 1))] w14 ∧ μ10 [.int .i64 (IntKind.wrap .i64 (x13 + 1))] w14 < μ10 [.int .i64 x13] w12
 doIx names_p3 names_n4 1 (x13) (fun a16 =>
 ∃ x17, w12.cell? a16 = some (.string x17) ∧ (
 let K20 : Bool → World → Prop := fun x18 w19 => 
 ifB x18 (
 ∃ q21, k_2 = some q21 ∧ (
 doSt (q21.add 0) (.int .u8 (IntKind.wrap .u8 x13)) w19 (fun w22 =>
 R (.returned (.tuple #[])) w22))) (
 K15 w19)
 ifB (x17.toList == x6.toList) (
 K20 (!(x17.toList == (⟨#[]⟩ : ByteArray).toList)) w12) (
 K15 w12)))) (
 doCall Tryz.prog (.func (.func 42) #[] #[]) #[.bool false] w12 (retS (fun v23 w24 => v23 = (.tuple #[] : Value) ∧ (
 R (.returned (.tuple #[])) w24)) (kN R))))))) (kN R))
theorem sh206_ok (c_1 : OA) (k_2 : OA) (names_p3 : OA) (names_n4 : Nat) (names_c5 : Nat) {R : EW} {w : World} : sh206 c_1 k_2 names_p3 names_n4 names_c5 R w → Calls Tryz.prog 206 #[.pointer c_1, .pointer k_2, .slice names_p3 names_n4 names_c5] w R :=
  Old.calls_of_eq (ann := fun i => if i = 0 then [(13, .int .i64 0)] else []) (fn := Tryz.f206) (c := bodyOf Tryz.f206) (args := #[.pointer c_1, .pointer k_2, .slice names_p3 names_n4 names_c5]) 400 follows_mixed Tryz.func206 (by kernel_rfl) (by kernel_rfl)
def sh207 (s_1 : ByteArray) (R : EW) (w : World) : Prop :=
 doCall Tryz.prog (.func (.func 68) #[] #[]) #[.string s_1, .int .i64 10, .int .i64 64] w (retS (fun v4 w5 => ∃ x2 x3, v4 = (.tuple #[.int .i64 x2, x3] : Value) ∧ (
 let K7 : World → Prop := fun w6 => 
 R (.returned (.int .i64 x2)) w6
 doEqN Tryz.prog .eql 124 (.tmp 10) (.const (.nilIface)) (x3) (fun b8 =>
 ifB b8 (
 doCall Tryz.prog (.func (.func 194) #[] #[]) #[.int .i64 x2] w5 (retS (fun v10 w11 => ∃ x9, v10 = (.string x9 : Value) ∧ (
 doCall Tryz.prog (.func (.func 42) #[] #[]) #[.bool (x9.toList == s_1.toList)] w11 (retS (fun v12 w13 => v12 = (.tuple #[] : Value) ∧ (
 K7 w13)) (kN R)))) (kN R))) (
 doCall Tryz.prog (.func (.func 42) #[] #[]) #[.bool false] w5 (retS (fun v14 w15 => v14 = (.tuple #[] : Value) ∧ (
 K7 w15)) (kN R)))))) (kN R))
theorem sh207_ok (s_1 : ByteArray) {R : EW} {w : World} : sh207 s_1 R w → Calls Tryz.prog 207 #[.string s_1] w R :=
  ceq Tryz.func207 (by kernel_rfl) (by kernel_rfl)
end Go.Proofs.YtmkpkmdnapccgaaGreatDoor

namespace Go.Proofs.YtmkpkmdnapccgaaGreatDoor
open Go Go.Sh
def sh10 (l_p1 : OA) (l_n2 : Nat) (_l_c3 : Nat) (R : EW) (w : World) : Prop :=
 ∃ (I4 : List Value → World → Prop) (μ5 : List Value → World → Nat), I4 [.int .i64 0] w ∧ (∀ (x8 : Int), ∀ (_j6 : Nat → Value) (w7 : World), I4 [.int .i64 x8] w7 → (
 ifB (decide ((x8 : Int) < ((l_n2 : Nat) : Int))) (
 doIx l_p1 l_n2 15 (x8) (fun a9 =>
 ∃ x10, w7.cell? (a9.add 0) = some (.int .u8 x10) ∧ (
 ∃ x11, w7.cell? (a9.add 1) = some (.int .i64 x11) ∧ (
 ∃ x12, w7.cell? (a9.add 2) = some (.int .i64 x12) ∧ (
 ∃ x13, w7.cell? (a9.add 3) = some (.int .i64 x13) ∧ (
 ∃ x14, w7.cell? (a9.add 4) = some (.int .i64 x14) ∧ (
 ∃ x15, w7.cell? (a9.add 5) = some (.int .i64 x15) ∧ (
 ∃ x16, w7.cell? (a9.add 6) = some (.int .i64 x16) ∧ (
 ∃ x17, w7.cell? (a9.add 7) = some (.int .i64 x17) ∧ (
 ∃ x18, w7.cell? (a9.add 8) = some (.int .u8 x18) ∧ (
 ∃ x19, w7.cell? (a9.add 9) = some (.int .u8 x19) ∧ (
 ∃ x20, w7.cell? (a9.add 10) = some (.int .i64 x20) ∧ (
 ∃ x21, w7.cell? (a9.add 11) = some (.int .i64 x21) ∧ (
 ∃ x22, w7.cell? (a9.add 12) = some (.bool x22) ∧ (
 ∃ xp23 xn24 xc25, w7.cell? (a9.add 13) = some (.slice xp23 xn24 xc25) ∧ (
 ∃ xp26 xn27 xc28, w7.cell? (a9.add 14) = some (.slice xp26 xn27 xc28) ∧ (
 doAl (.cells #[.int .u8 0, .int .i64 0, .int .i64 0, .int .i64 0, .int .i64 0, .int .i64 0, .int .i64 0, .int .i64 0, .int .u8 0, .int .u8 0, .int .i64 0, .int .i64 0, .bool false, .slice none 0 0, .slice none 0 0] 37) w7 (fun b29 w30 =>
 doSt ((blk b29).add 0) (.int .u8 x10) w30 (fun w31 =>
 doSt ((blk b29).add 1) (.int .i64 x11) w31 (fun w32 =>
 doSt ((blk b29).add 2) (.int .i64 x12) w32 (fun w33 =>
 doSt ((blk b29).add 3) (.int .i64 x13) w33 (fun w34 =>
 doSt ((blk b29).add 4) (.int .i64 x14) w34 (fun w35 =>
 doSt ((blk b29).add 5) (.int .i64 x15) w35 (fun w36 =>
 doSt ((blk b29).add 6) (.int .i64 x16) w36 (fun w37 =>
 doSt ((blk b29).add 7) (.int .i64 x17) w37 (fun w38 =>
 doSt ((blk b29).add 8) (.int .u8 x18) w38 (fun w39 =>
 doSt ((blk b29).add 9) (.int .u8 x19) w39 (fun w40 =>
 doSt ((blk b29).add 10) (.int .i64 x20) w40 (fun w41 =>
 doSt ((blk b29).add 11) (.int .i64 x21) w41 (fun w42 =>
 doSt ((blk b29).add 12) (.bool x22) w42 (fun w43 =>
 doSt ((blk b29).add 13) (.slice xp23 xn24 xc25) w43 (fun w44 =>
 doSt ((blk b29).add 14) (.slice xp26 xn27 xc28) w44 (fun w45 =>
 ∃ x46, w45.cell? ((blk b29).add 0) = some (.int .u8 x46) ∧ (
 ∃ x47, w45.cell? ((blk b29).add 1) = some (.int .i64 x47) ∧ (
 ∃ x48, w45.cell? ((blk b29).add 2) = some (.int .i64 x48) ∧ (
 ∃ x49, w45.cell? ((blk b29).add 3) = some (.int .i64 x49) ∧ (
 ∃ x50, w45.cell? ((blk b29).add 4) = some (.int .i64 x50) ∧ (
 ∃ x51, w45.cell? ((blk b29).add 5) = some (.int .i64 x51) ∧ (
 ∃ x52, w45.cell? ((blk b29).add 6) = some (.int .i64 x52) ∧ (
 ∃ x53, w45.cell? ((blk b29).add 7) = some (.int .i64 x53) ∧ (
 ∃ x54, w45.cell? ((blk b29).add 8) = some (.int .u8 x54) ∧ (
 ∃ x55, w45.cell? ((blk b29).add 9) = some (.int .u8 x55) ∧ (
 ∃ x56, w45.cell? ((blk b29).add 10) = some (.int .i64 x56) ∧ (
 ∃ x57, w45.cell? ((blk b29).add 11) = some (.int .i64 x57) ∧ (
 ∃ x58, w45.cell? ((blk b29).add 12) = some (.bool x58) ∧ (
 ∃ xp59 xn60 xc61, w45.cell? ((blk b29).add 13) = some (.slice xp59 xn60 xc61) ∧ (
 ∃ xp62 xn63 xc64, w45.cell? ((blk b29).add 14) = some (.slice xp62 xn63 xc64) ∧ (
 doCall Tryz.prog (.func (.func 13) #[] #[]) #[.agg #[.int .u8 x46, .int .i64 x47, .int .i64 x48, .int .i64 x49, .int .i64 x50, .int .i64 x51, .int .i64 x52, .int .i64 x53, .int .u8 x54, .int .u8 x55, .int .i64 x56, .int .i64 x57, .bool x58, .slice xp59 xn60 xc61, .slice xp62 xn63 xc64]] w45 (retS (fun v66 w67 => ∃ x65, v66 = (.int .i64 x65 : Value) ∧ (
 ifB ((x65 : Int) != 0) (
 R (.returned (.tuple #[.string (⟨#[]⟩ : ByteArray), .int .i64 x65])) w67) (
 I4 [.int .i64 (IntKind.wrap .i64 (x8 + 1))] w67 ∧ μ5 [.int .i64 (IntKind.wrap .i64 (x8 + 1))] w67 < μ5 [.int .i64 x8] w7))) (kN R)))))))))))))))))))))))))))))))))))))))))))))))))) (
 doAl (.cells #[.slice none 0 0] 53) w7 (fun b68 w69 =>
 ∃ (I70 : List Value → World → Prop) (μ71 : List Value → World → Nat), I70 [.int .i64 0] w69 ∧ (∀ (x74 : Int), ∀ (_j72 : Nat → Value) (w73 : World), I70 [.int .i64 x74] w73 → (
 ifB (decide ((x74 : Int) < ((l_n2 : Nat) : Int))) (
 doIx l_p1 l_n2 15 (x74) (fun a75 =>
 ∃ x76, w73.cell? (a75.add 0) = some (.int .u8 x76) ∧ (
 ∃ x77, w73.cell? (a75.add 1) = some (.int .i64 x77) ∧ (
 ∃ x78, w73.cell? (a75.add 2) = some (.int .i64 x78) ∧ (
 ∃ x79, w73.cell? (a75.add 3) = some (.int .i64 x79) ∧ (
 ∃ x80, w73.cell? (a75.add 4) = some (.int .i64 x80) ∧ (
 ∃ x81, w73.cell? (a75.add 5) = some (.int .i64 x81) ∧ (
 ∃ x82, w73.cell? (a75.add 6) = some (.int .i64 x82) ∧ (
 ∃ x83, w73.cell? (a75.add 7) = some (.int .i64 x83) ∧ (
 ∃ x84, w73.cell? (a75.add 8) = some (.int .u8 x84) ∧ (
 ∃ x85, w73.cell? (a75.add 9) = some (.int .u8 x85) ∧ (
 ∃ x86, w73.cell? (a75.add 10) = some (.int .i64 x86) ∧ (
 ∃ x87, w73.cell? (a75.add 11) = some (.int .i64 x87) ∧ (
 ∃ x88, w73.cell? (a75.add 12) = some (.bool x88) ∧ (
 ∃ xp89 xn90 xc91, w73.cell? (a75.add 13) = some (.slice xp89 xn90 xc91) ∧ (
 ∃ xp92 xn93 xc94, w73.cell? (a75.add 14) = some (.slice xp92 xn93 xc94) ∧ (
 doAl (.cells #[.int .u8 0, .int .i64 0, .int .i64 0, .int .i64 0, .int .i64 0, .int .i64 0, .int .i64 0, .int .i64 0, .int .u8 0, .int .u8 0, .int .i64 0, .int .i64 0, .bool false, .slice none 0 0, .slice none 0 0] 37) w73 (fun b95 w96 =>
 doSt ((blk b95).add 0) (.int .u8 x76) w96 (fun w97 =>
 doSt ((blk b95).add 1) (.int .i64 x77) w97 (fun w98 =>
 doSt ((blk b95).add 2) (.int .i64 x78) w98 (fun w99 =>
 doSt ((blk b95).add 3) (.int .i64 x79) w99 (fun w100 =>
 doSt ((blk b95).add 4) (.int .i64 x80) w100 (fun w101 =>
 doSt ((blk b95).add 5) (.int .i64 x81) w101 (fun w102 =>
 doSt ((blk b95).add 6) (.int .i64 x82) w102 (fun w103 =>
 doSt ((blk b95).add 7) (.int .i64 x83) w103 (fun w104 =>
 doSt ((blk b95).add 8) (.int .u8 x84) w104 (fun w105 =>
 doSt ((blk b95).add 9) (.int .u8 x85) w105 (fun w106 =>
 doSt ((blk b95).add 10) (.int .i64 x86) w106 (fun w107 =>
 doSt ((blk b95).add 11) (.int .i64 x87) w107 (fun w108 =>
 doSt ((blk b95).add 12) (.bool x88) w108 (fun w109 =>
 doSt ((blk b95).add 13) (.slice xp89 xn90 xc91) w109 (fun w110 =>
 doSt ((blk b95).add 14) (.slice xp92 xn93 xc94) w110 (fun w111 =>
 doCall Tryz.prog (.func (.func 23) #[] #[]) #[.pointer (some (blk b95)), .iface 50 (.pointer (some (blk b68)))] w111 (retS (fun v112 w113 => v112 = (.tuple #[] : Value) ∧ (
 ∃ q114, (some (blk b68)) = some q114 ∧ (
 ∃ xp115 xn116 xc117, w113.cell? (q114.add 0) = some (.slice xp115 xn116 xc117) ∧ (
 ifB (decide ((((xn116 : Nat) : Int) : Int) > 1048576)) (
 R (.returned (.tuple #[.string (⟨#[]⟩ : ByteArray), .int .i64 5])) w113) (
 I70 [.int .i64 (IntKind.wrap .i64 (x74 + 1))] w113 ∧ μ71 [.int .i64 (IntKind.wrap .i64 (x74 + 1))] w113 < μ71 [.int .i64 x74] w73))))) (kN R))))))))))))))))))))))))))))))))))) (
 ∃ q118, (some (blk b68)) = some q118 ∧ (
 ∃ xp119 xn120 xc121, w73.cell? (q118.add 0) = some (.slice xp119 xn120 xc121) ∧ (
 doBs Tryz.prog 51 9 (.slice xp119 xn120 xc121) w73 (fun s122 =>
 R (.returned (.tuple #[.string s122, .int .i64 0])) w73))))))))))
theorem sh10_ok (l_p1 : OA) (l_n2 : Nat) (l_c3 : Nat) {R : EW} {w : World} : sh10 l_p1 l_n2 l_c3 R w → Calls Tryz.prog 10 #[.slice l_p1 l_n2 l_c3] w R :=
  Old.calls_of_eq (ann := fun i => if i = 2 then [(26, .int .i64 0)] else if i = 0 then [(12, .int .i64 0)] else []) (fn := Tryz.f10) (c := bodyOf Tryz.f10) (args := #[.slice l_p1 l_n2 l_c3]) 400 follows_mixed Tryz.func10 (by kernel_rfl) (by kernel_rfl)
def sh14 (x_1 : Int) (x_2 : Int) (x_3 : Int) (x_4 : Int) (x_5 : Int) (x_6 : Int) (x_7 : Int) (x_8 : Int) (x_9 : Int) (x_10 : Int) (x_11 : Int) (x_12 : Int) (x_13 : Bool) (x_p14 : OA) (x_n15 : Nat) (x_c16 : Nat) (x_p17 : OA) (x_n18 : Nat) (x_c19 : Nat) (R : EW) (w : World) : Prop :=
 doAl (.cells #[.int .u8 x_1, .int .i64 x_2, .int .i64 x_3, .int .i64 x_4, .int .i64 x_5, .int .i64 x_6, .int .i64 x_7, .int .i64 x_8, .int .u8 x_9, .int .u8 x_10, .int .i64 x_11, .int .i64 x_12, .bool x_13, .slice x_p14 x_n15 x_c16, .slice x_p17 x_n18 x_c19] 37) w (fun b20 w21 =>
 ∃ x22, w21.cell? ((blk b20).add 0) = some (.int .u8 x22) ∧ (
 ∃ x23, w21.cell? ((blk b20).add 1) = some (.int .i64 x23) ∧ (
 ∃ x24, w21.cell? ((blk b20).add 2) = some (.int .i64 x24) ∧ (
 ∃ x25, w21.cell? ((blk b20).add 3) = some (.int .i64 x25) ∧ (
 ∃ x26, w21.cell? ((blk b20).add 4) = some (.int .i64 x26) ∧ (
 ∃ x27, w21.cell? ((blk b20).add 5) = some (.int .i64 x27) ∧ (
 ∃ x28, w21.cell? ((blk b20).add 6) = some (.int .i64 x28) ∧ (
 ∃ x29, w21.cell? ((blk b20).add 7) = some (.int .i64 x29) ∧ (
 ∃ x30, w21.cell? ((blk b20).add 8) = some (.int .u8 x30) ∧ (
 ∃ x31, w21.cell? ((blk b20).add 9) = some (.int .u8 x31) ∧ (
 ∃ x32, w21.cell? ((blk b20).add 10) = some (.int .i64 x32) ∧ (
 ∃ x33, w21.cell? ((blk b20).add 11) = some (.int .i64 x33) ∧ (
 ∃ x34, w21.cell? ((blk b20).add 12) = some (.bool x34) ∧ (
 ∃ xp35 xn36 xc37, w21.cell? ((blk b20).add 13) = some (.slice xp35 xn36 xc37) ∧ (
 ∃ xp38 xn39 xc40, w21.cell? ((blk b20).add 14) = some (.slice xp38 xn39 xc40) ∧ (
 doCall Tryz.prog (.func (.func 13) #[] #[]) #[.agg #[.int .u8 x22, .int .i64 x23, .int .i64 x24, .int .i64 x25, .int .i64 x26, .int .i64 x27, .int .i64 x28, .int .i64 x29, .int .u8 x30, .int .u8 x31, .int .i64 x32, .int .i64 x33, .bool x34, .slice xp35 xn36 xc37, .slice xp38 xn39 xc40]] w21 (retS (fun v42 w43 => ∃ x41, v42 = (.int .i64 x41 : Value) ∧ (
 ifB ((x41 : Int) != 0) (
 R (.returned (.tuple #[.string (⟨#[]⟩ : ByteArray), .int .i64 x41])) w43) (
 doAl (.cells #[.slice none 0 0] 64) w43 (fun b44 w45 =>
 doCall Tryz.prog (.func (.func 23) #[] #[]) #[.pointer (some (blk b20)), .iface 61 (.pointer (some (blk b44)))] w45 (retS (fun v46 w47 => v46 = (.tuple #[] : Value) ∧ (
 ∃ q48, (some (blk b44)) = some q48 ∧ (
 ∃ xp49 xn50 xc51, w47.cell? (q48.add 0) = some (.slice xp49 xn50 xc51) ∧ (
 doCall Tryz.prog (.func (.func 29) #[] #[]) #[.slice xp49 xn50 xc51, .string (⟨#[32]⟩ : ByteArray)] w47 (retS (fun v53 w54 => ∃ x52, v53 = (.string x52 : Value) ∧ (
 R (.returned (.tuple #[.string x52, .int .i64 0])) w54)) (kN R)))))) (kN R)))))) (kN R))))))))))))))))))
theorem sh14_ok (x_1 : Int) (x_2 : Int) (x_3 : Int) (x_4 : Int) (x_5 : Int) (x_6 : Int) (x_7 : Int) (x_8 : Int) (x_9 : Int) (x_10 : Int) (x_11 : Int) (x_12 : Int) (x_13 : Bool) (x_p14 : OA) (x_n15 : Nat) (x_c16 : Nat) (x_p17 : OA) (x_n18 : Nat) (x_c19 : Nat) {R : EW} {w : World} : sh14 x_1 x_2 x_3 x_4 x_5 x_6 x_7 x_8 x_9 x_10 x_11 x_12 x_13 x_p14 x_n15 x_c16 x_p17 x_n18 x_c19 R w → Calls Tryz.prog 14 #[.agg #[.int .u8 x_1, .int .i64 x_2, .int .i64 x_3, .int .i64 x_4, .int .i64 x_5, .int .i64 x_6, .int .i64 x_7, .int .i64 x_8, .int .u8 x_9, .int .u8 x_10, .int .i64 x_11, .int .i64 x_12, .bool x_13, .slice x_p14 x_n15 x_c16, .slice x_p17 x_n18 x_c19]] w R :=
  ceq Tryz.func14 (by kernel_rfl) (by kernel_rfl)
end Go.Proofs.YtmkpkmdnapccgaaGreatDoor

namespace Go.Proofs.YtmkpkmdnapccgaaGreatDoor
open Go Go.Sh
def sh19 (s_1 : ByteArray) (R : EW) (w : World) : Prop :=
 doAl (.cells #[.slice none 0 0] 22) w (fun b2 w3 =>
 doAl (.cells #[.int .i64 0] 26) w3 (fun b4 w5 =>
 ifB (decide ((((s_1.size : Nat) : Int) : Int) > 1048576)) (
 doSt ((blk b2).add 0) (.slice none 0 0) w5 (fun w6 =>
 doSt ((blk b4).add 0) (.int .i64 5) w6 (fun w7 =>
 doEnd (.returning) (
 ∃ xp9 xn10 xc11, w7.cell? (blk b2) = some (.slice xp9 xn10 xc11) ∧ (
 ∃ x12, w7.cell? (blk b4) = some (.int .i64 x12) ∧ (
 R (.returned (.tuple #[.slice xp9 xn10 xc11, .int .i64 x12])) w7))) (fun ch8 => R (.panicked ch8) w7)))) (
 doAl (.cells #[.string s_1] 79) w5 (fun b13 w14 =>
 ∃ (I15 : List Value → World → Prop) (μ16 : List Value → World → Nat), I15 [] w14 ∧ (∀ (_j17 : Nat → Value) (w18 : World), I15 [] w18 → (
 ∃ q19, (some (blk b13)) = some q19 ∧ (
 ∃ x20, w18.cell? (q19.add 0) = some (.string x20) ∧ (
 ifB (!(x20.toList == (⟨#[]⟩ : ByteArray).toList)) (
 doAl (.cells #[.int .u8 0, .int .i64 0, .int .i64 0, .int .i64 0, .int .i64 0, .int .i64 0, .int .i64 0, .int .i64 0, .int .u8 0, .int .u8 0, .int .i64 0, .int .i64 0, .bool false, .slice none 0 0, .slice none 0 0] 37) w18 (fun b21 w22 =>
 doCall Tryz.prog (.func (.func 23) #[] #[]) #[.pointer (some (blk b21)), .iface 77 (.pointer (some (blk b13)))] w22 (retS (fun v23 w24 => v23 = (.tuple #[] : Value) ∧ (
 ∃ x25, w24.cell? ((blk b21).add 0) = some (.int .u8 x25) ∧ (
 ∃ x26, w24.cell? ((blk b21).add 1) = some (.int .i64 x26) ∧ (
 ∃ x27, w24.cell? ((blk b21).add 2) = some (.int .i64 x27) ∧ (
 ∃ x28, w24.cell? ((blk b21).add 3) = some (.int .i64 x28) ∧ (
 ∃ x29, w24.cell? ((blk b21).add 4) = some (.int .i64 x29) ∧ (
 ∃ x30, w24.cell? ((blk b21).add 5) = some (.int .i64 x30) ∧ (
 ∃ x31, w24.cell? ((blk b21).add 6) = some (.int .i64 x31) ∧ (
 ∃ x32, w24.cell? ((blk b21).add 7) = some (.int .i64 x32) ∧ (
 ∃ x33, w24.cell? ((blk b21).add 8) = some (.int .u8 x33) ∧ (
 ∃ x34, w24.cell? ((blk b21).add 9) = some (.int .u8 x34) ∧ (
 ∃ x35, w24.cell? ((blk b21).add 10) = some (.int .i64 x35) ∧ (
 ∃ x36, w24.cell? ((blk b21).add 11) = some (.int .i64 x36) ∧ (
 ∃ x37, w24.cell? ((blk b21).add 12) = some (.bool x37) ∧ (
 ∃ xp38 xn39 xc40, w24.cell? ((blk b21).add 13) = some (.slice xp38 xn39 xc40) ∧ (
 ∃ xp41 xn42 xc43, w24.cell? ((blk b21).add 14) = some (.slice xp41 xn42 xc43) ∧ (
 doCall Tryz.prog (.func (.func 13) #[] #[]) #[.agg #[.int .u8 x25, .int .i64 x26, .int .i64 x27, .int .i64 x28, .int .i64 x29, .int .i64 x30, .int .i64 x31, .int .i64 x32, .int .u8 x33, .int .u8 x34, .int .i64 x35, .int .i64 x36, .bool x37, .slice xp38 xn39 xc40, .slice xp41 xn42 xc43]] w24 (retS (fun v45 w46 => ∃ x44, v45 = (.int .i64 x44 : Value) ∧ (
 doCall Tryz.prog (.func (.func 42) #[] #[]) #[.bool ((x44 : Int) == 0)] w46 (retS (fun v47 w48 => v47 = (.tuple #[] : Value) ∧ (
 ∃ xp49 xn50 xc51, w48.cell? (blk b2) = some (.slice xp49 xn50 xc51) ∧ (
 ∃ x52, w48.cell? ((blk b21).add 0) = some (.int .u8 x52) ∧ (
 ∃ x53, w48.cell? ((blk b21).add 1) = some (.int .i64 x53) ∧ (
 ∃ x54, w48.cell? ((blk b21).add 2) = some (.int .i64 x54) ∧ (
 ∃ x55, w48.cell? ((blk b21).add 3) = some (.int .i64 x55) ∧ (
 ∃ x56, w48.cell? ((blk b21).add 4) = some (.int .i64 x56) ∧ (
 ∃ x57, w48.cell? ((blk b21).add 5) = some (.int .i64 x57) ∧ (
 ∃ x58, w48.cell? ((blk b21).add 6) = some (.int .i64 x58) ∧ (
 ∃ x59, w48.cell? ((blk b21).add 7) = some (.int .i64 x59) ∧ (
 ∃ x60, w48.cell? ((blk b21).add 8) = some (.int .u8 x60) ∧ (
 ∃ x61, w48.cell? ((blk b21).add 9) = some (.int .u8 x61) ∧ (
 ∃ x62, w48.cell? ((blk b21).add 10) = some (.int .i64 x62) ∧ (
 ∃ x63, w48.cell? ((blk b21).add 11) = some (.int .i64 x63) ∧ (
 ∃ x64, w48.cell? ((blk b21).add 12) = some (.bool x64) ∧ (
 ∃ xp65 xn66 xc67, w48.cell? ((blk b21).add 13) = some (.slice xp65 xn66 xc67) ∧ (
 ∃ xp68 xn69 xc70, w48.cell? ((blk b21).add 14) = some (.slice xp68 xn69 xc70) ∧ (
 doAl (.cells #[.int .u8 x52, .int .i64 x53, .int .i64 x54, .int .i64 x55, .int .i64 x56, .int .i64 x57, .int .i64 x58, .int .i64 x59, .int .u8 x60, .int .u8 x61, .int .i64 x62, .int .i64 x63, .bool x64, .slice xp65 xn66 xc67, .slice xp68 xn69 xc70] 37) w48 (fun b71 w72 =>
 doGo Tryz.prog (.builtin .append #[22, 22] 22 #[false, false]) #[.slice xp49 xn50 xc51, .slice (some (blk b71)) 1 1] w72 (retS (fun v76 w77 => ∃ xp73 xn74 xc75, v76 = (.slice xp73 xn74 xc75 : Value) ∧ (
 doSt ((blk b2).add 0) (.slice xp73 xn74 xc75) w77 (fun w78 =>
 I15 [] w78 ∧ μ16 [] w78 < μ16 [] w18))) (fun (ch79 : List PanicEntry) (w80 : World) =>
 doDf Tryz.prog (.fn (.func 40) #[.pointer (some (blk b2)), .pointer (some (blk b4))]) #[] (.panicking ch79) w80 (fun u82 w81 =>
 doEnd (u82) (
 ∃ xp84 xn85 xc86, w81.cell? (blk b2) = some (.slice xp84 xn85 xc86) ∧ (
 ∃ x87, w81.cell? (blk b4) = some (.int .i64 x87) ∧ (
 R (.returned (.tuple #[.slice xp84 xn85 xc86, .int .i64 x87])) w81))) (fun ch83 => R (.panicked ch83) w81))))))))))))))))))))))) (fun (ch88 : List PanicEntry) (w89 : World) =>
 doDf Tryz.prog (.fn (.func 40) #[.pointer (some (blk b2)), .pointer (some (blk b4))]) #[] (.panicking ch88) w89 (fun u91 w90 =>
 doEnd (u91) (
 ∃ xp93 xn94 xc95, w90.cell? (blk b2) = some (.slice xp93 xn94 xc95) ∧ (
 ∃ x96, w90.cell? (blk b4) = some (.int .i64 x96) ∧ (
 R (.returned (.tuple #[.slice xp93 xn94 xc95, .int .i64 x96])) w90))) (fun ch92 => R (.panicked ch92) w90)))))) (fun (ch97 : List PanicEntry) (w98 : World) =>
 doDf Tryz.prog (.fn (.func 40) #[.pointer (some (blk b2)), .pointer (some (blk b4))]) #[] (.panicking ch97) w98 (fun u100 w99 =>
 doEnd (u100) (
 ∃ xp102 xn103 xc104, w99.cell? (blk b2) = some (.slice xp102 xn103 xc104) ∧ (
 ∃ x105, w99.cell? (blk b4) = some (.int .i64 x105) ∧ (
 R (.returned (.tuple #[.slice xp102 xn103 xc104, .int .i64 x105])) w99))) (fun ch101 => R (.panicked ch101) w99))))))))))))))))))))) (fun (ch106 : List PanicEntry) (w107 : World) =>
 doDf Tryz.prog (.fn (.func 40) #[.pointer (some (blk b2)), .pointer (some (blk b4))]) #[] (.panicking ch106) w107 (fun u109 w108 =>
 doEnd (u109) (
 ∃ xp111 xn112 xc113, w108.cell? (blk b2) = some (.slice xp111 xn112 xc113) ∧ (
 ∃ x114, w108.cell? (blk b4) = some (.int .i64 x114) ∧ (
 R (.returned (.tuple #[.slice xp111 xn112 xc113, .int .i64 x114])) w108))) (fun ch110 => R (.panicked ch110) w108)))))) (
 ∃ xp115 xn116 xc117, w18.cell? (blk b2) = some (.slice xp115 xn116 xc117) ∧ (
 doSt ((blk b2).add 0) (.slice xp115 xn116 xc117) w18 (fun w118 =>
 doSt ((blk b4).add 0) (.int .i64 0) w118 (fun w119 =>
 doDf Tryz.prog (.fn (.func 40) #[.pointer (some (blk b2)), .pointer (some (blk b4))]) #[] (.returning) w119 (fun u121 w120 =>
 doEnd (u121) (
 ∃ xp123 xn124 xc125, w120.cell? (blk b2) = some (.slice xp123 xn124 xc125) ∧ (
 ∃ x126, w120.cell? (blk b4) = some (.int .i64 x126) ∧ (
 R (.returned (.tuple #[.slice xp123 xn124 xc125, .int .i64 x126])) w120))) (fun ch122 => R (.panicked ch122) w120))))))))))))))
theorem sh19_ok (s_1 : ByteArray) {R : EW} {w : World} : sh19 s_1 R w → Calls Tryz.prog 19 #[.string s_1] w R :=
  calls_of_eqD (ann := fun i => if i = 0 then [] else []) (fn := Tryz.f19) (c := bodyOf Tryz.f19) (args := #[.string s_1]) 400 follows_mixed Tryz.func19 (by kernel_rfl) (by kernel_rfl)
end Go.Proofs.YtmkpkmdnapccgaaGreatDoor

