/-
  Printed by a program (gen.py): what the functions of the program do, as formulas; each with the proof that its call is what the formula says.
-/
import Derived.Test.YtmkpkmdnapccgaaGreatDoorZ04
import Derived.Test.YtmkpkmdnapccgaaGreatDoorProg
import Derived.Test.YtmkpkmdnapccgaaGreatDoorZ05

set_option maxRecDepth 100000
set_option maxHeartbeats 6400000
namespace Go.Proofs.YtmkpkmdnapccgaaGreatDoor
open Go Go.Sh
end Go.Proofs.YtmkpkmdnapccgaaGreatDoor

namespace Go.Proofs.YtmkpkmdnapccgaaGreatDoor
open Go Go.Sh
def sh189 (c_1 : OA) (is_2 : OA) (R : EW) (w : World) : Prop :=
 ∃ q3, is_2 = some q3 ∧ (
 ∃ x4, w.cell? q3 = some (.bool x4) ∧ (
 ifB x4 (
 ∃ q5, c_1 = some q5 ∧ (
 ∃ xp6 xn7 xc8, w.cell? (q5.add 0) = some (.slice xp6 xn7 xc8) ∧ (
 doAl (.cells #[.string (⟨#[110, 111, 116]⟩ : ByteArray)] 9) w (fun b9 w10 =>
 doGo Tryz.prog (.builtin .append #[62, 62] 62 #[false, false]) #[.slice xp6 xn7 xc8, .slice (some (blk b9)) 1 1] w10 (retS (fun v14 w15 => ∃ xp11 xn12 xc13, v14 = (.slice xp11 xn12 xc13 : Value) ∧ (
 ∃ q16, c_1 = some q16 ∧ (
 doSt ((q16.add 0).add 0) (.slice xp11 xn12 xc13) w15 (fun w17 =>
 R (.returned (.tuple #[])) w17)))) (kN R)))))) (
 R (.returned (.tuple #[])) w)))
theorem sh189_ok (c_1 : OA) (is_2 : OA) {R : EW} {w : World} : sh189 c_1 is_2 R w → Calls Tryz.prog 189 #[.pointer c_1, .pointer is_2] w R :=
  ceq Tryz.func189 (by kernel_rfl) (by kernel_rfl)
def sh190 (_c_1 : OA) (_x2 : OA) (R : EW) (w : World) : Prop :=
 R (.returned (.tuple #[])) w
theorem sh190_ok (c_1 : OA) (x2 : OA) {R : EW} {w : World} : sh190 c_1 x2 R w → Calls Tryz.prog 190 #[.pointer c_1, .pointer x2] w R :=
  ceq Tryz.func190 (by kernel_rfl) (by kernel_rfl)
def sh191 (c_1 : OA) (v_2 : OA) (R : EW) (w : World) : Prop :=
 doDr w (fun w4 =>
 ∃ (C3 : World → Prop), C3 w4 ∧ (
 ∃ q5, c_1 = some q5 ∧ (
 ∃ xp6 xn7 xc8, (∀ w, C3 w → w.cell? (q5.add 0) = some (.slice xp6 xn7 xc8)) ∧ (
 ∃ q9, v_2 = some q9 ∧ (
 ∃ x10, (∀ w, C3 w → w.cell? q9 = some (.int .i64 x10)) ∧ (
 doCall Tryz.prog (.func (.func 194) #[] #[]) #[.int .i64 x10] w4 (retS (fun v12 w13 => ∃ x11, v12 = (.string x11 : Value) ∧ (
 C3 w13 ∧ (
 doAl (.cells #[.string x11] 9) w13 (fun b14 w15 =>
 C3 w15 ∧ (
 doGo Tryz.prog (.builtin .append #[62, 62] 62 #[false, false]) #[.slice xp6 xn7 xc8, .slice (some (blk b14)) 1 1] w15 (retS (fun v19 w20 => ∃ xp16 xn17 xc18, v19 = (.slice xp16 xn17 xc18 : Value) ∧ (
 C3 w20 ∧ (
 ∃ q21, c_1 = some q21 ∧ (
 doSt ((q21.add 0).add 0) (.slice xp16 xn17 xc18) w20 (fun w22 =>
 R (.returned (.tuple #[])) w22))))) (kN R))))))) (kN R))))))))
theorem sh191_ok (c_1 : OA) (v_2 : OA) {R : EW} {w : World} : sh191 c_1 v_2 R w → Calls Tryz.prog 191 #[.pointer c_1, .pointer v_2] w R :=
  ceq Tryz.func191 (by kernel_rfl) (by kernel_rfl)
def sh192 (c_1 : OA) (x_2 : OA) (R : EW) (w : World) : Prop :=
 doDr w (fun w4 =>
 ∃ (C3 : World → Prop), C3 w4 ∧ (
 ∃ q5, c_1 = some q5 ∧ (
 ∃ xp6 xn7 xc8, (∀ w, C3 w → w.cell? (q5.add 0) = some (.slice xp6 xn7 xc8)) ∧ (
 ∃ q9, x_2 = some q9 ∧ (
 ∃ x10, (∀ w, C3 w → w.cell? (q9.add 0) = some (.int .i64 x10)) ∧ (
 ∃ q11, x_2 = some q11 ∧ (
 ∃ x12, (∀ w, C3 w → w.cell? (q11.add 1) = some (.int .i64 x12)) ∧ (
 doCall Tryz.prog (.func (.func 194) #[] #[]) #[.int .i64 x10] w4 (retS (fun v14 w15 => ∃ x13, v14 = (.string x13 : Value) ∧ (
 C3 w15 ∧ (
 doCat x13 (⟨#[58]⟩ : ByteArray) (fun s16 =>
 doCall Tryz.prog (.func (.func 194) #[] #[]) #[.int .i64 x12] w15 (retS (fun v18 w19 => ∃ x17, v18 = (.string x17 : Value) ∧ (
 C3 w19 ∧ (
 doCat s16 x17 (fun s20 =>
 doAl (.cells #[.string s20] 9) w19 (fun b21 w22 =>
 C3 w22 ∧ (
 doGo Tryz.prog (.builtin .append #[62, 62] 62 #[false, false]) #[.slice xp6 xn7 xc8, .slice (some (blk b21)) 1 1] w22 (retS (fun v26 w27 => ∃ xp23 xn24 xc25, v26 = (.slice xp23 xn24 xc25 : Value) ∧ (
 C3 w27 ∧ (
 ∃ q28, c_1 = some q28 ∧ (
 doSt ((q28.add 0).add 0) (.slice xp23 xn24 xc25) w27 (fun w29 =>
 R (.returned (.tuple #[])) w29))))) (kN R)))))))) (kN R)))))) (kN R))))))))))
theorem sh192_ok (c_1 : OA) (x_2 : OA) {R : EW} {w : World} : sh192 c_1 x_2 R w → Calls Tryz.prog 192 #[.pointer c_1, .pointer x_2] w R :=
  ceq Tryz.func192 (by kernel_rfl) (by kernel_rfl)
def sh193 (c_1 : OA) (k_2 : OA) (names_p3 : OA) (names_n4 : Nat) (_names_c5 : Nat) (R : EW) (w : World) : Prop :=
 doDr w (fun w7 =>
 ∃ (C6 : World → Prop), C6 w7 ∧ (
 ∃ q8, c_1 = some q8 ∧ (
 ∃ xp9 xn10 xc11, (∀ w, C6 w → w.cell? (q8.add 0) = some (.slice xp9 xn10 xc11)) ∧ (
 ∃ q12, k_2 = some q12 ∧ (
 ∃ x13, (∀ w, C6 w → w.cell? q12 = some (.int .u8 x13)) ∧ (
 doIx names_p3 names_n4 1 (x13) (fun a14 =>
 ∃ x15, (∀ w, C6 w → w.cell? a14 = some (.string x15)) ∧ (
 doAl (.cells #[.string x15] 9) w7 (fun b16 w17 =>
 C6 w17 ∧ (
 doGo Tryz.prog (.builtin .append #[62, 62] 62 #[false, false]) #[.slice xp9 xn10 xc11, .slice (some (blk b16)) 1 1] w17 (retS (fun v21 w22 => ∃ xp18 xn19 xc20, v21 = (.slice xp18 xn19 xc20 : Value) ∧ (
 ∃ (C23 : World → Prop), C23 w22 ∧ (
 ∃ q24, c_1 = some q24 ∧ (
 doSt ((q24.add 0).add 0) (.slice xp18 xn19 xc20) w22 (fun w25 =>
 ∃ (C26 : World → Prop), C26 w25 ∧ (
 R (.returned (.tuple #[])) w25)))))) (kN R))))))))))))
theorem sh193_ok (c_1 : OA) (k_2 : OA) (names_p3 : OA) (names_n4 : Nat) (names_c5 : Nat) {R : EW} {w : World} : sh193 c_1 k_2 names_p3 names_n4 names_c5 R w → Calls Tryz.prog 193 #[.pointer c_1, .pointer k_2, .slice names_p3 names_n4 names_c5] w R :=
  Old.calls_of_eq (ann := fun i => if i = 3000000 then [(0, .nilIface)] else []) (fn := Tryz.f193) (c := bodyOf Tryz.f193) (args := #[.pointer c_1, .pointer k_2, .slice names_p3 names_n4 names_c5]) 400 follows_mixed Tryz.func193 (by kernel_rfl) (by kernel_rfl)
def sh194 (v_1 : Int) (R : EW) (w : World) : Prop :=
 doCall Tryz.prog (.func (.func 35) #[] #[]) #[.int .i64 v_1, .int .i64 10] w (retS (fun v3 w4 => ∃ x2, v3 = (.string x2 : Value) ∧ (
 R (.returned (.string x2)) w4)) (kN R))
theorem sh194_ok (v_1 : Int) {R : EW} {w : World} : sh194 v_1 R w → Calls Tryz.prog 194 #[.int .i64 v_1] w R :=
  ceq Tryz.func194 (by kernel_rfl) (by kernel_rfl)
def sh201 (c_1 : OA) (is_2 : OA) (R : EW) (w : World) : Prop :=
 let K5 : Bool → World → Prop := fun x3 w4 => 
 ifB x3 (
 doCall Tryz.prog (.func (.func 203) #[] #[]) #[.pointer c_1] w4 (retS (fun v7 w8 => ∃ x6, v7 = (.string x6 : Value) ∧ (
 ∃ q9, is_2 = some q9 ∧ (
 doSt (q9.add 0) (.bool true) w8 (fun w10 =>
 R (.returned (.tuple #[])) w10)))) (kN R))) (
 R (.returned (.tuple #[])) w4)
 ∃ q11, c_1 = some q11 ∧ (
 ∃ xp12 xn13 xc14, w.cell? (q11.add 0) = some (.slice xp12 xn13 xc14) ∧ (
 ifB (decide ((((xn13 : Nat) : Int) : Int) > 0)) (
 ∃ q15, c_1 = some q15 ∧ (
 ∃ xp16 xn17 xc18, w.cell? (q15.add 0) = some (.slice xp16 xn17 xc18) ∧ (
 doIx xp16 xn17 1 (0) (fun a19 =>
 ∃ x20, w.cell? a19 = some (.string x20) ∧ (
 K5 (x20.toList == (⟨#[110, 111, 116]⟩ : ByteArray).toList) w))))) (
 R (.returned (.tuple #[])) w)))
theorem sh201_ok (c_1 : OA) (is_2 : OA) {R : EW} {w : World} : sh201 c_1 is_2 R w → Calls Tryz.prog 201 #[.pointer c_1, .pointer is_2] w R :=
  ceq Tryz.func201 (by kernel_rfl) (by kernel_rfl)
def sh202 (c_1 : OA) (n_2 : OA) (R : EW) (w : World) : Prop :=
 ∃ q3, c_1 = some q3 ∧ (
 ∃ xp4 xn5 xc6, w.cell? (q3.add 0) = some (.slice xp4 xn5 xc6) ∧ (
 ∃ q7, n_2 = some q7 ∧ (
 doSt (q7.add 0) (.int .i64 ((xn5 : Nat) : Int)) w (fun w8 =>
 ∃ q9, n_2 = some q9 ∧ (
 ∃ x10, w8.cell? q9 = some (.int .i64 x10) ∧ (
 doCall Tryz.prog (.func (.func 42) #[] #[]) #[.bool (decide ((x10 : Int) ≤ 4096))] w8 (retS (fun v11 w12 => v11 = (.tuple #[] : Value) ∧ (
 R (.returned (.tuple #[])) w12)) (kN R))))))))
theorem sh202_ok (c_1 : OA) (n_2 : OA) {R : EW} {w : World} : sh202 c_1 n_2 R w → Calls Tryz.prog 202 #[.pointer c_1, .pointer n_2] w R :=
  ceq Tryz.func202 (by kernel_rfl) (by kernel_rfl)
def sh203 (c_1 : OA) (R : EW) (w : World) : Prop :=
 ∃ q2, c_1 = some q2 ∧ (
 ∃ xp3 xn4 xc5, w.cell? (q2.add 0) = some (.slice xp3 xn4 xc5) ∧ (
 doCall Tryz.prog (.func (.func 42) #[] #[]) #[.bool (decide ((((xn4 : Nat) : Int) : Int) > 0))] w (retS (fun v6 w7 => v6 = (.tuple #[] : Value) ∧ (
 ∃ q8, c_1 = some q8 ∧ (
 ∃ xp9 xn10 xc11, w7.cell? (q8.add 0) = some (.slice xp9 xn10 xc11) ∧ (
 doIx xp9 xn10 1 (0) (fun a12 =>
 ∃ x13, w7.cell? a12 = some (.string x13) ∧ (
 ∃ q14, c_1 = some q14 ∧ (
 ∃ xp15 xn16 xc17, w7.cell? (q14.add 0) = some (.slice xp15 xn16 xc17) ∧ (
 doSl xp15 xc17 1 (1) (((xn16 : Nat) : Int)) (fun p18 n19 c20 =>
 ∃ q21, c_1 = some q21 ∧ (
 doSt ((q21.add 0).add 0) (.slice p18 n19 c20) w7 (fun w22 =>
 R (.returned (.string x13)) w22))))))))))) (kN R))))
theorem sh203_ok (c_1 : OA) {R : EW} {w : World} : sh203 c_1 R w → Calls Tryz.prog 203 #[.pointer c_1] w R :=
  ceq Tryz.func203 (by kernel_rfl) (by kernel_rfl)
def sh204 (c_1 : OA) (v_2 : OA) (R : EW) (w : World) : Prop :=
 doCall Tryz.prog (.func (.func 203) #[] #[]) #[.pointer c_1] w (retS (fun v4 w5 => ∃ x3, v4 = (.string x3 : Value) ∧ (
 doCall Tryz.prog (.func (.func 207) #[] #[]) #[.string x3] w5 (retS (fun v7 w8 => ∃ x6, v7 = (.int .i64 x6 : Value) ∧ (
 ∃ q9, v_2 = some q9 ∧ (
 doSt (q9.add 0) (.int .i64 x6) w8 (fun w10 =>
 R (.returned (.tuple #[])) w10)))) (kN R)))) (kN R))
theorem sh204_ok (c_1 : OA) (v_2 : OA) {R : EW} {w : World} : sh204 c_1 v_2 R w → Calls Tryz.prog 204 #[.pointer c_1, .pointer v_2] w R :=
  ceq Tryz.func204 (by kernel_rfl) (by kernel_rfl)
def sh205 (c_1 : OA) (x_2 : OA) (R : EW) (w : World) : Prop :=
 doCall Tryz.prog (.func (.func 203) #[] #[]) #[.pointer c_1] w (retS (fun v4 w5 => ∃ x3, v4 = (.string x3 : Value) ∧ (
 doCall Tryz.prog (.func (.func 208) #[] #[]) #[.string x3, .string (⟨#[58]⟩ : ByteArray)] w5 (retS (fun v9 w10 => ∃ x6 x7 x8, v9 = (.tuple #[.string x6, .string x7, .bool x8] : Value) ∧ (
 doCall Tryz.prog (.func (.func 42) #[] #[]) #[.bool x8] w10 (retS (fun v11 w12 => v11 = (.tuple #[] : Value) ∧ (
 doCall Tryz.prog (.func (.func 207) #[] #[]) #[.string x6] w12 (retS (fun v14 w15 => ∃ x13, v14 = (.int .i64 x13 : Value) ∧ (
 doCall Tryz.prog (.func (.func 207) #[] #[]) #[.string x7] w15 (retS (fun v17 w18 => ∃ x16, v17 = (.int .i64 x16 : Value) ∧ (
 ∃ q19, x_2 = some q19 ∧ (
 doSt ((q19.add 0).add 0) (.int .i64 x13) w18 (fun w20 =>
 ∃ q21, x_2 = some q21 ∧ (
 doSt ((q21.add 1).add 0) (.int .i64 x16) w20 (fun w22 =>
 R (.returned (.tuple #[])) w22)))))) (kN R)))) (kN R)))) (kN R)))) (kN R)))) (kN R))
theorem sh205_ok (c_1 : OA) (x_2 : OA) {R : EW} {w : World} : sh205 c_1 x_2 R w → Calls Tryz.prog 205 #[.pointer c_1, .pointer x_2] w R :=
  ceq Tryz.func205 (by kernel_rfl) (by kernel_rfl)
def sh206 (c_1 : OA) (k_2 : OA) (names_p3 : OA) (names_n4 : Nat) (_names_c5 : Nat) (R : EW) (w : World) : Prop :=
 doCall Tryz.prog (.func (.func 203) #[] #[]) #[.pointer c_1] w (retS (fun v7 w8 => ∃ x6, v7 = (.string x6 : Value) ∧ (
 ∃ (I9 : List Value → World → Prop) (μ10 : List Value → World → Nat), I9 [.int .i64 0] w8 ∧ (∀ (x13 : Int), ∀ (_j11 : Nat → Value) (w12 : World), I9 [.int .i64 x13] w12 → (
 ifB (decide ((x13 : Int) < ((names_n4 : Nat) : Int))) (
 let K15 : World → Prop := fun w14 => 
 I9 [.int .i64 (IntKind.wrap .i64 (x13 + 1))] w14 ∧ μ10 [.int .i64 (IntKind.wrap .i64 (x13 + 1))] w14 < μ10 [.int .i64 x13] w12
 doIx names_p3 names_n4 1 (x13) (fun a16 =>
 ∃ x17, w12.cell? a16 = some (.string x17) ∧ (
 let K20 : Bool → World → Prop := fun x18 w19 => 
 ifB x18 (
 ∃ q21, k_2 = some q21 ∧ (
 doSt (q21.add 0) (.int .u8 (IntKind.wrap .u8 x13)) w19 (fun w22 =>
 R (.returned (.tuple #[])) w22))) (
 K15 w19)
 ifB (x17.toList == x6.toList) (
 K20 (!(x17.toList == (⟨#[]⟩ : ByteArray).toList)) w12) (
 K15 w12)))) (
 doCall Tryz.prog (.func (.func 42) #[] #[]) #[.bool false] w12 (retS (fun v23 w24 => v23 = (.tuple #[] : Value) ∧ (
 R (.returned (.tuple #[])) w24)) (kN R))))))) (kN R))
theorem sh206_ok (c_1 : OA) (k_2 : OA) (names_p3 : OA) (names_n4 : Nat) (names_c5 : Nat) {R : EW} {w : World} : sh206 c_1 k_2 names_p3 names_n4 names_c5 R w → Calls Tryz.prog 206 #[.pointer c_1, .pointer k_2, .slice names_p3 names_n4 names_c5] w R :=
  Old.calls_of_eq (ann := fun i => if i = 0 then [(13, .int .i64 0)] else []) (fn := Tryz.f206) (c := bodyOf Tryz.f206) (args := #[.pointer c_1, .pointer k_2, .slice names_p3 names_n4 names_c5]) 400 follows_mixed Tryz.func206 (by kernel_rfl) (by kernel_rfl)
def sh207 (s_1 : ByteArray) (R : EW) (w : World) : Prop :=
 doCall Tryz.prog (.func (.func 68) #[] #[]) #[.string s_1, .int .i64 10, .int .i64 64] w (retS (fun v4 w5 => ∃ x2 x3, v4 = (.tuple #[.int .i64 x2, x3] : Value) ∧ (
 let K7 : World → Prop := fun w6 => 
 R (.returned (.int .i64 x2)) w6
 doEqN Tryz.prog .eql 124 (.tmp 10) (.const (.nilIface)) (x3) (fun b8 =>
 ifB b8 (
 doCall Tryz.prog (.func (.func 194) #[] #[]) #[.int .i64 x2] w5 (retS (fun v10 w11 => ∃ x9, v10 = (.string x9 : Value) ∧ (
 doCall Tryz.prog (.func (.func 42) #[] #[]) #[.bool (x9.toList == s_1.toList)] w11 (retS (fun v12 w13 => v12 = (.tuple #[] : Value) ∧ (
 K7 w13)) (kN R)))) (kN R))) (
 doCall Tryz.prog (.func (.func 42) #[] #[]) #[.bool false] w5 (retS (fun v14 w15 => v14 = (.tuple #[] : Value) ∧ (
 K7 w15)) (kN R)))))) (kN R))
theorem sh207_ok (s_1 : ByteArray) {R : EW} {w : World} : sh207 s_1 R w → Calls Tryz.prog 207 #[.string s_1] w R :=
  ceq Tryz.func207 (by kernel_rfl) (by kernel_rfl)
end Go.Proofs.YtmkpkmdnapccgaaGreatDoor

namespace Go.Proofs.YtmkpkmdnapccgaaGreatDoor
open Go Go.Sh
def sh10 (l_p1 : OA) (l_n2 : Nat) (_l_c3 : Nat) (R : EW) (w : World) : Prop :=
 ∃ (I4 : List Value → World → Prop) (μ5 : List Value → World → Nat), I4 [.int .i64 0] w ∧ (∀ (x8 : Int), ∀ (_j6 : Nat → Value) (w7 : World), I4 [.int .i64 x8] w7 → (
 ifB (decide ((x8 : Int) < ((l_n2 : Nat) : Int))) (
 doIx l_p1 l_n2 15 (x8) (fun a9 =>
 ∃ x10, w7.cell? (a9.add 0) = some (.int .u8 x10) ∧ (
 ∃ x11, w7.cell? (a9.add 1) = some (.int .i64 x11) ∧ (
 ∃ x12, w7.cell? (a9.add 2) = some (.int .i64 x12) ∧ (
 ∃ x13, w7.cell? (a9.add 3) = some (.int .i64 x13) ∧ (
 ∃ x14, w7.cell? (a9.add 4) = some (.int .i64 x14) ∧ (
 ∃ x15, w7.cell? (a9.add 5) = some (.int .i64 x15) ∧ (
 ∃ x16, w7.cell? (a9.add 6) = some (.int .i64 x16) ∧ (
 ∃ x17, w7.cell? (a9.add 7) = some (.int .i64 x17) ∧ (
 ∃ x18, w7.cell? (a9.add 8) = some (.int .u8 x18) ∧ (
 ∃ x19, w7.cell? (a9.add 9) = some (.int .u8 x19) ∧ (
 ∃ x20, w7.cell? (a9.add 10) = some (.int .i64 x20) ∧ (
 ∃ x21, w7.cell? (a9.add 11) = some (.int .i64 x21) ∧ (
 ∃ x22, w7.cell? (a9.add 12) = some (.bool x22) ∧ (
 ∃ xp23 xn24 xc25, w7.cell? (a9.add 13) = some (.slice xp23 xn24 xc25) ∧ (
 ∃ xp26 xn27 xc28, w7.cell? (a9.add 14) = some (.slice xp26 xn27 xc28) ∧ (
 doAl (.cells #[.int .u8 0, .int .i64 0, .int .i64 0, .int .i64 0, .int .i64 0, .int .i64 0, .int .i64 0, .int .i64 0, .int .u8 0, .int .u8 0, .int .i64 0, .int .i64 0, .bool false, .slice none 0 0, .slice none 0 0] 37) w7 (fun b29 w30 =>
 doSt ((blk b29).add 0) (.int .u8 x10) w30 (fun w31 =>
 doSt ((blk b29).add 1) (.int .i64 x11) w31 (fun w32 =>
 doSt ((blk b29).add 2) (.int .i64 x12) w32 (fun w33 =>
 doSt ((blk b29).add 3) (.int .i64 x13) w33 (fun w34 =>
 doSt ((blk b29).add 4) (.int .i64 x14) w34 (fun w35 =>
 doSt ((blk b29).add 5) (.int .i64 x15) w35 (fun w36 =>
 doSt ((blk b29).add 6) (.int .i64 x16) w36 (fun w37 =>
 doSt ((blk b29).add 7) (.int .i64 x17) w37 (fun w38 =>
 doSt ((blk b29).add 8) (.int .u8 x18) w38 (fun w39 =>
 doSt ((blk b29).add 9) (.int .u8 x19) w39 (fun w40 =>
 doSt ((blk b29).add 10) (.int .i64 x20) w40 (fun w41 =>
 doSt ((blk b29).add 11) (.int .i64 x21) w41 (fun w42 =>
 doSt ((blk b29).add 12) (.bool x22) w42 (fun w43 =>
 doSt ((blk b29).add 13) (.slice xp23 xn24 xc25) w43 (fun w44 =>
 doSt ((blk b29).add 14) (.slice xp26 xn27 xc28) w44 (fun w45 =>
 ∃ x46, w45.cell? ((blk b29).add 0) = some (.int .u8 x46) ∧ (
 ∃ x47, w45.cell? ((blk b29).add 1) = some (.int .i64 x47) ∧ (
 ∃ x48, w45.cell? ((blk b29).add 2) = some (.int .i64 x48) ∧ (
 ∃ x49, w45.cell? ((blk b29).add 3) = some (.int .i64 x49) ∧ (
 ∃ x50, w45.cell? ((blk b29).add 4) = some (.int .i64 x50) ∧ (
 ∃ x51, w45.cell? ((blk b29).add 5) = some (.int .i64 x51) ∧ (
 ∃ x52, w45.cell? ((blk b29).add 6) = some (.int .i64 x52) ∧ (
 ∃ x53, w45.cell? ((blk b29).add 7) = some (.int .i64 x53) ∧ (
 ∃ x54, w45.cell? ((blk b29).add 8) = some (.int .u8 x54) ∧ (
 ∃ x55, w45.cell? ((blk b29).add 9) = some (.int .u8 x55) ∧ (
 ∃ x56, w45.cell? ((blk b29).add 10) = some (.int .i64 x56) ∧ (
 ∃ x57, w45.cell? ((blk b29).add 11) = some (.int .i64 x57) ∧ (
 ∃ x58, w45.cell? ((blk b29).add 12) = some (.bool x58) ∧ (
 ∃ xp59 xn60 xc61, w45.cell? ((blk b29).add 13) = some (.slice xp59 xn60 xc61) ∧ (
 ∃ xp62 xn63 xc64, w45.cell? ((blk b29).add 14) = some (.slice xp62 xn63 xc64) ∧ (
 doCall Tryz.prog (.func (.func 13) #[] #[]) #[.agg #[.int .u8 x46, .int .i64 x47, .int .i64 x48, .int .i64 x49, .int .i64 x50, .int .i64 x51, .int .i64 x52, .int .i64 x53, .int .u8 x54, .int .u8 x55, .int .i64 x56, .int .i64 x57, .bool x58, .slice xp59 xn60 xc61, .slice xp62 xn63 xc64]] w45 (retS (fun v66 w67 => ∃ x65, v66 = (.int .i64 x65 : Value) ∧ (
 ifB ((x65 : Int) != 0) (
 R (.returned (.tuple #[.string (⟨#[]⟩ : ByteArray), .int .i64 x65])) w67) (
 I4 [.int .i64 (IntKind.wrap .i64 (x8 + 1))] w67 ∧ μ5 [.int .i64 (IntKind.wrap .i64 (x8 + 1))] w67 < μ5 [.int .i64 x8] w7))) (kN R)))))))))))))))))))))))))))))))))))))))))))))))))) (
 doAl (.cells #[.slice none 0 0] 53) w7 (fun b68 w69 =>
 ∃ (I70 : List Value → World → Prop) (μ71 : List Value → World → Nat), I70 [.int .i64 0] w69 ∧ (∀ (x74 : Int), ∀ (_j72 : Nat → Value) (w73 : World), I70 [.int .i64 x74] w73 → (
 ifB (decide ((x74 : Int) < ((l_n2 : Nat) : Int))) (
 doIx l_p1 l_n2 15 (x74) (fun a75 =>
 ∃ x76, w73.cell? (a75.add 0) = some (.int .u8 x76) ∧ (
 ∃ x77, w73.cell? (a75.add 1) = some (.int .i64 x77) ∧ (
 ∃ x78, w73.cell? (a75.add 2) = some (.int .i64 x78) ∧ (
 ∃ x79, w73.cell? (a75.add 3) = some (.int .i64 x79) ∧ (
 ∃ x80, w73.cell? (a75.add 4) = some (.int .i64 x80) ∧ (
 ∃ x81, w73.cell? (a75.add 5) = some (.int .i64 x81) ∧ (
 ∃ x82, w73.cell? (a75.add 6) = some (.int .i64 x82) ∧ (
 ∃ x83, w73.cell? (a75.add 7) = some (.int .i64 x83) ∧ (
 ∃ x84, w73.cell? (a75.add 8) = some (.int .u8 x84) ∧ (
 ∃ x85, w73.cell? (a75.add 9) = some (.int .u8 x85) ∧ (
 ∃ x86, w73.cell? (a75.add 10) = some (.int .i64 x86) ∧ (
 ∃ x87, w73.cell? (a75.add 11) = some (.int .i64 x87) ∧ (
 ∃ x88, w73.cell? (a75.add 12) = some (.bool x88) ∧ (
 ∃ xp89 xn90 xc91, w73.cell? (a75.add 13) = some (.slice xp89 xn90 xc91) ∧ (
 ∃ xp92 xn93 xc94, w73.cell? (a75.add 14) = some (.slice xp92 xn93 xc94) ∧ (
 doAl (.cells #[.int .u8 0, .int .i64 0, .int .i64 0, .int .i64 0, .int .i64 0, .int .i64 0, .int .i64 0, .int .i64 0, .int .u8 0, .int .u8 0, .int .i64 0, .int .i64 0, .bool false, .slice none 0 0, .slice none 0 0] 37) w73 (fun b95 w96 =>
 doSt ((blk b95).add 0) (.int .u8 x76) w96 (fun w97 =>
 doSt ((blk b95).add 1) (.int .i64 x77) w97 (fun w98 =>
 doSt ((blk b95).add 2) (.int .i64 x78) w98 (fun w99 =>
 doSt ((blk b95).add 3) (.int .i64 x79) w99 (fun w100 =>
 doSt ((blk b95).add 4) (.int .i64 x80) w100 (fun w101 =>
 doSt ((blk b95).add 5) (.int .i64 x81) w101 (fun w102 =>
 doSt ((blk b95).add 6) (.int .i64 x82) w102 (fun w103 =>
 doSt ((blk b95).add 7) (.int .i64 x83) w103 (fun w104 =>
 doSt ((blk b95).add 8) (.int .u8 x84) w104 (fun w105 =>
 doSt ((blk b95).add 9) (.int .u8 x85) w105 (fun w106 =>
 doSt ((blk b95).add 10) (.int .i64 x86) w106 (fun w107 =>
 doSt ((blk b95).add 11) (.int .i64 x87) w107 (fun w108 =>
 doSt ((blk b95).add 12) (.bool x88) w108 (fun w109 =>
 doSt ((blk b95).add 13) (.slice xp89 xn90 xc91) w109 (fun w110 =>
 doSt ((blk b95).add 14) (.slice xp92 xn93 xc94) w110 (fun w111 =>
 doCall Tryz.prog (.func (.func 23) #[] #[]) #[.pointer (some (blk b95)), .iface 50 (.pointer (some (blk b68)))] w111 (retS (fun v112 w113 => v112 = (.tuple #[] : Value) ∧ (
 ∃ q114, (some (blk b68)) = some q114 ∧ (
 ∃ xp115 xn116 xc117, w113.cell? (q114.add 0) = some (.slice xp115 xn116 xc117) ∧ (
 ifB (decide ((((xn116 : Nat) : Int) : Int) > 1048576)) (
 R (.returned (.tuple #[.string (⟨#[]⟩ : ByteArray), .int .i64 5])) w113) (
 I70 [.int .i64 (IntKind.wrap .i64 (x74 + 1))] w113 ∧ μ71 [.int .i64 (IntKind.wrap .i64 (x74 + 1))] w113 < μ71 [.int .i64 x74] w73))))) (kN R))))))))))))))))))))))))))))))))))) (
 ∃ q118, (some (blk b68)) = some q118 ∧ (
 ∃ xp119 xn120 xc121, w73.cell? (q118.add 0) = some (.slice xp119 xn120 xc121) ∧ (
 doBs Tryz.prog 51 9 (.slice xp119 xn120 xc121) w73 (fun s122 =>
 R (.returned (.tuple #[.string s122, .int .i64 0])) w73))))))))))
theorem sh10_ok (l_p1 : OA) (l_n2 : Nat) (l_c3 : Nat) {R : EW} {w : World} : sh10 l_p1 l_n2 l_c3 R w → Calls Tryz.prog 10 #[.slice l_p1 l_n2 l_c3] w R :=
  Old.calls_of_eq (ann := fun i => if i = 2 then [(26, .int .i64 0)] else if i = 0 then [(12, .int .i64 0)] else []) (fn := Tryz.f10) (c := bodyOf Tryz.f10) (args := #[.slice l_p1 l_n2 l_c3]) 400 follows_mixed Tryz.func10 (by kernel_rfl) (by kernel_rfl)
def sh14 (x_1 : Int) (x_2 : Int) (x_3 : Int) (x_4 : Int) (x_5 : Int) (x_6 : Int) (x_7 : Int) (x_8 : Int) (x_9 : Int) (x_10 : Int) (x_11 : Int) (x_12 : Int) (x_13 : Bool) (x_p14 : OA) (x_n15 : Nat) (x_c16 : Nat) (x_p17 : OA) (x_n18 : Nat) (x_c19 : Nat) (R : EW) (w : World) : Prop :=
 doAl (.cells #[.int .u8 x_1, .int .i64 x_2, .int .i64 x_3, .int .i64 x_4, .int .i64 x_5, .int .i64 x_6, .int .i64 x_7, .int .i64 x_8, .int .u8 x_9, .int .u8 x_10, .int .i64 x_11, .int .i64 x_12, .bool x_13, .slice x_p14 x_n15 x_c16, .slice x_p17 x_n18 x_c19] 37) w (fun b20 w21 =>
 ∃ x22, w21.cell? ((blk b20).add 0) = some (.int .u8 x22) ∧ (
 ∃ x23, w21.cell? ((blk b20).add 1) = some (.int .i64 x23) ∧ (
 ∃ x24, w21.cell? ((blk b20).add 2) = some (.int .i64 x24) ∧ (
 ∃ x25, w21.cell? ((blk b20).add 3) = some (.int .i64 x25) ∧ (
 ∃ x26, w21.cell? ((blk b20).add 4) = some (.int .i64 x26) ∧ (
 ∃ x27, w21.cell? ((blk b20).add 5) = some (.int .i64 x27) ∧ (
 ∃ x28, w21.cell? ((blk b20).add 6) = some (.int .i64 x28) ∧ (
 ∃ x29, w21.cell? ((blk b20).add 7) = some (.int .i64 x29) ∧ (
 ∃ x30, w21.cell? ((blk b20).add 8) = some (.int .u8 x30) ∧ (
 ∃ x31, w21.cell? ((blk b20).add 9) = some (.int .u8 x31) ∧ (
 ∃ x32, w21.cell? ((blk b20).add 10) = some (.int .i64 x32) ∧ (
 ∃ x33, w21.cell? ((blk b20).add 11) = some (.int .i64 x33) ∧ (
 ∃ x34, w21.cell? ((blk b20).add 12) = some (.bool x34) ∧ (
 ∃ xp35 xn36 xc37, w21.cell? ((blk b20).add 13) = some (.slice xp35 xn36 xc37) ∧ (
 ∃ xp38 xn39 xc40, w21.cell? ((blk b20).add 14) = some (.slice xp38 xn39 xc40) ∧ (
 doCall Tryz.prog (.func (.func 13) #[] #[]) #[.agg #[.int .u8 x22, .int .i64 x23, .int .i64 x24, .int .i64 x25, .int .i64 x26, .int .i64 x27, .int .i64 x28, .int .i64 x29, .int .u8 x30, .int .u8 x31, .int .i64 x32, .int .i64 x33, .bool x34, .slice xp35 xn36 xc37, .slice xp38 xn39 xc40]] w21 (retS (fun v42 w43 => ∃ x41, v42 = (.int .i64 x41 : Value) ∧ (
 ifB ((x41 : Int) != 0) (
 R (.returned (.tuple #[.string (⟨#[]⟩ : ByteArray), .int .i64 x41])) w43) (
 doAl (.cells #[.slice none 0 0] 64) w43 (fun b44 w45 =>
 doCall Tryz.prog (.func (.func 23) #[] #[]) #[.pointer (some (blk b20)), .iface 61 (.pointer (some (blk b44)))] w45 (retS (fun v46 w47 => v46 = (.tuple #[] : Value) ∧ (
 ∃ q48, (some (blk b44)) = some q48 ∧ (
 ∃ xp49 xn50 xc51, w47.cell? (q48.add 0) = some (.slice xp49 xn50 xc51) ∧ (
 doCall Tryz.prog (.func (.func 29) #[] #[]) #[.slice xp49 xn50 xc51, .string (⟨#[32]⟩ : ByteArray)] w47 (retS (fun v53 w54 => ∃ x52, v53 = (.string x52 : Value) ∧ (
 R (.returned (.tuple #[.string x52, .int .i64 0])) w54)) (kN R)))))) (kN R)))))) (kN R))))))))))))))))))
theorem sh14_ok (x_1 : Int) (x_2 : Int) (x_3 : Int) (x_4 : Int) (x_5 : Int) (x_6 : Int) (x_7 : Int) (x_8 : Int) (x_9 : Int) (x_10 : Int) (x_11 : Int) (x_12 : Int) (x_13 : Bool) (x_p14 : OA) (x_n15 : Nat) (x_c16 : Nat) (x_p17 : OA) (x_n18 : Nat) (x_c19 : Nat) {R : EW} {w : World} : sh14 x_1 x_2 x_3 x_4 x_5 x_6 x_7 x_8 x_9 x_10 x_11 x_12 x_13 x_p14 x_n15 x_c16 x_p17 x_n18 x_c19 R w → Calls Tryz.prog 14 #[.agg #[.int .u8 x_1, .int .i64 x_2, .int .i64 x_3, .int .i64 x_4, .int .i64 x_5, .int .i64 x_6, .int .i64 x_7, .int .i64 x_8, .int .u8 x_9, .int .u8 x_10, .int .i64 x_11, .int .i64 x_12, .bool x_13, .slice x_p14 x_n15 x_c16, .slice x_p17 x_n18 x_c19]] w R :=
  ceq Tryz.func14 (by kernel_rfl) (by kernel_rfl)
end Go.Proofs.YtmkpkmdnapccgaaGreatDoor

namespace Go.Proofs.YtmkpkmdnapccgaaGreatDoor
open Go Go.Sh
end Go.Proofs.YtmkpkmdnapccgaaGreatDoor

namespace Go.Proofs.YtmkpkmdnapccgaaGreatDoor
open Go Go.Sh
def sh21 (s_1 : ByteArray) (R : EW) (w : World) : Prop :=
 doAl (.cells #[.int .u8 0, .int .i64 0, .int .i64 0, .int .i64 0, .int .i64 0, .int .i64 0, .int .i64 0, .int .i64 0, .int .u8 0, .int .u8 0, .int .i64 0, .int .i64 0, .bool false, .slice none 0 0, .slice none 0 0] 37) w (fun b2 w3 =>
 doAl (.cells #[.int .i64 0] 26) w3 (fun b4 w5 =>
 ifB (decide ((((s_1.size : Nat) : Int) : Int) > 262144)) (
 ∃ x6, w5.cell? ((blk b2).add 0) = some (.int .u8 x6) ∧ (
 ∃ x7, w5.cell? ((blk b2).add 1) = some (.int .i64 x7) ∧ (
 ∃ x8, w5.cell? ((blk b2).add 2) = some (.int .i64 x8) ∧ (
 ∃ x9, w5.cell? ((blk b2).add 3) = some (.int .i64 x9) ∧ (
 ∃ x10, w5.cell? ((blk b2).add 4) = some (.int .i64 x10) ∧ (
 ∃ x11, w5.cell? ((blk b2).add 5) = some (.int .i64 x11) ∧ (
 ∃ x12, w5.cell? ((blk b2).add 6) = some (.int .i64 x12) ∧ (
 ∃ x13, w5.cell? ((blk b2).add 7) = some (.int .i64 x13) ∧ (
 ∃ x14, w5.cell? ((blk b2).add 8) = some (.int .u8 x14) ∧ (
 ∃ x15, w5.cell? ((blk b2).add 9) = some (.int .u8 x15) ∧ (
 ∃ x16, w5.cell? ((blk b2).add 10) = some (.int .i64 x16) ∧ (
 ∃ x17, w5.cell? ((blk b2).add 11) = some (.int .i64 x17) ∧ (
 ∃ x18, w5.cell? ((blk b2).add 12) = some (.bool x18) ∧ (
 ∃ xp19 xn20 xc21, w5.cell? ((blk b2).add 13) = some (.slice xp19 xn20 xc21) ∧ (
 ∃ xp22 xn23 xc24, w5.cell? ((blk b2).add 14) = some (.slice xp22 xn23 xc24) ∧ (
 doSt ((blk b2).add 0) (.int .u8 x6) w5 (fun w25 =>
 doSt ((blk b2).add 1) (.int .i64 x7) w25 (fun w26 =>
 doSt ((blk b2).add 2) (.int .i64 x8) w26 (fun w27 =>
 doSt ((blk b2).add 3) (.int .i64 x9) w27 (fun w28 =>
 doSt ((blk b2).add 4) (.int .i64 x10) w28 (fun w29 =>
 doSt ((blk b2).add 5) (.int .i64 x11) w29 (fun w30 =>
 doSt ((blk b2).add 6) (.int .i64 x12) w30 (fun w31 =>
 doSt ((blk b2).add 7) (.int .i64 x13) w31 (fun w32 =>
 doSt ((blk b2).add 8) (.int .u8 x14) w32 (fun w33 =>
 doSt ((blk b2).add 9) (.int .u8 x15) w33 (fun w34 =>
 doSt ((blk b2).add 10) (.int .i64 x16) w34 (fun w35 =>
 doSt ((blk b2).add 11) (.int .i64 x17) w35 (fun w36 =>
 doSt ((blk b2).add 12) (.bool x18) w36 (fun w37 =>
 doSt ((blk b2).add 13) (.slice xp19 xn20 xc21) w37 (fun w38 =>
 doSt ((blk b2).add 14) (.slice xp22 xn23 xc24) w38 (fun w39 =>
 doSt ((blk b4).add 0) (.int .i64 5) w39 (fun w40 =>
 doEnd (.returning) (
 ∃ x42, w40.cell? ((blk b2).add 0) = some (.int .u8 x42) ∧ (
 ∃ x43, w40.cell? ((blk b2).add 1) = some (.int .i64 x43) ∧ (
 ∃ x44, w40.cell? ((blk b2).add 2) = some (.int .i64 x44) ∧ (
 ∃ x45, w40.cell? ((blk b2).add 3) = some (.int .i64 x45) ∧ (
 ∃ x46, w40.cell? ((blk b2).add 4) = some (.int .i64 x46) ∧ (
 ∃ x47, w40.cell? ((blk b2).add 5) = some (.int .i64 x47) ∧ (
 ∃ x48, w40.cell? ((blk b2).add 6) = some (.int .i64 x48) ∧ (
 ∃ x49, w40.cell? ((blk b2).add 7) = some (.int .i64 x49) ∧ (
 ∃ x50, w40.cell? ((blk b2).add 8) = some (.int .u8 x50) ∧ (
 ∃ x51, w40.cell? ((blk b2).add 9) = some (.int .u8 x51) ∧ (
 ∃ x52, w40.cell? ((blk b2).add 10) = some (.int .i64 x52) ∧ (
 ∃ x53, w40.cell? ((blk b2).add 11) = some (.int .i64 x53) ∧ (
 ∃ x54, w40.cell? ((blk b2).add 12) = some (.bool x54) ∧ (
 ∃ xp55 xn56 xc57, w40.cell? ((blk b2).add 13) = some (.slice xp55 xn56 xc57) ∧ (
 ∃ xp58 xn59 xc60, w40.cell? ((blk b2).add 14) = some (.slice xp58 xn59 xc60) ∧ (
 ∃ x61, w40.cell? (blk b4) = some (.int .i64 x61) ∧ (
 R (.returned (.tuple #[.agg #[.int .u8 x42, .int .i64 x43, .int .i64 x44, .int .i64 x45, .int .i64 x46, .int .i64 x47, .int .i64 x48, .int .i64 x49, .int .u8 x50, .int .u8 x51, .int .i64 x52, .int .i64 x53, .bool x54, .slice xp55 xn56 xc57, .slice xp58 xn59 xc60], .int .i64 x61])) w40))))))))))))))))) (fun ch41 => R (.panicked ch41) w40))))))))))))))))))))))))))))))))) (
 doCall Tryz.prog (.func (.func 45) #[] #[]) #[.string s_1, .string (⟨#[32]⟩ : ByteArray)] w5 (retS (fun v65 w66 => ∃ xp62 xn63 xc64, v65 = (.slice xp62 xn63 xc64 : Value) ∧ (
 doAl (.cells #[.slice xp62 xn63 xc64] 87) w66 (fun b67 w68 =>
 doCall Tryz.prog (.func (.func 23) #[] #[]) #[.pointer (some (blk b2)), .iface 85 (.pointer (some (blk b67)))] w68 (retS (fun v69 w70 => v69 = (.tuple #[] : Value) ∧ (
 let K72 : World → Prop := fun w71 => 
 ∃ x73, w71.cell? ((blk b2).add 0) = some (.int .u8 x73) ∧ (
 ∃ x74, w71.cell? ((blk b2).add 1) = some (.int .i64 x74) ∧ (
 ∃ x75, w71.cell? ((blk b2).add 2) = some (.int .i64 x75) ∧ (
 ∃ x76, w71.cell? ((blk b2).add 3) = some (.int .i64 x76) ∧ (
 ∃ x77, w71.cell? ((blk b2).add 4) = some (.int .i64 x77) ∧ (
 ∃ x78, w71.cell? ((blk b2).add 5) = some (.int .i64 x78) ∧ (
 ∃ x79, w71.cell? ((blk b2).add 6) = some (.int .i64 x79) ∧ (
 ∃ x80, w71.cell? ((blk b2).add 7) = some (.int .i64 x80) ∧ (
 ∃ x81, w71.cell? ((blk b2).add 8) = some (.int .u8 x81) ∧ (
 ∃ x82, w71.cell? ((blk b2).add 9) = some (.int .u8 x82) ∧ (
 ∃ x83, w71.cell? ((blk b2).add 10) = some (.int .i64 x83) ∧ (
 ∃ x84, w71.cell? ((blk b2).add 11) = some (.int .i64 x84) ∧ (
 ∃ x85, w71.cell? ((blk b2).add 12) = some (.bool x85) ∧ (
 ∃ xp86 xn87 xc88, w71.cell? ((blk b2).add 13) = some (.slice xp86 xn87 xc88) ∧ (
 ∃ xp89 xn90 xc91, w71.cell? ((blk b2).add 14) = some (.slice xp89 xn90 xc91) ∧ (
 doSt ((blk b2).add 0) (.int .u8 x73) w71 (fun w92 =>
 doSt ((blk b2).add 1) (.int .i64 x74) w92 (fun w93 =>
 doSt ((blk b2).add 2) (.int .i64 x75) w93 (fun w94 =>
 doSt ((blk b2).add 3) (.int .i64 x76) w94 (fun w95 =>
 doSt ((blk b2).add 4) (.int .i64 x77) w95 (fun w96 =>
 doSt ((blk b2).add 5) (.int .i64 x78) w96 (fun w97 =>
 doSt ((blk b2).add 6) (.int .i64 x79) w97 (fun w98 =>
 doSt ((blk b2).add 7) (.int .i64 x80) w98 (fun w99 =>
 doSt ((blk b2).add 8) (.int .u8 x81) w99 (fun w100 =>
 doSt ((blk b2).add 9) (.int .u8 x82) w100 (fun w101 =>
 doSt ((blk b2).add 10) (.int .i64 x83) w101 (fun w102 =>
 doSt ((blk b2).add 11) (.int .i64 x84) w102 (fun w103 =>
 doSt ((blk b2).add 12) (.bool x85) w103 (fun w104 =>
 doSt ((blk b2).add 13) (.slice xp86 xn87 xc88) w104 (fun w105 =>
 doSt ((blk b2).add 14) (.slice xp89 xn90 xc91) w105 (fun w106 =>
 doSt ((blk b4).add 0) (.int .i64 0) w106 (fun w107 =>
 doDf Tryz.prog (.fn (.func 44) #[.pointer (some (blk b2)), .pointer (some (blk b4))]) #[] (.returning) w107 (fun u109 w108 =>
 doEnd (u109) (
 ∃ x111, w108.cell? ((blk b2).add 0) = some (.int .u8 x111) ∧ (
 ∃ x112, w108.cell? ((blk b2).add 1) = some (.int .i64 x112) ∧ (
 ∃ x113, w108.cell? ((blk b2).add 2) = some (.int .i64 x113) ∧ (
 ∃ x114, w108.cell? ((blk b2).add 3) = some (.int .i64 x114) ∧ (
 ∃ x115, w108.cell? ((blk b2).add 4) = some (.int .i64 x115) ∧ (
 ∃ x116, w108.cell? ((blk b2).add 5) = some (.int .i64 x116) ∧ (
 ∃ x117, w108.cell? ((blk b2).add 6) = some (.int .i64 x117) ∧ (
 ∃ x118, w108.cell? ((blk b2).add 7) = some (.int .i64 x118) ∧ (
 ∃ x119, w108.cell? ((blk b2).add 8) = some (.int .u8 x119) ∧ (
 ∃ x120, w108.cell? ((blk b2).add 9) = some (.int .u8 x120) ∧ (
 ∃ x121, w108.cell? ((blk b2).add 10) = some (.int .i64 x121) ∧ (
 ∃ x122, w108.cell? ((blk b2).add 11) = some (.int .i64 x122) ∧ (
 ∃ x123, w108.cell? ((blk b2).add 12) = some (.bool x123) ∧ (
 ∃ xp124 xn125 xc126, w108.cell? ((blk b2).add 13) = some (.slice xp124 xn125 xc126) ∧ (
 ∃ xp127 xn128 xc129, w108.cell? ((blk b2).add 14) = some (.slice xp127 xn128 xc129) ∧ (
 ∃ x130, w108.cell? (blk b4) = some (.int .i64 x130) ∧ (
 R (.returned (.tuple #[.agg #[.int .u8 x111, .int .i64 x112, .int .i64 x113, .int .i64 x114, .int .i64 x115, .int .i64 x116, .int .i64 x117, .int .i64 x118, .int .u8 x119, .int .u8 x120, .int .i64 x121, .int .i64 x122, .bool x123, .slice xp124 xn125 xc126, .slice xp127 xn128 xc129], .int .i64 x130])) w108))))))))))))))))) (fun ch110 => R (.panicked ch110) w108)))))))))))))))))))))))))))))))))
 ∃ q131, (some (blk b67)) = some q131 ∧ (
 ∃ xp132 xn133 xc134, w70.cell? (q131.add 0) = some (.slice xp132 xn133 xc134) ∧ (
 ifB ((((xn133 : Nat) : Int) : Int) == 0) (
 ∃ x135, w70.cell? ((blk b2).add 0) = some (.int .u8 x135) ∧ (
 ∃ x136, w70.cell? ((blk b2).add 1) = some (.int .i64 x136) ∧ (
 ∃ x137, w70.cell? ((blk b2).add 2) = some (.int .i64 x137) ∧ (
 ∃ x138, w70.cell? ((blk b2).add 3) = some (.int .i64 x138) ∧ (
 ∃ x139, w70.cell? ((blk b2).add 4) = some (.int .i64 x139) ∧ (
 ∃ x140, w70.cell? ((blk b2).add 5) = some (.int .i64 x140) ∧ (
 ∃ x141, w70.cell? ((blk b2).add 6) = some (.int .i64 x141) ∧ (
 ∃ x142, w70.cell? ((blk b2).add 7) = some (.int .i64 x142) ∧ (
 ∃ x143, w70.cell? ((blk b2).add 8) = some (.int .u8 x143) ∧ (
 ∃ x144, w70.cell? ((blk b2).add 9) = some (.int .u8 x144) ∧ (
 ∃ x145, w70.cell? ((blk b2).add 10) = some (.int .i64 x145) ∧ (
 ∃ x146, w70.cell? ((blk b2).add 11) = some (.int .i64 x146) ∧ (
 ∃ x147, w70.cell? ((blk b2).add 12) = some (.bool x147) ∧ (
 ∃ xp148 xn149 xc150, w70.cell? ((blk b2).add 13) = some (.slice xp148 xn149 xc150) ∧ (
 ∃ xp151 xn152 xc153, w70.cell? ((blk b2).add 14) = some (.slice xp151 xn152 xc153) ∧ (
 doCall Tryz.prog (.func (.func 13) #[] #[]) #[.agg #[.int .u8 x135, .int .i64 x136, .int .i64 x137, .int .i64 x138, .int .i64 x139, .int .i64 x140, .int .i64 x141, .int .i64 x142, .int .u8 x143, .int .u8 x144, .int .i64 x145, .int .i64 x146, .bool x147, .slice xp148 xn149 xc150, .slice xp151 xn152 xc153]] w70 (retS (fun v155 w156 => ∃ x154, v155 = (.int .i64 x154 : Value) ∧ (
 doCall Tryz.prog (.func (.func 42) #[] #[]) #[.bool ((x154 : Int) == 0)] w156 (retS (fun v157 w158 => v157 = (.tuple #[] : Value) ∧ (
 K72 w158)) (fun (ch159 : List PanicEntry) (w160 : World) =>
 doDf Tryz.prog (.fn (.func 44) #[.pointer (some (blk b2)), .pointer (some (blk b4))]) #[] (.panicking ch159) w160 (fun u162 w161 =>
 doEnd (u162) (
 ∃ x164, w161.cell? ((blk b2).add 0) = some (.int .u8 x164) ∧ (
 ∃ x165, w161.cell? ((blk b2).add 1) = some (.int .i64 x165) ∧ (
 ∃ x166, w161.cell? ((blk b2).add 2) = some (.int .i64 x166) ∧ (
 ∃ x167, w161.cell? ((blk b2).add 3) = some (.int .i64 x167) ∧ (
 ∃ x168, w161.cell? ((blk b2).add 4) = some (.int .i64 x168) ∧ (
 ∃ x169, w161.cell? ((blk b2).add 5) = some (.int .i64 x169) ∧ (
 ∃ x170, w161.cell? ((blk b2).add 6) = some (.int .i64 x170) ∧ (
 ∃ x171, w161.cell? ((blk b2).add 7) = some (.int .i64 x171) ∧ (
 ∃ x172, w161.cell? ((blk b2).add 8) = some (.int .u8 x172) ∧ (
 ∃ x173, w161.cell? ((blk b2).add 9) = some (.int .u8 x173) ∧ (
 ∃ x174, w161.cell? ((blk b2).add 10) = some (.int .i64 x174) ∧ (
 ∃ x175, w161.cell? ((blk b2).add 11) = some (.int .i64 x175) ∧ (
 ∃ x176, w161.cell? ((blk b2).add 12) = some (.bool x176) ∧ (
 ∃ xp177 xn178 xc179, w161.cell? ((blk b2).add 13) = some (.slice xp177 xn178 xc179) ∧ (
 ∃ xp180 xn181 xc182, w161.cell? ((blk b2).add 14) = some (.slice xp180 xn181 xc182) ∧ (
 ∃ x183, w161.cell? (blk b4) = some (.int .i64 x183) ∧ (
 R (.returned (.tuple #[.agg #[.int .u8 x164, .int .i64 x165, .int .i64 x166, .int .i64 x167, .int .i64 x168, .int .i64 x169, .int .i64 x170, .int .i64 x171, .int .u8 x172, .int .u8 x173, .int .i64 x174, .int .i64 x175, .bool x176, .slice xp177 xn178 xc179, .slice xp180 xn181 xc182], .int .i64 x183])) w161))))))))))))))))) (fun ch163 => R (.panicked ch163) w161)))))) (fun (ch184 : List PanicEntry) (w185 : World) =>
 doDf Tryz.prog (.fn (.func 44) #[.pointer (some (blk b2)), .pointer (some (blk b4))]) #[] (.panicking ch184) w185 (fun u187 w186 =>
 doEnd (u187) (
 ∃ x189, w186.cell? ((blk b2).add 0) = some (.int .u8 x189) ∧ (
 ∃ x190, w186.cell? ((blk b2).add 1) = some (.int .i64 x190) ∧ (
 ∃ x191, w186.cell? ((blk b2).add 2) = some (.int .i64 x191) ∧ (
 ∃ x192, w186.cell? ((blk b2).add 3) = some (.int .i64 x192) ∧ (
 ∃ x193, w186.cell? ((blk b2).add 4) = some (.int .i64 x193) ∧ (
 ∃ x194, w186.cell? ((blk b2).add 5) = some (.int .i64 x194) ∧ (
 ∃ x195, w186.cell? ((blk b2).add 6) = some (.int .i64 x195) ∧ (
 ∃ x196, w186.cell? ((blk b2).add 7) = some (.int .i64 x196) ∧ (
 ∃ x197, w186.cell? ((blk b2).add 8) = some (.int .u8 x197) ∧ (
 ∃ x198, w186.cell? ((blk b2).add 9) = some (.int .u8 x198) ∧ (
 ∃ x199, w186.cell? ((blk b2).add 10) = some (.int .i64 x199) ∧ (
 ∃ x200, w186.cell? ((blk b2).add 11) = some (.int .i64 x200) ∧ (
 ∃ x201, w186.cell? ((blk b2).add 12) = some (.bool x201) ∧ (
 ∃ xp202 xn203 xc204, w186.cell? ((blk b2).add 13) = some (.slice xp202 xn203 xc204) ∧ (
 ∃ xp205 xn206 xc207, w186.cell? ((blk b2).add 14) = some (.slice xp205 xn206 xc207) ∧ (
 ∃ x208, w186.cell? (blk b4) = some (.int .i64 x208) ∧ (
 R (.returned (.tuple #[.agg #[.int .u8 x189, .int .i64 x190, .int .i64 x191, .int .i64 x192, .int .i64 x193, .int .i64 x194, .int .i64 x195, .int .i64 x196, .int .u8 x197, .int .u8 x198, .int .i64 x199, .int .i64 x200, .bool x201, .slice xp202 xn203 xc204, .slice xp205 xn206 xc207], .int .i64 x208])) w186))))))))))))))))) (fun ch188 => R (.panicked ch188) w186)))))))))))))))))))) (
 doCall Tryz.prog (.func (.func 42) #[] #[]) #[.bool false] w70 (retS (fun v209 w210 => v209 = (.tuple #[] : Value) ∧ (
 K72 w210)) (fun (ch211 : List PanicEntry) (w212 : World) =>
 doDf Tryz.prog (.fn (.func 44) #[.pointer (some (blk b2)), .pointer (some (blk b4))]) #[] (.panicking ch211) w212 (fun u214 w213 =>
 doEnd (u214) (
 ∃ x216, w213.cell? ((blk b2).add 0) = some (.int .u8 x216) ∧ (
 ∃ x217, w213.cell? ((blk b2).add 1) = some (.int .i64 x217) ∧ (
 ∃ x218, w213.cell? ((blk b2).add 2) = some (.int .i64 x218) ∧ (
 ∃ x219, w213.cell? ((blk b2).add 3) = some (.int .i64 x219) ∧ (
 ∃ x220, w213.cell? ((blk b2).add 4) = some (.int .i64 x220) ∧ (
 ∃ x221, w213.cell? ((blk b2).add 5) = some (.int .i64 x221) ∧ (
 ∃ x222, w213.cell? ((blk b2).add 6) = some (.int .i64 x222) ∧ (
 ∃ x223, w213.cell? ((blk b2).add 7) = some (.int .i64 x223) ∧ (
 ∃ x224, w213.cell? ((blk b2).add 8) = some (.int .u8 x224) ∧ (
 ∃ x225, w213.cell? ((blk b2).add 9) = some (.int .u8 x225) ∧ (
 ∃ x226, w213.cell? ((blk b2).add 10) = some (.int .i64 x226) ∧ (
 ∃ x227, w213.cell? ((blk b2).add 11) = some (.int .i64 x227) ∧ (
 ∃ x228, w213.cell? ((blk b2).add 12) = some (.bool x228) ∧ (
 ∃ xp229 xn230 xc231, w213.cell? ((blk b2).add 13) = some (.slice xp229 xn230 xc231) ∧ (
 ∃ xp232 xn233 xc234, w213.cell? ((blk b2).add 14) = some (.slice xp232 xn233 xc234) ∧ (
 ∃ x235, w213.cell? (blk b4) = some (.int .i64 x235) ∧ (
 R (.returned (.tuple #[.agg #[.int .u8 x216, .int .i64 x217, .int .i64 x218, .int .i64 x219, .int .i64 x220, .int .i64 x221, .int .i64 x222, .int .i64 x223, .int .u8 x224, .int .u8 x225, .int .i64 x226, .int .i64 x227, .bool x228, .slice xp229 xn230 xc231, .slice xp232 xn233 xc234], .int .i64 x235])) w213))))))))))))))))) (fun ch215 => R (.panicked ch215) w213))))))))) (fun (ch236 : List PanicEntry) (w237 : World) =>
 doDf Tryz.prog (.fn (.func 44) #[.pointer (some (blk b2)), .pointer (some (blk b4))]) #[] (.panicking ch236) w237 (fun u239 w238 =>
 doEnd (u239) (
 ∃ x241, w238.cell? ((blk b2).add 0) = some (.int .u8 x241) ∧ (
 ∃ x242, w238.cell? ((blk b2).add 1) = some (.int .i64 x242) ∧ (
 ∃ x243, w238.cell? ((blk b2).add 2) = some (.int .i64 x243) ∧ (
 ∃ x244, w238.cell? ((blk b2).add 3) = some (.int .i64 x244) ∧ (
 ∃ x245, w238.cell? ((blk b2).add 4) = some (.int .i64 x245) ∧ (
 ∃ x246, w238.cell? ((blk b2).add 5) = some (.int .i64 x246) ∧ (
 ∃ x247, w238.cell? ((blk b2).add 6) = some (.int .i64 x247) ∧ (
 ∃ x248, w238.cell? ((blk b2).add 7) = some (.int .i64 x248) ∧ (
 ∃ x249, w238.cell? ((blk b2).add 8) = some (.int .u8 x249) ∧ (
 ∃ x250, w238.cell? ((blk b2).add 9) = some (.int .u8 x250) ∧ (
 ∃ x251, w238.cell? ((blk b2).add 10) = some (.int .i64 x251) ∧ (
 ∃ x252, w238.cell? ((blk b2).add 11) = some (.int .i64 x252) ∧ (
 ∃ x253, w238.cell? ((blk b2).add 12) = some (.bool x253) ∧ (
 ∃ xp254 xn255 xc256, w238.cell? ((blk b2).add 13) = some (.slice xp254 xn255 xc256) ∧ (
 ∃ xp257 xn258 xc259, w238.cell? ((blk b2).add 14) = some (.slice xp257 xn258 xc259) ∧ (
 ∃ x260, w238.cell? (blk b4) = some (.int .i64 x260) ∧ (
 R (.returned (.tuple #[.agg #[.int .u8 x241, .int .i64 x242, .int .i64 x243, .int .i64 x244, .int .i64 x245, .int .i64 x246, .int .i64 x247, .int .i64 x248, .int .u8 x249, .int .u8 x250, .int .i64 x251, .int .i64 x252, .bool x253, .slice xp254 xn255 xc256, .slice xp257 xn258 xc259], .int .i64 x260])) w238))))))))))))))))) (fun ch240 => R (.panicked ch240) w238))))))) (fun (ch261 : List PanicEntry) (w262 : World) =>
 doDf Tryz.prog (.fn (.func 44) #[.pointer (some (blk b2)), .pointer (some (blk b4))]) #[] (.panicking ch261) w262 (fun u264 w263 =>
 doEnd (u264) (
 ∃ x266, w263.cell? ((blk b2).add 0) = some (.int .u8 x266) ∧ (
 ∃ x267, w263.cell? ((blk b2).add 1) = some (.int .i64 x267) ∧ (
 ∃ x268, w263.cell? ((blk b2).add 2) = some (.int .i64 x268) ∧ (
 ∃ x269, w263.cell? ((blk b2).add 3) = some (.int .i64 x269) ∧ (
 ∃ x270, w263.cell? ((blk b2).add 4) = some (.int .i64 x270) ∧ (
 ∃ x271, w263.cell? ((blk b2).add 5) = some (.int .i64 x271) ∧ (
 ∃ x272, w263.cell? ((blk b2).add 6) = some (.int .i64 x272) ∧ (
 ∃ x273, w263.cell? ((blk b2).add 7) = some (.int .i64 x273) ∧ (
 ∃ x274, w263.cell? ((blk b2).add 8) = some (.int .u8 x274) ∧ (
 ∃ x275, w263.cell? ((blk b2).add 9) = some (.int .u8 x275) ∧ (
 ∃ x276, w263.cell? ((blk b2).add 10) = some (.int .i64 x276) ∧ (
 ∃ x277, w263.cell? ((blk b2).add 11) = some (.int .i64 x277) ∧ (
 ∃ x278, w263.cell? ((blk b2).add 12) = some (.bool x278) ∧ (
 ∃ xp279 xn280 xc281, w263.cell? ((blk b2).add 13) = some (.slice xp279 xn280 xc281) ∧ (
 ∃ xp282 xn283 xc284, w263.cell? ((blk b2).add 14) = some (.slice xp282 xn283 xc284) ∧ (
 ∃ x285, w263.cell? (blk b4) = some (.int .i64 x285) ∧ (
 R (.returned (.tuple #[.agg #[.int .u8 x266, .int .i64 x267, .int .i64 x268, .int .i64 x269, .int .i64 x270, .int .i64 x271, .int .i64 x272, .int .i64 x273, .int .u8 x274, .int .u8 x275, .int .i64 x276, .int .i64 x277, .bool x278, .slice xp279 xn280 xc281, .slice xp282 xn283 xc284], .int .i64 x285])) w263))))))))))))))))) (fun ch265 => R (.panicked ch265) w263)))))))
theorem sh21_ok (s_1 : ByteArray) {R : EW} {w : World} : sh21 s_1 R w → Calls Tryz.prog 21 #[.string s_1] w R :=
  calls_of_eqD (ann := fun _ => []) (fn := Tryz.f21) (c := bodyOf Tryz.f21) (args := #[.string s_1]) 400 follows_mixed Tryz.func21 (by kernel_rfl) (by kernel_rfl)
end Go.Proofs.YtmkpkmdnapccgaaGreatDoor

