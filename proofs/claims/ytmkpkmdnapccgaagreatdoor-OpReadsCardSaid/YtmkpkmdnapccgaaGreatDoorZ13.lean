/-
  Printed by a program (gen.py): what the functions of the program do, as formulas; each with the proof that its call is what the formula says.
-/
import Derived.Test.YtmkpkmdnapccgaaGreatDoorZ04
import Derived.Test.YtmkpkmdnapccgaaGreatDoorProg
import Derived.Test.YtmkpkmdnapccgaaGreatDoorZ05

set_option maxRecDepth 100000
set_option maxHeartbeats 6400000
namespace Go.Proofs.YtmkpkmdnapccgaaGreatDoor
open Go Go.Sh
def sh56  (R : EW) (w : World) : Prop :=
 doAl (.map #[] 0) w (fun b1 w2 =>
 doMu Tryz.prog 110 (.map (some b1)) (.int .u8 1) (.agg #[.func (.func 81) #[] #[]]) w2 (fun w3 =>
 doMu Tryz.prog 110 (.map (some b1)) (.int .u8 2) (.agg #[.func (.func 82) #[] #[]]) w3 (fun w4 =>
 doMu Tryz.prog 110 (.map (some b1)) (.int .u8 3) (.agg #[.func (.func 83) #[] #[]]) w4 (fun w5 =>
 R (.returned (.map (some b1))) w5))))
theorem sh56_ok  {R : EW} {w : World} : sh56  R w → Calls Tryz.prog 56 #[] w R :=
  ceq Tryz.func56 (by kernel_rfl) (by kernel_rfl)
def sh57  (R : EW) (w : World) : Prop :=
 doAl (.cells #[.nilFunc] 137) w (fun b1 w2 =>
 doSt ((blk b1).add 0) (.func (.func 85) #[] #[]) w2 (fun w3 =>
 doAl (.map #[] 0) w3 (fun b4 w5 =>
 doMu Tryz.prog 117 (.map (some b4)) (.int .u8 1) (.agg #[.func (.func 86) #[] #[], .func (.func 87) #[] #[]]) w5 (fun w6 =>
 doMu Tryz.prog 117 (.map (some b4)) (.int .u8 2) (.agg #[.func (.func 84) #[] #[], .func (.func 88) #[] #[.pointer (some (blk b1))]]) w6 (fun w7 =>
 doMu Tryz.prog 117 (.map (some b4)) (.int .u8 3) (.agg #[.func (.func 84) #[] #[], .func (.func 89) #[] #[.pointer (some (blk b1))]]) w7 (fun w8 =>
 doMu Tryz.prog 117 (.map (some b4)) (.int .u8 4) (.agg #[.func (.func 90) #[] #[], .func (.func 91) #[] #[]]) w8 (fun w9 =>
 doMu Tryz.prog 117 (.map (some b4)) (.int .u8 5) (.agg #[.func (.func 92) #[] #[], .func (.func 93) #[] #[]]) w9 (fun w10 =>
 R (.returned (.map (some b4))) w10))))))))
theorem sh57_ok  {R : EW} {w : World} : sh57  R w → Calls Tryz.prog 57 #[] w R :=
  ceq Tryz.func57 (by kernel_rfl) (by kernel_rfl)
def sh69 (f_1 : OA) (f_2 : Value) (R : EW) (w : World) : Prop :=
 doAl (.cells #[.pointer f_1, f_2] 103) w (fun b3 w4 =>
 doDr w4 (fun w6 =>
 ∃ (C5 : World → Prop), C5 w6 ∧ (
 ∃ x7, (∀ w, C5 w → w.cell? ((blk b3).add 0) = some (.pointer x7)) ∧ (
 ∃ x8, (∀ w, C5 w → w.cell? ((blk b3).add 1) = some (x8)) ∧ (
 ∃ x9, (∀ w, C5 w → w.cell? ((blk b3).add 0) = some (.pointer x9)) ∧ (
 ∃ q10, x9 = some q10 ∧ (
 doCall Tryz.prog (.func (.func 105) #[] #[]) #[.agg #[.pointer x7, x8], .pointer (some (q10.add 1))] w6 (retS (fun v11 w12 => v11 = (.tuple #[] : Value) ∧ (
 C5 w12 ∧ (
 R (.returned (.tuple #[])) w12))) (kN R)))))))))
theorem sh69_ok (f_1 : OA) (f_2 : Value) {R : EW} {w : World} : sh69 f_1 f_2 R w → Calls Tryz.prog 69 #[.agg #[.pointer f_1, f_2]] w R :=
  ceq Tryz.func69 (by kernel_rfl) (by kernel_rfl)
def sh70 (f_1 : OA) (f_2 : Value) (R : EW) (w : World) : Prop :=
 doAl (.cells #[.pointer f_1, f_2] 103) w (fun b3 w4 =>
 doDr w4 (fun w6 =>
 ∃ (C5 : World → Prop), C5 w6 ∧ (
 ∃ x7, (∀ w, C5 w → w.cell? ((blk b3).add 1) = some (x7)) ∧ (
 ∃ x8, (∀ w, C5 w → w.cell? ((blk b3).add 0) = some (.pointer x8)) ∧ (
 ∃ q9, x8 = some q9 ∧ (
 doNC Tryz.prog (x7) (
 doGo Tryz.prog (.fn (.method "joinery/op.num") #[]) #[x7, .pointer (some (q9.add 3))] w6 (retS (fun v10 w11 => v10 = (.tuple #[] : Value) ∧ (
 C5 w11 ∧ (
 R (.returned (.tuple #[])) w11))) (kN R)))))))))
theorem sh70_ok (f_1 : OA) (f_2 : Value) {R : EW} {w : World} : sh70 f_1 f_2 R w → Calls Tryz.prog 70 #[.agg #[.pointer f_1, f_2]] w R :=
  ceq Tryz.func70 (by kernel_rfl) (by kernel_rfl)
def sh71 (f_1 : OA) (f_2 : Value) (R : EW) (w : World) : Prop :=
 doAl (.cells #[.pointer f_1, f_2] 103) w (fun b3 w4 =>
 doDr w4 (fun w6 =>
 ∃ (C5 : World → Prop), C5 w6 ∧ (
 ∃ x7, (∀ w, C5 w → w.cell? ((blk b3).add 1) = some (x7)) ∧ (
 ∃ x8, (∀ w, C5 w → w.cell? ((blk b3).add 0) = some (.pointer x8)) ∧ (
 ∃ q9, x8 = some q9 ∧ (
 doNC Tryz.prog (x7) (
 doGo Tryz.prog (.fn (.method "joinery/op.num") #[]) #[x7, .pointer (some (q9.add 4))] w6 (retS (fun v10 w11 => v10 = (.tuple #[] : Value) ∧ (
 C5 w11 ∧ (
 R (.returned (.tuple #[])) w11))) (kN R)))))))))
theorem sh71_ok (f_1 : OA) (f_2 : Value) {R : EW} {w : World} : sh71 f_1 f_2 R w → Calls Tryz.prog 71 #[.agg #[.pointer f_1, f_2]] w R :=
  ceq Tryz.func71 (by kernel_rfl) (by kernel_rfl)
def sh72 (f_1 : OA) (f_2 : Value) (R : EW) (w : World) : Prop :=
 doAl (.cells #[.pointer f_1, f_2] 103) w (fun b3 w4 =>
 doDr w4 (fun w6 =>
 ∃ (C5 : World → Prop), C5 w6 ∧ (
 ∃ x7, (∀ w, C5 w → w.cell? ((blk b3).add 1) = some (x7)) ∧ (
 ∃ x8, (∀ w, C5 w → w.cell? ((blk b3).add 0) = some (.pointer x8)) ∧ (
 ∃ q9, x8 = some q9 ∧ (
 doNC Tryz.prog (x7) (
 doAl (.cells #[.string (⟨#[]⟩ : ByteArray), .string (⟨#[108, 101, 102, 116]⟩ : ByteArray), .string (⟨#[114, 105, 103, 104, 116]⟩ : ByteArray), .string (⟨#[115, 117, 109]⟩ : ByteArray)] 9) w6 (fun b10 w11 =>
 C5 w11 ∧ (
 doGo Tryz.prog (.fn (.method "joinery/op.word") #[]) #[x7, .pointer (some (q9.add 8)), .slice (some (blk b10)) 4 4] w11 (retS (fun v12 w13 => v12 = (.tuple #[] : Value) ∧ (
 C5 w13 ∧ (
 R (.returned (.tuple #[])) w13))) (kN R)))))))))))
theorem sh72_ok (f_1 : OA) (f_2 : Value) {R : EW} {w : World} : sh72 f_1 f_2 R w → Calls Tryz.prog 72 #[.agg #[.pointer f_1, f_2]] w R :=
  ceq Tryz.func72 (by kernel_rfl) (by kernel_rfl)
def sh73 (f_1 : OA) (f_2 : Value) (R : EW) (w : World) : Prop :=
 doAl (.cells #[.pointer f_1, f_2] 103) w (fun b3 w4 =>
 ∃ x5, w4.cell? ((blk b3).add 0) = some (.pointer x5) ∧ (
 ∃ q6, x5 = some q6 ∧ (
 ∃ xp7 xn8 xc9, w4.cell? (q6.add 13) = some (.slice xp7 xn8 xc9) ∧ (
 doAl (.cells #[.int .i64 0] 3) w4 (fun b10 w11 =>
 doSt ((blk b10).add 0) (.int .i64 ((xn8 : Nat) : Int)) w11 (fun w12 =>
 ∃ x13, w12.cell? ((blk b3).add 1) = some (x13) ∧ (
 doGo Tryz.prog (.fn (.method "joinery/op.many") #[]) #[x13, .pointer (some (blk b10))] w12 (retS (fun v14 w15 => v14 = (.tuple #[] : Value) ∧ (
 ∃ x16, w15.cell? (blk b10) = some (.int .i64 x16) ∧ (
 ∃ (I17 : List Value → World → Prop) (μ18 : List Value → World → Nat), I17 [.int .i64 0] w15 ∧ (∀ (x21 : Int), ∀ (_j19 : Nat → Value) (w20 : World), I17 [.int .i64 x21] w20 → (
 ifB (decide ((x21 : Int) < x16)) (
 let K23 : World → Prop := fun w22 => 
 I17 [.int .i64 (IntKind.wrap .i64 (x21 + 1))] w22 ∧ μ18 [.int .i64 (IntKind.wrap .i64 (x21 + 1))] w22 < μ18 [.int .i64 x21] w20
 doAl (.cells #[.int .i64 0, .int .i64 0] 49) w20 (fun b24 w25 =>
 let K27 : World → Prop := fun w26 => 
 ∃ x28, w26.cell? ((blk b3).add 1) = some (x28) ∧ (
 doGo Tryz.prog (.fn (.method "joinery/op.pair") #[]) #[x28, .pointer (some (blk b24))] w26 (retS (fun v29 w30 => v29 = (.tuple #[] : Value) ∧ (
 ∃ x31, w30.cell? ((blk b3).add 0) = some (.pointer x31) ∧ (
 ∃ q32, x31 = some q32 ∧ (
 ∃ xp33 xn34 xc35, w30.cell? (q32.add 13) = some (.slice xp33 xn34 xc35) ∧ (
 ifB ((x21 : Int) == ((xn34 : Nat) : Int)) (
 doDr w30 (fun w37 =>
 ∃ (C36 : World → Prop), C36 w37 ∧ (
 ∃ x38, (∀ w, C36 w → w.cell? ((blk b3).add 0) = some (.pointer x38)) ∧ (
 ∃ x39, (∀ w, C36 w → w.cell? ((blk b3).add 0) = some (.pointer x39)) ∧ (
 ∃ q40, x39 = some q40 ∧ (
 ∃ xp41 xn42 xc43, (∀ w, C36 w → w.cell? (q40.add 13) = some (.slice xp41 xn42 xc43)) ∧ (
 ∃ x44, (∀ w, C36 w → w.cell? ((blk b24).add 0) = some (.int .i64 x44)) ∧ (
 ∃ x45, (∀ w, C36 w → w.cell? ((blk b24).add 1) = some (.int .i64 x45)) ∧ (
 doAl (.cells #[.int .i64 x44, .int .i64 x45] 49) w37 (fun b46 w47 =>
 C36 w47 ∧ (
 doGo Tryz.prog (.builtin .append #[34, 34] 34 #[false, false]) #[.slice xp41 xn42 xc43, .slice (some (blk b46)) 1 1] w47 (retS (fun v51 w52 => ∃ xp48 xn49 xc50, v51 = (.slice xp48 xn49 xc50 : Value) ∧ (
 C36 w52 ∧ (
 ∃ q53, x38 = some q53 ∧ (
 doSt ((q53.add 13).add 0) (.slice xp48 xn49 xc50) w52 (fun w54 =>
 K23 w54))))) (kN R))))))))))))) (
 K23 w30)))))) (kN R)))
 ∃ x55, w25.cell? ((blk b3).add 0) = some (.pointer x55) ∧ (
 ∃ q56, x55 = some q56 ∧ (
 ∃ xp57 xn58 xc59, w25.cell? (q56.add 13) = some (.slice xp57 xn58 xc59) ∧ (
 ifB (decide ((x21 : Int) < ((xn58 : Nat) : Int))) (
 ∃ x60, w25.cell? ((blk b3).add 0) = some (.pointer x60) ∧ (
 ∃ q61, x60 = some q61 ∧ (
 ∃ xp62 xn63 xc64, w25.cell? (q61.add 13) = some (.slice xp62 xn63 xc64) ∧ (
 doIx xp62 xn63 2 (x21) (fun a65 =>
 ∃ x66, w25.cell? (a65.add 0) = some (.int .i64 x66) ∧ (
 ∃ x67, w25.cell? (a65.add 1) = some (.int .i64 x67) ∧ (
 doSt ((blk b24).add 0) (.int .i64 x66) w25 (fun w68 =>
 doSt ((blk b24).add 1) (.int .i64 x67) w68 (fun w69 =>
 K27 w69))))))))) (
 K27 w25)))))) (
 R (.returned (.tuple #[])) w20)))))) (kN R)))))))))
theorem sh73_ok (f_1 : OA) (f_2 : Value) {R : EW} {w : World} : sh73 f_1 f_2 R w → Calls Tryz.prog 73 #[.agg #[.pointer f_1, f_2]] w R :=
  Old.calls_of_eq (ann := fun i => if i = 0 then [(15, .int .i64 0)] else []) (fn := Tryz.f73) (c := bodyOf Tryz.f73) (args := #[.agg #[.pointer f_1, f_2]]) 400 follows_mixed Tryz.func73 (by kernel_rfl) (by kernel_rfl)
def sh74 (f_1 : OA) (f_2 : Value) (R : EW) (w : World) : Prop :=
 doAl (.cells #[.pointer f_1, f_2] 103) w (fun b3 w4 =>
 doDr w4 (fun w6 =>
 ∃ (C5 : World → Prop), C5 w6 ∧ (
 ∃ x7, (∀ w, C5 w → w.cell? ((blk b3).add 0) = some (.pointer x7)) ∧ (
 ∃ x8, (∀ w, C5 w → w.cell? ((blk b3).add 1) = some (x8)) ∧ (
 ∃ x9, (∀ w, C5 w → w.cell? ((blk b3).add 0) = some (.pointer x9)) ∧ (
 ∃ q10, x9 = some q10 ∧ (
 doCall Tryz.prog (.func (.func 105) #[] #[]) #[.agg #[.pointer x7, x8], .pointer (some (q10.add 2))] w6 (retS (fun v11 w12 => v11 = (.tuple #[] : Value) ∧ (
 C5 w12 ∧ (
 R (.returned (.tuple #[])) w12))) (kN R)))))))))
theorem sh74_ok (f_1 : OA) (f_2 : Value) {R : EW} {w : World} : sh74 f_1 f_2 R w → Calls Tryz.prog 74 #[.agg #[.pointer f_1, f_2]] w R :=
  ceq Tryz.func74 (by kernel_rfl) (by kernel_rfl)
def sh75 (f_1 : OA) (f_2 : Value) (R : EW) (w : World) : Prop :=
 doAl (.cells #[.pointer f_1, f_2] 103) w (fun b3 w4 =>
 ∃ x5, w4.cell? ((blk b3).add 0) = some (.pointer x5) ∧ (
 ∃ q6, x5 = some q6 ∧ (
 doAl (.cells #[.string (⟨#[]⟩ : ByteArray), .string (⟨#[97, 108, 108]⟩ : ByteArray), .string (⟨#[107, 101, 121]⟩ : ByteArray), .string (⟨#[118, 97, 108]⟩ : ByteArray), .string (⟨#[109, 111, 100]⟩ : ByteArray), .string (⟨#[98, 105, 116, 115]⟩ : ByteArray)] 9) w4 (fun b7 w8 =>
 ∃ x9, w8.cell? ((blk b3).add 1) = some (x9) ∧ (
 let K12 : Bool → World → Prop := fun x10 w11 => 
 ifB x10 (
 doDr w11 (fun w14 =>
 ∃ (C13 : World → Prop), C13 w14 ∧ (
 ∃ x15, (∀ w, C13 w → w.cell? ((blk b3).add 1) = some (x15)) ∧ (
 ∃ q16, (some (q6.add 9)) = some q16 ∧ (
 doNC Tryz.prog (x15) (
 doGo Tryz.prog (.fn (.method "joinery/op.flag") #[]) #[x15, .pointer (some (q16.add 3))] w14 (retS (fun v17 w18 => v17 = (.tuple #[] : Value) ∧ (
 doDr w18 (fun w20 =>
 ∃ (C19 : World → Prop), C19 w20 ∧ (
 ∃ x21, (∀ w, C19 w → w.cell? ((blk b3).add 1) = some (x21)) ∧ (
 ∃ q22, (some (q6.add 9)) = some q22 ∧ (
 doNC Tryz.prog (x21) (
 doGo Tryz.prog (.fn (.method "joinery/op.word") #[]) #[x21, .pointer (some (q22.add 0)), .slice (some (blk b7)) 6 6] w20 (retS (fun v23 w24 => v23 = (.tuple #[] : Value) ∧ (
 ∃ q25, (some (q6.add 9)) = some q25 ∧ (
 ∃ x26, w24.cell? (q25.add 0) = some (.int .u8 x26) ∧ (
 ifB ((x26 : Int) == 1) (
 doEnd (.returning) (
 R (.returned (.tuple #[])) w24) (fun ch27 => R (.panicked ch27) w24)) (
 doDr w24 (fun w29 =>
 ∃ (C28 : World → Prop), C28 w29 ∧ (
 ∃ x30, (∀ w, C28 w → w.cell? ((blk b3).add 1) = some (x30)) ∧ (
 ∃ q31, (some (q6.add 9)) = some q31 ∧ (
 doNC Tryz.prog (x30) (
 doGo Tryz.prog (.fn (.method "joinery/op.num") #[]) #[x30, .pointer (some (q31.add 1))] w29 (retS (fun v32 w33 => v32 = (.tuple #[] : Value) ∧ (
 doDr w33 (fun w35 =>
 ∃ (C34 : World → Prop), C34 w35 ∧ (
 ∃ x36, (∀ w, C34 w → w.cell? ((blk b3).add 1) = some (x36)) ∧ (
 ∃ q37, (some (q6.add 9)) = some q37 ∧ (
 doNC Tryz.prog (x36) (
 doGo Tryz.prog (.fn (.method "joinery/op.num") #[]) #[x36, .pointer (some (q37.add 2))] w35 (retS (fun v38 w39 => v38 = (.tuple #[] : Value) ∧ (
 doEnd (.returning) (
 R (.returned (.tuple #[])) w39) (fun ch40 => R (.panicked ch40) w39))) (fun (ch41 : List PanicEntry) (w42 : World) =>
 doEnd (.panicking ch41) (
 R (.returned (.tuple #[])) w42) (fun ch43 => R (.panicked ch43) w42)))))))))) (fun (ch44 : List PanicEntry) (w45 : World) =>
 doEnd (.panicking ch44) (
 R (.returned (.tuple #[])) w45) (fun ch46 => R (.panicked ch46) w45))))))))))))) (fun (ch47 : List PanicEntry) (w48 : World) =>
 doEnd (.panicking ch47) (
 R (.returned (.tuple #[])) w48) (fun ch49 => R (.panicked ch49) w48)))))))))) (fun (ch50 : List PanicEntry) (w51 : World) =>
 doEnd (.panicking ch50) (
 R (.returned (.tuple #[])) w51) (fun ch52 => R (.panicked ch52) w51))))))))) (
 doDr w11 (fun w54 =>
 ∃ (C53 : World → Prop), C53 w54 ∧ (
 ∃ x55, (∀ w, C53 w → w.cell? ((blk b3).add 1) = some (x55)) ∧ (
 ∃ q56, (some (q6.add 9)) = some q56 ∧ (
 doNC Tryz.prog (x55) (
 doGo Tryz.prog (.fn (.method "joinery/op.word") #[]) #[x55, .pointer (some (q56.add 0)), .slice (some (blk b7)) 6 6] w54 (retS (fun v57 w58 => v57 = (.tuple #[] : Value) ∧ (
 doDr w58 (fun w60 =>
 ∃ (C59 : World → Prop), C59 w60 ∧ (
 ∃ x61, (∀ w, C59 w → w.cell? ((blk b3).add 1) = some (x61)) ∧ (
 doNC Tryz.prog (x61) (
 ∃ q62, (some (q6.add 9)) = some q62 ∧ (
 doDr w60 (fun w64 =>
 ∃ (C63 : World → Prop), C63 w64 ∧ (
 ∃ x65, (∀ w, C63 w → w.cell? ((blk b3).add 1) = some (x65)) ∧ (
 ∃ q66, (some (q6.add 9)) = some q66 ∧ (
 doNC Tryz.prog (x65) (
 doGo Tryz.prog (.fn (.method "joinery/op.num") #[]) #[x65, .pointer (some (q66.add 1))] w64 (retS (fun v67 w68 => v67 = (.tuple #[] : Value) ∧ (
 doDr w68 (fun w70 =>
 ∃ (C69 : World → Prop), C69 w70 ∧ (
 ∃ x71, (∀ w, C69 w → w.cell? ((blk b3).add 1) = some (x71)) ∧ (
 ∃ q72, (some (q6.add 9)) = some q72 ∧ (
 doNC Tryz.prog (x71) (
 doGo Tryz.prog (.fn (.method "joinery/op.num") #[]) #[x71, .pointer (some (q72.add 2))] w70 (retS (fun v73 w74 => v73 = (.tuple #[] : Value) ∧ (
 doDf Tryz.prog (.fn (.method "joinery/op.flag") #[]) #[x61, .pointer (some (q62.add 3))] (.returning) w74 (fun u76 w75 =>
 doEnd (u76) (
 R (.returned (.tuple #[])) w75) (fun ch77 => R (.panicked ch77) w75)))) (fun (ch78 : List PanicEntry) (w79 : World) =>
 doDf Tryz.prog (.fn (.method "joinery/op.flag") #[]) #[x61, .pointer (some (q62.add 3))] (.panicking ch78) w79 (fun u81 w80 =>
 doEnd (u81) (
 R (.returned (.tuple #[])) w80) (fun ch82 => R (.panicked ch82) w80))))))))))) (fun (ch83 : List PanicEntry) (w84 : World) =>
 doDf Tryz.prog (.fn (.method "joinery/op.flag") #[]) #[x61, .pointer (some (q62.add 3))] (.panicking ch83) w84 (fun u86 w85 =>
 doEnd (u86) (
 R (.returned (.tuple #[])) w85) (fun ch87 => R (.panicked ch87) w85)))))))))))))))) (fun (ch88 : List PanicEntry) (w89 : World) =>
 doEnd (.panicking ch88) (
 R (.returned (.tuple #[])) w89) (fun ch90 => R (.panicked ch90) w89)))))))))
 doTA Tryz.prog (x9) 97 61 true w8 (fun v93 => ∃ x91 x92, v93 = (.tuple #[.pointer x91, .bool x92] : Value) ∧ (
 doTA Tryz.prog (x9) 97 85 true w8 (fun v96 => ∃ x94 x95, v96 = (.tuple #[.pointer x94, .bool x95] : Value) ∧ (
 ifB x92 (K12 true w8) (K12 x95 w8))))))))))
theorem sh75_ok (f_1 : OA) (f_2 : Value) {R : EW} {w : World} : sh75 f_1 f_2 R w → Calls Tryz.prog 75 #[.agg #[.pointer f_1, f_2]] w R :=
  calls_of_eqN (ann := fun _ => []) (fn := Tryz.f75) (c := bodyOf Tryz.f75) (args := #[.agg #[.pointer f_1, f_2]]) 400 follows_mixed Tryz.func75 (by kernel_rfl) (by rfl) (by kernel_rfl)
def sh76 (f_1 : OA) (f_2 : Value) (R : EW) (w : World) : Prop :=
 doAl (.cells #[.pointer f_1, f_2] 103) w (fun b3 w4 =>
 ∃ x5, w4.cell? ((blk b3).add 0) = some (.pointer x5) ∧ (
 ∃ q6, x5 = some q6 ∧ (
 ∃ xp7 xn8 xc9, w4.cell? (q6.add 14) = some (.slice xp7 xn8 xc9) ∧ (
 doAl (.cells #[.int .i64 0] 3) w4 (fun b10 w11 =>
 doSt ((blk b10).add 0) (.int .i64 ((xn8 : Nat) : Int)) w11 (fun w12 =>
 ∃ x13, w12.cell? ((blk b3).add 1) = some (x13) ∧ (
 doGo Tryz.prog (.fn (.method "joinery/op.many") #[]) #[x13, .pointer (some (blk b10))] w12 (retS (fun v14 w15 => v14 = (.tuple #[] : Value) ∧ (
 ∃ x16, w15.cell? (blk b10) = some (.int .i64 x16) ∧ (
 ∃ (I17 : List Value → World → Prop) (μ18 : List Value → World → Nat), I17 [.int .i64 0] w15 ∧ (∀ (x21 : Int), ∀ (_j19 : Nat → Value) (w20 : World), I17 [.int .i64 x21] w20 → (
 ifB (decide ((x21 : Int) < x16)) (
 let K23 : World → Prop := fun w22 => 
 I17 [.int .i64 (IntKind.wrap .i64 (x21 + 1))] w22 ∧ μ18 [.int .i64 (IntKind.wrap .i64 (x21 + 1))] w22 < μ18 [.int .i64 x21] w20
 doAl (.cells #[.int .i64 0] 2) w20 (fun b24 w25 =>
 let K27 : World → Prop := fun w26 => 
 ∃ x28, w26.cell? ((blk b3).add 1) = some (x28) ∧ (
 doGo Tryz.prog (.fn (.method "joinery/op.num") #[]) #[x28, .pointer (some (blk b24))] w26 (retS (fun v29 w30 => v29 = (.tuple #[] : Value) ∧ (
 ∃ x31, w30.cell? ((blk b3).add 0) = some (.pointer x31) ∧ (
 ∃ q32, x31 = some q32 ∧ (
 ∃ xp33 xn34 xc35, w30.cell? (q32.add 14) = some (.slice xp33 xn34 xc35) ∧ (
 ifB ((x21 : Int) == ((xn34 : Nat) : Int)) (
 doDr w30 (fun w37 =>
 ∃ (C36 : World → Prop), C36 w37 ∧ (
 ∃ x38, (∀ w, C36 w → w.cell? ((blk b3).add 0) = some (.pointer x38)) ∧ (
 ∃ x39, (∀ w, C36 w → w.cell? ((blk b3).add 0) = some (.pointer x39)) ∧ (
 ∃ q40, x39 = some q40 ∧ (
 ∃ xp41 xn42 xc43, (∀ w, C36 w → w.cell? (q40.add 14) = some (.slice xp41 xn42 xc43)) ∧ (
 ∃ x44, (∀ w, C36 w → w.cell? (blk b24) = some (.int .i64 x44)) ∧ (
 doAl (.cells #[.int .i64 x44] 2) w37 (fun b45 w46 =>
 C36 w46 ∧ (
 doGo Tryz.prog (.builtin .append #[35, 35] 35 #[false, false]) #[.slice xp41 xn42 xc43, .slice (some (blk b45)) 1 1] w46 (retS (fun v50 w51 => ∃ xp47 xn48 xc49, v50 = (.slice xp47 xn48 xc49 : Value) ∧ (
 C36 w51 ∧ (
 ∃ q52, x38 = some q52 ∧ (
 doSt ((q52.add 14).add 0) (.slice xp47 xn48 xc49) w51 (fun w53 =>
 K23 w53))))) (kN R)))))))))))) (
 K23 w30)))))) (kN R)))
 ∃ x54, w25.cell? ((blk b3).add 0) = some (.pointer x54) ∧ (
 ∃ q55, x54 = some q55 ∧ (
 ∃ xp56 xn57 xc58, w25.cell? (q55.add 14) = some (.slice xp56 xn57 xc58) ∧ (
 ifB (decide ((x21 : Int) < ((xn57 : Nat) : Int))) (
 ∃ x59, w25.cell? ((blk b3).add 0) = some (.pointer x59) ∧ (
 ∃ q60, x59 = some q60 ∧ (
 ∃ xp61 xn62 xc63, w25.cell? (q60.add 14) = some (.slice xp61 xn62 xc63) ∧ (
 doIx xp61 xn62 1 (x21) (fun a64 =>
 ∃ x65, w25.cell? a64 = some (.int .i64 x65) ∧ (
 doSt ((blk b24).add 0) (.int .i64 x65) w25 (fun w66 =>
 K27 w66))))))) (
 K27 w25)))))) (
 R (.returned (.tuple #[])) w20)))))) (kN R)))))))))
theorem sh76_ok (f_1 : OA) (f_2 : Value) {R : EW} {w : World} : sh76 f_1 f_2 R w → Calls Tryz.prog 76 #[.agg #[.pointer f_1, f_2]] w R :=
  Old.calls_of_eq (ann := fun i => if i = 0 then [(15, .int .i64 0)] else []) (fn := Tryz.f76) (c := bodyOf Tryz.f76) (args := #[.agg #[.pointer f_1, f_2]]) 400 follows_mixed Tryz.func76 (by kernel_rfl) (by kernel_rfl)
def sh77 (f_1 : OA) (f_2 : Value) (R : EW) (w : World) : Prop :=
 doAl (.cells #[.pointer f_1, f_2] 103) w (fun b3 w4 =>
 doDr w4 (fun w6 =>
 ∃ (C5 : World → Prop), C5 w6 ∧ (
 ∃ x7, (∀ w, C5 w → w.cell? ((blk b3).add 0) = some (.pointer x7)) ∧ (
 ∃ x8, (∀ w, C5 w → w.cell? ((blk b3).add 1) = some (x8)) ∧ (
 ∃ x9, (∀ w, C5 w → w.cell? ((blk b3).add 0) = some (.pointer x9)) ∧ (
 ∃ q10, x9 = some q10 ∧ (
 doCall Tryz.prog (.func (.func 105) #[] #[]) #[.agg #[.pointer x7, x8], .pointer (some (q10.add 7))] w6 (retS (fun v11 w12 => v11 = (.tuple #[] : Value) ∧ (
 C5 w12 ∧ (
 R (.returned (.tuple #[])) w12))) (kN R)))))))))
theorem sh77_ok (f_1 : OA) (f_2 : Value) {R : EW} {w : World} : sh77 f_1 f_2 R w → Calls Tryz.prog 77 #[.agg #[.pointer f_1, f_2]] w R :=
  ceq Tryz.func77 (by kernel_rfl) (by kernel_rfl)
def sh78 (f_1 : OA) (f_2 : Value) (R : EW) (w : World) : Prop :=
 doAl (.cells #[.pointer f_1, f_2] 103) w (fun b3 w4 =>
 doDr w4 (fun w6 =>
 ∃ (C5 : World → Prop), C5 w6 ∧ (
 ∃ x7, (∀ w, C5 w → w.cell? ((blk b3).add 1) = some (x7)) ∧ (
 ∃ x8, (∀ w, C5 w → w.cell? ((blk b3).add 0) = some (.pointer x8)) ∧ (
 ∃ q9, x8 = some q9 ∧ (
 doNC Tryz.prog (x7) (
 doGo Tryz.prog (.fn (.method "joinery/op.num") #[]) #[x7, .pointer (some (q9.add 5))] w6 (retS (fun v10 w11 => v10 = (.tuple #[] : Value) ∧ (
 C5 w11 ∧ (
 R (.returned (.tuple #[])) w11))) (kN R)))))))))
theorem sh78_ok (f_1 : OA) (f_2 : Value) {R : EW} {w : World} : sh78 f_1 f_2 R w → Calls Tryz.prog 78 #[.agg #[.pointer f_1, f_2]] w R :=
  ceq Tryz.func78 (by kernel_rfl) (by kernel_rfl)
def sh79 (f_1 : OA) (f_2 : Value) (R : EW) (w : World) : Prop :=
 doAl (.cells #[.pointer f_1, f_2] 103) w (fun b3 w4 =>
 doDr w4 (fun w6 =>
 ∃ (C5 : World → Prop), C5 w6 ∧ (
 ∃ x7, (∀ w, C5 w → w.cell? ((blk b3).add 1) = some (x7)) ∧ (
 ∃ x8, (∀ w, C5 w → w.cell? ((blk b3).add 0) = some (.pointer x8)) ∧ (
 ∃ q9, x8 = some q9 ∧ (
 doNC Tryz.prog (x7) (
 doGo Tryz.prog (.fn (.method "joinery/op.num") #[]) #[x7, .pointer (some (q9.add 6))] w6 (retS (fun v10 w11 => v10 = (.tuple #[] : Value) ∧ (
 C5 w11 ∧ (
 R (.returned (.tuple #[])) w11))) (kN R)))))))))
theorem sh79_ok (f_1 : OA) (f_2 : Value) {R : EW} {w : World} : sh79 f_1 f_2 R w → Calls Tryz.prog 79 #[.agg #[.pointer f_1, f_2]] w R :=
  ceq Tryz.func79 (by kernel_rfl) (by kernel_rfl)
def sh81 (a_1 : Int) (_x2 : Int) (R : EW) (w : World) : Prop :=
 R (.returned (.int .i64 a_1)) w
theorem sh81_ok (a_1 : Int) (x2 : Int) {R : EW} {w : World} : sh81 a_1 x2 R w → Calls Tryz.prog 81 #[.int .i64 a_1, .int .i64 x2] w R :=
  ceq Tryz.func81 (by kernel_rfl) (by kernel_rfl)
def sh82 (_x1 : Int) (b_2 : Int) (R : EW) (w : World) : Prop :=
 R (.returned (.int .i64 b_2)) w
theorem sh82_ok (x1 : Int) (b_2 : Int) {R : EW} {w : World} : sh82 x1 b_2 R w → Calls Tryz.prog 82 #[.int .i64 x1, .int .i64 b_2] w R :=
  ceq Tryz.func82 (by kernel_rfl) (by kernel_rfl)
def sh83 (a_1 : Int) (b_2 : Int) (R : EW) (w : World) : Prop :=
 R (.returned (.int .i64 (IntKind.wrap .i64 (a_1 + b_2)))) w
theorem sh83_ok (a_1 : Int) (b_2 : Int) {R : EW} {w : World} : sh83 a_1 b_2 R w → Calls Tryz.prog 83 #[.int .i64 a_1, .int .i64 b_2] w R :=
  ceq Tryz.func83 (by kernel_rfl) (by kernel_rfl)
def sh84 (_x1 : Int) (_x2 : Int) (R : EW) (w : World) : Prop :=
 R (.returned (.bool true)) w
theorem sh84_ok (x1 : Int) (x2 : Int) {R : EW} {w : World} : sh84 x1 x2 R w → Calls Tryz.prog 84 #[.int .i64 x1, .int .i64 x2] w R :=
  ceq Tryz.func84 (by kernel_rfl) (by kernel_rfl)
end Go.Proofs.YtmkpkmdnapccgaaGreatDoor

namespace Go.Proofs.YtmkpkmdnapccgaaGreatDoor
open Go Go.Sh
def sh85 (a_1 : Int) (b_2 : Int) (v_3 : Int) (R : EW) (w : World) : Prop :=
 let K6 : Bool → World → Prop := fun x4 w5 => 
 R (.returned (.bool x4)) w5
 ifB (decide ((v_3 : Int) ≥ a_1)) (
 K6 (decide ((v_3 : Int) ≤ b_2)) w) (
 R (.returned (.bool false)) w)
theorem sh85_ok (a_1 : Int) (b_2 : Int) (v_3 : Int) {R : EW} {w : World} : sh85 a_1 b_2 v_3 R w → Calls Tryz.prog 85 #[.int .i64 a_1, .int .i64 b_2, .int .i64 v_3] w R :=
  ceq Tryz.func85 (by kernel_rfl) (by kernel_rfl)
def sh86 (a_1 : Int) (b_2 : Int) (R : EW) (w : World) : Prop :=
 let K5 : Bool → World → Prop := fun x3 w4 => 
 R (.returned (.bool x3)) w4
 ifB ((a_1 : Int) == 0) (
 K5 ((b_2 : Int) == 0) w) (
 R (.returned (.bool false)) w)
theorem sh86_ok (a_1 : Int) (b_2 : Int) {R : EW} {w : World} : sh86 a_1 b_2 R w → Calls Tryz.prog 86 #[.int .i64 a_1, .int .i64 b_2] w R :=
  ceq Tryz.func86 (by kernel_rfl) (by kernel_rfl)
def sh87 (_x1 : Int) (_x2 : Int) (x3 : Int) (x4 : Int) (R : EW) (w : World) : Prop :=
 doAl (.cells #[.int .i64 x3, .int .i64 x4] 49) w (fun _b5 w6 =>
 R (.returned (.bool true)) w6)
theorem sh87_ok (x1 : Int) (x2 : Int) (x3 : Int) (x4 : Int) {R : EW} {w : World} : sh87 x1 x2 x3 x4 R w → Calls Tryz.prog 87 #[.int .i64 x1, .int .i64 x2, .agg #[.int .i64 x3, .int .i64 x4]] w R :=
  ceq Tryz.func87 (by kernel_rfl) (by kernel_rfl)
def sh88 (a_1 : Int) (b_2 : Int) (x_3 : Int) (x_4 : Int) (x5 : Addr) (R : EW) (w : World) : Prop :=
 doAl (.cells #[.int .i64 x_3, .int .i64 x_4] 49) w (fun b6 w7 =>
 ∃ xf8 xx9 xc10, w7.cell? x5 = some (.func xf8 xx9 xc10) ∧ (
 ∃ x11, w7.cell? ((blk b6).add 0) = some (.int .i64 x11) ∧ (
 doCall Tryz.prog (.func xf8 xx9 xc10) #[.int .i64 a_1, .int .i64 b_2, .int .i64 x11] w7 (retS (fun v13 w14 => ∃ x12, v13 = (.bool x12 : Value) ∧ (
 R (.returned (.bool x12)) w14)) (kN R)))))
theorem sh88_ok (a_1 : Int) (b_2 : Int) (x_3 : Int) (x_4 : Int) (x5 : Addr) {R : EW} {w : World} : sh88 a_1 b_2 x_3 x_4 x5 R w → Calls Tryz.prog 88 #[.int .i64 a_1, .int .i64 b_2, .agg #[.int .i64 x_3, .int .i64 x_4], .pointer (some x5)] w R :=
  ceq Tryz.func88 (by kernel_rfl) (by kernel_rfl)
def sh89 (a_1 : Int) (b_2 : Int) (x_3 : Int) (x_4 : Int) (x5 : Addr) (R : EW) (w : World) : Prop :=
 doAl (.cells #[.int .i64 x_3, .int .i64 x_4] 49) w (fun b6 w7 =>
 ∃ xf8 xx9 xc10, w7.cell? x5 = some (.func xf8 xx9 xc10) ∧ (
 ∃ x11, w7.cell? ((blk b6).add 1) = some (.int .i64 x11) ∧ (
 doCall Tryz.prog (.func xf8 xx9 xc10) #[.int .i64 a_1, .int .i64 b_2, .int .i64 x11] w7 (retS (fun v13 w14 => ∃ x12, v13 = (.bool x12 : Value) ∧ (
 R (.returned (.bool x12)) w14)) (kN R)))))
theorem sh89_ok (a_1 : Int) (b_2 : Int) (x_3 : Int) (x_4 : Int) (x5 : Addr) {R : EW} {w : World} : sh89 a_1 b_2 x_3 x_4 x5 R w → Calls Tryz.prog 89 #[.int .i64 a_1, .int .i64 b_2, .agg #[.int .i64 x_3, .int .i64 x_4], .pointer (some x5)] w R :=
  ceq Tryz.func89 (by kernel_rfl) (by kernel_rfl)
def sh90 (a_1 : Int) (b_2 : Int) (R : EW) (w : World) : Prop :=
 let K5 : Bool → World → Prop := fun x3 w4 => 
 R (.returned (.bool x3)) w4
 ifB (decide ((a_1 : Int) > 0)) (
 ifB (decide ((b_2 : Int) ≥ 0)) (
 K5 (decide ((b_2 : Int) < a_1)) w) (
 R (.returned (.bool false)) w)) (
 R (.returned (.bool false)) w)
theorem sh90_ok (a_1 : Int) (b_2 : Int) {R : EW} {w : World} : sh90 a_1 b_2 R w → Calls Tryz.prog 90 #[.int .i64 a_1, .int .i64 b_2] w R :=
  ceq Tryz.func90 (by kernel_rfl) (by kernel_rfl)
def sh91 (a_1 : Int) (b_2 : Int) (x_3 : Int) (x_4 : Int) (R : EW) (w : World) : Prop :=
 doAl (.cells #[.int .i64 x_3, .int .i64 x_4] 49) w (fun b5 w6 =>
 let K9 : Bool → World → Prop := fun x7 w8 => 
 R (.returned (.bool x7)) w8
 ∃ x10, w6.cell? ((blk b5).add 0) = some (.int .i64 x10) ∧ (
 a_1 ≠ (0 : Int) ∧ (
 ifB (((Int.tmod x10 a_1) : Int) == b_2) (
 R (.returned (.bool true)) w6) (
 ∃ x11, w6.cell? ((blk b5).add 0) = some (.int .i64 x11) ∧ (
 a_1 ≠ (0 : Int) ∧ (
 K9 (((IntKind.wrap .i64 ((Int.tmod x11 a_1) + a_1)) : Int) == b_2) w6))))))
theorem sh91_ok (a_1 : Int) (b_2 : Int) (x_3 : Int) (x_4 : Int) {R : EW} {w : World} : sh91 a_1 b_2 x_3 x_4 R w → Calls Tryz.prog 91 #[.int .i64 a_1, .int .i64 b_2, .agg #[.int .i64 x_3, .int .i64 x_4]] w R :=
  ceq Tryz.func91 (by kernel_rfl) (by kernel_rfl)
def sh92 (a_1 : Int) (b_2 : Int) (R : EW) (w : World) : Prop :=
 R (.returned (.bool (((bOr .i64 a_1 b_2) : Int) == a_1))) w
theorem sh92_ok (a_1 : Int) (b_2 : Int) {R : EW} {w : World} : sh92 a_1 b_2 R w → Calls Tryz.prog 92 #[.int .i64 a_1, .int .i64 b_2] w R :=
  ceq Tryz.func92 (by kernel_rfl) (by kernel_rfl)
def sh93 (a_1 : Int) (b_2 : Int) (x_3 : Int) (x_4 : Int) (R : EW) (w : World) : Prop :=
 doAl (.cells #[.int .i64 x_3, .int .i64 x_4] 49) w (fun b5 w6 =>
 ∃ x7, w6.cell? ((blk b5).add 0) = some (.int .i64 x7) ∧ (
 R (.returned (.bool (((bAnd .i64 x7 a_1) : Int) == b_2))) w6))
theorem sh93_ok (a_1 : Int) (b_2 : Int) (x_3 : Int) (x_4 : Int) {R : EW} {w : World} : sh93 a_1 b_2 x_3 x_4 R w → Calls Tryz.prog 93 #[.int .i64 a_1, .int .i64 b_2, .agg #[.int .i64 x_3, .int .i64 x_4]] w R :=
  ceq Tryz.func93 (by kernel_rfl) (by kernel_rfl)
def sh105 (f_1 : OA) (f_2 : Value) (n_3 : OA) (R : EW) (w : World) : Prop :=
 doAl (.cells #[.pointer f_1, f_2] 103) w (fun b4 w5 =>
 ∃ q6, n_3 = some q6 ∧ (
 ∃ x7, w5.cell? q6 = some (.int .i64 x7) ∧ (
 doAl (.cells #[.int .i64 0] 2) w5 (fun b8 w9 =>
 doSt ((blk b8).add 0) (.int .i64 x7) w9 (fun w10 =>
 ∃ x11, w10.cell? ((blk b4).add 1) = some (x11) ∧ (
 doGo Tryz.prog (.fn (.method "joinery/op.num") #[]) #[x11, .pointer (some (blk b8))] w10 (retS (fun v12 w13 => v12 = (.tuple #[] : Value) ∧ (
 ∃ x14, w13.cell? (blk b8) = some (.int .i64 x14) ∧ (
 ∃ q15, n_3 = some q15 ∧ (
 doSt (q15.add 0) (.int .i64 x14) w13 (fun w16 =>
 R (.returned (.tuple #[])) w16))))) (kN R))))))))
theorem sh105_ok (f_1 : OA) (f_2 : Value) (n_3 : OA) {R : EW} {w : World} : sh105 f_1 f_2 n_3 R w → Calls Tryz.prog 105 #[.agg #[.pointer f_1, f_2], .pointer n_3] w R :=
  ceq Tryz.func105 (by kernel_rfl) (by kernel_rfl)
def sh157 (c_1 : OA) (is_2 : OA) (R : EW) (w : World) : Prop :=
 doAl (.cells #[.int .u8 0] 5) w (fun b3 w4 =>
 doSt ((blk b3).add 0) (.int .u8 0) w4 (fun w5 =>
 let K7 : World → Prop := fun w6 => 
 doCall Tryz.prog (.func (.func 161) #[] #[]) #[.pointer c_1, .pointer (some (blk b3)), .slice none 0 0] w6 (retS (fun v8 w9 => v8 = (.tuple #[] : Value) ∧ (
 R (.returned (.tuple #[])) w9)) (kN R))
 ∃ q10, is_2 = some q10 ∧ (
 ∃ x11, w5.cell? q10 = some (.bool x11) ∧ (
 ifB x11 (
 doSt ((blk b3).add 0) (.int .u8 1) w5 (fun w12 =>
 K7 w12)) (
 K7 w5)))))
theorem sh157_ok (c_1 : OA) (is_2 : OA) {R : EW} {w : World} : sh157 c_1 is_2 R w → Calls Tryz.prog 157 #[.pointer c_1, .pointer is_2] w R :=
  ceq Tryz.func157 (by kernel_rfl) (by kernel_rfl)
def sh158 (c_1 : OA) (n_2 : OA) (R : EW) (w : World) : Prop :=
 ∃ q3, n_2 = some q3 ∧ (
 ∃ x4, w.cell? q3 = some (.int .i64 x4) ∧ (
 doAl (.cells #[.int .i64 0] 2) w (fun b5 w6 =>
 doSt ((blk b5).add 0) (.int .i64 x4) w6 (fun w7 =>
 doCall Tryz.prog (.func (.func 159) #[] #[]) #[.pointer c_1, .pointer (some (blk b5))] w7 (retS (fun v8 w9 => v8 = (.tuple #[] : Value) ∧ (
 R (.returned (.tuple #[])) w9)) (kN R))))))
theorem sh158_ok (c_1 : OA) (n_2 : OA) {R : EW} {w : World} : sh158 c_1 n_2 R w → Calls Tryz.prog 158 #[.pointer c_1, .pointer n_2] w R :=
  ceq Tryz.func158 (by kernel_rfl) (by kernel_rfl)
def sh159 (c_1 : OA) (v_2 : OA) (R : EW) (w : World) : Prop :=
 ∃ q3, v_2 = some q3 ∧ (
 ∃ x4, w.cell? q3 = some (.int .i64 x4) ∧ (
 doCall Tryz.prog (.func (.func 162) #[] #[]) #[.int .u8 3, .int .i64 x4] w (retS (fun v7 w8 => ∃ x5 x6, v7 = (.tuple #[.int .u64 x5, .int .i64 x6] : Value) ∧ (
 ∃ (I9 : List Value → World → Prop) (μ10 : List Value → World → Nat), I9 [.int .u64 x5] w8 ∧ (∀ (u_13 : Int), ∀ (_j11 : Nat → Value) (w12 : World), I9 [.int .u64 u_13] w12 → (
 ifB (decide ((u_13 : Int) ≥ 128)) (
 ∃ q14, c_1 = some q14 ∧ (
 ∃ xp15 xn16 xc17, w12.cell? (q14.add 0) = some (.slice xp15 xn16 xc17) ∧ (
 doAl (.cells #[.int .u8 (bOr .u8 (IntKind.wrap .u8 u_13) 128)] 5) w12 (fun b18 w19 =>
 doGo Tryz.prog (.builtin .append #[51, 51] 51 #[false, false]) #[.slice xp15 xn16 xc17, .slice (some (blk b18)) 1 1] w19 (retS (fun v23 w24 => ∃ xp20 xn21 xc22, v23 = (.slice xp20 xn21 xc22 : Value) ∧ (
 ∃ q25, c_1 = some q25 ∧ (
 doSt ((q25.add 0).add 0) (.slice xp20 xn21 xc22) w24 (fun w26 =>
 (0 : Int) ≤ 7 ∧ (
 I9 [.int .u64 (Int.fdiv u_13 (2 ^ (min (7 : Int).toNat (IntKind.bits .u64))))] w26 ∧ μ10 [.int .u64 (Int.fdiv u_13 (2 ^ (min (7 : Int).toNat (IntKind.bits .u64))))] w26 < μ10 [.int .u64 u_13] w12))))) (kN R)))))) (
 ∃ q27, c_1 = some q27 ∧ (
 ∃ xp28 xn29 xc30, w12.cell? (q27.add 0) = some (.slice xp28 xn29 xc30) ∧ (
 doAl (.cells #[.int .u8 (IntKind.wrap .u8 u_13)] 5) w12 (fun b31 w32 =>
 doGo Tryz.prog (.builtin .append #[51, 51] 51 #[false, false]) #[.slice xp28 xn29 xc30, .slice (some (blk b31)) 1 1] w32 (retS (fun v36 w37 => ∃ xp33 xn34 xc35, v36 = (.slice xp33 xn34 xc35 : Value) ∧ (
 ∃ q38, c_1 = some q38 ∧ (
 doSt ((q38.add 0).add 0) (.slice xp33 xn34 xc35) w37 (fun w39 =>
 R (.returned (.tuple #[])) w39)))) (kN R)))))))))) (kN R))))
theorem sh159_ok (c_1 : OA) (v_2 : OA) {R : EW} {w : World} : sh159 c_1 v_2 R w → Calls Tryz.prog 159 #[.pointer c_1, .pointer v_2] w R :=
  Old.calls_of_eq (ann := fun i => if i = 0 then [(4, .int .u64 0)] else []) (fn := Tryz.f159) (c := bodyOf Tryz.f159) (args := #[.pointer c_1, .pointer v_2]) 400 follows_mixed Tryz.func159 (by kernel_rfl) (by kernel_rfl)
def sh160 (c_1 : OA) (x_2 : OA) (R : EW) (w : World) : Prop :=
 ∃ q3, x_2 = some q3 ∧ (
 doCall Tryz.prog (.func (.func 159) #[] #[]) #[.pointer c_1, .pointer (some (q3.add 0))] w (retS (fun v4 w5 => v4 = (.tuple #[] : Value) ∧ (
 ∃ q6, x_2 = some q6 ∧ (
 doCall Tryz.prog (.func (.func 159) #[] #[]) #[.pointer c_1, .pointer (some (q6.add 1))] w5 (retS (fun v7 w8 => v7 = (.tuple #[] : Value) ∧ (
 R (.returned (.tuple #[])) w8)) (kN R))))) (kN R)))
theorem sh160_ok (c_1 : OA) (x_2 : OA) {R : EW} {w : World} : sh160 c_1 x_2 R w → Calls Tryz.prog 160 #[.pointer c_1, .pointer x_2] w R :=
  ceq Tryz.func160 (by kernel_rfl) (by kernel_rfl)
end Go.Proofs.YtmkpkmdnapccgaaGreatDoor

