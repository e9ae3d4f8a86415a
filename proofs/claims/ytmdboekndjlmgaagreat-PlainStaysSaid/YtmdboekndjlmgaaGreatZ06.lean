/-
  Printed by a program (gen.py): what the functions of the program do, as formulas; each with the proof that its call is what the formula says.
-/
import Derived.Test.YtmdboekndjlmgaaGreatZ04
import Derived.Test.YtmdboekndjlmgaaGreatProg
import Derived.Test.YtmdboekndjlmgaaGreatZ05

set_option maxRecDepth 100000
set_option maxHeartbeats 6400000
namespace Go.Proofs.YtmdboekndjlmgaaGreat
open Go Go.Sh
def sh29n (b_1 : OA) (x_2 : Int) (x_3 : Int) (x_4 : Int) (x_5 : Int) (x_6 : Int) (x_7 : Int) (x_8 : Int) (x_9 : Int) (x_10 : Int) (x_11 : Int) (x_12 : Int) (x_13 : Int) (x_14 : Bool) (x_p15 : OA) (x_n16 : Nat) (x_c17 : Nat) (x_p18 : OA) (x_n19 : Nat) (x_c20 : Nat) (k_21 : Int) (k_22 : Bool) (k_23 : Bool) (k_24 : Bool) (R : EW) (w : World) : Prop :=
 doAl (.cells #[.int .u8 x_2, .int .i64 x_3, .int .i64 x_4, .int .i64 x_5, .int .i64 x_6, .int .i64 x_7, .int .i64 x_8, .int .i64 x_9, .int .u8 x_10, .int .u8 x_11, .int .i64 x_12, .int .i64 x_13, .bool x_14, .slice x_p15 x_n16 x_c17, .slice x_p18 x_n19 x_c20] 30) w (fun b25 w26 =>
 doAl (.cells #[.int .i64 k_21, .bool k_22, .bool k_23, .bool k_24, .nilFunc] 73) w26 (fun b27 w28 =>
 let K30 : World → Prop := fun w29 => 
 R (.returned (.int .i64 0)) w29
 ∃ x31, w28.cell? ((blk b25).add 0) = some (.int .u8 x31) ∧ (
 ∃ x32, w28.cell? ((blk b25).add 1) = some (.int .i64 x32) ∧ (
 ∃ x33, w28.cell? ((blk b25).add 2) = some (.int .i64 x33) ∧ (
 ∃ x34, w28.cell? ((blk b25).add 3) = some (.int .i64 x34) ∧ (
 ∃ x35, w28.cell? ((blk b25).add 4) = some (.int .i64 x35) ∧ (
 ∃ x36, w28.cell? ((blk b25).add 5) = some (.int .i64 x36) ∧ (
 ∃ x37, w28.cell? ((blk b25).add 6) = some (.int .i64 x37) ∧ (
 ∃ x38, w28.cell? ((blk b25).add 7) = some (.int .i64 x38) ∧ (
 ∃ x39, w28.cell? ((blk b25).add 8) = some (.int .u8 x39) ∧ (
 ∃ x40, w28.cell? ((blk b25).add 9) = some (.int .u8 x40) ∧ (
 ∃ x41, w28.cell? ((blk b25).add 10) = some (.int .i64 x41) ∧ (
 ∃ x42, w28.cell? ((blk b25).add 11) = some (.int .i64 x42) ∧ (
 ∃ x43, w28.cell? ((blk b25).add 12) = some (.bool x43) ∧ (
 ∃ xp44 xn45 xc46, w28.cell? ((blk b25).add 13) = some (.slice xp44 xn45 xc46) ∧ (
 ∃ xp47 xn48 xc49, w28.cell? ((blk b25).add 14) = some (.slice xp47 xn48 xc49) ∧ (
 doCall Tryz.prog (.func (.func 81) #[] #[]) #[.agg #[.int .u8 x31, .int .i64 x32, .int .i64 x33, .int .i64 x34, .int .i64 x35, .int .i64 x36, .int .i64 x37, .int .i64 x38, .int .u8 x39, .int .u8 x40, .int .i64 x41, .int .i64 x42, .bool x43, .slice xp44 xn45 xc46, .slice xp47 xn48 xc49]] w28 (retS (fun v51 w52 => ∃ x50, v51 = (.int .i64 x50 : Value) ∧ (
 ifB ((x50 : Int) != 0) (
 R (.returned (.int .i64 2)) w52) (
 let K55 : Bool → World → Prop := fun x53 w54 => 
 ifB x53 (
 R (.returned (.int .i64 3)) w54) (
 doDr w54 (fun w57 =>
 ∃ (C56 : World → Prop), C56 w57 ∧ (
 ∃ q58, b_1 = some q58 ∧ (
 ∃ xp59 xn60 xc61, (∀ w, C56 w → w.cell? (q58.add 1) = some (.slice xp59 xn60 xc61)) ∧ (
 ∃ x62, (∀ w, C56 w → w.cell? ((blk b27).add 0) = some (.int .i64 x62)) ∧ (
 ifB (decide (((IntKind.wrap .i64 (((xn60 : Nat) : Int) + x62)) : Int) > 4096)) (
 R (.returned (.int .i64 4)) w57) (
 let K65 : Bool → World → Prop := fun x63 w64 => 
 ifB x63 (
 R (.returned (.int .i64 320)) w64) (
 let K68 : Bool → World → Prop := fun x66 w67 => 
 ifB x66 (
 R (.returned (.int .i64 330)) w67) (
 K30 w67)
 doDr w64 (fun w70 =>
 ∃ (C69 : World → Prop), C69 w70 ∧ (
 ∃ x71, (∀ w, C69 w → w.cell? ((blk b27).add 3) = some (.bool x71)) ∧ (
 ifB x71 (
 ∃ q72, b_1 = some q72 ∧ (
 ∃ x73, (∀ w, C69 w → w.cell? (q72.add 0) = some (.int .u8 x73)) ∧ (
 ∃ x74, (∀ w, C69 w → w.cell? ((blk b25).add 6) = some (.int .i64 x74)) ∧ (
 ∃ x75, (∀ w, C69 w → w.cell? ((blk b25).add 5) = some (.int .i64 x75)) ∧ (
 doCall Tryz.prog (.func (.func 54) #[] #[]) #[.int .u8 x73, .int .i64 x74, .int .i64 x75] w70 (retS (fun v77 w78 => ∃ x76, v77 = (.int .i64 x76 : Value) ∧ (
 C69 w78 ∧ (
 K68 (decide ((x76 : Int) < 0)) w78))) (kN R))))))) (
 K30 w70)))))
 doDr w57 (fun w80 =>
 ∃ (C79 : World → Prop), C79 w80 ∧ (
 ∃ x81, (∀ w, C79 w → w.cell? ((blk b25).add 0) = some (.int .u8 x81)) ∧ (
 ifB ((x81 : Int) == 17) (
 ∃ x82, (∀ w, C79 w → w.cell? ((blk b25).add 7) = some (.int .i64 x82)) ∧ (
 ifB (decide ((x82 : Int) < 0)) (
 R (.returned (.int .i64 320)) w80) (
 ∃ x83, (∀ w, C79 w → w.cell? ((blk b25).add 7) = some (.int .i64 x83)) ∧ (
 ∃ q84, b_1 = some q84 ∧ (
 ∃ xp85 xn86 xc87, (∀ w, C79 w → w.cell? (q84.add 1) = some (.slice xp85 xn86 xc87)) ∧ (
 ∃ x88, (∀ w, C79 w → w.cell? ((blk b25).add 1) = some (.int .i64 x88)) ∧ (
 doIx xp85 xn86 1 (x88) (fun a89 =>
 ∃ xp90 xn91 xc92, (∀ w, C79 w → w.cell? a89 = some (.slice xp90 xn91 xc92)) ∧ (
 K65 (decide ((x83 : Int) ≥ ((xn91 : Nat) : Int))) w80))))))))) (
 K65 false w80)))))))))))
 let K95 : Bool → World → Prop := fun x93 w94 => 
 ifB x93 (
 R (.returned (.int .i64 3)) w94) (
 ∃ x96, w94.cell? ((blk b27).add 2) = some (.bool x96) ∧ (
 ifB x96 (
 ∃ x97, w94.cell? ((blk b25).add 2) = some (.int .i64 x97) ∧ (
 doCall Tryz.prog (.func (.func 26) #[] #[]) #[.pointer b_1, .int .i64 x97] w94 (retS (fun v99 w100 => ∃ x98, v99 = (.bool x98 : Value) ∧ (
 K55 (!x98) w100)) (kN R)))) (
 K55 false w94)))
 ∃ x101, w52.cell? ((blk b27).add 1) = some (.bool x101) ∧ (
 ifB x101 (
 ∃ x102, w52.cell? ((blk b25).add 1) = some (.int .i64 x102) ∧ (
 doCall Tryz.prog (.func (.func 26) #[] #[]) #[.pointer b_1, .int .i64 x102] w52 (retS (fun v104 w105 => ∃ x103, v104 = (.bool x103 : Value) ∧ (
 K95 (!x103) w105)) (kN R)))) (
 ∃ x106, w52.cell? ((blk b27).add 2) = some (.bool x106) ∧ (
 ifB x106 (
 ∃ x107, w52.cell? ((blk b25).add 2) = some (.int .i64 x107) ∧ (
 doCall Tryz.prog (.func (.func 26) #[] #[]) #[.pointer b_1, .int .i64 x107] w52 (retS (fun v109 w110 => ∃ x108, v109 = (.bool x108 : Value) ∧ (
 K55 (!x108) w110)) (kN R)))) (
 K55 false w52))))))) (kN R)))))))))))))))))))
theorem sh29n_ok (b_1 : OA) (x_2 : Int) (x_3 : Int) (x_4 : Int) (x_5 : Int) (x_6 : Int) (x_7 : Int) (x_8 : Int) (x_9 : Int) (x_10 : Int) (x_11 : Int) (x_12 : Int) (x_13 : Int) (x_14 : Bool) (x_p15 : OA) (x_n16 : Nat) (x_c17 : Nat) (x_p18 : OA) (x_n19 : Nat) (x_c20 : Nat) (k_21 : Int) (k_22 : Bool) (k_23 : Bool) (k_24 : Bool) {R : EW} {w : World} : sh29n b_1 x_2 x_3 x_4 x_5 x_6 x_7 x_8 x_9 x_10 x_11 x_12 x_13 x_14 x_p15 x_n16 x_c17 x_p18 x_n19 x_c20 k_21 k_22 k_23 k_24 R w → Calls Tryz.prog 29 #[.pointer b_1, .agg #[.int .u8 x_2, .int .i64 x_3, .int .i64 x_4, .int .i64 x_5, .int .i64 x_6, .int .i64 x_7, .int .i64 x_8, .int .i64 x_9, .int .u8 x_10, .int .u8 x_11, .int .i64 x_12, .int .i64 x_13, .bool x_14, .slice x_p15 x_n16 x_c17, .slice x_p18 x_n19 x_c20], .agg #[.int .i64 k_21, .bool k_22, .bool k_23, .bool k_24, .nilFunc]] w R :=
  ceq Tryz.func29 (by kernel_rfl) (by kernel_rfl)
def sh6  (R : EW) (w : World) : Prop :=
 doCall Tryz.prog (.func (.func 13) #[] #[]) #[] w (retS (fun v20 w21 => ∃ x1 x2 x3 x4 x5 x6 x7 x8 x9 x10 x11 x12 x13 xp14 xn15 xc16 xp17 xn18 xc19, v20 = (.agg #[.int .u8 x1, .int .i64 x2, .int .i64 x3, .int .i64 x4, .int .i64 x5, .int .i64 x6, .int .i64 x7, .int .i64 x8, .int .u8 x9, .int .u8 x10, .int .i64 x11, .int .i64 x12, .bool x13, .slice xp14 xn15 xc16, .slice xp17 xn18 xc19] : Value) ∧ (
 doAl (.cells #[.int .u8 x1, .int .i64 x2, .int .i64 x3, .int .i64 x4, .int .i64 x5, .int .i64 x6, .int .i64 x7, .int .i64 x8, .int .u8 x9, .int .u8 x10, .int .i64 x11, .int .i64 x12, .bool x13, .slice xp14 xn15 xc16, .slice xp17 xn18 xc19, .int .u8 1, .int .i64 1, .int .i64 0, .int .i64 1, .int .i64 5, .int .i64 0, .int .i64 0, .int .i64 0, .int .u8 3, .int .u8 0, .int .i64 0, .int .i64 0, .bool false, .slice none 0 0, .slice none 0 0, .int .u8 22, .int .i64 2, .int .i64 0, .int .i64 2, .int .i64 0, .int .i64 0, .int .i64 0, .int .i64 0, .int .u8 0, .int .u8 0, .int .i64 0, .int .i64 0, .bool false, .slice none 0 0, .slice none 0 0, .int .u8 17, .int .i64 1, .int .i64 0, .int .i64 0, .int .i64 0, .int .i64 0, .int .i64 0, .int .i64 2, .int .u8 0, .int .u8 0, .int .i64 0, .int .i64 0, .bool false, .slice none 0 0, .slice none 0 0, .int .u8 21, .int .i64 3, .int .i64 0, .int .i64 0, .int .i64 0, .int .i64 0, .int .i64 0, .int .i64 0, .int .u8 0, .int .u8 0, .int .i64 0, .int .i64 0, .bool false, .slice none 0 0, .slice none 0 0] 30) w21 (fun b22 w23 =>
 doCall Tryz.prog (.func (.func 7) #[] #[]) #[.int .u8 1, .slice (some (blk b22)) 5 5] w23 (retS (fun v27 w28 => ∃ xp24 xn25 xc26, v27 = (.slice xp24 xn25 xc26 : Value) ∧ (
 doAl (.cells #[.int .i64 1] 3) w28 (fun b29 w30 =>
 doAl (.cells #[.int .i64 2] 3) w30 (fun b31 w32 =>
 doAl (.cells #[.int .i64 3, .int .i64 4] 3) w32 (fun b33 w34 =>
 doAl (.cells #[.int .i64 1, .int .i64 15] 63) w34 (fun b35 w36 =>
 doAl (.cells #[.int .i64 0, .bool false, .int .i64 0, .int .i64 0, .int .i64 2, .slice (some (blk b29)) 1 1, .slice none 0 0, .int .i64 0, .bool true, .int .i64 0, .int .i64 10, .int .i64 0, .slice (some (blk b31)) 1 1, .slice none 0 0, .int .i64 0, .bool true, .int .i64 0, .int .i64 20, .int .i64 0, .slice (some (blk b33)) 2 2, .slice none 0 0, .int .i64 320, .bool false, .int .i64 0, .int .i64 0, .int .i64 0, .slice none 0 0, .slice none 0 0, .int .i64 0, .bool false, .int .i64 0, .int .i64 0, .int .i64 1, .slice none 0 0, .slice (some (blk b35)) 1 1] 34) w36 (fun b37 w38 =>
 doCall Tryz.prog (.func (.func 17) #[] #[]) #[.slice xp24 xn25 xc26, .slice (some (blk b37)) 5 5] w38 (retS (fun v40 w41 => ∃ x39, v40 = (.bool x39 : Value) ∧ (
 R (.returned (.bool x39)) w41)) (kN R))))))))) (kN R))))) (kN R))
theorem sh6_ok  {R : EW} {w : World} : sh6  R w → Calls Tryz.prog 6 #[] w R :=
  ceq Tryz.func6 (by kernel_rfl) (by kernel_rfl)
def sh10 (l_p1 : OA) (l_n2 : Nat) (_l_c3 : Nat) (R : EW) (w : World) : Prop :=
 ifB (decide ((((l_n2 : Nat) : Int) : Int) > 60)) (
 R (.returned (.bool true)) w) (
 ∃ (I4 : List Value → World → Prop) (μ5 : List Value → World → Nat), I4 [.int .i64 0, .int .i64 0] w ∧ (∀ (n_8 : Int), ∀ (i_9 : Int), ∀ (_j6 : Nat → Value) (w7 : World), I4 [.int .i64 n_8, .int .i64 i_9] w7 → (
 ifB (decide ((i_9 : Int) < ((l_n2 : Nat) : Int))) (
 doDr w7 (fun w11 =>
 ∃ (C10 : World → Prop), C10 w11 ∧ (
 doIx l_p1 l_n2 15 (i_9) (fun a12 =>
 ∃ xp13 xn14 xc15, (∀ w, C10 w → w.cell? (a12.add 13) = some (.slice xp13 xn14 xc15)) ∧ (
 doIx l_p1 l_n2 15 (i_9) (fun a16 =>
 ∃ xp17 xn18 xc19, (∀ w, C10 w → w.cell? (a16.add 14) = some (.slice xp17 xn18 xc19)) ∧ (
 I4 [.int .i64 (IntKind.wrap .i64 ((IntKind.wrap .i64 (n_8 + ((xn14 : Nat) : Int))) + ((xn18 : Nat) : Int))), .int .i64 (IntKind.wrap .i64 (i_9 + 1))] w11 ∧ μ5 [.int .i64 (IntKind.wrap .i64 ((IntKind.wrap .i64 (n_8 + ((xn14 : Nat) : Int))) + ((xn18 : Nat) : Int))), .int .i64 (IntKind.wrap .i64 (i_9 + 1))] w11 < μ5 [.int .i64 n_8, .int .i64 i_9] w7))))))) (
 R (.returned (.bool (decide ((n_8 : Int) > 300)))) w7))))
theorem sh10_ok (l_p1 : OA) (l_n2 : Nat) (l_c3 : Nat) {R : EW} {w : World} : sh10 l_p1 l_n2 l_c3 R w → Calls Tryz.prog 10 #[.slice l_p1 l_n2 l_c3] w R :=
  Old.calls_of_eq (ann := fun i => if i = 0 then [(3, .int .i64 0), (4, .int .i64 0)] else []) (fn := Tryz.f10) (c := bodyOf Tryz.f10) (args := #[.slice l_p1 l_n2 l_c3]) 400 follows_mixed Tryz.func10 (by kernel_rfl) (by kernel_rfl)
end Go.Proofs.YtmdboekndjlmgaaGreat

namespace Go.Proofs.YtmdboekndjlmgaaGreat
open Go Go.Sh
end Go.Proofs.YtmdboekndjlmgaaGreat

namespace Go.Proofs.YtmdboekndjlmgaaGreat
open Go Go.Sh
end Go.Proofs.YtmdboekndjlmgaaGreat

namespace Go.Proofs.YtmdboekndjlmgaaGreat
open Go Go.Sh
def sh31 (a_p1 : OA) (a_n2 : Nat) (_a_c3 : Nat) (b_p4 : OA) (b_n5 : Nat) (_b_c6 : Nat) (R : EW) (w : World) : Prop :=
 ifB ((((a_n2 : Nat) : Int) : Int) != ((b_n5 : Nat) : Int)) (
 R (.returned (.bool false)) w) (
 ∃ (I7 : List Value → World → Prop) (μ8 : List Value → World → Nat), I7 [.int .i64 0] w ∧ (∀ (i_11 : Int), ∀ (_j9 : Nat → Value) (w10 : World), I7 [.int .i64 i_11] w10 → (
 ifB (decide ((i_11 : Int) < ((a_n2 : Nat) : Int))) (
 doDr w10 (fun w13 =>
 ∃ (C12 : World → Prop), C12 w13 ∧ (
 doIx a_p1 a_n2 1 (i_11) (fun a14 =>
 ∃ x15, (∀ w, C12 w → w.cell? a14 = some (.int .i64 x15)) ∧ (
 doIx b_p4 b_n5 1 (i_11) (fun a16 =>
 ∃ x17, (∀ w, C12 w → w.cell? a16 = some (.int .i64 x17)) ∧ (
 ifB ((x15 : Int) != x17) (
 R (.returned (.bool false)) w13) (
 I7 [.int .i64 (IntKind.wrap .i64 (i_11 + 1))] w13 ∧ μ8 [.int .i64 (IntKind.wrap .i64 (i_11 + 1))] w13 < μ8 [.int .i64 i_11] w10)))))))) (
 R (.returned (.bool true)) w10))))
theorem sh31_ok (a_p1 : OA) (a_n2 : Nat) (a_c3 : Nat) (b_p4 : OA) (b_n5 : Nat) (b_c6 : Nat) {R : EW} {w : World} : sh31 a_p1 a_n2 a_c3 b_p4 b_n5 b_c6 R w → Calls Tryz.prog 31 #[.slice a_p1 a_n2 a_c3, .slice b_p4 b_n5 b_c6] w R :=
  Old.calls_of_eq (ann := fun i => if i = 0 then [(5, .int .i64 0)] else []) (fn := Tryz.f31) (c := bodyOf Tryz.f31) (args := #[.slice a_p1 a_n2 a_c3, .slice b_p4 b_n5 b_c6]) 400 follows_mixed Tryz.func31 (by kernel_rfl) (by kernel_rfl)
def sh53 (l_p1 : OA) (l_n2 : Nat) (l_c3 : Nat) (R : EW) (w : World) : Prop :=
 doAl (.cells #[.slice l_p1 l_n2 l_c3] 22) w (fun b4 w5 =>
 R (.returned (.func (.func 94) #[] #[.pointer (some (blk b4))])) w5)
theorem sh53_ok (l_p1 : OA) (l_n2 : Nat) (l_c3 : Nat) {R : EW} {w : World} : sh53 l_p1 l_n2 l_c3 R w → Calls Tryz.prog 53 #[.slice l_p1 l_n2 l_c3] w R :=
  ceq Tryz.func53 (by kernel_rfl) (by kernel_rfl)
def sh54 (o_1 : Int) (a_2 : Int) (b_3 : Int) (R : EW) (w : World) : Prop :=
 doCall Tryz.prog (.func (.func 95) #[] #[]) #[.int .u8 o_1, .int .i64 a_2] w (retS (fun v6 w7 => ∃ x4 x5, v6 = (.tuple #[.int .u64 x4, .int .i64 x5] : Value) ∧ (
 doCall Tryz.prog (.func (.func 95) #[] #[]) #[.int .u8 o_1, .int .i64 b_3] w7 (retS (fun v10 w11 => ∃ x8 x9, v10 = (.tuple #[.int .u64 x8, .int .i64 x9] : Value) ∧ (
 ifB ((x5 : Int) != 0) (
 R (.returned (.int .i64 0)) w11) (
 doCall Tryz.prog (.func (.func 96) #[] #[]) #[.int .u64 x4, .int .u64 x8] w11 (retS (fun v13 w14 => ∃ x12, v13 = (.int .i64 x12 : Value) ∧ (
 R (.returned (.int .i64 x12)) w14)) (kN R))))) (kN R)))) (kN R))
theorem sh54_ok (o_1 : Int) (a_2 : Int) (b_3 : Int) {R : EW} {w : World} : sh54 o_1 a_2 b_3 R w → Calls Tryz.prog 54 #[.int .u8 o_1, .int .i64 a_2, .int .i64 b_3] w R :=
  ceq Tryz.func54 (by kernel_rfl) (by kernel_rfl)
end Go.Proofs.YtmdboekndjlmgaaGreat

