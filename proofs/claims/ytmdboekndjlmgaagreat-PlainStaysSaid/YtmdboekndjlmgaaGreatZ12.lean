/-
  Printed by a program (gen.py): what the functions of the program do, as formulas; each with the proof that its call is what the formula says.
-/
import Derived.Test.YtmdboekndjlmgaaGreatZ04
import Derived.Test.YtmdboekndjlmgaaGreatProg
import Derived.Test.YtmdboekndjlmgaaGreatZ05

set_option maxRecDepth 100000
set_option maxHeartbeats 6400000
namespace Go.Proofs.YtmdboekndjlmgaaGreat
open Go Go.Sh
def sh161 (x_1 : Int) (k_2 : Int) (R : EW) (w : World) : Prop :=
 (0 : Int) ≤ (bAnd .u64 (IntKind.wrap .u64 k_2) 63) ∧ (
 (0 : Int) ≤ (IntKind.wrap .u64 (64 - (bAnd .u64 (IntKind.wrap .u64 k_2) 63))) ∧ (
 R (.returned (.int .u64 (bOr .u64 (IntKind.wrap .u64 (x_1 * 2 ^ (min ((bAnd .u64 (IntKind.wrap .u64 k_2) 63) : Int).toNat (IntKind.bits .u64)))) (Int.fdiv x_1 (2 ^ (min ((IntKind.wrap .u64 (64 - (bAnd .u64 (IntKind.wrap .u64 k_2) 63))) : Int).toNat (IntKind.bits .u64))))))) w))
theorem sh161_ok (x_1 : Int) (k_2 : Int) {R : EW} {w : World} : sh161 x_1 k_2 R w → Calls Tryz.prog 161 #[.int .u64 x_1, .int .i64 k_2] w R :=
  ceq Tryz.func161 (by kernel_rfl) (by kernel_rfl)
def sh162 (back_1 : Bool) (R : EW) (w : World) : Prop :=
 doAl (.cells #[.bool back_1] 4) w (fun b2 w3 =>
 doCall Tryz.prog (.func (.func 189) #[] #[]) #[] w3 (retS (fun v10 w11 => ∃ x4 x5 x6 x7 x8 x9, v10 = (.agg #[.int .i64 x4, .int .u64 x5, .int .i64 x6, .int .u64 x7, .int .i64 x8, .int .u64 x9] : Value) ∧ (
 doAl (.cells #[.int .i64 0, .int .u64 0, .int .i64 0, .int .u64 0, .int .i64 0, .int .u64 0] 206) w11 (fun b12 w13 =>
 doSt ((blk b12).add 0) (.int .i64 x4) w13 (fun w14 =>
 doSt ((blk b12).add 1) (.int .u64 x5) w14 (fun w15 =>
 doSt ((blk b12).add 2) (.int .i64 x6) w15 (fun w16 =>
 doSt ((blk b12).add 3) (.int .u64 x7) w16 (fun w17 =>
 doSt ((blk b12).add 4) (.int .i64 x8) w17 (fun w18 =>
 doSt ((blk b12).add 5) (.int .u64 x9) w18 (fun w19 =>
 R (.returned (.func (.func 190) #[] #[.pointer (some (blk b2)), .pointer (some (blk b12))])) w19))))))))) (kN R)))
theorem sh162_ok (back_1 : Bool) {R : EW} {w : World} : sh162 back_1 R w → Calls Tryz.prog 162 #[.bool back_1] w R :=
  ceq Tryz.func162 (by kernel_rfl) (by kernel_rfl)
def sh167 (data_p1 : OA) (data_n2 : Nat) (data_c3 : Nat) (n_4 : Int) (cmp_f5 : Fn) (cmp_x6 : Array Value) (cmp_c7 : Array Value) (R : EW) (w : World) : Prop :=
 ∃ (I8 : List Value → World → Prop) (μ9 : List Value → World → Nat), I8 [.int .i64 0, .int .i64 20] w ∧ (∀ (a_12 : Int), ∀ (b_13 : Int), ∀ (_j10 : Nat → Value) (w11 : World), I8 [.int .i64 a_12, .int .i64 b_13] w11 → (
 ifB (decide ((b_13 : Int) ≤ n_4)) (
 doCall Tryz.prog (.func (.func 192) #[] #[]) #[.slice data_p1 data_n2 data_c3, .int .i64 a_12, .int .i64 b_13, .func cmp_f5 cmp_x6 cmp_c7] w11 (retS (fun v14 w15 => v14 = (.tuple #[] : Value) ∧ (
 I8 [.int .i64 b_13, .int .i64 (IntKind.wrap .i64 (b_13 + 20))] w15 ∧ μ9 [.int .i64 b_13, .int .i64 (IntKind.wrap .i64 (b_13 + 20))] w15 < μ9 [.int .i64 a_12, .int .i64 b_13] w11)) (kN R))) (
 doCall Tryz.prog (.func (.func 192) #[] #[]) #[.slice data_p1 data_n2 data_c3, .int .i64 a_12, .int .i64 n_4, .func cmp_f5 cmp_x6 cmp_c7] w11 (retS (fun v16 w17 => v16 = (.tuple #[] : Value) ∧ (
 ∃ (I18 : List Value → World → Prop) (μ19 : List Value → World → Nat), I18 [.int .i64 20] w17 ∧ (∀ (blockSize_22 : Int), ∀ (_j20 : Nat → Value) (w21 : World), I18 [.int .i64 blockSize_22] w21 → (
 ifB (decide ((blockSize_22 : Int) < n_4)) (
 ∃ (I23 : List Value → World → Prop) (μ24 : List Value → World → Nat), I23 [.int .i64 0, .int .i64 (IntKind.wrap .i64 (2 * blockSize_22))] w21 ∧ (∀ (a_27 : Int), ∀ (b_28 : Int), ∀ (_j25 : Nat → Value) (w26 : World), I23 [.int .i64 a_27, .int .i64 b_28] w26 → (
 ifB (decide ((b_28 : Int) ≤ n_4)) (
 doCall Tryz.prog (.func (.func 193) #[] #[]) #[.slice data_p1 data_n2 data_c3, .int .i64 a_27, .int .i64 (IntKind.wrap .i64 (a_27 + blockSize_22)), .int .i64 b_28, .func cmp_f5 cmp_x6 cmp_c7] w26 (retS (fun v29 w30 => v29 = (.tuple #[] : Value) ∧ (
 I23 [.int .i64 b_28, .int .i64 (IntKind.wrap .i64 (b_28 + (IntKind.wrap .i64 (2 * blockSize_22))))] w30 ∧ μ24 [.int .i64 b_28, .int .i64 (IntKind.wrap .i64 (b_28 + (IntKind.wrap .i64 (2 * blockSize_22))))] w30 < μ24 [.int .i64 a_27, .int .i64 b_28] w26)) (kN R))) (
 let K32 : World → Prop := fun w31 => 
 I18 [.int .i64 (IntKind.wrap .i64 (blockSize_22 * 2))] w31 ∧ μ19 [.int .i64 (IntKind.wrap .i64 (blockSize_22 * 2))] w31 < μ19 [.int .i64 blockSize_22] w21
 ifB (decide (((IntKind.wrap .i64 (a_27 + blockSize_22)) : Int) < n_4)) (
 doCall Tryz.prog (.func (.func 193) #[] #[]) #[.slice data_p1 data_n2 data_c3, .int .i64 a_27, .int .i64 (IntKind.wrap .i64 (a_27 + blockSize_22)), .int .i64 n_4, .func cmp_f5 cmp_x6 cmp_c7] w26 (retS (fun v33 w34 => v33 = (.tuple #[] : Value) ∧ (
 K32 w34)) (kN R))) (
 K32 w26))))) (
 R (.returned (.tuple #[])) w21))))) (kN R)))))
theorem sh167_ok (data_p1 : OA) (data_n2 : Nat) (data_c3 : Nat) (n_4 : Int) (cmp_f5 : Fn) (cmp_x6 : Array Value) (cmp_c7 : Array Value) {R : EW} {w : World} : sh167 data_p1 data_n2 data_c3 n_4 cmp_f5 cmp_x6 cmp_c7 R w → Calls Tryz.prog 167 #[.slice data_p1 data_n2 data_c3, .int .i64 n_4, .func cmp_f5 cmp_x6 cmp_c7] w R :=
  Old.calls_of_eq (ann := fun i => if i = 4 then [(7, .int .i64 0), (8, .int .i64 0)] else if i = 2 then [(6, .int .i64 0)] else if i = 0 then [(7, .int .i64 0), (8, .int .i64 0)] else []) (fn := Tryz.f167) (c := bodyOf Tryz.f167) (args := #[.slice data_p1 data_n2 data_c3, .int .i64 n_4, .func cmp_f5 cmp_x6 cmp_c7]) 400 follows_mixed Tryz.func167 (by kernel_rfl) (by kernel_rfl)
def sh168 (o_1 : Int) (a_p2 : OA) (a_n3 : Nat) (a_c4 : Nat) (b_p5 : OA) (b_n6 : Nat) (b_c7 : Nat) (R : EW) (w : World) : Prop :=
 doAl (.cells #[.int .u8 o_1] 5) w (fun b8 w9 =>
 doAl (.cells #[.slice a_p2 a_n3 a_c4] 22) w9 (fun b10 w11 =>
 doAl (.cells #[.slice b_p5 b_n6 b_c7] 22) w11 (fun b12 w13 =>
 R (.returned (.func (.func 194) #[] #[.pointer (some (blk b10)), .pointer (some (blk b12)), .pointer (some (blk b8))])) w13)))
theorem sh168_ok (o_1 : Int) (a_p2 : OA) (a_n3 : Nat) (a_c4 : Nat) (b_p5 : OA) (b_n6 : Nat) (b_c7 : Nat) {R : EW} {w : World} : sh168 o_1 a_p2 a_n3 a_c4 b_p5 b_n6 b_c7 R w → Calls Tryz.prog 168 #[.int .u8 o_1, .slice a_p2 a_n3 a_c4, .slice b_p5 b_n6 b_c7] w R :=
  ceq Tryz.func168 (by kernel_rfl) (by kernel_rfl)
def sh169 (p_1 : Int) (p_2 : Int) (p_3 : Int) (p_4 : Bool) (x_5 : Int) (x_6 : Int) (R : EW) (w : World) : Prop :=
 doAl (.cells #[.int .u8 p_1, .int .i64 p_2, .int .i64 p_3, .bool p_4] 27) w (fun b7 w8 =>
 doAl (.cells #[.int .i64 x_5, .int .i64 x_6] 63) w8 (fun b9 w10 =>
 let K13 : Bool → World → Prop := fun x11 w12 => 
 R (.returned (.bool x11)) w12
 doDr w10 (fun w15 =>
 ∃ (C14 : World → Prop), C14 w15 ∧ (
 ∃ x16, (∀ w, C14 w → w.cell? ((blk b7).add 0) = some (.int .u8 x16)) ∧ (
 ∃ x17, (∀ w, C14 w → w.cell? ((blk b7).add 1) = some (.int .i64 x17)) ∧ (
 ∃ x18, (∀ w, C14 w → w.cell? ((blk b7).add 2) = some (.int .i64 x18)) ∧ (
 ∃ x19, (∀ w, C14 w → w.cell? ((blk b7).add 3) = some (.bool x19)) ∧ (
 doCall Tryz.prog (.func (.func 119) #[] #[]) #[.agg #[.int .u8 x16, .int .i64 x17, .int .i64 x18, .bool x19]] w15 (retS (fun v21 w22 => ∃ x20, v21 = (.bool x20 : Value) ∧ (
 C14 w22 ∧ (
 ifB x20 (
 ∃ x23, (∀ w, C14 w → w.cell? ((blk b7).add 0) = some (.int .u8 x23)) ∧ (
 ∃ x24, (∀ w, C14 w → w.cell? ((blk b7).add 1) = some (.int .i64 x24)) ∧ (
 ∃ x25, (∀ w, C14 w → w.cell? ((blk b7).add 2) = some (.int .i64 x25)) ∧ (
 ∃ x26, (∀ w, C14 w → w.cell? ((blk b9).add 0) = some (.int .i64 x26)) ∧ (
 ∃ x27, (∀ w, C14 w → w.cell? ((blk b9).add 1) = some (.int .i64 x27)) ∧ (
 ∃ x28, (∀ w, C14 w → w.cell? ((blk b7).add 3) = some (.bool x28)) ∧ (
 doCall Tryz.prog (.func (.func 159) #[] #[]) #[] w22 (retS (fun v30 w31 => ∃ x29, v30 = (.map x29 : Value) ∧ (
 C14 w31 ∧ (
 doLk Tryz.prog 178 (.map x29) (.int .u8 x23) false w31 (fun v38 => (∃ xf32 xx33 xc34 xf35 xx36 xc37, v38 = (.agg #[.func xf32 xx33 xc34, .func xf35 xx36 xc37] : Value) ∧ (
 C14 w31 ∧ (
 doCall Tryz.prog (.func xf35 xx36 xc37) #[.int .i64 x24, .int .i64 x25, .agg #[.int .i64 x26, .int .i64 x27]] w31 (retS (fun v40 w41 => ∃ x39, v40 = (.bool x39 : Value) ∧ (
 C14 w41 ∧ (
 K13 (!(x39 == x28)) w41))) (kN R))))) ∨ (v38 = (.agg #[.nilFunc, .nilFunc] : Value) ∧ (
 C14 w31 ∧ (
 doCall Tryz.prog (.nilFunc) #[.int .i64 x24, .int .i64 x25, .agg #[.int .i64 x26, .int .i64 x27]] w31 (retS (fun v43 w44 => ∃ x42, v43 = (.bool x42 : Value) ∧ (
 C14 w44 ∧ (
 K13 (!(x42 == x28)) w44))) (kN R))))))))) (kN R))))))))) (
 R (.returned (.bool false)) w22)))) (kN R))))))))))
theorem sh169_ok (p_1 : Int) (p_2 : Int) (p_3 : Int) (p_4 : Bool) (x_5 : Int) (x_6 : Int) {R : EW} {w : World} : sh169 p_1 p_2 p_3 p_4 x_5 x_6 R w → Calls Tryz.prog 169 #[.agg #[.int .u8 p_1, .int .i64 p_2, .int .i64 p_3, .bool p_4], .agg #[.int .i64 x_5, .int .i64 x_6]] w R :=
  ceq Tryz.func169 (by kernel_rfl) (by kernel_rfl)
def sh170 (n_1 : Int) (f_f2 : Fn) (f_x3 : Array Value) (f_c4 : Array Value) (R : EW) (w : World) : Prop :=
 ∃ (I5 : List Value → World → Prop) (μ6 : List Value → World → Nat), I5 [.int .i64 0, .int .i64 n_1] w ∧ (∀ (i_9 : Int), ∀ (j_10 : Int), ∀ (_j7 : Nat → Value) (w8 : World), I5 [.int .i64 i_9, .int .i64 j_10] w8 → (
 ifB (decide ((i_9 : Int) < j_10)) (
 (0 : Int) ≤ 1 ∧ (
 doCall Tryz.prog (.func f_f2 f_x3 f_c4) #[.int .i64 (IntKind.wrap .i64 (Int.fdiv (IntKind.wrap .u64 (IntKind.wrap .i64 (i_9 + j_10))) (2 ^ (min (1 : Int).toNat (IntKind.bits .u64)))))] w8 (retS (fun v12 w13 => ∃ x11, v12 = (.bool x11 : Value) ∧ (
 ifB (!x11) (
 I5 [.int .i64 (IntKind.wrap .i64 ((IntKind.wrap .i64 (Int.fdiv (IntKind.wrap .u64 (IntKind.wrap .i64 (i_9 + j_10))) (2 ^ (min (1 : Int).toNat (IntKind.bits .u64))))) + 1)), .int .i64 j_10] w13 ∧ μ6 [.int .i64 (IntKind.wrap .i64 ((IntKind.wrap .i64 (Int.fdiv (IntKind.wrap .u64 (IntKind.wrap .i64 (i_9 + j_10))) (2 ^ (min (1 : Int).toNat (IntKind.bits .u64))))) + 1)), .int .i64 j_10] w13 < μ6 [.int .i64 i_9, .int .i64 j_10] w8) (
 I5 [.int .i64 i_9, .int .i64 (IntKind.wrap .i64 (Int.fdiv (IntKind.wrap .u64 (IntKind.wrap .i64 (i_9 + j_10))) (2 ^ (min (1 : Int).toNat (IntKind.bits .u64)))))] w13 ∧ μ6 [.int .i64 i_9, .int .i64 (IntKind.wrap .i64 (Int.fdiv (IntKind.wrap .u64 (IntKind.wrap .i64 (i_9 + j_10))) (2 ^ (min (1 : Int).toNat (IntKind.bits .u64)))))] w13 < μ6 [.int .i64 i_9, .int .i64 j_10] w8))) (kN R)))) (
 R (.returned (.int .i64 i_9)) w8)))
theorem sh170_ok (n_1 : Int) (f_f2 : Fn) (f_x3 : Array Value) (f_c4 : Array Value) {R : EW} {w : World} : sh170 n_1 f_f2 f_x3 f_c4 R w → Calls Tryz.prog 170 #[.int .i64 n_1, .func f_f2 f_x3 f_c4] w R :=
  Old.calls_of_eq (ann := fun i => if i = 0 then [(5, .int .i64 0), (6, .int .i64 0)] else []) (fn := Tryz.f170) (c := bodyOf Tryz.f170) (args := #[.int .i64 n_1, .func f_f2 f_x3 f_c4]) 400 follows_mixed Tryz.func170 (by kernel_rfl) (by kernel_rfl)
def sh171 (k_1 : Int) (x2 : Addr) (x3 : Addr) (x4 : Addr) (R : EW) (w : World) : Prop :=
 doDr w (fun w6 =>
 ∃ (C5 : World → Prop), C5 w6 ∧ (
 ∃ x7, (∀ w, C5 w → w.cell? x2 = some (.int .u8 x7)) ∧ (
 ∃ xp8 xn9 xc10, (∀ w, C5 w → w.cell? x3 = some (.slice xp8 xn9 xc10)) ∧ (
 doIx xp8 xn9 2 (k_1) (fun a11 =>
 ∃ x12, (∀ w, C5 w → w.cell? (a11.add 0) = some (.int .i64 x12)) ∧ (
 ∃ x13, (∀ w, C5 w → w.cell? x4 = some (.int .i64 x13)) ∧ (
 doCall Tryz.prog (.func (.func 54) #[] #[]) #[.int .u8 x7, .int .i64 x12, .int .i64 x13] w6 (retS (fun v15 w16 => ∃ x14, v15 = (.int .i64 x14 : Value) ∧ (
 C5 w16 ∧ (
 R (.returned (.bool (decide ((x14 : Int) ≥ 0)))) w16))) (kN R)))))))))
theorem sh171_ok (k_1 : Int) (x2 : Addr) (x3 : Addr) (x4 : Addr) {R : EW} {w : World} : sh171 k_1 x2 x3 x4 R w → Calls Tryz.prog 171 #[.int .i64 k_1, .pointer (some x2), .pointer (some x3), .pointer (some x4)] w R :=
  ceq Tryz.func171 (by kernel_rfl) (by kernel_rfl)
def sh172  (R : EW) (w : World) : Prop :=
 doAl (.cells #[.int .i64 0] 2) w (fun b1 w2 =>
 doSt ((blk b1).add 0) (.int .i64 0) w2 (fun w3 =>
 R (.returned (.func (.func 195) #[] #[.pointer (some (blk b1))])) w3))
theorem sh172_ok  {R : EW} {w : World} : sh172  R w → Calls Tryz.prog 172 #[] w R :=
  ceq Tryz.func172 (by kernel_rfl) (by kernel_rfl)
def sh173  (R : EW) (w : World) : Prop :=
 doAl (.cells #[.string (⟨#[]⟩ : ByteArray), .string (⟨#[105, 110, 115, 101, 114, 116]⟩ : ByteArray), .string (⟨#[100, 101, 108, 101, 116, 101]⟩ : ByteArray), .string (⟨#[103, 101, 116]⟩ : ByteArray), .string (⟨#[109, 105, 110]⟩ : ByteArray), .string (⟨#[109, 97, 120]⟩ : ByteArray), .string (⟨#[102, 108, 111, 111, 114]⟩ : ByteArray), .string (⟨#[99, 101, 105, 108]⟩ : ByteArray), .string (⟨#[98, 117, 105, 108, 100]⟩ : ByteArray), .string (⟨#[117, 110, 105, 111, 110]⟩ : ByteArray), .string (⟨#[109, 101, 101, 116]⟩ : ByteArray), .string (⟨#[108, 101, 115, 115]⟩ : ByteArray), .string (⟨#[97, 112, 97, 114, 116]⟩ : ByteArray), .string (⟨#[107, 101, 101, 112]⟩ : ByteArray), .string (⟨#[112, 117, 116, 115]⟩ : ByteArray), .string (⟨#[100, 114, 111, 112, 115]⟩ : ByteArray), .string (⟨#[114, 97, 110, 107]⟩ : ByteArray), .string (⟨#[115, 101, 108, 101, 99, 116]⟩ : ByteArray), .string (⟨#[114, 97, 110, 103, 101]⟩ : ByteArray), .string (⟨#[99, 111, 117, 110, 116]⟩ : ByteArray), .string (⟨#[115, 117, 109]⟩ : ByteArray), .string (⟨#[108, 105, 115, 116]⟩ : ByteArray), .string (⟨#[115, 112, 108, 105, 116]⟩ : ByteArray)] 9) w (fun b1 w2 =>
 R (.returned (.slice (some (blk b1)) 23 23)) w2)
theorem sh173_ok  {R : EW} {w : World} : sh173  R w → Calls Tryz.prog 173 #[] w R :=
  ceq Tryz.func173 (by kernel_rfl) (by kernel_rfl)
def sh174 (f_1 : OA) (f_2 : Value) (R : EW) (w : World) : Prop :=
 doAl (.cells #[.pointer f_1, f_2] 203) w (fun b3 w4 =>
 ∃ x5, w4.cell? ((blk b3).add 0) = some (.pointer x5) ∧ (
 ∃ q6, x5 = some q6 ∧ (
 ∃ x7, w4.cell? (q6.add 0) = some (.int .u8 x7) ∧ (
 ifB ((x7 : Int) == 1) (
 ∃ x8, w4.cell? ((blk b3).add 0) = some (.pointer x8) ∧ (
 ∃ x9, w4.cell? ((blk b3).add 1) = some (x9) ∧ (
 ∃ x10, w4.cell? ((blk b3).add 0) = some (.pointer x10) ∧ (
 ∃ x11, w4.cell? ((blk b3).add 1) = some (x11) ∧ (
 ∃ x12, w4.cell? ((blk b3).add 0) = some (.pointer x12) ∧ (
 ∃ x13, w4.cell? ((blk b3).add 1) = some (x13) ∧ (
 ∃ x14, w4.cell? ((blk b3).add 0) = some (.pointer x14) ∧ (
 ∃ x15, w4.cell? ((blk b3).add 1) = some (x15) ∧ (
 doAl (.cells #[.func (.func 196) #[.agg #[.pointer x8, x9]] #[], .func (.func 197) #[.agg #[.pointer x10, x11]] #[], .func (.func 198) #[.agg #[.pointer x12, x13]] #[], .func (.func 199) #[.agg #[.pointer x14, x15]] #[]] 1) w4 (fun b16 w17 =>
 R (.returned (.slice (some (blk b16)) 4 4)) w17)))))))))) (
 let K20 : Bool → World → Prop := fun x18 w19 => 
 ifB x18 (
 ∃ x21, w19.cell? ((blk b3).add 0) = some (.pointer x21) ∧ (
 ∃ x22, w19.cell? ((blk b3).add 1) = some (x22) ∧ (
 ∃ x23, w19.cell? ((blk b3).add 0) = some (.pointer x23) ∧ (
 ∃ x24, w19.cell? ((blk b3).add 1) = some (x24) ∧ (
 doAl (.cells #[.func (.func 196) #[.agg #[.pointer x21, x22]] #[], .func (.func 197) #[.agg #[.pointer x23, x24]] #[]] 1) w19 (fun b25 w26 =>
 R (.returned (.slice (some (blk b25)) 2 2)) w26)))))) (
 let K29 : Bool → World → Prop := fun x27 w28 => 
 ifB x27 (
 ∃ x30, w28.cell? ((blk b3).add 0) = some (.pointer x30) ∧ (
 ∃ x31, w28.cell? ((blk b3).add 1) = some (x31) ∧ (
 doAl (.cells #[.func (.func 196) #[.agg #[.pointer x30, x31]] #[]] 1) w28 (fun b32 w33 =>
 R (.returned (.slice (some (blk b32)) 1 1)) w33)))) (
 ifB ((x7 : Int) == 8) (
 ∃ x34, w28.cell? ((blk b3).add 0) = some (.pointer x34) ∧ (
 ∃ x35, w28.cell? ((blk b3).add 1) = some (x35) ∧ (
 ∃ x36, w28.cell? ((blk b3).add 0) = some (.pointer x36) ∧ (
 ∃ x37, w28.cell? ((blk b3).add 1) = some (x37) ∧ (
 doAl (.cells #[.func (.func 199) #[.agg #[.pointer x34, x35]] #[], .func (.func 200) #[.agg #[.pointer x36, x37]] #[]] 1) w28 (fun b38 w39 =>
 R (.returned (.slice (some (blk b38)) 2 2)) w39)))))) (
 let K42 : Bool → World → Prop := fun x40 w41 => 
 ifB x40 (
 ∃ x43, w41.cell? ((blk b3).add 0) = some (.pointer x43) ∧ (
 ∃ x44, w41.cell? ((blk b3).add 1) = some (x44) ∧ (
 ∃ x45, w41.cell? ((blk b3).add 0) = some (.pointer x45) ∧ (
 ∃ x46, w41.cell? ((blk b3).add 1) = some (x46) ∧ (
 ∃ x47, w41.cell? ((blk b3).add 0) = some (.pointer x47) ∧ (
 ∃ x48, w41.cell? ((blk b3).add 1) = some (x48) ∧ (
 doAl (.cells #[.func (.func 196) #[.agg #[.pointer x43, x44]] #[], .func (.func 201) #[.agg #[.pointer x45, x46]] #[], .func (.func 199) #[.agg #[.pointer x47, x48]] #[]] 1) w41 (fun b49 w50 =>
 R (.returned (.slice (some (blk b49)) 3 3)) w50)))))))) (
 let K53 : Bool → World → Prop := fun x51 w52 => 
 ifB x51 (
 ∃ x54, w52.cell? ((blk b3).add 0) = some (.pointer x54) ∧ (
 ∃ x55, w52.cell? ((blk b3).add 1) = some (x55) ∧ (
 ∃ x56, w52.cell? ((blk b3).add 0) = some (.pointer x56) ∧ (
 ∃ x57, w52.cell? ((blk b3).add 1) = some (x57) ∧ (
 doAl (.cells #[.func (.func 196) #[.agg #[.pointer x54, x55]] #[], .func (.func 201) #[.agg #[.pointer x56, x57]] #[]] 1) w52 (fun b58 w59 =>
 R (.returned (.slice (some (blk b58)) 2 2)) w59)))))) (
 ifB ((x7 : Int) == 13) (
 ∃ x60, w52.cell? ((blk b3).add 0) = some (.pointer x60) ∧ (
 ∃ x61, w52.cell? ((blk b3).add 1) = some (x61) ∧ (
 ∃ x62, w52.cell? ((blk b3).add 0) = some (.pointer x62) ∧ (
 ∃ x63, w52.cell? ((blk b3).add 1) = some (x63) ∧ (
 doAl (.cells #[.func (.func 196) #[.agg #[.pointer x60, x61]] #[], .func (.func 202) #[.agg #[.pointer x62, x63]] #[]] 1) w52 (fun b64 w65 =>
 R (.returned (.slice (some (blk b64)) 2 2)) w65)))))) (
 ifB ((x7 : Int) == 14) (
 ∃ x66, w52.cell? ((blk b3).add 0) = some (.pointer x66) ∧ (
 ∃ x67, w52.cell? ((blk b3).add 1) = some (x67) ∧ (
 ∃ x68, w52.cell? ((blk b3).add 0) = some (.pointer x68) ∧ (
 ∃ x69, w52.cell? ((blk b3).add 1) = some (x69) ∧ (
 ∃ x70, w52.cell? ((blk b3).add 0) = some (.pointer x70) ∧ (
 ∃ x71, w52.cell? ((blk b3).add 1) = some (x71) ∧ (
 doAl (.cells #[.func (.func 196) #[.agg #[.pointer x66, x67]] #[], .func (.func 199) #[.agg #[.pointer x68, x69]] #[], .func (.func 200) #[.agg #[.pointer x70, x71]] #[]] 1) w52 (fun b72 w73 =>
 R (.returned (.slice (some (blk b72)) 3 3)) w73)))))))) (
 ifB ((x7 : Int) == 15) (
 ∃ x74, w52.cell? ((blk b3).add 0) = some (.pointer x74) ∧ (
 ∃ x75, w52.cell? ((blk b3).add 1) = some (x75) ∧ (
 ∃ x76, w52.cell? ((blk b3).add 0) = some (.pointer x76) ∧ (
 ∃ x77, w52.cell? ((blk b3).add 1) = some (x77) ∧ (
 doAl (.cells #[.func (.func 196) #[.agg #[.pointer x74, x75]] #[], .func (.func 203) #[.agg #[.pointer x76, x77]] #[]] 1) w52 (fun b78 w79 =>
 R (.returned (.slice (some (blk b78)) 2 2)) w79)))))) (
 ifB ((x7 : Int) == 17) (
 ∃ x80, w52.cell? ((blk b3).add 0) = some (.pointer x80) ∧ (
 ∃ x81, w52.cell? ((blk b3).add 1) = some (x81) ∧ (
 ∃ x82, w52.cell? ((blk b3).add 0) = some (.pointer x82) ∧ (
 ∃ x83, w52.cell? ((blk b3).add 1) = some (x83) ∧ (
 doAl (.cells #[.func (.func 196) #[.agg #[.pointer x80, x81]] #[], .func (.func 204) #[.agg #[.pointer x82, x83]] #[]] 1) w52 (fun b84 w85 =>
 R (.returned (.slice (some (blk b84)) 2 2)) w85)))))) (
 let K88 : Bool → World → Prop := fun x86 w87 => 
 ifB x86 (
 ∃ x89, w87.cell? ((blk b3).add 0) = some (.pointer x89) ∧ (
 ∃ x90, w87.cell? ((blk b3).add 1) = some (x90) ∧ (
 ∃ x91, w87.cell? ((blk b3).add 0) = some (.pointer x91) ∧ (
 ∃ x92, w87.cell? ((blk b3).add 1) = some (x92) ∧ (
 ∃ x93, w87.cell? ((blk b3).add 0) = some (.pointer x93) ∧ (
 ∃ x94, w87.cell? ((blk b3).add 1) = some (x94) ∧ (
 doAl (.cells #[.func (.func 196) #[.agg #[.pointer x89, x90]] #[], .func (.func 205) #[.agg #[.pointer x91, x92]] #[], .func (.func 206) #[.agg #[.pointer x93, x94]] #[]] 1) w87 (fun b95 w96 =>
 R (.returned (.slice (some (blk b95)) 3 3)) w96)))))))) (
 R (.returned (.slice none 0 0)) w87)
 ifB ((x7 : Int) == 18) (
 K88 true w52) (
 ifB ((x7 : Int) == 19) (
 K88 true w52) (
 K88 ((x7 : Int) == 20) w52)))))))
 ifB ((x7 : Int) == 11) (
 K53 true w41) (
 K53 ((x7 : Int) == 12) w41))
 ifB ((x7 : Int) == 9) (
 K42 true w28) (
 K42 ((x7 : Int) == 10) w28)))
 ifB ((x7 : Int) == 4) (
 ∃ x97, w19.cell? ((blk b3).add 0) = some (.pointer x97) ∧ (
 ∃ x98, w19.cell? ((blk b3).add 1) = some (x98) ∧ (
 doAl (.cells #[.func (.func 196) #[.agg #[.pointer x97, x98]] #[]] 1) w19 (fun b99 w100 =>
 R (.returned (.slice (some (blk b99)) 1 1)) w100)))) (
 ifB ((x7 : Int) == 5) (
 ∃ x101, w19.cell? ((blk b3).add 0) = some (.pointer x101) ∧ (
 ∃ x102, w19.cell? ((blk b3).add 1) = some (x102) ∧ (
 doAl (.cells #[.func (.func 196) #[.agg #[.pointer x101, x102]] #[]] 1) w19 (fun b103 w104 =>
 R (.returned (.slice (some (blk b103)) 1 1)) w104)))) (
 K29 ((x7 : Int) == 21) w19)))
 ifB ((x7 : Int) == 2) (
 K20 true w4) (
 ifB ((x7 : Int) == 3) (
 K20 true w4) (
 ifB ((x7 : Int) == 6) (
 K20 true w4) (
 ifB ((x7 : Int) == 7) (
 K20 true w4) (
 ifB ((x7 : Int) == 16) (
 K20 true w4) (
 K20 ((x7 : Int) == 22) w4))))))))))
theorem sh174_ok (f_1 : OA) (f_2 : Value) {R : EW} {w : World} : sh174 f_1 f_2 R w → Calls Tryz.prog 174 #[.agg #[.pointer f_1, f_2]] w R :=
  ceq Tryz.func174 (by kernel_rfl) (by kernel_rfl)
def sh175 (a_1 : Int) (_x2 : Int) (R : EW) (w : World) : Prop :=
 R (.returned (.int .i64 a_1)) w
theorem sh175_ok (a_1 : Int) (x2 : Int) {R : EW} {w : World} : sh175 a_1 x2 R w → Calls Tryz.prog 175 #[.int .i64 a_1, .int .i64 x2] w R :=
  ceq Tryz.func175 (by kernel_rfl) (by kernel_rfl)
def sh176 (_x1 : Int) (b_2 : Int) (R : EW) (w : World) : Prop :=
 R (.returned (.int .i64 b_2)) w
theorem sh176_ok (x1 : Int) (b_2 : Int) {R : EW} {w : World} : sh176 x1 b_2 R w → Calls Tryz.prog 176 #[.int .i64 x1, .int .i64 b_2] w R :=
  ceq Tryz.func176 (by kernel_rfl) (by kernel_rfl)
def sh177 (a_1 : Int) (b_2 : Int) (R : EW) (w : World) : Prop :=
 R (.returned (.int .i64 (IntKind.wrap .i64 (a_1 + b_2)))) w
theorem sh177_ok (a_1 : Int) (b_2 : Int) {R : EW} {w : World} : sh177 a_1 b_2 R w → Calls Tryz.prog 177 #[.int .i64 a_1, .int .i64 b_2] w R :=
  ceq Tryz.func177 (by kernel_rfl) (by kernel_rfl)
def sh178 (_x1 : Int) (_x2 : Int) (R : EW) (w : World) : Prop :=
 R (.returned (.bool true)) w
theorem sh178_ok (x1 : Int) (x2 : Int) {R : EW} {w : World} : sh178 x1 x2 R w → Calls Tryz.prog 178 #[.int .i64 x1, .int .i64 x2] w R :=
  ceq Tryz.func178 (by kernel_rfl) (by kernel_rfl)
def sh179 (a_1 : Int) (b_2 : Int) (v_3 : Int) (R : EW) (w : World) : Prop :=
 let K6 : Bool → World → Prop := fun x4 w5 => 
 R (.returned (.bool x4)) w5
 ifB (decide ((v_3 : Int) ≥ a_1)) (
 K6 (decide ((v_3 : Int) ≤ b_2)) w) (
 R (.returned (.bool false)) w)
theorem sh179_ok (a_1 : Int) (b_2 : Int) (v_3 : Int) {R : EW} {w : World} : sh179 a_1 b_2 v_3 R w → Calls Tryz.prog 179 #[.int .i64 a_1, .int .i64 b_2, .int .i64 v_3] w R :=
  ceq Tryz.func179 (by kernel_rfl) (by kernel_rfl)
def sh180 (a_1 : Int) (b_2 : Int) (R : EW) (w : World) : Prop :=
 let K5 : Bool → World → Prop := fun x3 w4 => 
 R (.returned (.bool x3)) w4
 ifB ((a_1 : Int) == 0) (
 K5 ((b_2 : Int) == 0) w) (
 R (.returned (.bool false)) w)
theorem sh180_ok (a_1 : Int) (b_2 : Int) {R : EW} {w : World} : sh180 a_1 b_2 R w → Calls Tryz.prog 180 #[.int .i64 a_1, .int .i64 b_2] w R :=
  ceq Tryz.func180 (by kernel_rfl) (by kernel_rfl)
def sh181 (_x1 : Int) (_x2 : Int) (x3 : Int) (x4 : Int) (R : EW) (w : World) : Prop :=
 doAl (.cells #[.int .i64 x3, .int .i64 x4] 63) w (fun _b5 w6 =>
 R (.returned (.bool true)) w6)
theorem sh181_ok (x1 : Int) (x2 : Int) (x3 : Int) (x4 : Int) {R : EW} {w : World} : sh181 x1 x2 x3 x4 R w → Calls Tryz.prog 181 #[.int .i64 x1, .int .i64 x2, .agg #[.int .i64 x3, .int .i64 x4]] w R :=
  ceq Tryz.func181 (by kernel_rfl) (by kernel_rfl)
def sh182 (a_1 : Int) (b_2 : Int) (x_3 : Int) (x_4 : Int) (x5 : Addr) (R : EW) (w : World) : Prop :=
 doAl (.cells #[.int .i64 x_3, .int .i64 x_4] 63) w (fun b6 w7 =>
 ∃ xf8 xx9 xc10, w7.cell? x5 = some (.func xf8 xx9 xc10) ∧ (
 ∃ x11, w7.cell? ((blk b6).add 0) = some (.int .i64 x11) ∧ (
 doCall Tryz.prog (.func xf8 xx9 xc10) #[.int .i64 a_1, .int .i64 b_2, .int .i64 x11] w7 (retS (fun v13 w14 => ∃ x12, v13 = (.bool x12 : Value) ∧ (
 R (.returned (.bool x12)) w14)) (kN R)))))
theorem sh182_ok (a_1 : Int) (b_2 : Int) (x_3 : Int) (x_4 : Int) (x5 : Addr) {R : EW} {w : World} : sh182 a_1 b_2 x_3 x_4 x5 R w → Calls Tryz.prog 182 #[.int .i64 a_1, .int .i64 b_2, .agg #[.int .i64 x_3, .int .i64 x_4], .pointer (some x5)] w R :=
  ceq Tryz.func182 (by kernel_rfl) (by kernel_rfl)
end Go.Proofs.YtmdboekndjlmgaaGreat

