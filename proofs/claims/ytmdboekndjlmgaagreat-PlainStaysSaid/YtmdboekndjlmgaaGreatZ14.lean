/-
  Printed by a program (gen.py): what the functions of the program do, as formulas; each with the proof that its call is what the formula says.
-/
import Derived.Test.YtmdboekndjlmgaaGreatZ04
import Derived.Test.YtmdboekndjlmgaaGreatProg
import Derived.Test.YtmdboekndjlmgaaGreatZ05
import Derived.Test.YtmdboekndjlmgaaGreatZ03
import Derived.Test.YtmdboekndjlmgaaGreatZ06
import Derived.Test.YtmdboekndjlmgaaGreatZ07
import Derived.Test.YtmdboekndjlmgaaGreatZ08
import Derived.Test.YtmdboekndjlmgaaGreatZ09
import Derived.Test.YtmdboekndjlmgaaGreatZ10
import Derived.Test.YtmdboekndjlmgaaGreatZ11
import Derived.Test.YtmdboekndjlmgaaGreatZ12
import Derived.Test.YtmdboekndjlmgaaGreatZ13

set_option maxRecDepth 100000
set_option maxHeartbeats 6400000
namespace Go.Proofs.YtmdboekndjlmgaaGreat
open Go Go.Sh
def sh204 (f_1 : OA) (f_2 : Value) (R : EW) (w : World) : Prop :=
 doAl (.cells #[.pointer f_1, f_2] 203) w (fun b3 w4 =>
 doDr w4 (fun w6 =>
 ∃ (C5 : World → Prop), C5 w6 ∧ (
 ∃ x7, (∀ w, C5 w → w.cell? ((blk b3).add 0) = some (.pointer x7)) ∧ (
 ∃ x8, (∀ w, C5 w → w.cell? ((blk b3).add 1) = some (x8)) ∧ (
 ∃ x9, (∀ w, C5 w → w.cell? ((blk b3).add 0) = some (.pointer x9)) ∧ (
 ∃ q10, x9 = some q10 ∧ (
 doCall Tryz.prog (.func (.func 209) #[] #[]) #[.agg #[.pointer x7, x8], .pointer (some (q10.add 7))] w6 (retS (fun v11 w12 => v11 = (.tuple #[] : Value) ∧ (
 C5 w12 ∧ (
 R (.returned (.tuple #[])) w12))) (kN R)))))))))
theorem sh204_ok (f_1 : OA) (f_2 : Value) {R : EW} {w : World} : sh204 f_1 f_2 R w → Calls Tryz.prog 204 #[.agg #[.pointer f_1, f_2]] w R :=
  ceq Tryz.func204 (by kernel_rfl) (by kernel_rfl)
def sh205 (f_1 : OA) (f_2 : Value) (R : EW) (w : World) : Prop :=
 doAl (.cells #[.pointer f_1, f_2] 203) w (fun b3 w4 =>
 doDr w4 (fun w6 =>
 ∃ (C5 : World → Prop), C5 w6 ∧ (
 ∃ x7, (∀ w, C5 w → w.cell? ((blk b3).add 1) = some (x7)) ∧ (
 ∃ x8, (∀ w, C5 w → w.cell? ((blk b3).add 0) = some (.pointer x8)) ∧ (
 ∃ q9, x8 = some q9 ∧ (
 doNC Tryz.prog (x7) (
 doGo Tryz.prog (.fn (.method "joinery/op.num") #[]) #[x7, .pointer (some (q9.add 5))] w6 (retS (fun v10 w11 => v10 = (.tuple #[] : Value) ∧ (
 C5 w11 ∧ (
 R (.returned (.tuple #[])) w11))) (kN R)))))))))
theorem sh205_ok (f_1 : OA) (f_2 : Value) {R : EW} {w : World} : sh205 f_1 f_2 R w → Calls Tryz.prog 205 #[.agg #[.pointer f_1, f_2]] w R :=
  ceq Tryz.func205 (by kernel_rfl) (by kernel_rfl)
def sh206 (f_1 : OA) (f_2 : Value) (R : EW) (w : World) : Prop :=
 doAl (.cells #[.pointer f_1, f_2] 203) w (fun b3 w4 =>
 doDr w4 (fun w6 =>
 ∃ (C5 : World → Prop), C5 w6 ∧ (
 ∃ x7, (∀ w, C5 w → w.cell? ((blk b3).add 1) = some (x7)) ∧ (
 ∃ x8, (∀ w, C5 w → w.cell? ((blk b3).add 0) = some (.pointer x8)) ∧ (
 ∃ q9, x8 = some q9 ∧ (
 doNC Tryz.prog (x7) (
 doGo Tryz.prog (.fn (.method "joinery/op.num") #[]) #[x7, .pointer (some (q9.add 6))] w6 (retS (fun v10 w11 => v10 = (.tuple #[] : Value) ∧ (
 C5 w11 ∧ (
 R (.returned (.tuple #[])) w11))) (kN R)))))))))
theorem sh206_ok (f_1 : OA) (f_2 : Value) {R : EW} {w : World} : sh206 f_1 f_2 R w → Calls Tryz.prog 206 #[.agg #[.pointer f_1, f_2]] w R :=
  ceq Tryz.func206 (by kernel_rfl) (by kernel_rfl)
def sh208 (data_p1 : OA) (data_n2 : Nat) (data_c3 : Nat) (a_4 : Int) (m_5 : Int) (b_6 : Int) (cmp_f7 : Fn) (cmp_x8 : Array Value) (cmp_c9 : Array Value) (R : EW) (w : World) : Prop :=
 ∃ (I10 : List Value → World → Prop) (μ11 : List Value → World → Nat), I10 [.int .i64 (IntKind.wrap .i64 (m_5 - a_4)), .int .i64 (IntKind.wrap .i64 (b_6 - m_5))] w ∧ (∀ (i_14 : Int), ∀ (j_15 : Int), ∀ (_j12 : Nat → Value) (w13 : World), I10 [.int .i64 i_14, .int .i64 j_15] w13 → (
 ifB ((i_14 : Int) != j_15) (
 ifB (decide ((i_14 : Int) > j_15)) (
 doCall Tryz.prog (.func (.func 210) #[] #[]) #[.slice data_p1 data_n2 data_c3, .int .i64 (IntKind.wrap .i64 (m_5 - i_14)), .int .i64 m_5, .int .i64 j_15, .func cmp_f7 cmp_x8 cmp_c9] w13 (retS (fun v16 w17 => v16 = (.tuple #[] : Value) ∧ (
 I10 [.int .i64 (IntKind.wrap .i64 (i_14 - j_15)), .int .i64 j_15] w17 ∧ μ11 [.int .i64 (IntKind.wrap .i64 (i_14 - j_15)), .int .i64 j_15] w17 < μ11 [.int .i64 i_14, .int .i64 j_15] w13)) (kN R))) (
 doCall Tryz.prog (.func (.func 210) #[] #[]) #[.slice data_p1 data_n2 data_c3, .int .i64 (IntKind.wrap .i64 (m_5 - i_14)), .int .i64 (IntKind.wrap .i64 ((IntKind.wrap .i64 (m_5 + j_15)) - i_14)), .int .i64 i_14, .func cmp_f7 cmp_x8 cmp_c9] w13 (retS (fun v18 w19 => v18 = (.tuple #[] : Value) ∧ (
 I10 [.int .i64 i_14, .int .i64 (IntKind.wrap .i64 (j_15 - i_14))] w19 ∧ μ11 [.int .i64 i_14, .int .i64 (IntKind.wrap .i64 (j_15 - i_14))] w19 < μ11 [.int .i64 i_14, .int .i64 j_15] w13)) (kN R)))) (
 doCall Tryz.prog (.func (.func 210) #[] #[]) #[.slice data_p1 data_n2 data_c3, .int .i64 (IntKind.wrap .i64 (m_5 - i_14)), .int .i64 m_5, .int .i64 i_14, .func cmp_f7 cmp_x8 cmp_c9] w13 (retS (fun v20 w21 => v20 = (.tuple #[] : Value) ∧ (
 R (.returned (.tuple #[])) w21)) (kN R)))))
theorem sh208_ok (data_p1 : OA) (data_n2 : Nat) (data_c3 : Nat) (a_4 : Int) (m_5 : Int) (b_6 : Int) (cmp_f7 : Fn) (cmp_x8 : Array Value) (cmp_c9 : Array Value) {R : EW} {w : World} : sh208 data_p1 data_n2 data_c3 a_4 m_5 b_6 cmp_f7 cmp_x8 cmp_c9 R w → Calls Tryz.prog 208 #[.slice data_p1 data_n2 data_c3, .int .i64 a_4, .int .i64 m_5, .int .i64 b_6, .func cmp_f7 cmp_x8 cmp_c9] w R :=
  Old.calls_of_eq (ann := fun i => if i = 0 then [(10, .int .i64 0), (11, .int .i64 0)] else []) (fn := Tryz.f208) (c := bodyOf Tryz.f208) (args := #[.slice data_p1 data_n2 data_c3, .int .i64 a_4, .int .i64 m_5, .int .i64 b_6, .func cmp_f7 cmp_x8 cmp_c9]) 400 follows_mixed Tryz.func208 (by kernel_rfl) (by kernel_rfl)
def sh209 (f_1 : OA) (f_2 : Value) (n_3 : OA) (R : EW) (w : World) : Prop :=
 doAl (.cells #[.pointer f_1, f_2] 203) w (fun b4 w5 =>
 ∃ q6, n_3 = some q6 ∧ (
 ∃ x7, w5.cell? q6 = some (.int .i64 x7) ∧ (
 doAl (.cells #[.int .i64 0] 2) w5 (fun b8 w9 =>
 doSt ((blk b8).add 0) (.int .i64 x7) w9 (fun w10 =>
 ∃ x11, w10.cell? ((blk b4).add 1) = some (x11) ∧ (
 doGo Tryz.prog (.fn (.method "joinery/op.num") #[]) #[x11, .pointer (some (blk b8))] w10 (retS (fun v12 w13 => v12 = (.tuple #[] : Value) ∧ (
 ∃ x14, w13.cell? (blk b8) = some (.int .i64 x14) ∧ (
 ∃ q15, n_3 = some q15 ∧ (
 doSt (q15.add 0) (.int .i64 x14) w13 (fun w16 =>
 R (.returned (.tuple #[])) w16))))) (kN R))))))))
theorem sh209_ok (f_1 : OA) (f_2 : Value) (n_3 : OA) {R : EW} {w : World} : sh209 f_1 f_2 n_3 R w → Calls Tryz.prog 209 #[.agg #[.pointer f_1, f_2], .pointer n_3] w R :=
  ceq Tryz.func209 (by kernel_rfl) (by kernel_rfl)
def sh210 (data_p1 : OA) (data_n2 : Nat) (_data_c3 : Nat) (a_4 : Int) (b_5 : Int) (n_6 : Int) (_cmp_f7 : Fn) (_cmp_x8 : Array Value) (_cmp_c9 : Array Value) (R : EW) (w : World) : Prop :=
 ∃ (I10 : List Value → World → Prop) (μ11 : List Value → World → Nat), I10 [.int .i64 0] w ∧ (∀ (i_14 : Int), ∀ (_j12 : Nat → Value) (w13 : World), I10 [.int .i64 i_14] w13 → (
 ifB (decide ((i_14 : Int) < n_6)) (
 doDr w13 (fun w16 =>
 ∃ (C15 : World → Prop), C15 w16 ∧ (
 doIx data_p1 data_n2 2 (IntKind.wrap .i64 (b_5 + i_14)) (fun a17 =>
 ∃ x18, (∀ w, C15 w → w.cell? (a17.add 0) = some (.int .i64 x18)) ∧ (
 ∃ x19, (∀ w, C15 w → w.cell? (a17.add 1) = some (.int .i64 x19)) ∧ (
 doIx data_p1 data_n2 2 (IntKind.wrap .i64 (a_4 + i_14)) (fun a20 =>
 ∃ x21, (∀ w, C15 w → w.cell? (a20.add 0) = some (.int .i64 x21)) ∧ (
 ∃ x22, (∀ w, C15 w → w.cell? (a20.add 1) = some (.int .i64 x22)) ∧ (
 doIx data_p1 data_n2 2 (IntKind.wrap .i64 (a_4 + i_14)) (fun a23 =>
 doSt (a23.add 0) (.int .i64 x18) w16 (fun w24 =>
 doSt (a23.add 1) (.int .i64 x19) w24 (fun w25 =>
 doIx data_p1 data_n2 2 (IntKind.wrap .i64 (b_5 + i_14)) (fun a26 =>
 doSt (a26.add 0) (.int .i64 x21) w25 (fun w27 =>
 doSt (a26.add 1) (.int .i64 x22) w27 (fun w28 =>
 I10 [.int .i64 (IntKind.wrap .i64 (i_14 + 1))] w28 ∧ μ11 [.int .i64 (IntKind.wrap .i64 (i_14 + 1))] w28 < μ11 [.int .i64 i_14] w13))))))))))))))) (
 R (.returned (.tuple #[])) w13)))
theorem sh210_ok (data_p1 : OA) (data_n2 : Nat) (data_c3 : Nat) (a_4 : Int) (b_5 : Int) (n_6 : Int) (cmp_f7 : Fn) (cmp_x8 : Array Value) (cmp_c9 : Array Value) {R : EW} {w : World} : sh210 data_p1 data_n2 data_c3 a_4 b_5 n_6 cmp_f7 cmp_x8 cmp_c9 R w → Calls Tryz.prog 210 #[.slice data_p1 data_n2 data_c3, .int .i64 a_4, .int .i64 b_5, .int .i64 n_6, .func cmp_f7 cmp_x8 cmp_c9] w R :=
  Old.calls_of_eq (ann := fun i => if i = 0 then [(10, .int .i64 0)] else []) (fn := Tryz.f210) (c := bodyOf Tryz.f210) (args := #[.slice data_p1 data_n2 data_c3, .int .i64 a_4, .int .i64 b_5, .int .i64 n_6, .func cmp_f7 cmp_x8 cmp_c9]) 400 follows_mixed Tryz.func210 (by kernel_rfl) (by kernel_rfl)
def sh227 (c_1 : OA) (is_2 : OA) (R : EW) (w : World) : Prop :=
 doAl (.cells #[.int .u8 0] 5) w (fun b3 w4 =>
 doSt ((blk b3).add 0) (.int .u8 0) w4 (fun w5 =>
 let K7 : World → Prop := fun w6 => 
 doCall Tryz.prog (.func (.func 231) #[] #[]) #[.pointer c_1, .pointer (some (blk b3)), .slice none 0 0] w6 (retS (fun v8 w9 => v8 = (.tuple #[] : Value) ∧ (
 R (.returned (.tuple #[])) w9)) (kN R))
 ∃ q10, is_2 = some q10 ∧ (
 ∃ x11, w5.cell? q10 = some (.bool x11) ∧ (
 ifB x11 (
 doSt ((blk b3).add 0) (.int .u8 1) w5 (fun w12 =>
 K7 w12)) (
 K7 w5)))))
theorem sh227_ok (c_1 : OA) (is_2 : OA) {R : EW} {w : World} : sh227 c_1 is_2 R w → Calls Tryz.prog 227 #[.pointer c_1, .pointer is_2] w R :=
  ceq Tryz.func227 (by kernel_rfl) (by kernel_rfl)
def sh228 (c_1 : OA) (n_2 : OA) (R : EW) (w : World) : Prop :=
 ∃ q3, n_2 = some q3 ∧ (
 ∃ x4, w.cell? q3 = some (.int .i64 x4) ∧ (
 doAl (.cells #[.int .i64 0] 2) w (fun b5 w6 =>
 doSt ((blk b5).add 0) (.int .i64 x4) w6 (fun w7 =>
 doCall Tryz.prog (.func (.func 229) #[] #[]) #[.pointer c_1, .pointer (some (blk b5))] w7 (retS (fun v8 w9 => v8 = (.tuple #[] : Value) ∧ (
 R (.returned (.tuple #[])) w9)) (kN R))))))
theorem sh228_ok (c_1 : OA) (n_2 : OA) {R : EW} {w : World} : sh228 c_1 n_2 R w → Calls Tryz.prog 228 #[.pointer c_1, .pointer n_2] w R :=
  ceq Tryz.func228 (by kernel_rfl) (by kernel_rfl)
def sh229 (c_1 : OA) (v_2 : OA) (R : EW) (w : World) : Prop :=
 ∃ q3, v_2 = some q3 ∧ (
 ∃ x4, w.cell? q3 = some (.int .i64 x4) ∧ (
 doCall Tryz.prog (.func (.func 95) #[] #[]) #[.int .u8 3, .int .i64 x4] w (retS (fun v7 w8 => ∃ x5 x6, v7 = (.tuple #[.int .u64 x5, .int .i64 x6] : Value) ∧ (
 ∃ (I9 : List Value → World → Prop) (μ10 : List Value → World → Nat), I9 [.int .u64 x5] w8 ∧ (∀ (u_13 : Int), ∀ (_j11 : Nat → Value) (w12 : World), I9 [.int .u64 u_13] w12 → (
 ifB (decide ((u_13 : Int) ≥ 128)) (
 ∃ q14, c_1 = some q14 ∧ (
 ∃ xp15 xn16 xc17, w12.cell? (q14.add 0) = some (.slice xp15 xn16 xc17) ∧ (
 doAl (.cells #[.int .u8 (bOr .u8 (IntKind.wrap .u8 u_13) 128)] 5) w12 (fun b18 w19 =>
 doGo Tryz.prog (.builtin .append #[159, 159] 159 #[false, false]) #[.slice xp15 xn16 xc17, .slice (some (blk b18)) 1 1] w19 (retS (fun v23 w24 => ∃ xp20 xn21 xc22, v23 = (.slice xp20 xn21 xc22 : Value) ∧ (
 ∃ q25, c_1 = some q25 ∧ (
 doSt ((q25.add 0).add 0) (.slice xp20 xn21 xc22) w24 (fun w26 =>
 (0 : Int) ≤ 7 ∧ (
 I9 [.int .u64 (Int.fdiv u_13 (2 ^ (min (7 : Int).toNat (IntKind.bits .u64))))] w26 ∧ μ10 [.int .u64 (Int.fdiv u_13 (2 ^ (min (7 : Int).toNat (IntKind.bits .u64))))] w26 < μ10 [.int .u64 u_13] w12))))) (kN R)))))) (
 ∃ q27, c_1 = some q27 ∧ (
 ∃ xp28 xn29 xc30, w12.cell? (q27.add 0) = some (.slice xp28 xn29 xc30) ∧ (
 doAl (.cells #[.int .u8 (IntKind.wrap .u8 u_13)] 5) w12 (fun b31 w32 =>
 doGo Tryz.prog (.builtin .append #[159, 159] 159 #[false, false]) #[.slice xp28 xn29 xc30, .slice (some (blk b31)) 1 1] w32 (retS (fun v36 w37 => ∃ xp33 xn34 xc35, v36 = (.slice xp33 xn34 xc35 : Value) ∧ (
 ∃ q38, c_1 = some q38 ∧ (
 doSt ((q38.add 0).add 0) (.slice xp33 xn34 xc35) w37 (fun w39 =>
 R (.returned (.tuple #[])) w39)))) (kN R)))))))))) (kN R))))
theorem sh229_ok (c_1 : OA) (v_2 : OA) {R : EW} {w : World} : sh229 c_1 v_2 R w → Calls Tryz.prog 229 #[.pointer c_1, .pointer v_2] w R :=
  Old.calls_of_eq (ann := fun i => if i = 0 then [(4, .int .u64 0)] else []) (fn := Tryz.f229) (c := bodyOf Tryz.f229) (args := #[.pointer c_1, .pointer v_2]) 400 follows_mixed Tryz.func229 (by kernel_rfl) (by kernel_rfl)
def sh230 (c_1 : OA) (x_2 : OA) (R : EW) (w : World) : Prop :=
 ∃ q3, x_2 = some q3 ∧ (
 doCall Tryz.prog (.func (.func 229) #[] #[]) #[.pointer c_1, .pointer (some (q3.add 0))] w (retS (fun v4 w5 => v4 = (.tuple #[] : Value) ∧ (
 ∃ q6, x_2 = some q6 ∧ (
 doCall Tryz.prog (.func (.func 229) #[] #[]) #[.pointer c_1, .pointer (some (q6.add 1))] w5 (retS (fun v7 w8 => v7 = (.tuple #[] : Value) ∧ (
 R (.returned (.tuple #[])) w8)) (kN R))))) (kN R)))
theorem sh230_ok (c_1 : OA) (x_2 : OA) {R : EW} {w : World} : sh230 c_1 x_2 R w → Calls Tryz.prog 230 #[.pointer c_1, .pointer x_2] w R :=
  ceq Tryz.func230 (by kernel_rfl) (by kernel_rfl)
def sh231 (c_1 : OA) (k_2 : OA) (_xp3 : OA) (_xn4 : Nat) (_xc5 : Nat) (R : EW) (w : World) : Prop :=
 doDr w (fun w7 =>
 ∃ (C6 : World → Prop), C6 w7 ∧ (
 ∃ q8, c_1 = some q8 ∧ (
 ∃ xp9 xn10 xc11, (∀ w, C6 w → w.cell? (q8.add 0) = some (.slice xp9 xn10 xc11)) ∧ (
 ∃ q12, k_2 = some q12 ∧ (
 ∃ x13, (∀ w, C6 w → w.cell? q12 = some (.int .u8 x13)) ∧ (
 doAl (.cells #[.int .u8 x13] 5) w7 (fun b14 w15 =>
 C6 w15 ∧ (
 doGo Tryz.prog (.builtin .append #[159, 159] 159 #[false, false]) #[.slice xp9 xn10 xc11, .slice (some (blk b14)) 1 1] w15 (retS (fun v19 w20 => ∃ xp16 xn17 xc18, v19 = (.slice xp16 xn17 xc18 : Value) ∧ (
 C6 w20 ∧ (
 ∃ q21, c_1 = some q21 ∧ (
 doSt ((q21.add 0).add 0) (.slice xp16 xn17 xc18) w20 (fun w22 =>
 R (.returned (.tuple #[])) w22))))) (kN R))))))))))
theorem sh231_ok (c_1 : OA) (k_2 : OA) (xp3 : OA) (xn4 : Nat) (xc5 : Nat) {R : EW} {w : World} : sh231 c_1 k_2 xp3 xn4 xc5 R w → Calls Tryz.prog 231 #[.pointer c_1, .pointer k_2, .slice xp3 xn4 xc5] w R :=
  ceq Tryz.func231 (by kernel_rfl) (by kernel_rfl)
def sh232 (c_1 : OA) (is_2 : OA) (R : EW) (w : World) : Prop :=
 doAl (.cells #[.int .u8 0] 5) w (fun b3 w4 =>
 doCall Tryz.prog (.func (.func 236) #[] #[]) #[.pointer c_1, .pointer (some (blk b3)), .slice none 0 0] w4 (retS (fun v5 w6 => v5 = (.tuple #[] : Value) ∧ (
 ∃ x7, w6.cell? (blk b3) = some (.int .u8 x7) ∧ (
 doCall Tryz.prog (.func (.func 237) #[] #[]) #[.bool (decide ((x7 : Int) < 2))] w6 (retS (fun v8 w9 => v8 = (.tuple #[] : Value) ∧ (
 ∃ x10, w9.cell? (blk b3) = some (.int .u8 x10) ∧ (
 ∃ q11, is_2 = some q11 ∧ (
 doSt (q11.add 0) (.bool ((x10 : Int) == 1)) w9 (fun w12 =>
 R (.returned (.tuple #[])) w12))))) (kN R))))) (kN R)))
theorem sh232_ok (c_1 : OA) (is_2 : OA) {R : EW} {w : World} : sh232 c_1 is_2 R w → Calls Tryz.prog 232 #[.pointer c_1, .pointer is_2] w R :=
  ceq Tryz.func232 (by kernel_rfl) (by kernel_rfl)
def sh233 (c_1 : OA) (n_2 : OA) (R : EW) (w : World) : Prop :=
 doAl (.cells #[.int .i64 0] 2) w (fun b3 w4 =>
 doCall Tryz.prog (.func (.func 234) #[] #[]) #[.pointer c_1, .pointer (some (blk b3))] w4 (retS (fun v5 w6 => v5 = (.tuple #[] : Value) ∧ (
 let K8 : World → Prop := fun w7 => 
 ∃ x9, w7.cell? (blk b3) = some (.int .i64 x9) ∧ (
 ∃ q10, n_2 = some q10 ∧ (
 doSt (q10.add 0) (.int .i64 x9) w7 (fun w11 =>
 R (.returned (.tuple #[])) w11)))
 ∃ x12, w6.cell? (blk b3) = some (.int .i64 x12) ∧ (
 ifB (decide ((x12 : Int) ≥ 0)) (
 ∃ x13, w6.cell? (blk b3) = some (.int .i64 x13) ∧ (
 doCall Tryz.prog (.func (.func 237) #[] #[]) #[.bool (decide ((x13 : Int) ≤ 4096))] w6 (retS (fun v14 w15 => v14 = (.tuple #[] : Value) ∧ (
 K8 w15)) (kN R)))) (
 doCall Tryz.prog (.func (.func 237) #[] #[]) #[.bool false] w6 (retS (fun v16 w17 => v16 = (.tuple #[] : Value) ∧ (
 K8 w17)) (kN R)))))) (kN R)))
theorem sh233_ok (c_1 : OA) (n_2 : OA) {R : EW} {w : World} : sh233 c_1 n_2 R w → Calls Tryz.prog 233 #[.pointer c_1, .pointer n_2] w R :=
  ceq Tryz.func233 (by kernel_rfl) (by kernel_rfl)
def sh234 (c_1 : OA) (v_2 : OA) (R : EW) (w : World) : Prop :=
 ∃ (I3 : List Value → World → Prop) (μ4 : List Value → World → Nat), I3 [.int .u64 0, .int .i64 0] w ∧ (∀ (u_7 : Int), ∀ (k_8 : Int), ∀ (_j5 : Nat → Value) (w6 : World), I3 [.int .u64 u_7, .int .i64 k_8] w6 → (
 doAl (.cells #[.int .u8 0] 5) w6 (fun b9 w10 =>
 doCall Tryz.prog (.func (.func 236) #[] #[]) #[.pointer c_1, .pointer (some (blk b9)), .slice none 0 0] w10 (retS (fun v11 w12 => v11 = (.tuple #[] : Value) ∧ (
 let K14 : World → Prop := fun w13 => 
 ∃ x15, w13.cell? (blk b9) = some (.int .u8 x15) ∧ (
 (0 : Int) ≤ (IntKind.wrap .i64 (7 * k_8)) ∧ (
 ∃ x16, w13.cell? (blk b9) = some (.int .u8 x16) ∧ (
 ifB (decide ((x16 : Int) < 128)) (
 doCall Tryz.prog (.func (.func 238) #[] #[]) #[.int .u8 3, .int .u64 (bOr .u64 u_7 (IntKind.wrap .u64 ((IntKind.wrap .u64 (bAnd .u8 x15 127)) * 2 ^ (min ((IntKind.wrap .i64 (7 * k_8)) : Int).toNat (IntKind.bits .u64)))))] w13 (retS (fun v19 w20 => ∃ x17 x18, v19 = (.tuple #[.int .i64 x17, .int .i64 x18] : Value) ∧ (
 ∃ q21, v_2 = some q21 ∧ (
 doSt (q21.add 0) (.int .i64 x17) w20 (fun w22 =>
 R (.returned (.tuple #[])) w22)))) (kN R))) (
 I3 [.int .u64 (bOr .u64 u_7 (IntKind.wrap .u64 ((IntKind.wrap .u64 (bAnd .u8 x15 127)) * 2 ^ (min ((IntKind.wrap .i64 (7 * k_8)) : Int).toNat (IntKind.bits .u64))))), .int .i64 (IntKind.wrap .i64 (k_8 + 1))] w13 ∧ μ4 [.int .u64 (bOr .u64 u_7 (IntKind.wrap .u64 ((IntKind.wrap .u64 (bAnd .u8 x15 127)) * 2 ^ (min ((IntKind.wrap .i64 (7 * k_8)) : Int).toNat (IntKind.bits .u64))))), .int .i64 (IntKind.wrap .i64 (k_8 + 1))] w13 < μ4 [.int .u64 u_7, .int .i64 k_8] w6))))
 ifB (decide ((k_8 : Int) < 9)) (
 ifB ((k_8 : Int) == 0) (
 doCall Tryz.prog (.func (.func 237) #[] #[]) #[.bool true] w12 (retS (fun v23 w24 => v23 = (.tuple #[] : Value) ∧ (
 K14 w24)) (kN R))) (
 ∃ x25, w12.cell? (blk b9) = some (.int .u8 x25) ∧ (
 doCall Tryz.prog (.func (.func 237) #[] #[]) #[.bool ((x25 : Int) != 0)] w12 (retS (fun v26 w27 => v26 = (.tuple #[] : Value) ∧ (
 K14 w27)) (kN R))))) (
 ∃ x28, w12.cell? (blk b9) = some (.int .u8 x28) ∧ (
 ifB (decide ((x28 : Int) < 2)) (
 ifB ((k_8 : Int) == 0) (
 doCall Tryz.prog (.func (.func 237) #[] #[]) #[.bool true] w12 (retS (fun v29 w30 => v29 = (.tuple #[] : Value) ∧ (
 K14 w30)) (kN R))) (
 ∃ x31, w12.cell? (blk b9) = some (.int .u8 x31) ∧ (
 doCall Tryz.prog (.func (.func 237) #[] #[]) #[.bool ((x31 : Int) != 0)] w12 (retS (fun v32 w33 => v32 = (.tuple #[] : Value) ∧ (
 K14 w33)) (kN R))))) (
 doCall Tryz.prog (.func (.func 237) #[] #[]) #[.bool false] w12 (retS (fun v34 w35 => v34 = (.tuple #[] : Value) ∧ (
 K14 w35)) (kN R))))))) (kN R)))))
theorem sh234_ok (c_1 : OA) (v_2 : OA) {R : EW} {w : World} : sh234 c_1 v_2 R w → Calls Tryz.prog 234 #[.pointer c_1, .pointer v_2] w R :=
  Old.calls_of_eq (ann := fun i => if i = 0 then [(4, .int .u64 0), (5, .int .i64 0)] else []) (fn := Tryz.f234) (c := bodyOf Tryz.f234) (args := #[.pointer c_1, .pointer v_2]) 400 follows_mixed Tryz.func234 (by kernel_rfl) (by kernel_rfl)
def sh235 (c_1 : OA) (x_2 : OA) (R : EW) (w : World) : Prop :=
 ∃ q3, x_2 = some q3 ∧ (
 doCall Tryz.prog (.func (.func 234) #[] #[]) #[.pointer c_1, .pointer (some (q3.add 0))] w (retS (fun v4 w5 => v4 = (.tuple #[] : Value) ∧ (
 ∃ q6, x_2 = some q6 ∧ (
 doCall Tryz.prog (.func (.func 234) #[] #[]) #[.pointer c_1, .pointer (some (q6.add 1))] w5 (retS (fun v7 w8 => v7 = (.tuple #[] : Value) ∧ (
 R (.returned (.tuple #[])) w8)) (kN R))))) (kN R)))
theorem sh235_ok (c_1 : OA) (x_2 : OA) {R : EW} {w : World} : sh235 c_1 x_2 R w → Calls Tryz.prog 235 #[.pointer c_1, .pointer x_2] w R :=
  ceq Tryz.func235 (by kernel_rfl) (by kernel_rfl)
def sh236 (c_1 : OA) (k_2 : OA) (_xp3 : OA) (_xn4 : Nat) (_xc5 : Nat) (R : EW) (w : World) : Prop :=
 ∃ q6, c_1 = some q6 ∧ (
 ∃ x7, w.cell? (q6.add 0) = some (.string x7) ∧ (
 doCall Tryz.prog (.func (.func 237) #[] #[]) #[.bool (!(x7.toList == (⟨#[]⟩ : ByteArray).toList))] w (retS (fun v8 w9 => v8 = (.tuple #[] : Value) ∧ (
 doDr w9 (fun w11 =>
 ∃ (C10 : World → Prop), C10 w11 ∧ (
 ∃ q12, c_1 = some q12 ∧ (
 ∃ x13, (∀ w, C10 w → w.cell? (q12.add 0) = some (.string x13)) ∧ (
 ∃ b14, (0 : Int) ≤ 0 ∧ x13[(0 : Int).toNat]? = some b14 ∧ (
 ∃ q15, c_1 = some q15 ∧ (
 ∃ x16, (∀ w, C10 w → w.cell? (q15.add 0) = some (.string x16)) ∧ (
 doSs x16 (1) (((x16).size : Int)) (fun s17 =>
 ∃ q18, k_2 = some q18 ∧ (
 doSt (q18.add 0) (.int .u8 ((b14.toNat : Nat) : Int)) w11 (fun w19 =>
 ∃ q20, c_1 = some q20 ∧ (
 doSt ((q20.add 0).add 0) (.string s17) w19 (fun w21 =>
 R (.returned (.tuple #[])) w21)))))))))))))) (kN R))))
theorem sh236_ok (c_1 : OA) (k_2 : OA) (xp3 : OA) (xn4 : Nat) (xc5 : Nat) {R : EW} {w : World} : sh236 c_1 k_2 xp3 xn4 xc5 R w → Calls Tryz.prog 236 #[.pointer c_1, .pointer k_2, .slice xp3 xn4 xc5] w R :=
  ceq Tryz.func236 (by kernel_rfl) (by kernel_rfl)
def sh237 (is_1 : Bool) (R : EW) (w : World) : Prop :=
 ifB (!is_1) (
 doPanic Tryz.prog (.iface 194 (.agg #[])) w (kN R)) (
 R (.returned (.tuple #[])) w)
theorem sh237_ok (is_1 : Bool) {R : EW} {w : World} : sh237 is_1 R w → Calls Tryz.prog 237 #[.bool is_1] w R :=
  ceq Tryz.func237 (by kernel_rfl) (by kernel_rfl)
def sh238 (o_1 : Int) (code_2 : Int) (R : EW) (w : World) : Prop :=
 let K6 : Addr → Bool → World → Prop := fun k_3 is_4 w5 => 
 ifB (!is_4) (
 R (.returned (.tuple #[.int .i64 0, .int .i64 2])) w5) (
 ∃ xf7 xx8 xc9, w5.cell? (k_3.add 2) = some (.func xf7 xx8 xc9) ∧ (
 doCall Tryz.prog (.func xf7 xx8 xc9) #[.int .u64 code_2] w5 (retS (fun v11 w12 => ∃ x10, v11 = (.int .i64 x10 : Value) ∧ (
 R (.returned (.tuple #[.int .i64 x10, .int .i64 0])) w12)) (kN R))))
 doCall Tryz.prog (.func (.func 82) #[] #[]) #[] w (retS (fun v14 w15 => ∃ x13, v14 = (.map x13 : Value) ∧ (
 doLk Tryz.prog 111 (.map x13) (.int .u8 o_1) true w15 (fun v24 => (∃ x16 xf17 xx18 xc19 xf20 xx21 xc22 x23, v24 = (.tuple #[.agg #[.string x16, .func xf17 xx18 xc19, .func xf20 xx21 xc22], .bool x23] : Value) ∧ (
 doAl (.cells #[.string (⟨#[]⟩ : ByteArray), .nilFunc, .nilFunc] 110) w15 (fun b25 w26 =>
 doSt ((blk b25).add 0) (.string x16) w26 (fun w27 =>
 doSt ((blk b25).add 1) (.func xf17 xx18 xc19) w27 (fun w28 =>
 doSt ((blk b25).add 2) (.func xf20 xx21 xc22) w28 (fun w29 =>
 K6 (blk b25) x23 w29)))))) ∨ (v24 = (.tuple #[.agg #[.string (⟨#[]⟩ : ByteArray), .nilFunc, .nilFunc], .bool false] : Value) ∧ (
 doAl (.cells #[.string (⟨#[]⟩ : ByteArray), .nilFunc, .nilFunc] 110) w15 (fun b30 w31 =>
 doSt ((blk b30).add 0) (.string (⟨#[]⟩ : ByteArray)) w31 (fun w32 =>
 doSt ((blk b30).add 1) (.nilFunc) w32 (fun w33 =>
 doSt ((blk b30).add 2) (.nilFunc) w33 (fun w34 =>
 K6 (blk b30) false w34))))))))) (kN R))
theorem sh238_ok (o_1 : Int) (code_2 : Int) {R : EW} {w : World} : sh238 o_1 code_2 R w → Calls Tryz.prog 238 #[.int .u8 o_1, .int .u64 code_2] w R :=
  ceq Tryz.func238 (by kernel_rfl) (by kernel_rfl)
end Go.Proofs.YtmdboekndjlmgaaGreat

namespace Go.Proofs.YtmdboekndjlmgaaGreat
open Go Go.Sh
def sh194 (yield_f1 : Fn) (yield_x2 : Array Value) (yield_c3 : Array Value) (x4 : Addr) (x5 : Addr) (x6 : Addr) (R : EW) (w : World) : Prop :=
 ∃ (I7 : List Value → World → Prop) (μ8 : List Value → World → Nat), I7 [] w ∧ (∀ (_j9 : Nat → Value) (w10 : World), I7 [] w10 → (
 ∃ xp11 xn12 xc13, w10.cell? x4 = some (.slice xp11 xn12 xc13) ∧ (
 ∃ xp14 xn15 xc16, w10.cell? x5 = some (.slice xp14 xn15 xc16) ∧ (
 ifB (decide (((IntKind.wrap .i64 (((xn12 : Nat) : Int) + ((xn15 : Nat) : Int))) : Int) > 0)) (
 doAl (.cells #[.int .i64 0, .int .i64 0, .int .i64 0, .bool false, .bool false] 149) w10 (fun b17 w18 =>
 ∃ (J19 : List Value → World → Prop), (∀ (turn_22 : Int), ∀ (_j20 : Nat → Value) (w21 : World), J19 [.int .i64 turn_22] w21 → (
 ∃ (J23 : List Value → World → Prop), (∀ (_j24 : Nat → Value) (w25 : World), J23 [] w25 → (
 ∃ (J26 : List Value → World → Prop), (∀ (_j27 : Nat → Value) (w28 : World), J26 [] w28 → (
 ∃ x29, w28.cell? ((blk b17).add 0) = some (.int .i64 x29) ∧ (
 ∃ x30, w28.cell? ((blk b17).add 1) = some (.int .i64 x30) ∧ (
 ∃ x31, w28.cell? ((blk b17).add 2) = some (.int .i64 x31) ∧ (
 ∃ x32, w28.cell? ((blk b17).add 3) = some (.bool x32) ∧ (
 ∃ x33, w28.cell? ((blk b17).add 4) = some (.bool x33) ∧ (
 doCall Tryz.prog (.func yield_f1 yield_x2 yield_c3) #[.agg #[.int .i64 x29, .int .i64 x30, .int .i64 x31, .bool x32, .bool x33]] w28 (retS (fun v35 w36 => ∃ x34, v35 = (.bool x34 : Value) ∧ (
 ifB (!x34) (
 R (.returned (.tuple #[])) w36) (
 I7 [] w36 ∧ μ8 [] w36 < μ8 [] w10))) (kN R))))))))) ∧ (
 ∃ (J37 : List Value → World → Prop), (∀ (_j38 : Nat → Value) (w39 : World), J37 [] w39 → (
 ∃ x40, w39.cell? ((blk b17).add 4) = some (.bool x40) ∧ (
 ifB x40 (
 doDr w39 (fun w42 =>
 ∃ (C41 : World → Prop), C41 w42 ∧ (
 ∃ xp43 xn44 xc45, (∀ w, C41 w → w.cell? x5 = some (.slice xp43 xn44 xc45)) ∧ (
 doIx xp43 xn44 2 (0) (fun a46 =>
 ∃ x47, (∀ w, C41 w → w.cell? (a46.add 0) = some (.int .i64 x47)) ∧ (
 ∃ xp48 xn49 xc50, (∀ w, C41 w → w.cell? x5 = some (.slice xp48 xn49 xc50)) ∧ (
 doIx xp48 xn49 2 (0) (fun a51 =>
 ∃ x52, (∀ w, C41 w → w.cell? (a51.add 1) = some (.int .i64 x52)) ∧ (
 ∃ xp53 xn54 xc55, (∀ w, C41 w → w.cell? x5 = some (.slice xp53 xn54 xc55)) ∧ (
 doSl xp53 xc55 2 (1) (((xn54 : Nat) : Int)) (fun p56 n57 c58 =>
 doSt (((blk b17).add 0).add 0) (.int .i64 x47) w42 (fun w59 =>
 C41 w59 ∧ (
 doSt (((blk b17).add 2).add 0) (.int .i64 x52) w59 (fun w60 =>
 C41 w60 ∧ (
 doSt (x5.add 0) (.slice p56 n57 c58) w60 (fun w61 =>
 J26 [] w61)))))))))))))))) (
 J26 [] w39)))) ∧ (
 doDr w25 (fun w63 =>
 ∃ (C62 : World → Prop), C62 w63 ∧ (
 ∃ xp64 xn65 xc66, (∀ w, C62 w → w.cell? x5 = some (.slice xp64 xn65 xc66)) ∧ (
 ifB (decide ((((xn65 : Nat) : Int) : Int) > 0)) (
 ∃ x67, (∀ w, C62 w → w.cell? ((blk b17).add 3) = some (.bool x67)) ∧ (
 ifB (!x67) (
 doSt (((blk b17).add 4).add 0) (.bool true) w63 (fun w68 =>
 J37 [] w68)) (
 ifB ((turn_22 : Int) == 0) (
 ∃ x69, (∀ w, C62 w → w.cell? ((blk b17).add 0) = some (.int .i64 x69)) ∧ (
 ∃ xp70 xn71 xc72, (∀ w, C62 w → w.cell? x5 = some (.slice xp70 xn71 xc72)) ∧ (
 doIx xp70 xn71 2 (0) (fun a73 =>
 ∃ x74, (∀ w, C62 w → w.cell? (a73.add 0) = some (.int .i64 x74)) ∧ (
 doSt (((blk b17).add 4).add 0) (.bool ((x69 : Int) == x74)) w63 (fun w75 =>
 J37 [] w75)))))) (
 doSt (((blk b17).add 4).add 0) (.bool false) w63 (fun w76 =>
 J37 [] w76))))) (
 doSt (((blk b17).add 4).add 0) (.bool false) w63 (fun w77 =>
 J37 [] w77))))))))) ∧ (
 ∃ (J78 : List Value → World → Prop), (∀ (_j79 : Nat → Value) (w80 : World), J78 [] w80 → (
 ∃ x81, w80.cell? ((blk b17).add 3) = some (.bool x81) ∧ (
 ifB x81 (
 doDr w80 (fun w83 =>
 ∃ (C82 : World → Prop), C82 w83 ∧ (
 ∃ xp84 xn85 xc86, (∀ w, C82 w → w.cell? x4 = some (.slice xp84 xn85 xc86)) ∧ (
 doIx xp84 xn85 2 (0) (fun a87 =>
 ∃ x88, (∀ w, C82 w → w.cell? (a87.add 0) = some (.int .i64 x88)) ∧ (
 ∃ xp89 xn90 xc91, (∀ w, C82 w → w.cell? x4 = some (.slice xp89 xn90 xc91)) ∧ (
 doIx xp89 xn90 2 (0) (fun a92 =>
 ∃ x93, (∀ w, C82 w → w.cell? (a92.add 1) = some (.int .i64 x93)) ∧ (
 ∃ xp94 xn95 xc96, (∀ w, C82 w → w.cell? x4 = some (.slice xp94 xn95 xc96)) ∧ (
 doSl xp94 xc96 2 (1) (((xn95 : Nat) : Int)) (fun p97 n98 c99 =>
 doSt (((blk b17).add 0).add 0) (.int .i64 x88) w83 (fun w100 =>
 C82 w100 ∧ (
 doSt (((blk b17).add 1).add 0) (.int .i64 x93) w100 (fun w101 =>
 C82 w101 ∧ (
 doSt (x4.add 0) (.slice p97 n98 c99) w101 (fun w102 =>
 J23 [] w102)))))))))))))))) (
 J23 [] w80)))) ∧ (
 ∃ xp103 xn104 xc105, w21.cell? x4 = some (.slice xp103 xn104 xc105) ∧ (
 ifB (decide ((((xn104 : Nat) : Int) : Int) > 0)) (
 ∃ xp106 xn107 xc108, w21.cell? x5 = some (.slice xp106 xn107 xc108) ∧ (
 ifB ((((xn107 : Nat) : Int) : Int) == 0) (
 doSt (((blk b17).add 3).add 0) (.bool true) w21 (fun w109 =>
 J78 [] w109)) (
 doSt (((blk b17).add 3).add 0) (.bool (decide ((turn_22 : Int) ≤ 0))) w21 (fun w110 =>
 J78 [] w110)))) (
 doSt (((blk b17).add 3).add 0) (.bool false) w21 (fun w111 =>
 J78 [] w111))))))) ∧ (
 ∃ (J112 : List Value → World → Prop), (∀ (x115 : Bool), ∀ (_j113 : Nat → Value) (w114 : World), J112 [.bool x115] w114 → (
 ifB x115 (
 doDr w114 (fun w117 =>
 ∃ (C116 : World → Prop), C116 w117 ∧ (
 ∃ x118, (∀ w, C116 w → w.cell? x6 = some (.int .u8 x118)) ∧ (
 ∃ xp119 xn120 xc121, (∀ w, C116 w → w.cell? x4 = some (.slice xp119 xn120 xc121)) ∧ (
 doIx xp119 xn120 2 (0) (fun a122 =>
 ∃ x123, (∀ w, C116 w → w.cell? (a122.add 0) = some (.int .i64 x123)) ∧ (
 ∃ xp124 xn125 xc126, (∀ w, C116 w → w.cell? x5 = some (.slice xp124 xn125 xc126)) ∧ (
 doIx xp124 xn125 2 (0) (fun a127 =>
 ∃ x128, (∀ w, C116 w → w.cell? (a127.add 0) = some (.int .i64 x128)) ∧ (
 doCall Tryz.prog (.func (.func 54) #[] #[]) #[.int .u8 x118, .int .i64 x123, .int .i64 x128] w117 (retS (fun v130 w131 => ∃ x129, v130 = (.int .i64 x129 : Value) ∧ (
 C116 w131 ∧ (
 J19 [.int .i64 x129] w131))) (kN R)))))))))))) (
 J19 [.int .i64 0] w114))) ∧ (
 ∃ xp132 xn133 xc134, w18.cell? x4 = some (.slice xp132 xn133 xc134) ∧ (
 ifB (decide ((((xn133 : Nat) : Int) : Int) > 0)) (
 ∃ xp135 xn136 xc137, w18.cell? x5 = some (.slice xp135 xn136 xc137) ∧ (
 J112 [.bool (decide ((((xn136 : Nat) : Int) : Int) > 0))] w18)) (
 J112 [.bool false] w18)))))) (
 R (.returned (.tuple #[])) w10)))))
theorem sh194_ok (yield_f1 : Fn) (yield_x2 : Array Value) (yield_c3 : Array Value) (x4 : Addr) (x5 : Addr) (x6 : Addr) {R : EW} {w : World} : sh194 yield_f1 yield_x2 yield_c3 x4 x5 x6 R w → Calls Tryz.prog 194 #[.func yield_f1 yield_x2 yield_c3, .pointer (some x4), .pointer (some x5), .pointer (some x6)] w R :=
  Old.calls_of_eq (ann := fun i => if i = 1000011 then [(0, .nilIface)] else if i = 1000009 then [(0, .nilIface)] else if i = 1000008 then [(0, .nilIface)] else if i = 1000006 then [(0, .nilIface)] else if i = 1000005 then [(0, .nilIface), (6, .int .i64 0)] else if i = 1000004 then [(0, .nilIface), (20, .bool false)] else if i = 0 then [] else []) (fn := Tryz.f194) (c := bodyOf Tryz.f194) (args := #[.func yield_f1 yield_x2 yield_c3, .pointer (some x4), .pointer (some x5), .pointer (some x6)]) 400 follows_mixed Tryz.func194 (by kernel_rfl) (by kernel_rfl)
end Go.Proofs.YtmdboekndjlmgaaGreat

namespace Go.Proofs.YtmdboekndjlmgaaGreat
open Go Go.Sh
def sh193 (data_p1 : OA) (data_n2 : Nat) (data_c3 : Nat) (a_4 : Int) (m_5 : Int) (b_6 : Int) (cmp_f7 : Fn) (cmp_x8 : Array Value) (cmp_c9 : Array Value) (R : EW) (w : World) : Prop :=
 ifB (((IntKind.wrap .i64 (m_5 - a_4)) : Int) == 1) (
 ∃ (I10 : List Value → World → Prop) (μ11 : List Value → World → Nat), I10 [.int .i64 m_5, .int .i64 b_6] w ∧ (∀ (i_14 : Int), ∀ (j_15 : Int), ∀ (_j12 : Nat → Value) (w13 : World), I10 [.int .i64 i_14, .int .i64 j_15] w13 → (
 ifB (decide ((i_14 : Int) < j_15)) (
 (0 : Int) ≤ 1 ∧ (
 doDr w13 (fun w17 =>
 ∃ (C16 : World → Prop), C16 w17 ∧ (
 doIx data_p1 data_n2 2 (IntKind.wrap .i64 (Int.fdiv (IntKind.wrap .u64 (IntKind.wrap .i64 (i_14 + j_15))) (2 ^ (min (1 : Int).toNat (IntKind.bits .u64))))) (fun a18 =>
 ∃ x19, (∀ w, C16 w → w.cell? (a18.add 0) = some (.int .i64 x19)) ∧ (
 ∃ x20, (∀ w, C16 w → w.cell? (a18.add 1) = some (.int .i64 x20)) ∧ (
 doIx data_p1 data_n2 2 (a_4) (fun a21 =>
 ∃ x22, (∀ w, C16 w → w.cell? (a21.add 0) = some (.int .i64 x22)) ∧ (
 ∃ x23, (∀ w, C16 w → w.cell? (a21.add 1) = some (.int .i64 x23)) ∧ (
 doCall Tryz.prog (.func cmp_f7 cmp_x8 cmp_c9) #[.agg #[.int .i64 x19, .int .i64 x20], .agg #[.int .i64 x22, .int .i64 x23]] w17 (retS (fun v25 w26 => ∃ x24, v25 = (.int .i64 x24 : Value) ∧ (
 ifB (decide ((x24 : Int) < 0)) (
 I10 [.int .i64 (IntKind.wrap .i64 ((IntKind.wrap .i64 (Int.fdiv (IntKind.wrap .u64 (IntKind.wrap .i64 (i_14 + j_15))) (2 ^ (min (1 : Int).toNat (IntKind.bits .u64))))) + 1)), .int .i64 j_15] w26 ∧ μ11 [.int .i64 (IntKind.wrap .i64 ((IntKind.wrap .i64 (Int.fdiv (IntKind.wrap .u64 (IntKind.wrap .i64 (i_14 + j_15))) (2 ^ (min (1 : Int).toNat (IntKind.bits .u64))))) + 1)), .int .i64 j_15] w26 < μ11 [.int .i64 i_14, .int .i64 j_15] w13) (
 I10 [.int .i64 i_14, .int .i64 (IntKind.wrap .i64 (Int.fdiv (IntKind.wrap .u64 (IntKind.wrap .i64 (i_14 + j_15))) (2 ^ (min (1 : Int).toNat (IntKind.bits .u64)))))] w26 ∧ μ11 [.int .i64 i_14, .int .i64 (IntKind.wrap .i64 (Int.fdiv (IntKind.wrap .u64 (IntKind.wrap .i64 (i_14 + j_15))) (2 ^ (min (1 : Int).toNat (IntKind.bits .u64)))))] w26 < μ11 [.int .i64 i_14, .int .i64 j_15] w13))) (kN R)))))))))))) (
 ∃ (I27 : List Value → World → Prop) (μ28 : List Value → World → Nat), I27 [.int .i64 a_4] w13 ∧ (∀ (k_31 : Int), ∀ (_j29 : Nat → Value) (w30 : World), I27 [.int .i64 k_31] w30 → (
 ifB (decide ((k_31 : Int) < (IntKind.wrap .i64 (i_14 - 1)))) (
 doDr w30 (fun w33 =>
 ∃ (C32 : World → Prop), C32 w33 ∧ (
 doIx data_p1 data_n2 2 (IntKind.wrap .i64 (k_31 + 1)) (fun a34 =>
 ∃ x35, (∀ w, C32 w → w.cell? (a34.add 0) = some (.int .i64 x35)) ∧ (
 ∃ x36, (∀ w, C32 w → w.cell? (a34.add 1) = some (.int .i64 x36)) ∧ (
 doIx data_p1 data_n2 2 (k_31) (fun a37 =>
 ∃ x38, (∀ w, C32 w → w.cell? (a37.add 0) = some (.int .i64 x38)) ∧ (
 ∃ x39, (∀ w, C32 w → w.cell? (a37.add 1) = some (.int .i64 x39)) ∧ (
 doIx data_p1 data_n2 2 (k_31) (fun a40 =>
 doSt (a40.add 0) (.int .i64 x35) w33 (fun w41 =>
 doSt (a40.add 1) (.int .i64 x36) w41 (fun w42 =>
 doIx data_p1 data_n2 2 (IntKind.wrap .i64 (k_31 + 1)) (fun a43 =>
 doSt (a43.add 0) (.int .i64 x38) w42 (fun w44 =>
 doSt (a43.add 1) (.int .i64 x39) w44 (fun w45 =>
 I27 [.int .i64 (IntKind.wrap .i64 (k_31 + 1))] w45 ∧ μ28 [.int .i64 (IntKind.wrap .i64 (k_31 + 1))] w45 < μ28 [.int .i64 k_31] w30))))))))))))))) (
 R (.returned (.tuple #[])) w30))))))) (
 ifB (((IntKind.wrap .i64 (b_6 - m_5)) : Int) == 1) (
 ∃ (I46 : List Value → World → Prop) (μ47 : List Value → World → Nat), I46 [.int .i64 a_4, .int .i64 m_5] w ∧ (∀ (i_50 : Int), ∀ (j_51 : Int), ∀ (_j48 : Nat → Value) (w49 : World), I46 [.int .i64 i_50, .int .i64 j_51] w49 → (
 ifB (decide ((i_50 : Int) < j_51)) (
 (0 : Int) ≤ 1 ∧ (
 doDr w49 (fun w53 =>
 ∃ (C52 : World → Prop), C52 w53 ∧ (
 doIx data_p1 data_n2 2 (m_5) (fun a54 =>
 ∃ x55, (∀ w, C52 w → w.cell? (a54.add 0) = some (.int .i64 x55)) ∧ (
 ∃ x56, (∀ w, C52 w → w.cell? (a54.add 1) = some (.int .i64 x56)) ∧ (
 doIx data_p1 data_n2 2 (IntKind.wrap .i64 (Int.fdiv (IntKind.wrap .u64 (IntKind.wrap .i64 (i_50 + j_51))) (2 ^ (min (1 : Int).toNat (IntKind.bits .u64))))) (fun a57 =>
 ∃ x58, (∀ w, C52 w → w.cell? (a57.add 0) = some (.int .i64 x58)) ∧ (
 ∃ x59, (∀ w, C52 w → w.cell? (a57.add 1) = some (.int .i64 x59)) ∧ (
 doCall Tryz.prog (.func cmp_f7 cmp_x8 cmp_c9) #[.agg #[.int .i64 x55, .int .i64 x56], .agg #[.int .i64 x58, .int .i64 x59]] w53 (retS (fun v61 w62 => ∃ x60, v61 = (.int .i64 x60 : Value) ∧ (
 ifB (!(decide ((x60 : Int) < 0))) (
 I46 [.int .i64 (IntKind.wrap .i64 ((IntKind.wrap .i64 (Int.fdiv (IntKind.wrap .u64 (IntKind.wrap .i64 (i_50 + j_51))) (2 ^ (min (1 : Int).toNat (IntKind.bits .u64))))) + 1)), .int .i64 j_51] w62 ∧ μ47 [.int .i64 (IntKind.wrap .i64 ((IntKind.wrap .i64 (Int.fdiv (IntKind.wrap .u64 (IntKind.wrap .i64 (i_50 + j_51))) (2 ^ (min (1 : Int).toNat (IntKind.bits .u64))))) + 1)), .int .i64 j_51] w62 < μ47 [.int .i64 i_50, .int .i64 j_51] w49) (
 I46 [.int .i64 i_50, .int .i64 (IntKind.wrap .i64 (Int.fdiv (IntKind.wrap .u64 (IntKind.wrap .i64 (i_50 + j_51))) (2 ^ (min (1 : Int).toNat (IntKind.bits .u64)))))] w62 ∧ μ47 [.int .i64 i_50, .int .i64 (IntKind.wrap .i64 (Int.fdiv (IntKind.wrap .u64 (IntKind.wrap .i64 (i_50 + j_51))) (2 ^ (min (1 : Int).toNat (IntKind.bits .u64)))))] w62 < μ47 [.int .i64 i_50, .int .i64 j_51] w49))) (kN R)))))))))))) (
 ∃ (I63 : List Value → World → Prop) (μ64 : List Value → World → Nat), I63 [.int .i64 m_5] w49 ∧ (∀ (k_67 : Int), ∀ (_j65 : Nat → Value) (w66 : World), I63 [.int .i64 k_67] w66 → (
 ifB (decide ((k_67 : Int) > i_50)) (
 doDr w66 (fun w69 =>
 ∃ (C68 : World → Prop), C68 w69 ∧ (
 doIx data_p1 data_n2 2 (IntKind.wrap .i64 (k_67 - 1)) (fun a70 =>
 ∃ x71, (∀ w, C68 w → w.cell? (a70.add 0) = some (.int .i64 x71)) ∧ (
 ∃ x72, (∀ w, C68 w → w.cell? (a70.add 1) = some (.int .i64 x72)) ∧ (
 doIx data_p1 data_n2 2 (k_67) (fun a73 =>
 ∃ x74, (∀ w, C68 w → w.cell? (a73.add 0) = some (.int .i64 x74)) ∧ (
 ∃ x75, (∀ w, C68 w → w.cell? (a73.add 1) = some (.int .i64 x75)) ∧ (
 doIx data_p1 data_n2 2 (k_67) (fun a76 =>
 doSt (a76.add 0) (.int .i64 x71) w69 (fun w77 =>
 doSt (a76.add 1) (.int .i64 x72) w77 (fun w78 =>
 doIx data_p1 data_n2 2 (IntKind.wrap .i64 (k_67 - 1)) (fun a79 =>
 doSt (a79.add 0) (.int .i64 x74) w78 (fun w80 =>
 doSt (a79.add 1) (.int .i64 x75) w80 (fun w81 =>
 I63 [.int .i64 (IntKind.wrap .i64 (k_67 - 1))] w81 ∧ μ64 [.int .i64 (IntKind.wrap .i64 (k_67 - 1))] w81 < μ64 [.int .i64 k_67] w66))))))))))))))) (
 R (.returned (.tuple #[])) w66))))))) (
 (0 : Int) ≤ 1 ∧ (
 ∃ (J82 : List Value → World → Prop), (∀ (start_85 : Int), ∀ (r_86 : Int), ∀ (_j83 : Nat → Value) (w84 : World), J82 [.int .i64 start_85, .int .i64 r_86] w84 → (
 ∃ (I87 : List Value → World → Prop) (μ88 : List Value → World → Nat), I87 [.int .i64 start_85, .int .i64 r_86] w84 ∧ (∀ (start_91 : Int), ∀ (r_92 : Int), ∀ (_j89 : Nat → Value) (w90 : World), I87 [.int .i64 start_91, .int .i64 r_92] w90 → (
 ifB (decide ((start_91 : Int) < r_92)) (
 (0 : Int) ≤ 1 ∧ (
 doDr w90 (fun w94 =>
 ∃ (C93 : World → Prop), C93 w94 ∧ (
 doIx data_p1 data_n2 2 (IntKind.wrap .i64 ((IntKind.wrap .i64 ((IntKind.wrap .i64 ((IntKind.wrap .i64 (Int.fdiv (IntKind.wrap .u64 (IntKind.wrap .i64 (a_4 + b_6))) (2 ^ (min (1 : Int).toNat (IntKind.bits .u64))))) + m_5)) - 1)) - (IntKind.wrap .i64 (Int.fdiv (IntKind.wrap .u64 (IntKind.wrap .i64 (start_91 + r_92))) (2 ^ (min (1 : Int).toNat (IntKind.bits .u64))))))) (fun a95 =>
 ∃ x96, (∀ w, C93 w → w.cell? (a95.add 0) = some (.int .i64 x96)) ∧ (
 ∃ x97, (∀ w, C93 w → w.cell? (a95.add 1) = some (.int .i64 x97)) ∧ (
 doIx data_p1 data_n2 2 (IntKind.wrap .i64 (Int.fdiv (IntKind.wrap .u64 (IntKind.wrap .i64 (start_91 + r_92))) (2 ^ (min (1 : Int).toNat (IntKind.bits .u64))))) (fun a98 =>
 ∃ x99, (∀ w, C93 w → w.cell? (a98.add 0) = some (.int .i64 x99)) ∧ (
 ∃ x100, (∀ w, C93 w → w.cell? (a98.add 1) = some (.int .i64 x100)) ∧ (
 doCall Tryz.prog (.func cmp_f7 cmp_x8 cmp_c9) #[.agg #[.int .i64 x96, .int .i64 x97], .agg #[.int .i64 x99, .int .i64 x100]] w94 (retS (fun v102 w103 => ∃ x101, v102 = (.int .i64 x101 : Value) ∧ (
 ifB (!(decide ((x101 : Int) < 0))) (
 I87 [.int .i64 (IntKind.wrap .i64 ((IntKind.wrap .i64 (Int.fdiv (IntKind.wrap .u64 (IntKind.wrap .i64 (start_91 + r_92))) (2 ^ (min (1 : Int).toNat (IntKind.bits .u64))))) + 1)), .int .i64 r_92] w103 ∧ μ88 [.int .i64 (IntKind.wrap .i64 ((IntKind.wrap .i64 (Int.fdiv (IntKind.wrap .u64 (IntKind.wrap .i64 (start_91 + r_92))) (2 ^ (min (1 : Int).toNat (IntKind.bits .u64))))) + 1)), .int .i64 r_92] w103 < μ88 [.int .i64 start_91, .int .i64 r_92] w90) (
 I87 [.int .i64 start_91, .int .i64 (IntKind.wrap .i64 (Int.fdiv (IntKind.wrap .u64 (IntKind.wrap .i64 (start_91 + r_92))) (2 ^ (min (1 : Int).toNat (IntKind.bits .u64)))))] w103 ∧ μ88 [.int .i64 start_91, .int .i64 (IntKind.wrap .i64 (Int.fdiv (IntKind.wrap .u64 (IntKind.wrap .i64 (start_91 + r_92))) (2 ^ (min (1 : Int).toNat (IntKind.bits .u64)))))] w103 < μ88 [.int .i64 start_91, .int .i64 r_92] w90))) (kN R)))))))))))) (
 ∃ (J104 : List Value → World → Prop), (∀ (_j105 : Nat → Value) (w106 : World), J104 [] w106 → (
 ∃ (J107 : List Value → World → Prop), (∀ (_j108 : Nat → Value) (w109 : World), J107 [] w109 → (
 ∃ (J110 : List Value → World → Prop), (∀ (x113 : Bool), ∀ (_j111 : Nat → Value) (w112 : World), J110 [.bool x113] w112 → (
 ifB x113 (
 doCall Tryz.prog (.func (.func 193) #[] #[]) #[.slice data_p1 data_n2 data_c3, .int .i64 (IntKind.wrap .i64 (Int.fdiv (IntKind.wrap .u64 (IntKind.wrap .i64 (a_4 + b_6))) (2 ^ (min (1 : Int).toNat (IntKind.bits .u64))))), .int .i64 (IntKind.wrap .i64 ((IntKind.wrap .i64 ((IntKind.wrap .i64 (Int.fdiv (IntKind.wrap .u64 (IntKind.wrap .i64 (a_4 + b_6))) (2 ^ (min (1 : Int).toNat (IntKind.bits .u64))))) + m_5)) - start_91)), .int .i64 b_6, .func cmp_f7 cmp_x8 cmp_c9] w112 (retS (fun v114 w115 => v114 = (.tuple #[] : Value) ∧ (
 R (.returned (.tuple #[])) w115)) (kN R))) (
 R (.returned (.tuple #[])) w112))) ∧ (
 ifB (decide (((IntKind.wrap .i64 (Int.fdiv (IntKind.wrap .u64 (IntKind.wrap .i64 (a_4 + b_6))) (2 ^ (min (1 : Int).toNat (IntKind.bits .u64))))) : Int) < (IntKind.wrap .i64 ((IntKind.wrap .i64 ((IntKind.wrap .i64 (Int.fdiv (IntKind.wrap .u64 (IntKind.wrap .i64 (a_4 + b_6))) (2 ^ (min (1 : Int).toNat (IntKind.bits .u64))))) + m_5)) - start_91)))) (
 J110 [.bool (decide (((IntKind.wrap .i64 ((IntKind.wrap .i64 ((IntKind.wrap .i64 (Int.fdiv (IntKind.wrap .u64 (IntKind.wrap .i64 (a_4 + b_6))) (2 ^ (min (1 : Int).toNat (IntKind.bits .u64))))) + m_5)) - start_91)) : Int) < b_6))] w109) (
 J110 [.bool false] w109)))) ∧ (
 ∃ (J116 : List Value → World → Prop), (∀ (x119 : Bool), ∀ (_j117 : Nat → Value) (w118 : World), J116 [.bool x119] w118 → (
 ifB x119 (
 doCall Tryz.prog (.func (.func 193) #[] #[]) #[.slice data_p1 data_n2 data_c3, .int .i64 a_4, .int .i64 start_91, .int .i64 (IntKind.wrap .i64 (Int.fdiv (IntKind.wrap .u64 (IntKind.wrap .i64 (a_4 + b_6))) (2 ^ (min (1 : Int).toNat (IntKind.bits .u64))))), .func cmp_f7 cmp_x8 cmp_c9] w118 (retS (fun v120 w121 => v120 = (.tuple #[] : Value) ∧ (
 J107 [] w121)) (kN R))) (
 J107 [] w118))) ∧ (
 ifB (decide ((a_4 : Int) < start_91)) (
 J116 [.bool (decide ((start_91 : Int) < (IntKind.wrap .i64 (Int.fdiv (IntKind.wrap .u64 (IntKind.wrap .i64 (a_4 + b_6))) (2 ^ (min (1 : Int).toNat (IntKind.bits .u64)))))))] w106) (
 J116 [.bool false] w106))))) ∧ (
 ∃ (J122 : List Value → World → Prop), (∀ (x125 : Bool), ∀ (_j123 : Nat → Value) (w124 : World), J122 [.bool x125] w124 → (
 ifB x125 (
 doCall Tryz.prog (.func (.func 208) #[] #[]) #[.slice data_p1 data_n2 data_c3, .int .i64 start_91, .int .i64 m_5, .int .i64 (IntKind.wrap .i64 ((IntKind.wrap .i64 ((IntKind.wrap .i64 (Int.fdiv (IntKind.wrap .u64 (IntKind.wrap .i64 (a_4 + b_6))) (2 ^ (min (1 : Int).toNat (IntKind.bits .u64))))) + m_5)) - start_91)), .func cmp_f7 cmp_x8 cmp_c9] w124 (retS (fun v126 w127 => v126 = (.tuple #[] : Value) ∧ (
 J104 [] w127)) (kN R))) (
 J104 [] w124))) ∧ (
 ifB (decide ((start_91 : Int) < m_5)) (
 J122 [.bool (decide ((m_5 : Int) < (IntKind.wrap .i64 ((IntKind.wrap .i64 ((IntKind.wrap .i64 (Int.fdiv (IntKind.wrap .u64 (IntKind.wrap .i64 (a_4 + b_6))) (2 ^ (min (1 : Int).toNat (IntKind.bits .u64))))) + m_5)) - start_91))))] w90) (
 J122 [.bool false] w90)))))))) ∧ (
 ifB (decide ((m_5 : Int) > (IntKind.wrap .i64 (Int.fdiv (IntKind.wrap .u64 (IntKind.wrap .i64 (a_4 + b_6))) (2 ^ (min (1 : Int).toNat (IntKind.bits .u64))))))) (
 J82 [.int .i64 (IntKind.wrap .i64 ((IntKind.wrap .i64 ((IntKind.wrap .i64 (Int.fdiv (IntKind.wrap .u64 (IntKind.wrap .i64 (a_4 + b_6))) (2 ^ (min (1 : Int).toNat (IntKind.bits .u64))))) + m_5)) - b_6)), .int .i64 (IntKind.wrap .i64 (Int.fdiv (IntKind.wrap .u64 (IntKind.wrap .i64 (a_4 + b_6))) (2 ^ (min (1 : Int).toNat (IntKind.bits .u64)))))] w) (
 J82 [.int .i64 a_4, .int .i64 m_5] w)))))
theorem sh193_ok (data_p1 : OA) (data_n2 : Nat) (data_c3 : Nat) (a_4 : Int) (m_5 : Int) (b_6 : Int) (cmp_f7 : Fn) (cmp_x8 : Array Value) (cmp_c9 : Array Value) {R : EW} {w : World} : sh193 data_p1 data_n2 data_c3 a_4 m_5 b_6 cmp_f7 cmp_x8 cmp_c9 R w → Calls Tryz.prog 193 #[.slice data_p1 data_n2 data_c3, .int .i64 a_4, .int .i64 m_5, .int .i64 b_6, .func cmp_f7 cmp_x8 cmp_c9] w R :=
  Old.calls_of_eq (ann := fun i => if i = 1000044 then [(0, .nilIface), (213, .bool false)] else if i = 1000043 then [(0, .nilIface)] else if i = 1000042 then [(0, .nilIface), (199, .bool false)] else if i = 1000041 then [(0, .nilIface)] else if i = 1000040 then [(0, .nilIface), (185, .bool false)] else if i = 8 then [(20, .int .i64 0), (21, .int .i64 0)] else if i = 1000032 then [(0, .nilIface), (20, .int .i64 0), (21, .int .i64 0)] else if i = 6 then [(17, .int .i64 0)] else if i = 4 then [(14, .int .i64 0), (15, .int .i64 0)] else if i = 2 then [(13, .int .i64 0)] else if i = 0 then [(10, .int .i64 0), (11, .int .i64 0)] else []) (fn := Tryz.f193) (c := bodyOf Tryz.f193) (args := #[.slice data_p1 data_n2 data_c3, .int .i64 a_4, .int .i64 m_5, .int .i64 b_6, .func cmp_f7 cmp_x8 cmp_c9]) 400 follows_mixed Tryz.func193 (by kernel_rfl) (by kernel_rfl)
end Go.Proofs.YtmdboekndjlmgaaGreat

