/-
  Printed by a program (gen.py): what the functions of the program do, as formulas; each with the proof that its call is what the formula says.
-/
import Derived.Test.YtmdboekndjlmgaaGreatZ04
import Derived.Test.YtmdboekndjlmgaaGreatProg
import Derived.Test.YtmdboekndjlmgaaGreatZ05

set_option maxRecDepth 100000
set_option maxHeartbeats 6400000
namespace Go.Proofs.YtmdboekndjlmgaaGreat
open Go Go.Sh
def sh183 (a_1 : Int) (b_2 : Int) (x_3 : Int) (x_4 : Int) (x5 : Addr) (R : EW) (w : World) : Prop :=
 doAl (.cells #[.int .i64 x_3, .int .i64 x_4] 63) w (fun b6 w7 =>
 ∃ xf8 xx9 xc10, w7.cell? x5 = some (.func xf8 xx9 xc10) ∧ (
 ∃ x11, w7.cell? ((blk b6).add 1) = some (.int .i64 x11) ∧ (
 doCall Tryz.prog (.func xf8 xx9 xc10) #[.int .i64 a_1, .int .i64 b_2, .int .i64 x11] w7 (retS (fun v13 w14 => ∃ x12, v13 = (.bool x12 : Value) ∧ (
 R (.returned (.bool x12)) w14)) (kN R)))))
theorem sh183_ok (a_1 : Int) (b_2 : Int) (x_3 : Int) (x_4 : Int) (x5 : Addr) {R : EW} {w : World} : sh183 a_1 b_2 x_3 x_4 x5 R w → Calls Tryz.prog 183 #[.int .i64 a_1, .int .i64 b_2, .agg #[.int .i64 x_3, .int .i64 x_4], .pointer (some x5)] w R :=
  ceq Tryz.func183 (by kernel_rfl) (by kernel_rfl)
def sh184 (a_1 : Int) (b_2 : Int) (R : EW) (w : World) : Prop :=
 let K5 : Bool → World → Prop := fun x3 w4 => 
 R (.returned (.bool x3)) w4
 ifB (decide ((a_1 : Int) > 0)) (
 ifB (decide ((b_2 : Int) ≥ 0)) (
 K5 (decide ((b_2 : Int) < a_1)) w) (
 R (.returned (.bool false)) w)) (
 R (.returned (.bool false)) w)
theorem sh184_ok (a_1 : Int) (b_2 : Int) {R : EW} {w : World} : sh184 a_1 b_2 R w → Calls Tryz.prog 184 #[.int .i64 a_1, .int .i64 b_2] w R :=
  ceq Tryz.func184 (by kernel_rfl) (by kernel_rfl)
def sh185 (a_1 : Int) (b_2 : Int) (x_3 : Int) (x_4 : Int) (R : EW) (w : World) : Prop :=
 doAl (.cells #[.int .i64 x_3, .int .i64 x_4] 63) w (fun b5 w6 =>
 let K9 : Bool → World → Prop := fun x7 w8 => 
 R (.returned (.bool x7)) w8
 ∃ x10, w6.cell? ((blk b5).add 0) = some (.int .i64 x10) ∧ (
 a_1 ≠ (0 : Int) ∧ (
 ifB (((Int.tmod x10 a_1) : Int) == b_2) (
 R (.returned (.bool true)) w6) (
 ∃ x11, w6.cell? ((blk b5).add 0) = some (.int .i64 x11) ∧ (
 a_1 ≠ (0 : Int) ∧ (
 K9 (((IntKind.wrap .i64 ((Int.tmod x11 a_1) + a_1)) : Int) == b_2) w6))))))
theorem sh185_ok (a_1 : Int) (b_2 : Int) (x_3 : Int) (x_4 : Int) {R : EW} {w : World} : sh185 a_1 b_2 x_3 x_4 R w → Calls Tryz.prog 185 #[.int .i64 a_1, .int .i64 b_2, .agg #[.int .i64 x_3, .int .i64 x_4]] w R :=
  ceq Tryz.func185 (by kernel_rfl) (by kernel_rfl)
def sh186 (a_1 : Int) (b_2 : Int) (R : EW) (w : World) : Prop :=
 R (.returned (.bool (((bOr .i64 a_1 b_2) : Int) == a_1))) w
theorem sh186_ok (a_1 : Int) (b_2 : Int) {R : EW} {w : World} : sh186 a_1 b_2 R w → Calls Tryz.prog 186 #[.int .i64 a_1, .int .i64 b_2] w R :=
  ceq Tryz.func186 (by kernel_rfl) (by kernel_rfl)
def sh187 (a_1 : Int) (b_2 : Int) (x_3 : Int) (x_4 : Int) (R : EW) (w : World) : Prop :=
 doAl (.cells #[.int .i64 x_3, .int .i64 x_4] 63) w (fun b5 w6 =>
 ∃ x7, w6.cell? ((blk b5).add 0) = some (.int .i64 x7) ∧ (
 R (.returned (.bool (((bAnd .i64 x7 a_1) : Int) == b_2))) w6))
theorem sh187_ok (a_1 : Int) (b_2 : Int) (x_3 : Int) (x_4 : Int) {R : EW} {w : World} : sh187 a_1 b_2 x_3 x_4 R w → Calls Tryz.prog 187 #[.int .i64 a_1, .int .i64 b_2, .agg #[.int .i64 x_3, .int .i64 x_4]] w R :=
  ceq Tryz.func187 (by kernel_rfl) (by kernel_rfl)
def sh188 (x_1 : Int) (R : EW) (w : World) : Prop :=
 (0 : Int) ≤ 8 ∧ (
 (0 : Int) ≤ 8 ∧ (
 (0 : Int) ≤ 16 ∧ (
 (0 : Int) ≤ 16 ∧ (
 (0 : Int) ≤ 32 ∧ (
 (0 : Int) ≤ 32 ∧ (
 R (.returned (.int .u64 (bOr .u64 (Int.fdiv (bOr .u64 (bAnd .u64 (Int.fdiv (bOr .u64 (bAnd .u64 (Int.fdiv x_1 (2 ^ (min (8 : Int).toNat (IntKind.bits .u64)))) 71777214294589695) (IntKind.wrap .u64 ((bAnd .u64 x_1 71777214294589695) * 2 ^ (min (8 : Int).toNat (IntKind.bits .u64))))) (2 ^ (min (16 : Int).toNat (IntKind.bits .u64)))) 281470681808895) (IntKind.wrap .u64 ((bAnd .u64 (bOr .u64 (bAnd .u64 (Int.fdiv x_1 (2 ^ (min (8 : Int).toNat (IntKind.bits .u64)))) 71777214294589695) (IntKind.wrap .u64 ((bAnd .u64 x_1 71777214294589695) * 2 ^ (min (8 : Int).toNat (IntKind.bits .u64))))) 281470681808895) * 2 ^ (min (16 : Int).toNat (IntKind.bits .u64))))) (2 ^ (min (32 : Int).toNat (IntKind.bits .u64)))) (IntKind.wrap .u64 ((bOr .u64 (bAnd .u64 (Int.fdiv (bOr .u64 (bAnd .u64 (Int.fdiv x_1 (2 ^ (min (8 : Int).toNat (IntKind.bits .u64)))) 71777214294589695) (IntKind.wrap .u64 ((bAnd .u64 x_1 71777214294589695) * 2 ^ (min (8 : Int).toNat (IntKind.bits .u64))))) (2 ^ (min (16 : Int).toNat (IntKind.bits .u64)))) 281470681808895) (IntKind.wrap .u64 ((bAnd .u64 (bOr .u64 (bAnd .u64 (Int.fdiv x_1 (2 ^ (min (8 : Int).toNat (IntKind.bits .u64)))) 71777214294589695) (IntKind.wrap .u64 ((bAnd .u64 x_1 71777214294589695) * 2 ^ (min (8 : Int).toNat (IntKind.bits .u64))))) 281470681808895) * 2 ^ (min (16 : Int).toNat (IntKind.bits .u64))))) * 2 ^ (min (32 : Int).toNat (IntKind.bits .u64))))))) w))))))
theorem sh188_ok (x_1 : Int) {R : EW} {w : World} : sh188 x_1 R w → Calls Tryz.prog 188 #[.int .u64 x_1] w R :=
  ceq Tryz.func188 (by kernel_rfl) (by kernel_rfl)
def sh189  (R : EW) (w : World) : Prop :=
 doAl (.cells #[.int .i64 0, .int .u64 0, .int .i64 0, .int .u64 0, .int .i64 0, .int .u64 0] 206) w (fun b1 w2 =>
 doSt ((blk b1).add 0) (.int .i64 30) w2 (fun w3 =>
 doSt ((blk b1).add 1) (.int .u64 13787848793156543929) w3 (fun w4 =>
 doSt ((blk b1).add 2) (.int .i64 27) w4 (fun w5 =>
 doSt ((blk b1).add 3) (.int .u64 10723151780598845931) w5 (fun w6 =>
 doSt ((blk b1).add 4) (.int .i64 31) w6 (fun w7 =>
 doSt ((blk b1).add 5) (.int .u64 1) w7 (fun w8 =>
 ∃ x9, w8.cell? ((blk b1).add 0) = some (.int .i64 x9) ∧ (
 ∃ x10, w8.cell? ((blk b1).add 1) = some (.int .u64 x10) ∧ (
 ∃ x11, w8.cell? ((blk b1).add 2) = some (.int .i64 x11) ∧ (
 ∃ x12, w8.cell? ((blk b1).add 3) = some (.int .u64 x12) ∧ (
 ∃ x13, w8.cell? ((blk b1).add 4) = some (.int .i64 x13) ∧ (
 ∃ x14, w8.cell? ((blk b1).add 5) = some (.int .u64 x14) ∧ (
 R (.returned (.agg #[.int .i64 x9, .int .u64 x10, .int .i64 x11, .int .u64 x12, .int .i64 x13, .int .u64 x14])) w8)))))))))))))
theorem sh189_ok  {R : EW} {w : World} : sh189  R w → Calls Tryz.prog 189 #[] w R :=
  ceq Tryz.func189 (by kernel_rfl) (by kernel_rfl)
def sh190 (yield_f1 : Fn) (yield_x2 : Array Value) (yield_c3 : Array Value) (x4 : Addr) (x5 : Addr) (R : EW) (w : World) : Prop :=
 ∃ (I6 : List Value → World → Prop) (μ7 : List Value → World → Nat), I6 [.int .i64 0] w ∧ (∀ (x10 : Int), ∀ (_j8 : Nat → Value) (w9 : World), I6 [.int .i64 x10] w9 → (
 ifB (decide ((x10 : Int) < 3)) (
 let K13 : Int → World → Prop := fun k_11 w12 => 
 doIx (some x5) 3 2 (k_11) (fun a14 =>
 ∃ x15, w12.cell? (a14.add 0) = some (.int .i64 x15) ∧ (
 ∃ x16, w12.cell? (a14.add 1) = some (.int .u64 x16) ∧ (
 doCall Tryz.prog (.func yield_f1 yield_x2 yield_c3) #[.agg #[.int .i64 x15, .int .u64 x16]] w12 (retS (fun v18 w19 => ∃ x17, v18 = (.bool x17 : Value) ∧ (
 ifB (!x17) (
 R (.returned (.tuple #[])) w19) (
 I6 [.int .i64 (IntKind.wrap .i64 (x10 + 1))] w19 ∧ μ7 [.int .i64 (IntKind.wrap .i64 (x10 + 1))] w19 < μ7 [.int .i64 x10] w9))) (kN R)))))
 ∃ x20, w9.cell? x4 = some (.bool x20) ∧ (
 ifB x20 (
 K13 (IntKind.wrap .i64 (2 - x10)) w9) (
 K13 x10 w9))) (
 R (.returned (.tuple #[])) w9)))
theorem sh190_ok (yield_f1 : Fn) (yield_x2 : Array Value) (yield_c3 : Array Value) (x4 : Addr) (x5 : Addr) {R : EW} {w : World} : sh190 yield_f1 yield_x2 yield_c3 x4 x5 R w → Calls Tryz.prog 190 #[.func yield_f1 yield_x2 yield_c3, .pointer (some x4), .pointer (some x5)] w R :=
  Old.calls_of_eq (ann := fun i => if i = 0 then [(5, .int .i64 0)] else []) (fn := Tryz.f190) (c := bodyOf Tryz.f190) (args := #[.func yield_f1 yield_x2 yield_c3, .pointer (some x4), .pointer (some x5)]) 400 follows_mixed Tryz.func190 (by kernel_rfl) (by kernel_rfl)
def sh192 (data_p1 : OA) (data_n2 : Nat) (_data_c3 : Nat) (a_4 : Int) (b_5 : Int) (cmp_f6 : Fn) (cmp_x7 : Array Value) (cmp_c8 : Array Value) (R : EW) (w : World) : Prop :=
 ∃ (I9 : List Value → World → Prop) (μ10 : List Value → World → Nat), I9 [.int .i64 (IntKind.wrap .i64 (a_4 + 1))] w ∧ (∀ (i_13 : Int), ∀ (_j11 : Nat → Value) (w12 : World), I9 [.int .i64 i_13] w12 → (
 ifB (decide ((i_13 : Int) < b_5)) (
 let K15 : World → Prop := fun w14 => 
 I9 [.int .i64 (IntKind.wrap .i64 (i_13 + 1))] w14 ∧ μ10 [.int .i64 (IntKind.wrap .i64 (i_13 + 1))] w14 < μ10 [.int .i64 i_13] w12
 ∃ (I16 : List Value → World → Prop) (μ17 : List Value → World → Nat), I16 [.int .i64 i_13] w12 ∧ (∀ (j_20 : Int), ∀ (_j18 : Nat → Value) (w19 : World), I16 [.int .i64 j_20] w19 → (
 let K23 : Bool → World → Prop := fun x21 w22 => 
 ifB x21 (
 doDr w22 (fun w25 =>
 ∃ (C24 : World → Prop), C24 w25 ∧ (
 doIx data_p1 data_n2 2 (IntKind.wrap .i64 (j_20 - 1)) (fun a26 =>
 ∃ x27, (∀ w, C24 w → w.cell? (a26.add 0) = some (.int .i64 x27)) ∧ (
 ∃ x28, (∀ w, C24 w → w.cell? (a26.add 1) = some (.int .i64 x28)) ∧ (
 doIx data_p1 data_n2 2 (j_20) (fun a29 =>
 ∃ x30, (∀ w, C24 w → w.cell? (a29.add 0) = some (.int .i64 x30)) ∧ (
 ∃ x31, (∀ w, C24 w → w.cell? (a29.add 1) = some (.int .i64 x31)) ∧ (
 doIx data_p1 data_n2 2 (j_20) (fun a32 =>
 doSt (a32.add 0) (.int .i64 x27) w25 (fun w33 =>
 doSt (a32.add 1) (.int .i64 x28) w33 (fun w34 =>
 doIx data_p1 data_n2 2 (IntKind.wrap .i64 (j_20 - 1)) (fun a35 =>
 doSt (a35.add 0) (.int .i64 x30) w34 (fun w36 =>
 doSt (a35.add 1) (.int .i64 x31) w36 (fun w37 =>
 I16 [.int .i64 (IntKind.wrap .i64 (j_20 - 1))] w37 ∧ μ17 [.int .i64 (IntKind.wrap .i64 (j_20 - 1))] w37 < μ17 [.int .i64 j_20] w19))))))))))))))) (
 K15 w22)
 doDr w19 (fun w39 =>
 ∃ (C38 : World → Prop), C38 w39 ∧ (
 ifB (decide ((j_20 : Int) > a_4)) (
 doIx data_p1 data_n2 2 (j_20) (fun a40 =>
 ∃ x41, (∀ w, C38 w → w.cell? (a40.add 0) = some (.int .i64 x41)) ∧ (
 ∃ x42, (∀ w, C38 w → w.cell? (a40.add 1) = some (.int .i64 x42)) ∧ (
 doIx data_p1 data_n2 2 (IntKind.wrap .i64 (j_20 - 1)) (fun a43 =>
 ∃ x44, (∀ w, C38 w → w.cell? (a43.add 0) = some (.int .i64 x44)) ∧ (
 ∃ x45, (∀ w, C38 w → w.cell? (a43.add 1) = some (.int .i64 x45)) ∧ (
 doCall Tryz.prog (.func cmp_f6 cmp_x7 cmp_c8) #[.agg #[.int .i64 x41, .int .i64 x42], .agg #[.int .i64 x44, .int .i64 x45]] w39 (retS (fun v47 w48 => ∃ x46, v47 = (.int .i64 x46 : Value) ∧ (
 K23 (decide ((x46 : Int) < 0)) w48)) (kN R))))))))) (
 K15 w39)))))) (
 R (.returned (.tuple #[])) w12)))
theorem sh192_ok (data_p1 : OA) (data_n2 : Nat) (data_c3 : Nat) (a_4 : Int) (b_5 : Int) (cmp_f6 : Fn) (cmp_x7 : Array Value) (cmp_c8 : Array Value) {R : EW} {w : World} : sh192 data_p1 data_n2 data_c3 a_4 b_5 cmp_f6 cmp_x7 cmp_c8 R w → Calls Tryz.prog 192 #[.slice data_p1 data_n2 data_c3, .int .i64 a_4, .int .i64 b_5, .func cmp_f6 cmp_x7 cmp_c8] w R :=
  Old.calls_of_eq (ann := fun i => if i = 2 then [(9, .int .i64 0)] else if i = 0 then [(8, .int .i64 0)] else []) (fn := Tryz.f192) (c := bodyOf Tryz.f192) (args := #[.slice data_p1 data_n2 data_c3, .int .i64 a_4, .int .i64 b_5, .func cmp_f6 cmp_x7 cmp_c8]) 400 follows_mixed Tryz.func192 (by kernel_rfl) (by kernel_rfl)
def sh195 (v_1 : Int) (x2 : Addr) (R : EW) (w : World) : Prop :=
 ∃ x3, w.cell? x2 = some (.int .i64 x3) ∧ (
 doSt (x2.add 0) (.int .i64 (IntKind.wrap .i64 (x3 + v_1))) w (fun w4 =>
 ∃ x5, w4.cell? x2 = some (.int .i64 x5) ∧ (
 R (.returned (.int .i64 x5)) w4)))
theorem sh195_ok (v_1 : Int) (x2 : Addr) {R : EW} {w : World} : sh195 v_1 x2 R w → Calls Tryz.prog 195 #[.int .i64 v_1, .pointer (some x2)] w R :=
  ceq Tryz.func195 (by kernel_rfl) (by kernel_rfl)
def sh196 (f_1 : OA) (f_2 : Value) (R : EW) (w : World) : Prop :=
 doAl (.cells #[.pointer f_1, f_2] 203) w (fun b3 w4 =>
 doDr w4 (fun w6 =>
 ∃ (C5 : World → Prop), C5 w6 ∧ (
 ∃ x7, (∀ w, C5 w → w.cell? ((blk b3).add 0) = some (.pointer x7)) ∧ (
 ∃ x8, (∀ w, C5 w → w.cell? ((blk b3).add 1) = some (x8)) ∧ (
 ∃ x9, (∀ w, C5 w → w.cell? ((blk b3).add 0) = some (.pointer x9)) ∧ (
 ∃ q10, x9 = some q10 ∧ (
 doCall Tryz.prog (.func (.func 209) #[] #[]) #[.agg #[.pointer x7, x8], .pointer (some (q10.add 1))] w6 (retS (fun v11 w12 => v11 = (.tuple #[] : Value) ∧ (
 C5 w12 ∧ (
 R (.returned (.tuple #[])) w12))) (kN R)))))))))
theorem sh196_ok (f_1 : OA) (f_2 : Value) {R : EW} {w : World} : sh196 f_1 f_2 R w → Calls Tryz.prog 196 #[.agg #[.pointer f_1, f_2]] w R :=
  ceq Tryz.func196 (by kernel_rfl) (by kernel_rfl)
def sh197 (f_1 : OA) (f_2 : Value) (R : EW) (w : World) : Prop :=
 doAl (.cells #[.pointer f_1, f_2] 203) w (fun b3 w4 =>
 doDr w4 (fun w6 =>
 ∃ (C5 : World → Prop), C5 w6 ∧ (
 ∃ x7, (∀ w, C5 w → w.cell? ((blk b3).add 1) = some (x7)) ∧ (
 ∃ x8, (∀ w, C5 w → w.cell? ((blk b3).add 0) = some (.pointer x8)) ∧ (
 ∃ q9, x8 = some q9 ∧ (
 doNC Tryz.prog (x7) (
 doGo Tryz.prog (.fn (.method "joinery/op.num") #[]) #[x7, .pointer (some (q9.add 3))] w6 (retS (fun v10 w11 => v10 = (.tuple #[] : Value) ∧ (
 C5 w11 ∧ (
 R (.returned (.tuple #[])) w11))) (kN R)))))))))
theorem sh197_ok (f_1 : OA) (f_2 : Value) {R : EW} {w : World} : sh197 f_1 f_2 R w → Calls Tryz.prog 197 #[.agg #[.pointer f_1, f_2]] w R :=
  ceq Tryz.func197 (by kernel_rfl) (by kernel_rfl)
def sh198 (f_1 : OA) (f_2 : Value) (R : EW) (w : World) : Prop :=
 doAl (.cells #[.pointer f_1, f_2] 203) w (fun b3 w4 =>
 doDr w4 (fun w6 =>
 ∃ (C5 : World → Prop), C5 w6 ∧ (
 ∃ x7, (∀ w, C5 w → w.cell? ((blk b3).add 1) = some (x7)) ∧ (
 ∃ x8, (∀ w, C5 w → w.cell? ((blk b3).add 0) = some (.pointer x8)) ∧ (
 ∃ q9, x8 = some q9 ∧ (
 doNC Tryz.prog (x7) (
 doGo Tryz.prog (.fn (.method "joinery/op.num") #[]) #[x7, .pointer (some (q9.add 4))] w6 (retS (fun v10 w11 => v10 = (.tuple #[] : Value) ∧ (
 C5 w11 ∧ (
 R (.returned (.tuple #[])) w11))) (kN R)))))))))
theorem sh198_ok (f_1 : OA) (f_2 : Value) {R : EW} {w : World} : sh198 f_1 f_2 R w → Calls Tryz.prog 198 #[.agg #[.pointer f_1, f_2]] w R :=
  ceq Tryz.func198 (by kernel_rfl) (by kernel_rfl)
def sh199 (f_1 : OA) (f_2 : Value) (R : EW) (w : World) : Prop :=
 doAl (.cells #[.pointer f_1, f_2] 203) w (fun b3 w4 =>
 doDr w4 (fun w6 =>
 ∃ (C5 : World → Prop), C5 w6 ∧ (
 ∃ x7, (∀ w, C5 w → w.cell? ((blk b3).add 1) = some (x7)) ∧ (
 ∃ x8, (∀ w, C5 w → w.cell? ((blk b3).add 0) = some (.pointer x8)) ∧ (
 ∃ q9, x8 = some q9 ∧ (
 doNC Tryz.prog (x7) (
 doAl (.cells #[.string (⟨#[]⟩ : ByteArray), .string (⟨#[108, 101, 102, 116]⟩ : ByteArray), .string (⟨#[114, 105, 103, 104, 116]⟩ : ByteArray), .string (⟨#[115, 117, 109]⟩ : ByteArray)] 9) w6 (fun b10 w11 =>
 C5 w11 ∧ (
 doGo Tryz.prog (.fn (.method "joinery/op.word") #[]) #[x7, .pointer (some (q9.add 8)), .slice (some (blk b10)) 4 4] w11 (retS (fun v12 w13 => v12 = (.tuple #[] : Value) ∧ (
 C5 w13 ∧ (
 R (.returned (.tuple #[])) w13))) (kN R)))))))))))
theorem sh199_ok (f_1 : OA) (f_2 : Value) {R : EW} {w : World} : sh199 f_1 f_2 R w → Calls Tryz.prog 199 #[.agg #[.pointer f_1, f_2]] w R :=
  ceq Tryz.func199 (by kernel_rfl) (by kernel_rfl)
def sh200 (f_1 : OA) (f_2 : Value) (R : EW) (w : World) : Prop :=
 doAl (.cells #[.pointer f_1, f_2] 203) w (fun b3 w4 =>
 ∃ x5, w4.cell? ((blk b3).add 0) = some (.pointer x5) ∧ (
 ∃ q6, x5 = some q6 ∧ (
 ∃ xp7 xn8 xc9, w4.cell? (q6.add 13) = some (.slice xp7 xn8 xc9) ∧ (
 doAl (.cells #[.int .i64 0] 3) w4 (fun b10 w11 =>
 doSt ((blk b10).add 0) (.int .i64 ((xn8 : Nat) : Int)) w11 (fun w12 =>
 ∃ x13, w12.cell? ((blk b3).add 1) = some (x13) ∧ (
 doGo Tryz.prog (.fn (.method "joinery/op.many") #[]) #[x13, .pointer (some (blk b10))] w12 (retS (fun v14 w15 => v14 = (.tuple #[] : Value) ∧ (
 ∃ x16, w15.cell? (blk b10) = some (.int .i64 x16) ∧ (
 ∃ (I17 : List Value → World → Prop) (μ18 : List Value → World → Nat), I17 [.int .i64 0] w15 ∧ (∀ (x21 : Int), ∀ (_j19 : Nat → Value) (w20 : World), I17 [.int .i64 x21] w20 → (
 ifB (decide ((x21 : Int) < x16)) (
 let K23 : World → Prop := fun w22 => 
 I17 [.int .i64 (IntKind.wrap .i64 (x21 + 1))] w22 ∧ μ18 [.int .i64 (IntKind.wrap .i64 (x21 + 1))] w22 < μ18 [.int .i64 x21] w20
 doAl (.cells #[.int .i64 0, .int .i64 0] 63) w20 (fun b24 w25 =>
 let K27 : World → Prop := fun w26 => 
 ∃ x28, w26.cell? ((blk b3).add 1) = some (x28) ∧ (
 doGo Tryz.prog (.fn (.method "joinery/op.pair") #[]) #[x28, .pointer (some (blk b24))] w26 (retS (fun v29 w30 => v29 = (.tuple #[] : Value) ∧ (
 ∃ x31, w30.cell? ((blk b3).add 0) = some (.pointer x31) ∧ (
 ∃ q32, x31 = some q32 ∧ (
 ∃ xp33 xn34 xc35, w30.cell? (q32.add 13) = some (.slice xp33 xn34 xc35) ∧ (
 ifB ((x21 : Int) == ((xn34 : Nat) : Int)) (
 doDr w30 (fun w37 =>
 ∃ (C36 : World → Prop), C36 w37 ∧ (
 ∃ x38, (∀ w, C36 w → w.cell? ((blk b3).add 0) = some (.pointer x38)) ∧ (
 ∃ x39, (∀ w, C36 w → w.cell? ((blk b3).add 0) = some (.pointer x39)) ∧ (
 ∃ q40, x39 = some q40 ∧ (
 ∃ xp41 xn42 xc43, (∀ w, C36 w → w.cell? (q40.add 13) = some (.slice xp41 xn42 xc43)) ∧ (
 ∃ x44, (∀ w, C36 w → w.cell? ((blk b24).add 0) = some (.int .i64 x44)) ∧ (
 ∃ x45, (∀ w, C36 w → w.cell? ((blk b24).add 1) = some (.int .i64 x45)) ∧ (
 doAl (.cells #[.int .i64 x44, .int .i64 x45] 63) w37 (fun b46 w47 =>
 C36 w47 ∧ (
 doGo Tryz.prog (.builtin .append #[22, 22] 22 #[false, false]) #[.slice xp41 xn42 xc43, .slice (some (blk b46)) 1 1] w47 (retS (fun v51 w52 => ∃ xp48 xn49 xc50, v51 = (.slice xp48 xn49 xc50 : Value) ∧ (
 C36 w52 ∧ (
 ∃ q53, x38 = some q53 ∧ (
 doSt ((q53.add 13).add 0) (.slice xp48 xn49 xc50) w52 (fun w54 =>
 K23 w54))))) (kN R))))))))))))) (
 K23 w30)))))) (kN R)))
 ∃ x55, w25.cell? ((blk b3).add 0) = some (.pointer x55) ∧ (
 ∃ q56, x55 = some q56 ∧ (
 ∃ xp57 xn58 xc59, w25.cell? (q56.add 13) = some (.slice xp57 xn58 xc59) ∧ (
 ifB (decide ((x21 : Int) < ((xn58 : Nat) : Int))) (
 ∃ x60, w25.cell? ((blk b3).add 0) = some (.pointer x60) ∧ (
 ∃ q61, x60 = some q61 ∧ (
 ∃ xp62 xn63 xc64, w25.cell? (q61.add 13) = some (.slice xp62 xn63 xc64) ∧ (
 doIx xp62 xn63 2 (x21) (fun a65 =>
 ∃ x66, w25.cell? (a65.add 0) = some (.int .i64 x66) ∧ (
 ∃ x67, w25.cell? (a65.add 1) = some (.int .i64 x67) ∧ (
 doSt ((blk b24).add 0) (.int .i64 x66) w25 (fun w68 =>
 doSt ((blk b24).add 1) (.int .i64 x67) w68 (fun w69 =>
 K27 w69))))))))) (
 K27 w25)))))) (
 R (.returned (.tuple #[])) w20)))))) (kN R)))))))))
theorem sh200_ok (f_1 : OA) (f_2 : Value) {R : EW} {w : World} : sh200 f_1 f_2 R w → Calls Tryz.prog 200 #[.agg #[.pointer f_1, f_2]] w R :=
  Old.calls_of_eq (ann := fun i => if i = 0 then [(15, .int .i64 0)] else []) (fn := Tryz.f200) (c := bodyOf Tryz.f200) (args := #[.agg #[.pointer f_1, f_2]]) 400 follows_mixed Tryz.func200 (by kernel_rfl) (by kernel_rfl)
def sh201 (f_1 : OA) (f_2 : Value) (R : EW) (w : World) : Prop :=
 doAl (.cells #[.pointer f_1, f_2] 203) w (fun b3 w4 =>
 doDr w4 (fun w6 =>
 ∃ (C5 : World → Prop), C5 w6 ∧ (
 ∃ x7, (∀ w, C5 w → w.cell? ((blk b3).add 0) = some (.pointer x7)) ∧ (
 ∃ x8, (∀ w, C5 w → w.cell? ((blk b3).add 1) = some (x8)) ∧ (
 ∃ x9, (∀ w, C5 w → w.cell? ((blk b3).add 0) = some (.pointer x9)) ∧ (
 ∃ q10, x9 = some q10 ∧ (
 doCall Tryz.prog (.func (.func 209) #[] #[]) #[.agg #[.pointer x7, x8], .pointer (some (q10.add 2))] w6 (retS (fun v11 w12 => v11 = (.tuple #[] : Value) ∧ (
 C5 w12 ∧ (
 R (.returned (.tuple #[])) w12))) (kN R)))))))))
theorem sh201_ok (f_1 : OA) (f_2 : Value) {R : EW} {w : World} : sh201 f_1 f_2 R w → Calls Tryz.prog 201 #[.agg #[.pointer f_1, f_2]] w R :=
  ceq Tryz.func201 (by kernel_rfl) (by kernel_rfl)
def sh202 (f_1 : OA) (f_2 : Value) (R : EW) (w : World) : Prop :=
 doAl (.cells #[.pointer f_1, f_2] 203) w (fun b3 w4 =>
 ∃ x5, w4.cell? ((blk b3).add 0) = some (.pointer x5) ∧ (
 ∃ q6, x5 = some q6 ∧ (
 doAl (.cells #[.string (⟨#[]⟩ : ByteArray), .string (⟨#[97, 108, 108]⟩ : ByteArray), .string (⟨#[107, 101, 121]⟩ : ByteArray), .string (⟨#[118, 97, 108]⟩ : ByteArray), .string (⟨#[109, 111, 100]⟩ : ByteArray), .string (⟨#[98, 105, 116, 115]⟩ : ByteArray)] 9) w4 (fun b7 w8 =>
 ∃ x9, w8.cell? ((blk b3).add 1) = some (x9) ∧ (
 let K12 : Bool → World → Prop := fun x10 w11 => 
 ifB x10 (
 doDr w11 (fun w14 =>
 ∃ (C13 : World → Prop), C13 w14 ∧ (
 ∃ x15, (∀ w, C13 w → w.cell? ((blk b3).add 1) = some (x15)) ∧ (
 ∃ q16, (some (q6.add 9)) = some q16 ∧ (
 doNC Tryz.prog (x15) (
 doGo Tryz.prog (.fn (.method "joinery/op.flag") #[]) #[x15, .pointer (some (q16.add 3))] w14 (retS (fun v17 w18 => v17 = (.tuple #[] : Value) ∧ (
 doDr w18 (fun w20 =>
 ∃ (C19 : World → Prop), C19 w20 ∧ (
 ∃ x21, (∀ w, C19 w → w.cell? ((blk b3).add 1) = some (x21)) ∧ (
 ∃ q22, (some (q6.add 9)) = some q22 ∧ (
 doNC Tryz.prog (x21) (
 doGo Tryz.prog (.fn (.method "joinery/op.word") #[]) #[x21, .pointer (some (q22.add 0)), .slice (some (blk b7)) 6 6] w20 (retS (fun v23 w24 => v23 = (.tuple #[] : Value) ∧ (
 ∃ q25, (some (q6.add 9)) = some q25 ∧ (
 ∃ x26, w24.cell? (q25.add 0) = some (.int .u8 x26) ∧ (
 ifB ((x26 : Int) == 1) (
 doEnd (.returning) (
 R (.returned (.tuple #[])) w24) (fun ch27 => R (.panicked ch27) w24)) (
 doDr w24 (fun w29 =>
 ∃ (C28 : World → Prop), C28 w29 ∧ (
 ∃ x30, (∀ w, C28 w → w.cell? ((blk b3).add 1) = some (x30)) ∧ (
 ∃ q31, (some (q6.add 9)) = some q31 ∧ (
 doNC Tryz.prog (x30) (
 doGo Tryz.prog (.fn (.method "joinery/op.num") #[]) #[x30, .pointer (some (q31.add 1))] w29 (retS (fun v32 w33 => v32 = (.tuple #[] : Value) ∧ (
 doDr w33 (fun w35 =>
 ∃ (C34 : World → Prop), C34 w35 ∧ (
 ∃ x36, (∀ w, C34 w → w.cell? ((blk b3).add 1) = some (x36)) ∧ (
 ∃ q37, (some (q6.add 9)) = some q37 ∧ (
 doNC Tryz.prog (x36) (
 doGo Tryz.prog (.fn (.method "joinery/op.num") #[]) #[x36, .pointer (some (q37.add 2))] w35 (retS (fun v38 w39 => v38 = (.tuple #[] : Value) ∧ (
 doEnd (.returning) (
 R (.returned (.tuple #[])) w39) (fun ch40 => R (.panicked ch40) w39))) (fun (ch41 : List PanicEntry) (w42 : World) =>
 doEnd (.panicking ch41) (
 R (.returned (.tuple #[])) w42) (fun ch43 => R (.panicked ch43) w42)))))))))) (fun (ch44 : List PanicEntry) (w45 : World) =>
 doEnd (.panicking ch44) (
 R (.returned (.tuple #[])) w45) (fun ch46 => R (.panicked ch46) w45))))))))))))) (fun (ch47 : List PanicEntry) (w48 : World) =>
 doEnd (.panicking ch47) (
 R (.returned (.tuple #[])) w48) (fun ch49 => R (.panicked ch49) w48)))))))))) (fun (ch50 : List PanicEntry) (w51 : World) =>
 doEnd (.panicking ch50) (
 R (.returned (.tuple #[])) w51) (fun ch52 => R (.panicked ch52) w51))))))))) (
 doDr w11 (fun w54 =>
 ∃ (C53 : World → Prop), C53 w54 ∧ (
 ∃ x55, (∀ w, C53 w → w.cell? ((blk b3).add 1) = some (x55)) ∧ (
 ∃ q56, (some (q6.add 9)) = some q56 ∧ (
 doNC Tryz.prog (x55) (
 doGo Tryz.prog (.fn (.method "joinery/op.word") #[]) #[x55, .pointer (some (q56.add 0)), .slice (some (blk b7)) 6 6] w54 (retS (fun v57 w58 => v57 = (.tuple #[] : Value) ∧ (
 doDr w58 (fun w60 =>
 ∃ (C59 : World → Prop), C59 w60 ∧ (
 ∃ x61, (∀ w, C59 w → w.cell? ((blk b3).add 1) = some (x61)) ∧ (
 doNC Tryz.prog (x61) (
 ∃ q62, (some (q6.add 9)) = some q62 ∧ (
 doDr w60 (fun w64 =>
 ∃ (C63 : World → Prop), C63 w64 ∧ (
 ∃ x65, (∀ w, C63 w → w.cell? ((blk b3).add 1) = some (x65)) ∧ (
 ∃ q66, (some (q6.add 9)) = some q66 ∧ (
 doNC Tryz.prog (x65) (
 doGo Tryz.prog (.fn (.method "joinery/op.num") #[]) #[x65, .pointer (some (q66.add 1))] w64 (retS (fun v67 w68 => v67 = (.tuple #[] : Value) ∧ (
 doDr w68 (fun w70 =>
 ∃ (C69 : World → Prop), C69 w70 ∧ (
 ∃ x71, (∀ w, C69 w → w.cell? ((blk b3).add 1) = some (x71)) ∧ (
 ∃ q72, (some (q6.add 9)) = some q72 ∧ (
 doNC Tryz.prog (x71) (
 doGo Tryz.prog (.fn (.method "joinery/op.num") #[]) #[x71, .pointer (some (q72.add 2))] w70 (retS (fun v73 w74 => v73 = (.tuple #[] : Value) ∧ (
 doDf Tryz.prog (.fn (.method "joinery/op.flag") #[]) #[x61, .pointer (some (q62.add 3))] (.returning) w74 (fun u76 w75 =>
 doEnd (u76) (
 R (.returned (.tuple #[])) w75) (fun ch77 => R (.panicked ch77) w75)))) (fun (ch78 : List PanicEntry) (w79 : World) =>
 doDf Tryz.prog (.fn (.method "joinery/op.flag") #[]) #[x61, .pointer (some (q62.add 3))] (.panicking ch78) w79 (fun u81 w80 =>
 doEnd (u81) (
 R (.returned (.tuple #[])) w80) (fun ch82 => R (.panicked ch82) w80))))))))))) (fun (ch83 : List PanicEntry) (w84 : World) =>
 doDf Tryz.prog (.fn (.method "joinery/op.flag") #[]) #[x61, .pointer (some (q62.add 3))] (.panicking ch83) w84 (fun u86 w85 =>
 doEnd (u86) (
 R (.returned (.tuple #[])) w85) (fun ch87 => R (.panicked ch87) w85)))))))))))))))) (fun (ch88 : List PanicEntry) (w89 : World) =>
 doEnd (.panicking ch88) (
 R (.returned (.tuple #[])) w89) (fun ch90 => R (.panicked ch90) w89)))))))))
 doTA Tryz.prog (x9) 196 219 true w8 (fun v93 => ∃ x91 x92, v93 = (.tuple #[.pointer x91, .bool x92] : Value) ∧ (
 doTA Tryz.prog (x9) 196 220 true w8 (fun v96 => ∃ x94 x95, v96 = (.tuple #[.pointer x94, .bool x95] : Value) ∧ (
 ifB x92 (K12 true w8) (K12 x95 w8))))))))))
theorem sh202_ok (f_1 : OA) (f_2 : Value) {R : EW} {w : World} : sh202 f_1 f_2 R w → Calls Tryz.prog 202 #[.agg #[.pointer f_1, f_2]] w R :=
  calls_of_eqN (ann := fun _ => []) (fn := Tryz.f202) (c := bodyOf Tryz.f202) (args := #[.agg #[.pointer f_1, f_2]]) 400 follows_mixed Tryz.func202 (by kernel_rfl) (by rfl) (by kernel_rfl)
def sh203 (f_1 : OA) (f_2 : Value) (R : EW) (w : World) : Prop :=
 doAl (.cells #[.pointer f_1, f_2] 203) w (fun b3 w4 =>
 ∃ x5, w4.cell? ((blk b3).add 0) = some (.pointer x5) ∧ (
 ∃ q6, x5 = some q6 ∧ (
 ∃ xp7 xn8 xc9, w4.cell? (q6.add 14) = some (.slice xp7 xn8 xc9) ∧ (
 doAl (.cells #[.int .i64 0] 3) w4 (fun b10 w11 =>
 doSt ((blk b10).add 0) (.int .i64 ((xn8 : Nat) : Int)) w11 (fun w12 =>
 ∃ x13, w12.cell? ((blk b3).add 1) = some (x13) ∧ (
 doGo Tryz.prog (.fn (.method "joinery/op.many") #[]) #[x13, .pointer (some (blk b10))] w12 (retS (fun v14 w15 => v14 = (.tuple #[] : Value) ∧ (
 ∃ x16, w15.cell? (blk b10) = some (.int .i64 x16) ∧ (
 ∃ (I17 : List Value → World → Prop) (μ18 : List Value → World → Nat), I17 [.int .i64 0] w15 ∧ (∀ (x21 : Int), ∀ (_j19 : Nat → Value) (w20 : World), I17 [.int .i64 x21] w20 → (
 ifB (decide ((x21 : Int) < x16)) (
 let K23 : World → Prop := fun w22 => 
 I17 [.int .i64 (IntKind.wrap .i64 (x21 + 1))] w22 ∧ μ18 [.int .i64 (IntKind.wrap .i64 (x21 + 1))] w22 < μ18 [.int .i64 x21] w20
 doAl (.cells #[.int .i64 0] 2) w20 (fun b24 w25 =>
 let K27 : World → Prop := fun w26 => 
 ∃ x28, w26.cell? ((blk b3).add 1) = some (x28) ∧ (
 doGo Tryz.prog (.fn (.method "joinery/op.num") #[]) #[x28, .pointer (some (blk b24))] w26 (retS (fun v29 w30 => v29 = (.tuple #[] : Value) ∧ (
 ∃ x31, w30.cell? ((blk b3).add 0) = some (.pointer x31) ∧ (
 ∃ q32, x31 = some q32 ∧ (
 ∃ xp33 xn34 xc35, w30.cell? (q32.add 14) = some (.slice xp33 xn34 xc35) ∧ (
 ifB ((x21 : Int) == ((xn34 : Nat) : Int)) (
 doDr w30 (fun w37 =>
 ∃ (C36 : World → Prop), C36 w37 ∧ (
 ∃ x38, (∀ w, C36 w → w.cell? ((blk b3).add 0) = some (.pointer x38)) ∧ (
 ∃ x39, (∀ w, C36 w → w.cell? ((blk b3).add 0) = some (.pointer x39)) ∧ (
 ∃ q40, x39 = some q40 ∧ (
 ∃ xp41 xn42 xc43, (∀ w, C36 w → w.cell? (q40.add 14) = some (.slice xp41 xn42 xc43)) ∧ (
 ∃ x44, (∀ w, C36 w → w.cell? (blk b24) = some (.int .i64 x44)) ∧ (
 doAl (.cells #[.int .i64 x44] 2) w37 (fun b45 w46 =>
 C36 w46 ∧ (
 doGo Tryz.prog (.builtin .append #[28, 28] 28 #[false, false]) #[.slice xp41 xn42 xc43, .slice (some (blk b45)) 1 1] w46 (retS (fun v50 w51 => ∃ xp47 xn48 xc49, v50 = (.slice xp47 xn48 xc49 : Value) ∧ (
 C36 w51 ∧ (
 ∃ q52, x38 = some q52 ∧ (
 doSt ((q52.add 14).add 0) (.slice xp47 xn48 xc49) w51 (fun w53 =>
 K23 w53))))) (kN R)))))))))))) (
 K23 w30)))))) (kN R)))
 ∃ x54, w25.cell? ((blk b3).add 0) = some (.pointer x54) ∧ (
 ∃ q55, x54 = some q55 ∧ (
 ∃ xp56 xn57 xc58, w25.cell? (q55.add 14) = some (.slice xp56 xn57 xc58) ∧ (
 ifB (decide ((x21 : Int) < ((xn57 : Nat) : Int))) (
 ∃ x59, w25.cell? ((blk b3).add 0) = some (.pointer x59) ∧ (
 ∃ q60, x59 = some q60 ∧ (
 ∃ xp61 xn62 xc63, w25.cell? (q60.add 14) = some (.slice xp61 xn62 xc63) ∧ (
 doIx xp61 xn62 1 (x21) (fun a64 =>
 ∃ x65, w25.cell? a64 = some (.int .i64 x65) ∧ (
 doSt ((blk b24).add 0) (.int .i64 x65) w25 (fun w66 =>
 K27 w66))))))) (
 K27 w25)))))) (
 R (.returned (.tuple #[])) w20)))))) (kN R)))))))))
theorem sh203_ok (f_1 : OA) (f_2 : Value) {R : EW} {w : World} : sh203 f_1 f_2 R w → Calls Tryz.prog 203 #[.agg #[.pointer f_1, f_2]] w R :=
  Old.calls_of_eq (ann := fun i => if i = 0 then [(15, .int .i64 0)] else []) (fn := Tryz.f203) (c := bodyOf Tryz.f203) (args := #[.agg #[.pointer f_1, f_2]]) 400 follows_mixed Tryz.func203 (by kernel_rfl) (by kernel_rfl)
end Go.Proofs.YtmdboekndjlmgaaGreat

