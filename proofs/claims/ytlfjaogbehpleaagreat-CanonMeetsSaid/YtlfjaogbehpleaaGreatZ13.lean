/-
  Printed by a program (gen.py): what the functions of the program do, as formulas; each with the proof that its call is what the formula says.
-/
/-
  Printed by a program (gen.py): what the functions of the program do, as formulas; each with the proof that its call is what the formula says.
-/
/-
  Printed by a program (gen.py): what the functions of the program do, as formulas; each with the proof that its call is what the formula says.
-/
/-
  Printed by a program (gen.py): what the functions of the program do, as formulas; each with the proof that its call is what the formula says.
-/
/-
  Printed by a program (gen.py): what the functions of the program do, as formulas; each with the proof that its call is what the formula says.
-/
/- All printed texts. -/
/-
  The codes of keys, as numbers: plain laws of 64 bits. No claim of its own.
-/
import Derived.Test.YtlfjaogbehpleaaGreatZ04
import Derived.Test.YtlfjaogbehpleaaGreatProg
import Derived.Test.YtlfjaogbehpleaaGreatZ05
import Derived.Test.YtlfjaogbehpleaaGreatZ03
import Derived.Test.YtlfjaogbehpleaaGreatZ06
import Derived.Test.YtlfjaogbehpleaaGreatZ07
import Derived.Test.YtlfjaogbehpleaaGreatZ08
import Derived.Test.YtlfjaogbehpleaaGreatZ09
import Derived.Test.YtlfjaogbehpleaaGreatZ10
import Derived.Test.YtlfjaogbehpleaaGreatZ11
import Derived.Test.YtlfjaogbehpleaaGreatZ12

namespace Go.Proofs.YtlfjaogbehpleaaGreat
open Go Go.Sh
set_option maxRecDepth 100000 in
/-- math/bits.ReverseBytes64 -/
def sh307 (x_1 : Int) (R : Ending → World → Prop) (w : World) : Prop :=
 (0 : Int) ≤ 8 ∧ (
 (0 : Int) ≤ 8 ∧ (
 (0 : Int) ≤ 16 ∧ (
 (0 : Int) ≤ 16 ∧ (
 (0 : Int) ≤ 32 ∧ (
 (0 : Int) ≤ 32 ∧ (
 R (.returned (.int .u64 (bOr .u64 (Int.fdiv (bOr .u64 (bAnd .u64 (Int.fdiv (bOr .u64 (bAnd .u64 (Int.fdiv x_1 (2 ^ (min (8 : Int).toNat (IntKind.bits .u64)))) 71777214294589695) (IntKind.wrap .u64 ((bAnd .u64 x_1 71777214294589695) * 2 ^ (min (8 : Int).toNat (IntKind.bits .u64))))) (2 ^ (min (16 : Int).toNat (IntKind.bits .u64)))) 281470681808895) (IntKind.wrap .u64 ((bAnd .u64 (bOr .u64 (bAnd .u64 (Int.fdiv x_1 (2 ^ (min (8 : Int).toNat (IntKind.bits .u64)))) 71777214294589695) (IntKind.wrap .u64 ((bAnd .u64 x_1 71777214294589695) * 2 ^ (min (8 : Int).toNat (IntKind.bits .u64))))) 281470681808895) * 2 ^ (min (16 : Int).toNat (IntKind.bits .u64))))) (2 ^ (min (32 : Int).toNat (IntKind.bits .u64)))) (IntKind.wrap .u64 ((bOr .u64 (bAnd .u64 (Int.fdiv (bOr .u64 (bAnd .u64 (Int.fdiv x_1 (2 ^ (min (8 : Int).toNat (IntKind.bits .u64)))) 71777214294589695) (IntKind.wrap .u64 ((bAnd .u64 x_1 71777214294589695) * 2 ^ (min (8 : Int).toNat (IntKind.bits .u64))))) (2 ^ (min (16 : Int).toNat (IntKind.bits .u64)))) 281470681808895) (IntKind.wrap .u64 ((bAnd .u64 (bOr .u64 (bAnd .u64 (Int.fdiv x_1 (2 ^ (min (8 : Int).toNat (IntKind.bits .u64)))) 71777214294589695) (IntKind.wrap .u64 ((bAnd .u64 x_1 71777214294589695) * 2 ^ (min (8 : Int).toNat (IntKind.bits .u64))))) 281470681808895) * 2 ^ (min (16 : Int).toNat (IntKind.bits .u64))))) * 2 ^ (min (32 : Int).toNat (IntKind.bits .u64))))))) w))))))
set_option maxRecDepth 100000 in
theorem sh307_ok (x_1 : Int) {R : Ending → World → Prop} {w : World} : sh307 x_1 R w → Calls Tryz.prog 307 #[.int .u64 x_1] w R :=
  Old.calls_of_eq (ann := fun _ => []) (fn := Tryz.f307) (c := bodyOf Tryz.f307) (args := #[.int .u64 x_1]) 400 follows_mixed Tryz.func307 (by kernel_rfl) (by kernel_rfl)
set_option maxRecDepth 100000 in
/-- slices.insertionSortCmpFunc[joinery/api.Pair] -/
def sh329 (data_p1 : Option Addr) (data_n2 : Nat) (_data_c3 : Nat) (a_4 : Int) (b_5 : Int) (cmp_f6 : Fn) (cmp_x7 : Array Value) (cmp_c8 : Array Value) (R : Ending → World → Prop) (w : World) : Prop :=
 ∃ (I9 : List Value → World → Prop) (μ10 : List Value → World → Nat), I9 [.int .i64 (IntKind.wrap .i64 (a_4 + 1))] w ∧ (∀ (i_13 : Int), ∀ (_j11 : Nat → Value) (w12 : World), I9 [.int .i64 i_13] w12 → (
 ifB (decide ((i_13 : Int) < b_5)) (
 let K15 : World → Prop := fun (w14 : World) => 
 I9 [.int .i64 (IntKind.wrap .i64 (i_13 + 1))] w14 ∧ μ10 [.int .i64 (IntKind.wrap .i64 (i_13 + 1))] w14 < μ10 [.int .i64 i_13] w12
 ∃ (I16 : List Value → World → Prop) (μ17 : List Value → World → Nat), I16 [.int .i64 i_13] w12 ∧ (∀ (j_20 : Int), ∀ (_j18 : Nat → Value) (w19 : World), I16 [.int .i64 j_20] w19 → (
 let K23 : Bool → World → Prop := fun (x21 : Bool) (w22 : World) => 
 ifB x21 (
 doDr w22 (fun w25 =>
 ∃ (C24 : World → Prop), C24 w25 ∧ (
 doIx data_p1 data_n2 2 (IntKind.wrap .i64 (j_20 - 1)) (fun a26 =>
 ∃ (x27 : Int), (∀ w, C24 w → World.cell? w (a26.add 0) = some (.int .i64 x27)) ∧ (
 ∃ (x28 : Int), (∀ w, C24 w → World.cell? w (a26.add 1) = some (.int .i64 x28)) ∧ (
 doIx data_p1 data_n2 2 (j_20) (fun a29 =>
 ∃ (x30 : Int), (∀ w, C24 w → World.cell? w (a29.add 0) = some (.int .i64 x30)) ∧ (
 ∃ (x31 : Int), (∀ w, C24 w → World.cell? w (a29.add 1) = some (.int .i64 x31)) ∧ (
 doIx data_p1 data_n2 2 (j_20) (fun a32 =>
 doSt (a32.add 0) (.int .i64 x27) w25 (fun w33 =>
 doSt (a32.add 1) (.int .i64 x28) w33 (fun w34 =>
 doIx data_p1 data_n2 2 (IntKind.wrap .i64 (j_20 - 1)) (fun a35 =>
 doSt (a35.add 0) (.int .i64 x30) w34 (fun w36 =>
 doSt (a35.add 1) (.int .i64 x31) w36 (fun w37 =>
 I16 [.int .i64 (IntKind.wrap .i64 (j_20 - 1))] w37 ∧ μ17 [.int .i64 (IntKind.wrap .i64 (j_20 - 1))] w37 < μ17 [.int .i64 j_20] w19))))))))))))))) (
 K15 w22)
 doDr w19 (fun w39 =>
 ∃ (C38 : World → Prop), C38 w39 ∧ (
 ifB (decide ((j_20 : Int) > a_4)) (
 doIx data_p1 data_n2 2 (j_20) (fun a40 =>
 ∃ (x41 : Int), (∀ w, C38 w → World.cell? w (a40.add 0) = some (.int .i64 x41)) ∧ (
 ∃ (x42 : Int), (∀ w, C38 w → World.cell? w (a40.add 1) = some (.int .i64 x42)) ∧ (
 doIx data_p1 data_n2 2 (IntKind.wrap .i64 (j_20 - 1)) (fun a43 =>
 ∃ (x44 : Int), (∀ w, C38 w → World.cell? w (a43.add 0) = some (.int .i64 x44)) ∧ (
 ∃ (x45 : Int), (∀ w, C38 w → World.cell? w (a43.add 1) = some (.int .i64 x45)) ∧ (
 doCall Tryz.prog (.func cmp_f6 cmp_x7 cmp_c8) #[.agg #[.int .i64 x41, .int .i64 x42], .agg #[.int .i64 x44, .int .i64 x45]] w39 (retS (fun v47 w48 => ∃ (x46 : Int), v47 = (.int .i64 x46 : Value) ∧ (
 K23 (decide ((x46 : Int) < 0)) w48)) (fun ch w => Kfn R ch [] w))))))))) (
 K15 w39)))))) (
 R (.returned (.tuple #[])) w12)))
set_option maxRecDepth 100000 in
theorem sh329_ok (data_p1 : Option Addr) (data_n2 : Nat) (data_c3 : Nat) (a_4 : Int) (b_5 : Int) (cmp_f6 : Fn) (cmp_x7 : Array Value) (cmp_c8 : Array Value) {R : Ending → World → Prop} {w : World} : sh329 data_p1 data_n2 data_c3 a_4 b_5 cmp_f6 cmp_x7 cmp_c8 R w → Calls Tryz.prog 329 #[.slice data_p1 data_n2 data_c3, .int .i64 a_4, .int .i64 b_5, .func cmp_f6 cmp_x7 cmp_c8] w R :=
  Old.calls_of_eq (ann := fun i => if i = 2 then [(9, .int .i64 0)] else if i = 0 then [(8, .int .i64 0)] else []) (fn := Tryz.f329) (c := bodyOf Tryz.f329) (args := #[.slice data_p1 data_n2 data_c3, .int .i64 a_4, .int .i64 b_5, .func cmp_f6 cmp_x7 cmp_c8]) 400 follows_mixed Tryz.func329 (by kernel_rfl) (by kernel_rfl)
set_option maxRecDepth 100000 in
/-- slices.rotateCmpFunc[joinery/api.Pair] -/
def sh354 (data_p1 : Option Addr) (data_n2 : Nat) (data_c3 : Nat) (a_4 : Int) (m_5 : Int) (b_6 : Int) (cmp_f7 : Fn) (cmp_x8 : Array Value) (cmp_c9 : Array Value) (R : Ending → World → Prop) (w : World) : Prop :=
 ∃ (I10 : List Value → World → Prop) (μ11 : List Value → World → Nat), I10 [.int .i64 (IntKind.wrap .i64 (m_5 - a_4)), .int .i64 (IntKind.wrap .i64 (b_6 - m_5))] w ∧ (∀ (i_14 : Int), ∀ (j_15 : Int), ∀ (_j12 : Nat → Value) (w13 : World), I10 [.int .i64 i_14, .int .i64 j_15] w13 → (
 ifB ((i_14 : Int) != j_15) (
 ifB (decide ((i_14 : Int) > j_15)) (
 doCall Tryz.prog (.func (.func 361) #[] #[]) #[.slice data_p1 data_n2 data_c3, .int .i64 (IntKind.wrap .i64 (m_5 - i_14)), .int .i64 m_5, .int .i64 j_15, .func cmp_f7 cmp_x8 cmp_c9] w13 (retS (fun v16 w17 => v16 = (.tuple #[] : Value) ∧ (
 I10 [.int .i64 (IntKind.wrap .i64 (i_14 - j_15)), .int .i64 j_15] w17 ∧ μ11 [.int .i64 (IntKind.wrap .i64 (i_14 - j_15)), .int .i64 j_15] w17 < μ11 [.int .i64 i_14, .int .i64 j_15] w13)) (fun ch w => Kfn R ch [] w))) (
 doCall Tryz.prog (.func (.func 361) #[] #[]) #[.slice data_p1 data_n2 data_c3, .int .i64 (IntKind.wrap .i64 (m_5 - i_14)), .int .i64 (IntKind.wrap .i64 ((IntKind.wrap .i64 (m_5 + j_15)) - i_14)), .int .i64 i_14, .func cmp_f7 cmp_x8 cmp_c9] w13 (retS (fun v18 w19 => v18 = (.tuple #[] : Value) ∧ (
 I10 [.int .i64 i_14, .int .i64 (IntKind.wrap .i64 (j_15 - i_14))] w19 ∧ μ11 [.int .i64 i_14, .int .i64 (IntKind.wrap .i64 (j_15 - i_14))] w19 < μ11 [.int .i64 i_14, .int .i64 j_15] w13)) (fun ch w => Kfn R ch [] w)))) (
 doCall Tryz.prog (.func (.func 361) #[] #[]) #[.slice data_p1 data_n2 data_c3, .int .i64 (IntKind.wrap .i64 (m_5 - i_14)), .int .i64 m_5, .int .i64 i_14, .func cmp_f7 cmp_x8 cmp_c9] w13 (retS (fun v20 w21 => v20 = (.tuple #[] : Value) ∧ (
 R (.returned (.tuple #[])) w21)) (fun ch w => Kfn R ch [] w)))))
set_option maxRecDepth 100000 in
theorem sh354_ok (data_p1 : Option Addr) (data_n2 : Nat) (data_c3 : Nat) (a_4 : Int) (m_5 : Int) (b_6 : Int) (cmp_f7 : Fn) (cmp_x8 : Array Value) (cmp_c9 : Array Value) {R : Ending → World → Prop} {w : World} : sh354 data_p1 data_n2 data_c3 a_4 m_5 b_6 cmp_f7 cmp_x8 cmp_c9 R w → Calls Tryz.prog 354 #[.slice data_p1 data_n2 data_c3, .int .i64 a_4, .int .i64 m_5, .int .i64 b_6, .func cmp_f7 cmp_x8 cmp_c9] w R :=
  Old.calls_of_eq (ann := fun i => if i = 0 then [(10, .int .i64 0), (11, .int .i64 0)] else []) (fn := Tryz.f354) (c := bodyOf Tryz.f354) (args := #[.slice data_p1 data_n2 data_c3, .int .i64 a_4, .int .i64 m_5, .int .i64 b_6, .func cmp_f7 cmp_x8 cmp_c9]) 400 follows_mixed Tryz.func354 (by kernel_rfl) (by kernel_rfl)
set_option maxRecDepth 100000 in
/-- slices.swapRangeCmpFunc[joinery/api.Pair] -/
def sh361 (data_p1 : Option Addr) (data_n2 : Nat) (_data_c3 : Nat) (a_4 : Int) (b_5 : Int) (n_6 : Int) (_cmp_f7 : Fn) (_cmp_x8 : Array Value) (_cmp_c9 : Array Value) (R : Ending → World → Prop) (w : World) : Prop :=
 ∃ (I10 : List Value → World → Prop) (μ11 : List Value → World → Nat), I10 [.int .i64 0] w ∧ (∀ (i_14 : Int), ∀ (_j12 : Nat → Value) (w13 : World), I10 [.int .i64 i_14] w13 → (
 ifB (decide ((i_14 : Int) < n_6)) (
 doDr w13 (fun w16 =>
 ∃ (C15 : World → Prop), C15 w16 ∧ (
 doIx data_p1 data_n2 2 (IntKind.wrap .i64 (b_5 + i_14)) (fun a17 =>
 ∃ (x18 : Int), (∀ w, C15 w → World.cell? w (a17.add 0) = some (.int .i64 x18)) ∧ (
 ∃ (x19 : Int), (∀ w, C15 w → World.cell? w (a17.add 1) = some (.int .i64 x19)) ∧ (
 doIx data_p1 data_n2 2 (IntKind.wrap .i64 (a_4 + i_14)) (fun a20 =>
 ∃ (x21 : Int), (∀ w, C15 w → World.cell? w (a20.add 0) = some (.int .i64 x21)) ∧ (
 ∃ (x22 : Int), (∀ w, C15 w → World.cell? w (a20.add 1) = some (.int .i64 x22)) ∧ (
 doIx data_p1 data_n2 2 (IntKind.wrap .i64 (a_4 + i_14)) (fun a23 =>
 doSt (a23.add 0) (.int .i64 x18) w16 (fun w24 =>
 doSt (a23.add 1) (.int .i64 x19) w24 (fun w25 =>
 doIx data_p1 data_n2 2 (IntKind.wrap .i64 (b_5 + i_14)) (fun a26 =>
 doSt (a26.add 0) (.int .i64 x21) w25 (fun w27 =>
 doSt (a26.add 1) (.int .i64 x22) w27 (fun w28 =>
 I10 [.int .i64 (IntKind.wrap .i64 (i_14 + 1))] w28 ∧ μ11 [.int .i64 (IntKind.wrap .i64 (i_14 + 1))] w28 < μ11 [.int .i64 i_14] w13))))))))))))))) (
 R (.returned (.tuple #[])) w13)))
set_option maxRecDepth 100000 in
theorem sh361_ok (data_p1 : Option Addr) (data_n2 : Nat) (data_c3 : Nat) (a_4 : Int) (b_5 : Int) (n_6 : Int) (cmp_f7 : Fn) (cmp_x8 : Array Value) (cmp_c9 : Array Value) {R : Ending → World → Prop} {w : World} : sh361 data_p1 data_n2 data_c3 a_4 b_5 n_6 cmp_f7 cmp_x8 cmp_c9 R w → Calls Tryz.prog 361 #[.slice data_p1 data_n2 data_c3, .int .i64 a_4, .int .i64 b_5, .int .i64 n_6, .func cmp_f7 cmp_x8 cmp_c9] w R :=
  Old.calls_of_eq (ann := fun i => if i = 0 then [(10, .int .i64 0)] else []) (fn := Tryz.f361) (c := bodyOf Tryz.f361) (args := #[.slice data_p1 data_n2 data_c3, .int .i64 a_4, .int .i64 b_5, .int .i64 n_6, .func cmp_f7 cmp_x8 cmp_c9]) 400 follows_mixed Tryz.func361 (by kernel_rfl) (by kernel_rfl)
end Go.Proofs.YtlfjaogbehpleaaGreat

namespace Go.Proofs.YtlfjaogbehpleaaGreat
open Go Go.Sh
end Go.Proofs.YtlfjaogbehpleaaGreat

namespace Go.Proofs.YtlfjaogbehpleaaGreat
open Go Go.Sh
set_option maxRecDepth 100000 in
/-- slices.symMergeCmpFunc[joinery/api.Pair] -/
def sh330 (data_p1 : Option Addr) (data_n2 : Nat) (data_c3 : Nat) (a_4 : Int) (m_5 : Int) (b_6 : Int) (cmp_f7 : Fn) (cmp_x8 : Array Value) (cmp_c9 : Array Value) (R : Ending → World → Prop) (w : World) : Prop :=
 ifB (((IntKind.wrap .i64 (m_5 - a_4)) : Int) == 1) (
 ∃ (I10 : List Value → World → Prop) (μ11 : List Value → World → Nat), I10 [.int .i64 m_5, .int .i64 b_6] w ∧ (∀ (i_14 : Int), ∀ (j_15 : Int), ∀ (_j12 : Nat → Value) (w13 : World), I10 [.int .i64 i_14, .int .i64 j_15] w13 → (
 ifB (decide ((i_14 : Int) < j_15)) (
 (0 : Int) ≤ 1 ∧ (
 doDr w13 (fun w17 =>
 ∃ (C16 : World → Prop), C16 w17 ∧ (
 doIx data_p1 data_n2 2 (IntKind.wrap .i64 (Int.fdiv (IntKind.wrap .u64 (IntKind.wrap .i64 (i_14 + j_15))) (2 ^ (min (1 : Int).toNat (IntKind.bits .u64))))) (fun a18 =>
 ∃ (x19 : Int), (∀ w, C16 w → World.cell? w (a18.add 0) = some (.int .i64 x19)) ∧ (
 ∃ (x20 : Int), (∀ w, C16 w → World.cell? w (a18.add 1) = some (.int .i64 x20)) ∧ (
 doIx data_p1 data_n2 2 (a_4) (fun a21 =>
 ∃ (x22 : Int), (∀ w, C16 w → World.cell? w (a21.add 0) = some (.int .i64 x22)) ∧ (
 ∃ (x23 : Int), (∀ w, C16 w → World.cell? w (a21.add 1) = some (.int .i64 x23)) ∧ (
 doCall Tryz.prog (.func cmp_f7 cmp_x8 cmp_c9) #[.agg #[.int .i64 x19, .int .i64 x20], .agg #[.int .i64 x22, .int .i64 x23]] w17 (retS (fun v25 w26 => ∃ (x24 : Int), v25 = (.int .i64 x24 : Value) ∧ (
 ifB (decide ((x24 : Int) < 0)) (
 I10 [.int .i64 (IntKind.wrap .i64 ((IntKind.wrap .i64 (Int.fdiv (IntKind.wrap .u64 (IntKind.wrap .i64 (i_14 + j_15))) (2 ^ (min (1 : Int).toNat (IntKind.bits .u64))))) + 1)), .int .i64 j_15] w26 ∧ μ11 [.int .i64 (IntKind.wrap .i64 ((IntKind.wrap .i64 (Int.fdiv (IntKind.wrap .u64 (IntKind.wrap .i64 (i_14 + j_15))) (2 ^ (min (1 : Int).toNat (IntKind.bits .u64))))) + 1)), .int .i64 j_15] w26 < μ11 [.int .i64 i_14, .int .i64 j_15] w13) (
 I10 [.int .i64 i_14, .int .i64 (IntKind.wrap .i64 (Int.fdiv (IntKind.wrap .u64 (IntKind.wrap .i64 (i_14 + j_15))) (2 ^ (min (1 : Int).toNat (IntKind.bits .u64)))))] w26 ∧ μ11 [.int .i64 i_14, .int .i64 (IntKind.wrap .i64 (Int.fdiv (IntKind.wrap .u64 (IntKind.wrap .i64 (i_14 + j_15))) (2 ^ (min (1 : Int).toNat (IntKind.bits .u64)))))] w26 < μ11 [.int .i64 i_14, .int .i64 j_15] w13))) (fun ch w => Kfn R ch [] w)))))))))))) (
 ∃ (I27 : List Value → World → Prop) (μ28 : List Value → World → Nat), I27 [.int .i64 a_4] w13 ∧ (∀ (k_31 : Int), ∀ (_j29 : Nat → Value) (w30 : World), I27 [.int .i64 k_31] w30 → (
 ifB (decide ((k_31 : Int) < (IntKind.wrap .i64 (i_14 - 1)))) (
 doDr w30 (fun w33 =>
 ∃ (C32 : World → Prop), C32 w33 ∧ (
 doIx data_p1 data_n2 2 (IntKind.wrap .i64 (k_31 + 1)) (fun a34 =>
 ∃ (x35 : Int), (∀ w, C32 w → World.cell? w (a34.add 0) = some (.int .i64 x35)) ∧ (
 ∃ (x36 : Int), (∀ w, C32 w → World.cell? w (a34.add 1) = some (.int .i64 x36)) ∧ (
 doIx data_p1 data_n2 2 (k_31) (fun a37 =>
 ∃ (x38 : Int), (∀ w, C32 w → World.cell? w (a37.add 0) = some (.int .i64 x38)) ∧ (
 ∃ (x39 : Int), (∀ w, C32 w → World.cell? w (a37.add 1) = some (.int .i64 x39)) ∧ (
 doIx data_p1 data_n2 2 (k_31) (fun a40 =>
 doSt (a40.add 0) (.int .i64 x35) w33 (fun w41 =>
 doSt (a40.add 1) (.int .i64 x36) w41 (fun w42 =>
 doIx data_p1 data_n2 2 (IntKind.wrap .i64 (k_31 + 1)) (fun a43 =>
 doSt (a43.add 0) (.int .i64 x38) w42 (fun w44 =>
 doSt (a43.add 1) (.int .i64 x39) w44 (fun w45 =>
 I27 [.int .i64 (IntKind.wrap .i64 (k_31 + 1))] w45 ∧ μ28 [.int .i64 (IntKind.wrap .i64 (k_31 + 1))] w45 < μ28 [.int .i64 k_31] w30))))))))))))))) (
 R (.returned (.tuple #[])) w30))))))) (
 ifB (((IntKind.wrap .i64 (b_6 - m_5)) : Int) == 1) (
 ∃ (I46 : List Value → World → Prop) (μ47 : List Value → World → Nat), I46 [.int .i64 a_4, .int .i64 m_5] w ∧ (∀ (i_50 : Int), ∀ (j_51 : Int), ∀ (_j48 : Nat → Value) (w49 : World), I46 [.int .i64 i_50, .int .i64 j_51] w49 → (
 ifB (decide ((i_50 : Int) < j_51)) (
 (0 : Int) ≤ 1 ∧ (
 doDr w49 (fun w53 =>
 ∃ (C52 : World → Prop), C52 w53 ∧ (
 doIx data_p1 data_n2 2 (m_5) (fun a54 =>
 ∃ (x55 : Int), (∀ w, C52 w → World.cell? w (a54.add 0) = some (.int .i64 x55)) ∧ (
 ∃ (x56 : Int), (∀ w, C52 w → World.cell? w (a54.add 1) = some (.int .i64 x56)) ∧ (
 doIx data_p1 data_n2 2 (IntKind.wrap .i64 (Int.fdiv (IntKind.wrap .u64 (IntKind.wrap .i64 (i_50 + j_51))) (2 ^ (min (1 : Int).toNat (IntKind.bits .u64))))) (fun a57 =>
 ∃ (x58 : Int), (∀ w, C52 w → World.cell? w (a57.add 0) = some (.int .i64 x58)) ∧ (
 ∃ (x59 : Int), (∀ w, C52 w → World.cell? w (a57.add 1) = some (.int .i64 x59)) ∧ (
 doCall Tryz.prog (.func cmp_f7 cmp_x8 cmp_c9) #[.agg #[.int .i64 x55, .int .i64 x56], .agg #[.int .i64 x58, .int .i64 x59]] w53 (retS (fun v61 w62 => ∃ (x60 : Int), v61 = (.int .i64 x60 : Value) ∧ (
 ifB (!(decide ((x60 : Int) < 0))) (
 I46 [.int .i64 (IntKind.wrap .i64 ((IntKind.wrap .i64 (Int.fdiv (IntKind.wrap .u64 (IntKind.wrap .i64 (i_50 + j_51))) (2 ^ (min (1 : Int).toNat (IntKind.bits .u64))))) + 1)), .int .i64 j_51] w62 ∧ μ47 [.int .i64 (IntKind.wrap .i64 ((IntKind.wrap .i64 (Int.fdiv (IntKind.wrap .u64 (IntKind.wrap .i64 (i_50 + j_51))) (2 ^ (min (1 : Int).toNat (IntKind.bits .u64))))) + 1)), .int .i64 j_51] w62 < μ47 [.int .i64 i_50, .int .i64 j_51] w49) (
 I46 [.int .i64 i_50, .int .i64 (IntKind.wrap .i64 (Int.fdiv (IntKind.wrap .u64 (IntKind.wrap .i64 (i_50 + j_51))) (2 ^ (min (1 : Int).toNat (IntKind.bits .u64)))))] w62 ∧ μ47 [.int .i64 i_50, .int .i64 (IntKind.wrap .i64 (Int.fdiv (IntKind.wrap .u64 (IntKind.wrap .i64 (i_50 + j_51))) (2 ^ (min (1 : Int).toNat (IntKind.bits .u64)))))] w62 < μ47 [.int .i64 i_50, .int .i64 j_51] w49))) (fun ch w => Kfn R ch [] w)))))))))))) (
 ∃ (I63 : List Value → World → Prop) (μ64 : List Value → World → Nat), I63 [.int .i64 m_5] w49 ∧ (∀ (k_67 : Int), ∀ (_j65 : Nat → Value) (w66 : World), I63 [.int .i64 k_67] w66 → (
 ifB (decide ((k_67 : Int) > i_50)) (
 doDr w66 (fun w69 =>
 ∃ (C68 : World → Prop), C68 w69 ∧ (
 doIx data_p1 data_n2 2 (IntKind.wrap .i64 (k_67 - 1)) (fun a70 =>
 ∃ (x71 : Int), (∀ w, C68 w → World.cell? w (a70.add 0) = some (.int .i64 x71)) ∧ (
 ∃ (x72 : Int), (∀ w, C68 w → World.cell? w (a70.add 1) = some (.int .i64 x72)) ∧ (
 doIx data_p1 data_n2 2 (k_67) (fun a73 =>
 ∃ (x74 : Int), (∀ w, C68 w → World.cell? w (a73.add 0) = some (.int .i64 x74)) ∧ (
 ∃ (x75 : Int), (∀ w, C68 w → World.cell? w (a73.add 1) = some (.int .i64 x75)) ∧ (
 doIx data_p1 data_n2 2 (k_67) (fun a76 =>
 doSt (a76.add 0) (.int .i64 x71) w69 (fun w77 =>
 doSt (a76.add 1) (.int .i64 x72) w77 (fun w78 =>
 doIx data_p1 data_n2 2 (IntKind.wrap .i64 (k_67 - 1)) (fun a79 =>
 doSt (a79.add 0) (.int .i64 x74) w78 (fun w80 =>
 doSt (a79.add 1) (.int .i64 x75) w80 (fun w81 =>
 I63 [.int .i64 (IntKind.wrap .i64 (k_67 - 1))] w81 ∧ μ64 [.int .i64 (IntKind.wrap .i64 (k_67 - 1))] w81 < μ64 [.int .i64 k_67] w66))))))))))))))) (
 R (.returned (.tuple #[])) w66))))))) (
 (0 : Int) ≤ 1 ∧ (
 ∃ (J82 : List Value → World → Prop), (∀ (start_85 : Int), ∀ (r_86 : Int), ∀ (_j83 : Nat → Value) (w84 : World), J82 [.int .i64 start_85, .int .i64 r_86] w84 → (
 ∃ (I87 : List Value → World → Prop) (μ88 : List Value → World → Nat), I87 [.int .i64 start_85, .int .i64 r_86] w84 ∧ (∀ (start_91 : Int), ∀ (r_92 : Int), ∀ (_j89 : Nat → Value) (w90 : World), I87 [.int .i64 start_91, .int .i64 r_92] w90 → (
 ifB (decide ((start_91 : Int) < r_92)) (
 (0 : Int) ≤ 1 ∧ (
 doDr w90 (fun w94 =>
 ∃ (C93 : World → Prop), C93 w94 ∧ (
 doIx data_p1 data_n2 2 (IntKind.wrap .i64 ((IntKind.wrap .i64 ((IntKind.wrap .i64 ((IntKind.wrap .i64 (Int.fdiv (IntKind.wrap .u64 (IntKind.wrap .i64 (a_4 + b_6))) (2 ^ (min (1 : Int).toNat (IntKind.bits .u64))))) + m_5)) - 1)) - (IntKind.wrap .i64 (Int.fdiv (IntKind.wrap .u64 (IntKind.wrap .i64 (start_91 + r_92))) (2 ^ (min (1 : Int).toNat (IntKind.bits .u64))))))) (fun a95 =>
 ∃ (x96 : Int), (∀ w, C93 w → World.cell? w (a95.add 0) = some (.int .i64 x96)) ∧ (
 ∃ (x97 : Int), (∀ w, C93 w → World.cell? w (a95.add 1) = some (.int .i64 x97)) ∧ (
 doIx data_p1 data_n2 2 (IntKind.wrap .i64 (Int.fdiv (IntKind.wrap .u64 (IntKind.wrap .i64 (start_91 + r_92))) (2 ^ (min (1 : Int).toNat (IntKind.bits .u64))))) (fun a98 =>
 ∃ (x99 : Int), (∀ w, C93 w → World.cell? w (a98.add 0) = some (.int .i64 x99)) ∧ (
 ∃ (x100 : Int), (∀ w, C93 w → World.cell? w (a98.add 1) = some (.int .i64 x100)) ∧ (
 doCall Tryz.prog (.func cmp_f7 cmp_x8 cmp_c9) #[.agg #[.int .i64 x96, .int .i64 x97], .agg #[.int .i64 x99, .int .i64 x100]] w94 (retS (fun v102 w103 => ∃ (x101 : Int), v102 = (.int .i64 x101 : Value) ∧ (
 ifB (!(decide ((x101 : Int) < 0))) (
 I87 [.int .i64 (IntKind.wrap .i64 ((IntKind.wrap .i64 (Int.fdiv (IntKind.wrap .u64 (IntKind.wrap .i64 (start_91 + r_92))) (2 ^ (min (1 : Int).toNat (IntKind.bits .u64))))) + 1)), .int .i64 r_92] w103 ∧ μ88 [.int .i64 (IntKind.wrap .i64 ((IntKind.wrap .i64 (Int.fdiv (IntKind.wrap .u64 (IntKind.wrap .i64 (start_91 + r_92))) (2 ^ (min (1 : Int).toNat (IntKind.bits .u64))))) + 1)), .int .i64 r_92] w103 < μ88 [.int .i64 start_91, .int .i64 r_92] w90) (
 I87 [.int .i64 start_91, .int .i64 (IntKind.wrap .i64 (Int.fdiv (IntKind.wrap .u64 (IntKind.wrap .i64 (start_91 + r_92))) (2 ^ (min (1 : Int).toNat (IntKind.bits .u64)))))] w103 ∧ μ88 [.int .i64 start_91, .int .i64 (IntKind.wrap .i64 (Int.fdiv (IntKind.wrap .u64 (IntKind.wrap .i64 (start_91 + r_92))) (2 ^ (min (1 : Int).toNat (IntKind.bits .u64)))))] w103 < μ88 [.int .i64 start_91, .int .i64 r_92] w90))) (fun ch w => Kfn R ch [] w)))))))))))) (
 ∃ (J104 : List Value → World → Prop), (∀ (_j105 : Nat → Value) (w106 : World), J104 [] w106 → (
 ∃ (J107 : List Value → World → Prop), (∀ (_j108 : Nat → Value) (w109 : World), J107 [] w109 → (
 ∃ (J110 : List Value → World → Prop), (∀ (x113 : Bool), ∀ (_j111 : Nat → Value) (w112 : World), J110 [.bool x113] w112 → (
 ifB x113 (
 doCall Tryz.prog (.func (.func 330) #[] #[]) #[.slice data_p1 data_n2 data_c3, .int .i64 (IntKind.wrap .i64 (Int.fdiv (IntKind.wrap .u64 (IntKind.wrap .i64 (a_4 + b_6))) (2 ^ (min (1 : Int).toNat (IntKind.bits .u64))))), .int .i64 (IntKind.wrap .i64 ((IntKind.wrap .i64 ((IntKind.wrap .i64 (Int.fdiv (IntKind.wrap .u64 (IntKind.wrap .i64 (a_4 + b_6))) (2 ^ (min (1 : Int).toNat (IntKind.bits .u64))))) + m_5)) - start_91)), .int .i64 b_6, .func cmp_f7 cmp_x8 cmp_c9] w112 (retS (fun v114 w115 => v114 = (.tuple #[] : Value) ∧ (
 R (.returned (.tuple #[])) w115)) (fun ch w => Kfn R ch [] w))) (
 R (.returned (.tuple #[])) w112))) ∧ (
 ifB (decide (((IntKind.wrap .i64 (Int.fdiv (IntKind.wrap .u64 (IntKind.wrap .i64 (a_4 + b_6))) (2 ^ (min (1 : Int).toNat (IntKind.bits .u64))))) : Int) < (IntKind.wrap .i64 ((IntKind.wrap .i64 ((IntKind.wrap .i64 (Int.fdiv (IntKind.wrap .u64 (IntKind.wrap .i64 (a_4 + b_6))) (2 ^ (min (1 : Int).toNat (IntKind.bits .u64))))) + m_5)) - start_91)))) (
 J110 [.bool (decide (((IntKind.wrap .i64 ((IntKind.wrap .i64 ((IntKind.wrap .i64 (Int.fdiv (IntKind.wrap .u64 (IntKind.wrap .i64 (a_4 + b_6))) (2 ^ (min (1 : Int).toNat (IntKind.bits .u64))))) + m_5)) - start_91)) : Int) < b_6))] w109) (
 J110 [.bool false] w109)))) ∧ (
 ∃ (J116 : List Value → World → Prop), (∀ (x119 : Bool), ∀ (_j117 : Nat → Value) (w118 : World), J116 [.bool x119] w118 → (
 ifB x119 (
 doCall Tryz.prog (.func (.func 330) #[] #[]) #[.slice data_p1 data_n2 data_c3, .int .i64 a_4, .int .i64 start_91, .int .i64 (IntKind.wrap .i64 (Int.fdiv (IntKind.wrap .u64 (IntKind.wrap .i64 (a_4 + b_6))) (2 ^ (min (1 : Int).toNat (IntKind.bits .u64))))), .func cmp_f7 cmp_x8 cmp_c9] w118 (retS (fun v120 w121 => v120 = (.tuple #[] : Value) ∧ (
 J107 [] w121)) (fun ch w => Kfn R ch [] w))) (
 J107 [] w118))) ∧ (
 ifB (decide ((a_4 : Int) < start_91)) (
 J116 [.bool (decide ((start_91 : Int) < (IntKind.wrap .i64 (Int.fdiv (IntKind.wrap .u64 (IntKind.wrap .i64 (a_4 + b_6))) (2 ^ (min (1 : Int).toNat (IntKind.bits .u64)))))))] w106) (
 J116 [.bool false] w106))))) ∧ (
 ∃ (J122 : List Value → World → Prop), (∀ (x125 : Bool), ∀ (_j123 : Nat → Value) (w124 : World), J122 [.bool x125] w124 → (
 ifB x125 (
 doCall Tryz.prog (.func (.func 354) #[] #[]) #[.slice data_p1 data_n2 data_c3, .int .i64 start_91, .int .i64 m_5, .int .i64 (IntKind.wrap .i64 ((IntKind.wrap .i64 ((IntKind.wrap .i64 (Int.fdiv (IntKind.wrap .u64 (IntKind.wrap .i64 (a_4 + b_6))) (2 ^ (min (1 : Int).toNat (IntKind.bits .u64))))) + m_5)) - start_91)), .func cmp_f7 cmp_x8 cmp_c9] w124 (retS (fun v126 w127 => v126 = (.tuple #[] : Value) ∧ (
 J104 [] w127)) (fun ch w => Kfn R ch [] w))) (
 J104 [] w124))) ∧ (
 ifB (decide ((start_91 : Int) < m_5)) (
 J122 [.bool (decide ((m_5 : Int) < (IntKind.wrap .i64 ((IntKind.wrap .i64 ((IntKind.wrap .i64 (Int.fdiv (IntKind.wrap .u64 (IntKind.wrap .i64 (a_4 + b_6))) (2 ^ (min (1 : Int).toNat (IntKind.bits .u64))))) + m_5)) - start_91))))] w90) (
 J122 [.bool false] w90)))))))) ∧ (
 ifB (decide ((m_5 : Int) > (IntKind.wrap .i64 (Int.fdiv (IntKind.wrap .u64 (IntKind.wrap .i64 (a_4 + b_6))) (2 ^ (min (1 : Int).toNat (IntKind.bits .u64))))))) (
 J82 [.int .i64 (IntKind.wrap .i64 ((IntKind.wrap .i64 ((IntKind.wrap .i64 (Int.fdiv (IntKind.wrap .u64 (IntKind.wrap .i64 (a_4 + b_6))) (2 ^ (min (1 : Int).toNat (IntKind.bits .u64))))) + m_5)) - b_6)), .int .i64 (IntKind.wrap .i64 (Int.fdiv (IntKind.wrap .u64 (IntKind.wrap .i64 (a_4 + b_6))) (2 ^ (min (1 : Int).toNat (IntKind.bits .u64)))))] w) (
 J82 [.int .i64 a_4, .int .i64 m_5] w)))))
set_option maxRecDepth 100000 in
theorem sh330_ok (data_p1 : Option Addr) (data_n2 : Nat) (data_c3 : Nat) (a_4 : Int) (m_5 : Int) (b_6 : Int) (cmp_f7 : Fn) (cmp_x8 : Array Value) (cmp_c9 : Array Value) {R : Ending → World → Prop} {w : World} : sh330 data_p1 data_n2 data_c3 a_4 m_5 b_6 cmp_f7 cmp_x8 cmp_c9 R w → Calls Tryz.prog 330 #[.slice data_p1 data_n2 data_c3, .int .i64 a_4, .int .i64 m_5, .int .i64 b_6, .func cmp_f7 cmp_x8 cmp_c9] w R :=
  Old.calls_of_eq (ann := fun i => if i = 1000044 then [(0, .nilIface), (213, .bool false)] else if i = 1000043 then [(0, .nilIface)] else if i = 1000042 then [(0, .nilIface), (199, .bool false)] else if i = 1000041 then [(0, .nilIface)] else if i = 1000040 then [(0, .nilIface), (185, .bool false)] else if i = 8 then [(20, .int .i64 0), (21, .int .i64 0)] else if i = 1000032 then [(0, .nilIface), (20, .int .i64 0), (21, .int .i64 0)] else if i = 6 then [(17, .int .i64 0)] else if i = 4 then [(14, .int .i64 0), (15, .int .i64 0)] else if i = 2 then [(13, .int .i64 0)] else if i = 0 then [(10, .int .i64 0), (11, .int .i64 0)] else []) (fn := Tryz.f330) (c := bodyOf Tryz.f330) (args := #[.slice data_p1 data_n2 data_c3, .int .i64 a_4, .int .i64 m_5, .int .i64 b_6, .func cmp_f7 cmp_x8 cmp_c9]) 400 follows_mixed Tryz.func330 (by kernel_rfl) (by kernel_rfl)
end Go.Proofs.YtlfjaogbehpleaaGreat

namespace Go.Proofs.YtlfjaogbehpleaaGreat
open Go Go.Sh
end Go.Proofs.YtlfjaogbehpleaaGreat

namespace Go.Proofs.YtlfjaogbehpleaaGreat
open Go Go.Sh
set_option maxRecDepth 100000 in
/-- joinery/split.parts -/
def sh222 (s_1 : Option Addr) (at_f2 : Fn) (at_x3 : Array Value) (at_c4 : Array Value) (t_5 : Option Addr) (R : Ending → World → Prop) (w : World) : Prop :=
 doAl (.cells #[.int .i64 0, .int .i64 0, .int .u64 0] 133) w (fun b6 w7 =>
 ifB ((t_5).isNone) (
 doDr w7 (fun w9 =>
 ∃ (C8 : World → Prop), C8 w9 ∧ (
 ∃ (x10 : Int), (∀ w, C8 w → World.cell? w ((blk b6).add 0) = some (.int .i64 x10)) ∧ (
 ∃ (x11 : Int), (∀ w, C8 w → World.cell? w ((blk b6).add 1) = some (.int .i64 x11)) ∧ (
 ∃ (x12 : Int), (∀ w, C8 w → World.cell? w ((blk b6).add 2) = some (.int .u64 x12)) ∧ (
 doSt ((blk b6).add 0) (.int .i64 x10) w9 (fun w13 =>
 doSt ((blk b6).add 1) (.int .i64 x11) w13 (fun w14 =>
 doSt ((blk b6).add 2) (.int .u64 x12) w14 (fun w15 =>
 ∃ (x16 : Int), World.cell? w15 ((blk b6).add 0) = some (.int .i64 x16) ∧ (
 ∃ (x17 : Int), World.cell? w15 ((blk b6).add 1) = some (.int .i64 x17) ∧ (
 ∃ (x18 : Int), World.cell? w15 ((blk b6).add 2) = some (.int .u64 x18) ∧ (
 R (.returned (.tuple #[.pointer none, .agg #[.int .i64 x16, .int .i64 x17, .int .u64 x18], .bool false, .pointer none])) w15)))))))))))) (
 doCall Tryz.prog (.func (.func 131) #[] #[]) #[.pointer t_5] w7 (retS (fun v20 w21 => ∃ (x19 : Int), v20 = (.int .i64 x19 : Value) ∧ (
 doCall Tryz.prog (.func at_f2 at_x3 at_c4) #[.int .i64 x19] w21 (retS (fun v23 w24 => ∃ (x22 : Int), v23 = (.int .i64 x22 : Value) ∧ (
 ifB (decide ((x22 : Int) < 0)) (
 doCall Tryz.prog (.func (.func 130) #[] #[]) #[.pointer t_5] w24 (retS (fun v26 w27 => ∃ (x25 : Option Addr), v26 = (.pointer x25 : Value) ∧ (
 doCall Tryz.prog (.func (.func 222) #[] #[]) #[.pointer s_1, .func at_f2 at_x3 at_c4, .pointer x25] w27 (retS (fun v34 w35 => ∃ (x28 : Option Addr), ∃ (x29 : Int), ∃ (x30 : Int), ∃ (x31 : Int), ∃ (x32 : Bool), ∃ (x33 : Option Addr), v34 = (.tuple #[.pointer x28, .agg #[.int .i64 x29, .int .i64 x30, .int .u64 x31], .bool x32, .pointer x33] : Value) ∧ (
 doSt ((blk b6).add 0) (.int .i64 x29) w35 (fun w36 =>
 doSt ((blk b6).add 1) (.int .i64 x30) w36 (fun w37 =>
 doSt ((blk b6).add 2) (.int .u64 x31) w37 (fun w38 =>
 doDr w38 (fun w40 =>
 ∃ (C39 : World → Prop), C39 w40 ∧ (
 ∃ (x41 : Int), (∀ w, C39 w → World.cell? w ((blk b6).add 0) = some (.int .i64 x41)) ∧ (
 ∃ (x42 : Int), (∀ w, C39 w → World.cell? w ((blk b6).add 1) = some (.int .i64 x42)) ∧ (
 ∃ (x43 : Int), (∀ w, C39 w → World.cell? w ((blk b6).add 2) = some (.int .u64 x43)) ∧ (
 doCall Tryz.prog (.func (.func 128) #[] #[]) #[.pointer t_5] w40 (retS (fun v45 w46 => ∃ (x44 : Option Addr), v45 = (.pointer x44 : Value) ∧ (
 C39 w46 ∧ (
 doCall Tryz.prog (.func (.func 144) #[] #[]) #[.pointer s_1, .pointer t_5] w46 (retS (fun v50 w51 => ∃ (x47 : Int), ∃ (x48 : Int), ∃ (x49 : Int), v50 = (.agg #[.int .i64 x47, .int .i64 x48, .int .u64 x49] : Value) ∧ (
 C39 w51 ∧ (
 doCall Tryz.prog (.func (.func 145) #[] #[]) #[.pointer s_1, .pointer x44, .agg #[.int .i64 x47, .int .i64 x48, .int .u64 x49], .pointer x28] w51 (retS (fun v53 w54 => ∃ (x52 : Option Addr), v53 = (.pointer x52 : Value) ∧ (
 C39 w54 ∧ (
 doSt ((blk b6).add 0) (.int .i64 x41) w54 (fun w55 =>
 doSt ((blk b6).add 1) (.int .i64 x42) w55 (fun w56 =>
 doSt ((blk b6).add 2) (.int .u64 x43) w56 (fun w57 =>
 ∃ (x58 : Int), World.cell? w57 ((blk b6).add 0) = some (.int .i64 x58) ∧ (
 ∃ (x59 : Int), World.cell? w57 ((blk b6).add 1) = some (.int .i64 x59) ∧ (
 ∃ (x60 : Int), World.cell? w57 ((blk b6).add 2) = some (.int .u64 x60) ∧ (
 R (.returned (.tuple #[.pointer x52, .agg #[.int .i64 x58, .int .i64 x59, .int .u64 x60], .bool x32, .pointer x33])) w57))))))))) (fun ch w => Kfn R ch [] w))))) (fun ch w => Kfn R ch [] w))))) (fun ch w => Kfn R ch [] w)))))))))))) (fun ch w => Kfn R ch [] w)))) (fun ch w => Kfn R ch [] w))) (
 ifB (decide ((x22 : Int) > 0)) (
 doCall Tryz.prog (.func (.func 128) #[] #[]) #[.pointer t_5] w24 (retS (fun v62 w63 => ∃ (x61 : Option Addr), v62 = (.pointer x61 : Value) ∧ (
 doCall Tryz.prog (.func (.func 222) #[] #[]) #[.pointer s_1, .func at_f2 at_x3 at_c4, .pointer x61] w63 (retS (fun v70 w71 => ∃ (x64 : Option Addr), ∃ (x65 : Int), ∃ (x66 : Int), ∃ (x67 : Int), ∃ (x68 : Bool), ∃ (x69 : Option Addr), v70 = (.tuple #[.pointer x64, .agg #[.int .i64 x65, .int .i64 x66, .int .u64 x67], .bool x68, .pointer x69] : Value) ∧ (
 doSt ((blk b6).add 0) (.int .i64 x65) w71 (fun w72 =>
 doSt ((blk b6).add 1) (.int .i64 x66) w72 (fun w73 =>
 doSt ((blk b6).add 2) (.int .u64 x67) w73 (fun w74 =>
 doDr w74 (fun w76 =>
 ∃ (C75 : World → Prop), C75 w76 ∧ (
 ∃ (x77 : Int), (∀ w, C75 w → World.cell? w ((blk b6).add 0) = some (.int .i64 x77)) ∧ (
 ∃ (x78 : Int), (∀ w, C75 w → World.cell? w ((blk b6).add 1) = some (.int .i64 x78)) ∧ (
 ∃ (x79 : Int), (∀ w, C75 w → World.cell? w ((blk b6).add 2) = some (.int .u64 x79)) ∧ (
 doCall Tryz.prog (.func (.func 144) #[] #[]) #[.pointer s_1, .pointer t_5] w76 (retS (fun v83 w84 => ∃ (x80 : Int), ∃ (x81 : Int), ∃ (x82 : Int), v83 = (.agg #[.int .i64 x80, .int .i64 x81, .int .u64 x82] : Value) ∧ (
 C75 w84 ∧ (
 doCall Tryz.prog (.func (.func 130) #[] #[]) #[.pointer t_5] w84 (retS (fun v86 w87 => ∃ (x85 : Option Addr), v86 = (.pointer x85 : Value) ∧ (
 C75 w87 ∧ (
 doCall Tryz.prog (.func (.func 145) #[] #[]) #[.pointer s_1, .pointer x69, .agg #[.int .i64 x80, .int .i64 x81, .int .u64 x82], .pointer x85] w87 (retS (fun v89 w90 => ∃ (x88 : Option Addr), v89 = (.pointer x88 : Value) ∧ (
 C75 w90 ∧ (
 doSt ((blk b6).add 0) (.int .i64 x77) w90 (fun w91 =>
 doSt ((blk b6).add 1) (.int .i64 x78) w91 (fun w92 =>
 doSt ((blk b6).add 2) (.int .u64 x79) w92 (fun w93 =>
 ∃ (x94 : Int), World.cell? w93 ((blk b6).add 0) = some (.int .i64 x94) ∧ (
 ∃ (x95 : Int), World.cell? w93 ((blk b6).add 1) = some (.int .i64 x95) ∧ (
 ∃ (x96 : Int), World.cell? w93 ((blk b6).add 2) = some (.int .u64 x96) ∧ (
 R (.returned (.tuple #[.pointer x64, .agg #[.int .i64 x94, .int .i64 x95, .int .u64 x96], .bool x68, .pointer x88])) w93))))))))) (fun ch w => Kfn R ch [] w))))) (fun ch w => Kfn R ch [] w))))) (fun ch w => Kfn R ch [] w)))))))))))) (fun ch w => Kfn R ch [] w)))) (fun ch w => Kfn R ch [] w))) (
 doCall Tryz.prog (.func (.func 128) #[] #[]) #[.pointer t_5] w24 (retS (fun v98 w99 => ∃ (x97 : Option Addr), v98 = (.pointer x97 : Value) ∧ (
 doCall Tryz.prog (.func (.func 72) #[] #[]) #[.pointer s_1, .pointer x97] w99 (retS (fun v101 w102 => ∃ (x100 : Option Addr), v101 = (.pointer x100 : Value) ∧ (
 doCall Tryz.prog (.func (.func 144) #[] #[]) #[.pointer s_1, .pointer t_5] w102 (retS (fun v106 w107 => ∃ (x103 : Int), ∃ (x104 : Int), ∃ (x105 : Int), v106 = (.agg #[.int .i64 x103, .int .i64 x104, .int .u64 x105] : Value) ∧ (
 doCall Tryz.prog (.func (.func 130) #[] #[]) #[.pointer t_5] w107 (retS (fun v109 w110 => ∃ (x108 : Option Addr), v109 = (.pointer x108 : Value) ∧ (
 doCall Tryz.prog (.func (.func 72) #[] #[]) #[.pointer s_1, .pointer x108] w110 (retS (fun v112 w113 => ∃ (x111 : Option Addr), v112 = (.pointer x111 : Value) ∧ (
 doSt ((blk b6).add 0) (.int .i64 x103) w113 (fun w114 =>
 doSt ((blk b6).add 1) (.int .i64 x104) w114 (fun w115 =>
 doSt ((blk b6).add 2) (.int .u64 x105) w115 (fun w116 =>
 ∃ (x117 : Int), World.cell? w116 ((blk b6).add 0) = some (.int .i64 x117) ∧ (
 ∃ (x118 : Int), World.cell? w116 ((blk b6).add 1) = some (.int .i64 x118) ∧ (
 ∃ (x119 : Int), World.cell? w116 ((blk b6).add 2) = some (.int .u64 x119) ∧ (
 R (.returned (.tuple #[.pointer x100, .agg #[.int .i64 x117, .int .i64 x118, .int .u64 x119], .bool true, .pointer x111])) w116)))))))) (fun ch w => Kfn R ch [] w)))) (fun ch w => Kfn R ch [] w)))) (fun ch w => Kfn R ch [] w)))) (fun ch w => Kfn R ch [] w)))) (fun ch w => Kfn R ch [] w)))))) (fun ch w => Kfn R ch [] w)))) (fun ch w => Kfn R ch [] w))))
set_option maxRecDepth 100000 in
theorem sh222_ok (s_1 : Option Addr) (at_f2 : Fn) (at_x3 : Array Value) (at_c4 : Array Value) (t_5 : Option Addr) {R : Ending → World → Prop} {w : World} : sh222 s_1 at_f2 at_x3 at_c4 t_5 R w → Calls Tryz.prog 222 #[.pointer s_1, .func at_f2 at_x3 at_c4, .pointer t_5] w R :=
  Old.calls_of_eq (ann := fun _ => []) (fn := Tryz.f222) (c := bodyOf Tryz.f222) (args := #[.pointer s_1, .func at_f2 at_x3 at_c4, .pointer t_5]) 400 follows_mixed Tryz.func222 (by kernel_rfl) (by kernel_rfl)
end Go.Proofs.YtlfjaogbehpleaaGreat

namespace Go.Sh
open Go

/-- A word as a number. -/
def U (x : BitVec 64) : Int := (x.toNat : Int)
theorem U_lt (x : BitVec 64) : 0 ≤ U x ∧ U x < 18446744073709551616 := by
  have := x.isLt
  unfold U; omega
theorem U_inj {x y : BitVec 64} (h : U x = U y) : x = y := BitVec.eq_of_toNat_eq (by unfold U at h; omega)
theorem wrap64u (n : Int) : IntKind.wrap .u64 n = n % 18446744073709551616 := by simp [IntKind.wrap, IntKind.bits, IntKind.signed]
theorem wrap_U (x : Int) : IntKind.wrap .u64 x = U (BitVec.ofInt 64 x) := by
  rw [wrap64u]; unfold U; simp
  omega
theorem ofInt_U (x : BitVec 64) : BitVec.ofInt 64 (U x) = x := by
  apply BitVec.eq_of_toNat_eq
  have := x.isLt
  simp [U]
theorem bits_u64 : IntKind.bits .u64 = 64 := rfl
theorem bXor_U (x y : BitVec 64) : bXor .u64 (U x) (U y) = U (x ^^^ y) := by
  unfold bXor
  rw [bits_u64, ofInt_U, ofInt_U]
  rw [wrap_U]
  exact congrArg U (ofInt_U (x ^^^ y))
theorem bAnd_U (x y : BitVec 64) : bAnd .u64 (U x) (U y) = U (x &&& y) := by
  unfold bAnd
  rw [bits_u64, ofInt_U, ofInt_U]
  rw [wrap_U]
  exact congrArg U (ofInt_U (x &&& y))
theorem bOr_U (x y : BitVec 64) : bOr .u64 (U x) (U y) = U (x ||| y) := by
  unfold bOr
  rw [bits_u64, ofInt_U, ofInt_U]
  rw [wrap_U]
  exact congrArg U (ofInt_U (x ||| y))
theorem shr_U (x : BitVec 64) (s : Nat) (hs : s ≤ 64) : Int.fdiv (U x) (2 ^ (min ((s : Int)).toNat (IntKind.bits .u64))) = U (x >>> s) := by
  rw [bits_u64, Int.toNat_natCast, Nat.min_eq_left hs]
  unfold U
  rw [BitVec.toNat_ushiftRight, Nat.shiftRight_eq_div_pow, Int.fdiv_eq_ediv_of_nonneg _ (Int.pow_nonneg (by omega))]
  simp
theorem shl_U (x : BitVec 64) (s : Nat) (hs : s ≤ 64) : IntKind.wrap .u64 (U x * 2 ^ (min ((s : Int)).toNat (IntKind.bits .u64))) = U (x <<< s) := by
  rw [bits_u64, Int.toNat_natCast, Nat.min_eq_left hs, wrap64u]
  unfold U
  rw [BitVec.toNat_shiftLeft, Nat.shiftLeft_eq]
  simp
theorem mul_U (x y : BitVec 64) : IntKind.wrap .u64 (U x * U y) = U (x * y) := by
  rw [wrap64u]; unfold U; rw [BitVec.toNat_mul]; simp
theorem add_U (x y : BitVec 64) : IntKind.wrap .u64 (U x + U y) = U (x + y) := by
  rw [wrap64u]; unfold U; rw [BitVec.toNat_add]; simp
theorem tdiv_U (x : BitVec 64) (s : Nat) : IntKind.wrap .u64 (Int.tdiv (U x) ((2 ^ s : Nat) : Int)) = U (x >>> s) := by
  rw [wrap64u]; unfold U
  rw [BitVec.toNat_ushiftRight, Nat.shiftRight_eq_div_pow, Int.tdiv_eq_ediv_of_nonneg (by omega)]
  rw [show ((x.toNat : Int) / ((2 ^ s : Nat) : Int)) = ((x.toNat / 2 ^ s : Nat) : Int) from (Int.natCast_ediv _ _).symm]
  have : x.toNat / 2 ^ s < 18446744073709551616 := Nat.lt_of_le_of_lt (Nat.div_le_self _ _) x.isLt
  generalize x.toNat / 2 ^ s = q at this ⊢
  omega

/-! ### Mixing -/
def xs (s : Nat) (x : BitVec 64) : BitVec 64 := x ^^^ (x >>> s)
def mixB (x : BitVec 64) : BitVec 64 := xs 31 (xs 27 (xs 30 x * 13787848793156543929#64) * 10723151780598845931#64)
theorem xs_inj {s : Nat} (hs : 22 ≤ s) {x y : BitVec 64} (h : xs s x = xs s y) : x = y := by
  have inv : ∀ x : BitVec 64, xs s x ^^^ (xs s x >>> s) ^^^ (xs s x >>> (2 * s)) = x := fun x => by
    apply BitVec.eq_of_getLsbD_eq
    intro i hi
    simp only [xs, BitVec.getLsbD_xor, BitVec.getLsbD_ushiftRight]
    have h1 : x.getLsbD (s + (2 * s + i)) = false := BitVec.getLsbD_of_ge _ _ (by omega)
    have e1 : s + (s + i) = 2 * s + i := by omega
    rw [h1, e1]
    cases x.getLsbD i <;> cases x.getLsbD (s + i) <;> cases x.getLsbD (2 * s + i) <;> rfl
  rw [← inv x, ← inv y, h]
theorem mul_inj {c d : BitVec 64} (hc : c * d = 1#64) {x y : BitVec 64} (h : x * c = y * c) : x = y := by
  have : x * c * d = y * c * d := by rw [h]
  rwa [BitVec.mul_assoc, BitVec.mul_assoc, hc, BitVec.mul_one, BitVec.mul_one] at this
theorem mixB_inj {x y : BitVec 64} (h : mixB x = mixB y) : x = y := by
  unfold mixB at h
  have h := xs_inj (by omega) h
  have h := mul_inj (d := 3573116690164977347#64) (by decide) h
  have h := xs_inj (by omega) h
  have h := mul_inj (d := 10871156337175269513#64) (by decide) h
  exact xs_inj (by omega) h

/-! ### The other way round -/
def Rev (x y : BitVec 64) : Prop := ∀ j, j < 64 → y.getLsbD j = x.getLsbD (63 - j)
theorem rev_eq {x y z : BitVec 64} (h : Rev x y) (k : Rev x z) : y = z := BitVec.eq_of_getLsbD_eq fun i hi => by rw [h i hi, k i hi]
theorem rev_inj {x y z : BitVec 64} (h : Rev x z) (k : Rev y z) : x = y := BitVec.eq_of_getLsbD_eq fun i hi => by
  have h1 := h (63 - i) (by omega)
  have h2 := k (63 - i) (by omega)
  rw [show 63 - (63 - i) = i by omega] at h1 h2
  rw [← h1, ← h2]
/-- Go's way: by halves, quarters, .. -/
def swapB (m : BitVec 64) (s : Nat) (x : BitVec 64) : BitVec 64 := ((x >>> s) &&& m) ||| ((x &&& m) <<< s)
def revBytes (x : BitVec 64) : BitVec 64 :=
  let a := swapB 71777214294589695#64 8 x
  let b := swapB 281470681808895#64 16 a
  (b >>> 32) ||| (b <<< 32)
def revB (x : BitVec 64) : BitVec 64 := revBytes (swapB 1085102592571150095#64 4 (swapB 3689348814741910323#64 2 (swapB 6148914691236517205#64 1 x)))
/-- one exchange of neighbours -/
theorem swap_get {m : BitVec 64} {s : Nat} {x : BitVec 64} {i : Nat} (hi : i < 64) (hs : 0 < s)
    (hm : ∀ i, i < 64 → m.getLsbD i = decide (i / s % 2 = 0)) : (swapB m s x).getLsbD i = x.getLsbD (if i / s % 2 = 0 then i + s else i - s) := by
  simp only [swapB, BitVec.getLsbD_or, BitVec.getLsbD_and, BitVec.getLsbD_ushiftRight, BitVec.getLsbD_shiftLeft, hm i hi, decide_eq_true hi, Bool.true_and]
  by_cases h : i / s % 2 = 0
  · rw [if_pos h, decide_eq_true h, Bool.and_true, Nat.add_comm s i]
    by_cases h1 : i < s
    · simp [h1]
    · have e : (i - s) / s % 2 = 1 := by
        have : i / s = (i - s) / s + 1 := by rw [← Nat.add_div_right _ hs, Nat.sub_add_cancel (by omega)]
        omega
      rw [hm (i - s) (by omega)]
      simp [e]
  · rw [if_neg h, decide_eq_false h, Bool.and_false, Bool.false_or]
    have h1 : ¬ i < s := fun h1 => h (by rw [Nat.div_eq_of_lt h1])
    have e : (i - s) / s % 2 = 0 := by
      have : i / s = (i - s) / s + 1 := by rw [← Nat.add_div_right _ hs, Nat.sub_add_cancel (by omega)]
      omega
    rw [hm (i - s) (by omega), decide_eq_true e, decide_eq_false h1]
    simp
theorem mask_of {m : BitVec 64} {s : Nat} (h : ∀ i : Fin 64, m.getLsbD i.val = decide (i.val / s % 2 = 0)) : ∀ i, i < 64 → m.getLsbD i = decide (i / s % 2 = 0) := fun i hi => h ⟨i, hi⟩
theorem revB_rev (x : BitVec 64) : Rev x (revB x) := by
  intro j hj
  simp only [revB, revBytes, BitVec.getLsbD_or, BitVec.getLsbD_ushiftRight, BitVec.getLsbD_shiftLeft, decide_eq_true hj, Bool.true_and]
  have s1 : ∀ (x : BitVec 64) i, i < 64 → (swapB 6148914691236517205#64 1 x).getLsbD i = x.getLsbD (if i / 1 % 2 = 0 then i + 1 else i - 1) := fun x i hi => swap_get hi (by omega) (mask_of (by decide))
  have s2 : ∀ (x : BitVec 64) i, i < 64 → (swapB 3689348814741910323#64 2 x).getLsbD i = x.getLsbD (if i / 2 % 2 = 0 then i + 2 else i - 2) := fun x i hi => swap_get hi (by omega) (mask_of (by decide))
  have s4 : ∀ (x : BitVec 64) i, i < 64 → (swapB 1085102592571150095#64 4 x).getLsbD i = x.getLsbD (if i / 4 % 2 = 0 then i + 4 else i - 4) := fun x i hi => swap_get hi (by omega) (mask_of (by decide))
  have s8 : ∀ (x : BitVec 64) i, i < 64 → (swapB 71777214294589695#64 8 x).getLsbD i = x.getLsbD (if i / 8 % 2 = 0 then i + 8 else i - 8) := fun x i hi => swap_get hi (by omega) (mask_of (by decide))
  have s16 : ∀ (x : BitVec 64) i, i < 64 → (swapB 281470681808895#64 16 x).getLsbD i = x.getLsbD (if i / 16 % 2 = 0 then i + 16 else i - 16) := fun x i hi => swap_get hi (by omega) (mask_of (by decide))
  have last : ∀ y : BitVec 64, (y.getLsbD (32 + j) || !decide (j < 32) && y.getLsbD (j - 32)) = y.getLsbD (if j < 32 then 32 + j else j - 32) := fun y => by
    by_cases h : j < 32
    · simp [h]
    · rw [BitVec.getLsbD_of_ge y (32 + j) (by omega)]; simp [h]
  rw [last]
  have hl : (if j < 32 then 32 + j else j - 32) < 64 := by split <;> omega
  generalize hk : (if j < 32 then 32 + j else j - 32) = k at hl
  rw [s16 _ k hl]
  have hl2 : (if k / 16 % 2 = 0 then k + 16 else k - 16) < 64 := by split <;> omega
  generalize hk2 : (if k / 16 % 2 = 0 then k + 16 else k - 16) = k2 at hl2
  rw [s8 _ k2 hl2]
  have hl3 : (if k2 / 8 % 2 = 0 then k2 + 8 else k2 - 8) < 64 := by split <;> omega
  generalize hk3 : (if k2 / 8 % 2 = 0 then k2 + 8 else k2 - 8) = k3 at hl3
  rw [s4 _ k3 hl3]
  have hl4 : (if k3 / 4 % 2 = 0 then k3 + 4 else k3 - 4) < 64 := by split <;> omega
  generalize hk4 : (if k3 / 4 % 2 = 0 then k3 + 4 else k3 - 4) = k4 at hl4
  rw [s2 _ k4 hl4]
  have hl5 : (if k4 / 2 % 2 = 0 then k4 + 2 else k4 - 2) < 64 := by split <;> omega
  generalize hk5 : (if k4 / 2 % 2 = 0 then k4 + 2 else k4 - 2) = k5 at hl5
  rw [s1 _ k5 hl5]
  congr 1
  have key : ∀ j : Fin 64, (let k := if j.val < 32 then 32 + j.val else j.val - 32
    let k2 := if k / 16 % 2 = 0 then k + 16 else k - 16
    let k3 := if k2 / 8 % 2 = 0 then k2 + 8 else k2 - 8
    let k4 := if k3 / 4 % 2 = 0 then k3 + 4 else k3 - 4
    let k5 := if k4 / 2 % 2 = 0 then k4 + 2 else k4 - 2
    if k5 / 1 % 2 = 0 then k5 + 1 else k5 - 1) = 63 - j.val := by decide
  have := key ⟨j, hj⟩
  simp only [hk, hk2, hk3, hk4, hk5] at this
  exact this
/-! The reference's way: bit by bit. -/
/-- what it has behind so many rounds -/
structure FlipI (x0 : BitVec 64) (i : Nat) (x y : BitVec 64) : Prop where
  x : x = x0 >>> i
  lt : y.toNat < 2 ^ i
  y : ∀ j, j < i → y.getLsbD j = x0.getLsbD (i - 1 - j)
theorem flipI_init (x0 : BitVec 64) : FlipI x0 0 x0 0#64 := ⟨by simp, by simp, fun j hj => by omega⟩
theorem flipI_step {x0 x y : BitVec 64} {i : Nat} (hi : i < 64) (h : FlipI x0 i x y) : FlipI x0 (i + 1) (x >>> 1) (y * 2#64 + (x &&& 1#64)) := by
  have hy2 : (y * 2#64 + (x &&& 1#64)) = (y <<< 1) ||| (x &&& 1#64) := by
    rw [← BitVec.add_eq_or_of_and_eq_zero]
    · congr 1
      rw [BitVec.shiftLeft_eq_mul_twoPow]; rfl
    · apply BitVec.eq_of_getLsbD_eq
      intro k hk
      simp only [BitVec.getLsbD_and, BitVec.getLsbD_shiftLeft, BitVec.getLsbD_zero]
      by_cases h0 : k < 1
      · simp [h0]
      · have : (1#64).getLsbD k = false := by
          have : ∀ k : Fin 64, ¬ k.val < 1 → (1#64).getLsbD k.val = false := by decide
          exact this ⟨k, hk⟩ h0
        simp [this]
  have hget : ∀ j, j < 64 → (y * 2#64 + (x &&& 1#64)).getLsbD j = if j = 0 then x.getLsbD 0 else y.getLsbD (j - 1) := fun j hj => by
    rw [hy2]
    simp only [BitVec.getLsbD_or, BitVec.getLsbD_and, BitVec.getLsbD_shiftLeft]
    by_cases h0 : j = 0
    · subst h0; simp
    · have : (1#64).getLsbD j = false := by
        have : ∀ k : Fin 64, ¬ k.val = 0 → (1#64).getLsbD k.val = false := by decide
        exact this ⟨j, hj⟩ h0
      rw [this, if_neg h0]
      simp [hj]
      intro; omega
  refine ⟨by rw [h.x]; simp [BitVec.shiftRight_add], ?_, fun j hj => ?_⟩
  · have h1 : (x &&& 1#64).toNat ≤ 1 := by
      rw [BitVec.toNat_and]; exact Nat.and_le_right
    have h2 : (y * 2#64).toNat ≤ y.toNat * 2 := by rw [BitVec.toNat_mul]; exact Nat.mod_le _ _
    have h3 : (y * 2#64 + (x &&& 1#64)).toNat ≤ (y * 2#64).toNat + (x &&& 1#64).toNat := by rw [BitVec.toNat_add]; exact Nat.mod_le _ _
    have := h.lt
    rw [Nat.pow_succ]; omega
  · rw [hget j (by omega)]
    by_cases h0 : j = 0
    · subst h0; rw [if_pos rfl, h.x, BitVec.getLsbD_ushiftRight]; congr 1
    · rw [if_neg h0, h.y (j - 1) (by omega)]; congr 1; omega
theorem flipI_rev {x0 x y : BitVec 64} (h : FlipI x0 64 x y) : Rev x0 y := fun j hj => by rw [h.y j hj]
theorem tdiv2_U (x : BitVec 64) : IntKind.wrap .u64 (Int.tdiv (U x) 2) = U (x >>> 1) := tdiv_U x 1
theorem tmod2_U (x : BitVec 64) : Int.tmod (U x) 2 = U (x &&& 1#64) := by
  unfold U
  rw [BitVec.toNat_and, show (1#64).toNat = 2 ^ 1 - 1 from rfl, Nat.and_two_pow_sub_one_eq_mod, Int.tmod_eq_emod_of_nonneg (by omega)]
  simp
theorem mul2_U (x : BitVec 64) : IntKind.wrap .u64 (U x * 2) = U (x * 2#64) := mul_U x 2#64

/-! ### The codes -/
/-- an int64 -/
def In (x : Int) : Prop := -9223372036854775808 ≤ x ∧ x < 9223372036854775808
def upI (k : Int) : Int := k + 9223372036854775808
def codeI (o k : Int) : Int :=
  if o = 1 then upI k
  else if o = 2 then 18446744073709551615 - upI k
  else if o = 3 then (if k < 0 then -2 * k - 1 else 2 * k)
  else if o = 4 then U (revB (BitVec.ofInt 64 k))
  else if o = 5 then upI k / 2 + (if k % 2 = 1 then 9223372036854775808 else 0)
  else if o = 6 then upI k % 4294967296 * 4294967296 + upI k / 4294967296
  else U (mixB (BitVec.ofInt 64 k))
theorem ofInt_inj {a b : Int} (ha : In a) (hb : In b) (h : BitVec.ofInt 64 a = BitVec.ofInt 64 b) : a = b := by
  have := congrArg BitVec.toInt h
  rw [BitVec.toInt_ofInt, BitVec.toInt_ofInt] at this
  unfold In at *
  simp [Int.bmod] at this
  omega
theorem codeI_inj {o a b : Int} (ha : In a) (hb : In b) (h : codeI o a = codeI o b) : a = b := by
  unfold codeI at h
  have ha' := ha; have hb' := hb
  unfold In at ha' hb'
  unfold upI at h
  split at h
  · omega
  split at h
  · omega
  split at h
  · split at h <;> split at h <;> omega
  split at h
  · exact ofInt_inj ha hb (rev_inj (revB_rev _) (by rw [U_inj h]; exact revB_rev _))
  split at h
  · split at h <;> split at h <;> omega
  split at h
  · omega
  · exact ofInt_inj ha hb (mixB_inj (U_inj h))
theorem codeI_rng {o k : Int} (hk : In k) : 0 ≤ codeI o k ∧ codeI o k < 18446744073709551616 := by
  unfold codeI upI
  unfold In at hk
  split
  · omega
  split
  · omega
  split
  · split <;> omega
  split
  · exact U_lt _
  split
  · split <;> omega
  split
  · omega
  · exact U_lt _
/-- how two keys stand -/
def cmpI (o a b : Int) : Int := if 1 ≤ o ∧ o ≤ 7 then (if codeI o a < codeI o b then -1 else if codeI o b < codeI o a then 1 else 0) else 0

theorem xor_top (x : BitVec 64) : x ^^^ 9223372036854775808#64 = x + 9223372036854775808#64 := by
  apply BitVec.eq_of_getLsbD_eq
  intro i hi
  rw [BitVec.getLsbD_xor]
  have e : (x + 9223372036854775808#64).getLsbD i = ((2 ^ 63 + x.toNat) % 2 ^ 64).testBit i := by
    rw [BitVec.getLsbD, BitVec.toNat_add, Nat.add_comm]; rfl
  rw [e, Nat.testBit_mod_two_pow, decide_eq_true hi, Bool.true_and]
  have ht : ∀ k : Fin 64, (9223372036854775808#64).getLsbD k.val = decide (k.val = 63) := by decide
  rw [ht ⟨i, hi⟩]
  by_cases h : i = 63
  · subst h
    rw [Nat.testBit_two_pow_add_eq]
    simp [BitVec.getLsbD]
  · rw [Nat.testBit_two_pow_add_gt (by omega)]
    simp [h, BitVec.getLsbD]
theorem U_ofInt (x : Int) : U (BitVec.ofInt 64 x) = x % 18446744073709551616 := by rw [← wrap_U, wrap64u]
theorem upB_U {k : Int} (hk : In k) : bXor .u64 (IntKind.wrap .u64 k) 9223372036854775808 = upI k := by
  rw [wrap_U, show (9223372036854775808 : Int) = U 9223372036854775808#64 from rfl, bXor_U, xor_top, ← add_U, U_ofInt, wrap64u]
  unfold upI In at *
  rw [show U 9223372036854775808#64 = 9223372036854775808 from rfl]
  omega
theorem upR_U {k : Int} (hk : In k) : IntKind.wrap .u64 (IntKind.wrap .u64 k + 9223372036854775808) = upI k := by
  rw [wrap64u, wrap64u]
  unfold upI In at *
  omega
theorem not_U {x : Int} (h0 : 0 ≤ x) (h1 : x < 18446744073709551616) : bXor .u64 (IntKind.max .u64) x = 18446744073709551615 - x := by
  have hx : U (BitVec.ofInt 64 x) = x := by rw [U_ofInt]; omega
  have hm : IntKind.max .u64 = U (BitVec.allOnes 64) := by decide
  rw [hm, ← hx, bXor_U, BitVec.allOnes_xor]
  unfold U
  rw [BitVec.toNat_not]
  have := (BitVec.ofInt 64 x).isLt
  omega
theorem size_U {k : Int} (hk : In k) : IntKind.wrap .u64 (bXor .i64 (IntKind.wrap .i64 (k * 2 ^ (min (1 : Int).toNat (IntKind.bits .i64)))) (Int.fdiv k (2 ^ (min (63 : Int).toNat (IntKind.bits .i64))))) = if k < 0 then -2 * k - 1 else 2 * k := by
  have e1 : (2 : Int) ^ (min (1 : Int).toNat (IntKind.bits .i64)) = 2 := by decide
  have e2 : (2 : Int) ^ (min (63 : Int).toNat (IntKind.bits .i64)) = 9223372036854775808 := by decide
  rw [e1, e2]
  have key : ∀ x y : Int, IntKind.wrap .u64 (bXor .i64 x y) = U (BitVec.ofInt 64 x ^^^ BitVec.ofInt 64 y) := fun x y => by
    unfold bXor
    rw [show IntKind.bits .i64 = 64 from rfl]
    have := (BitVec.ofInt 64 x ^^^ BitVec.ofInt 64 y).isLt
    unfold U
    generalize (BitVec.ofInt 64 x ^^^ BitVec.ofInt 64 y).toNat = n at this ⊢
    rw [wrap64u]
    simp [IntKind.wrap, IntKind.bits, IntKind.signed]
    omega
  rw [key]
  have hw : BitVec.ofInt 64 (IntKind.wrap .i64 (k * 2)) = BitVec.ofInt 64 (k * 2) := by
    apply U_inj
    rw [U_ofInt, U_ofInt]
    simp [IntKind.wrap, IntKind.bits, IntKind.signed]
    omega
  rw [hw]
  unfold In at hk
  rw [Int.fdiv_eq_ediv_of_nonneg _ (by omega)]
  by_cases h : k < 0
  · rw [if_pos h, show k / 9223372036854775808 = -1 by omega, show BitVec.ofInt 64 (-1) = BitVec.allOnes 64 from rfl, BitVec.xor_allOnes]
    have : U (~~~ BitVec.ofInt 64 (k * 2)) = 18446744073709551615 - U (BitVec.ofInt 64 (k * 2)) := by
      unfold U; rw [BitVec.toNat_not]
      have := (BitVec.ofInt 64 (k * 2)).isLt
      omega
    rw [this, U_ofInt]; omega
  · rw [if_neg h, show k / 9223372036854775808 = 0 by omega, show BitVec.ofInt 64 0 = 0#64 from rfl, BitVec.xor_zero, U_ofInt]; omega
/-- turned to the left by s -/
theorem rot_U (x : BitVec 64) {s : Nat} (h0 : 0 < s) (hs : s < 64) : U ((x <<< s) ||| (x >>> (64 - s))) = ((x.toNat % 2 ^ (64 - s) * 2 ^ s + x.toNat / 2 ^ (64 - s) : Nat) : Int) := by
  unfold U
  rw [BitVec.toNat_or, BitVec.toNat_shiftLeft, BitVec.toNat_ushiftRight, Nat.shiftLeft_eq, Nat.shiftRight_eq_div_pow]
  have e : x.toNat * 2 ^ s % 2 ^ 64 = 2 ^ s * (x.toNat % 2 ^ (64 - s)) := by
    have : (2 : Nat) ^ 64 = 2 ^ (64 - s) * 2 ^ s := by rw [← Nat.pow_add]; congr 1; omega
    rw [this, Nat.mul_mod_mul_right, Nat.mul_comm]
  have hlt : x.toNat / 2 ^ (64 - s) < 2 ^ s := by
    apply Nat.div_lt_of_lt_mul
    rw [← Nat.pow_add, show 64 - s + s = 64 by omega]
    exact x.isLt
  rw [e, ← Nat.two_pow_add_eq_or_of_lt hlt, Nat.mul_comm]

/-! ### The printed words -/
theorem shr_1 (x : BitVec 64) : Int.fdiv (U x) (2 ^ (min (1 : Int).toNat (IntKind.bits .u64))) = U (x >>> 1) := shr_U x 1 (by omega)
theorem shl_1 (x : BitVec 64) : IntKind.wrap .u64 (U x * 2 ^ (min (1 : Int).toNat (IntKind.bits .u64))) = U (x <<< 1) := shl_U x 1 (by omega)
theorem shr_2 (x : BitVec 64) : Int.fdiv (U x) (2 ^ (min (2 : Int).toNat (IntKind.bits .u64))) = U (x >>> 2) := shr_U x 2 (by omega)
theorem shl_2 (x : BitVec 64) : IntKind.wrap .u64 (U x * 2 ^ (min (2 : Int).toNat (IntKind.bits .u64))) = U (x <<< 2) := shl_U x 2 (by omega)
theorem shr_4 (x : BitVec 64) : Int.fdiv (U x) (2 ^ (min (4 : Int).toNat (IntKind.bits .u64))) = U (x >>> 4) := shr_U x 4 (by omega)
theorem shl_4 (x : BitVec 64) : IntKind.wrap .u64 (U x * 2 ^ (min (4 : Int).toNat (IntKind.bits .u64))) = U (x <<< 4) := shl_U x 4 (by omega)
theorem shr_8 (x : BitVec 64) : Int.fdiv (U x) (2 ^ (min (8 : Int).toNat (IntKind.bits .u64))) = U (x >>> 8) := shr_U x 8 (by omega)
theorem shl_8 (x : BitVec 64) : IntKind.wrap .u64 (U x * 2 ^ (min (8 : Int).toNat (IntKind.bits .u64))) = U (x <<< 8) := shl_U x 8 (by omega)
theorem shr_16 (x : BitVec 64) : Int.fdiv (U x) (2 ^ (min (16 : Int).toNat (IntKind.bits .u64))) = U (x >>> 16) := shr_U x 16 (by omega)
theorem shl_16 (x : BitVec 64) : IntKind.wrap .u64 (U x * 2 ^ (min (16 : Int).toNat (IntKind.bits .u64))) = U (x <<< 16) := shl_U x 16 (by omega)
theorem shr_32 (x : BitVec 64) : Int.fdiv (U x) (2 ^ (min (32 : Int).toNat (IntKind.bits .u64))) = U (x >>> 32) := shr_U x 32 (by omega)
theorem shl_32 (x : BitVec 64) : IntKind.wrap .u64 (U x * 2 ^ (min (32 : Int).toNat (IntKind.bits .u64))) = U (x <<< 32) := shl_U x 32 (by omega)
theorem and_a (x : BitVec 64) : bAnd .u64 (U x) 6148914691236517205 = U (x &&& 6148914691236517205#64) := bAnd_U x 6148914691236517205#64
theorem and_b (x : BitVec 64) : bAnd .u64 (U x) 3689348814741910323 = U (x &&& 3689348814741910323#64) := bAnd_U x 3689348814741910323#64
theorem and_c (x : BitVec 64) : bAnd .u64 (U x) 1085102592571150095 = U (x &&& 1085102592571150095#64) := bAnd_U x 1085102592571150095#64
theorem and_d (x : BitVec 64) : bAnd .u64 (U x) 71777214294589695 = U (x &&& 71777214294589695#64) := bAnd_U x 71777214294589695#64
theorem and_e (x : BitVec 64) : bAnd .u64 (U x) 281470681808895 = U (x &&& 281470681808895#64) := bAnd_U x 281470681808895#64

/-- the reference's turn by 32, bit by bit: what it has behind so many rounds -/
def turnY (x i : Nat) : Nat := if i ≤ 32 then x % 2 ^ i * 4294967296 else x % 4294967296 * 4294967296 + x / 4294967296 % 2 ^ (i - 32)
theorem turnY_step {x i : Nat} (hi : i < 64) : turnY x (i + 1) = turnY x i + x / 2 ^ i % 2 * 2 ^ ((i + 32) % 64) := by
  unfold turnY
  rcases Nat.lt_trichotomy i 32 with h | h | h
  · rw [if_pos (by omega), if_pos (by omega), Nat.mod_pow_succ, show (i + 32) % 64 = i + 32 by omega, Nat.pow_add]
    rw [Nat.add_mul, show (2 : Nat) ^ 32 = 4294967296 from rfl, Nat.mul_comm (2 ^ i), Nat.mul_assoc]
  · subst h
    rw [if_neg (by omega), if_pos (by omega)]
    simp
  · rw [if_neg (by omega), if_neg (by omega), show i + 1 - 32 = (i - 32) + 1 by omega, Nat.mod_pow_succ, show (i + 32) % 64 = i - 32 by omega]
    have : x / 4294967296 / 2 ^ (i - 32) = x / 2 ^ i := by
      rw [Nat.div_div_eq_div_mul, show (4294967296 : Nat) = 2 ^ 32 from rfl, ← Nat.pow_add, show 32 + (i - 32) = i by omega]
    rw [this, Nat.mul_comm (2 ^ (i - 32))]
    omega
theorem turnY_lt {x i : Nat} (_hx : x < 18446744073709551616) (_hi : i ≤ 64) : turnY x i < 18446744073709551616 := by
  unfold turnY
  split
  · rename_i h
    have : x % 2 ^ i < 2 ^ i := Nat.mod_lt _ (Nat.two_pow_pos _)
    have : 2 ^ i ≤ 2 ^ 32 := Nat.pow_le_pow_right (by omega) h
    omega
  · have h1 : x / 4294967296 % 2 ^ (i - 32) ≤ x / 4294967296 := Nat.mod_le _ _
    omega
theorem turnY_64 {x : Nat} (hx : x < 18446744073709551616) : turnY x 64 = x % 4294967296 * 4294967296 + x / 4294967296 := by
  unfold turnY
  rw [if_neg (by omega), Nat.mod_eq_of_lt (a := x / 4294967296) (by omega)]
/-- names -/
def isO (o : Int) : Bool := decide (1 ≤ o) && decide (o ≤ 7)
def nameB (o : Int) : ByteArray :=
  if o = 1 then ⟨#[117, 112]⟩ else if o = 2 then ⟨#[100, 111, 119, 110]⟩ else if o = 3 then ⟨#[115, 105, 122, 101]⟩ else if o = 4 then ⟨#[98, 105, 116, 115]⟩
  else if o = 5 then ⟨#[101, 118, 101, 110]⟩ else if o = 6 then ⟨#[108, 111, 119]⟩ else if o = 7 then ⟨#[109, 105, 120]⟩ else ⟨#[]⟩
theorem isO_cases {o : Int} (h : isO o = true) : o = 1 ∨ o = 2 ∨ o = 3 ∨ o = 4 ∨ o = 5 ∨ o = 6 ∨ o = 7 := by
  simp [isO] at h; omega
theorem name_empty (o : Int) : ((nameB o).toList == (⟨#[]⟩ : ByteArray).toList) = !isO o := by
  rw [ByteArray.toList_eq, ByteArray.toList_eq]
  cases h : isO o
  · have h' : ¬ (1 ≤ o ∧ o ≤ 7) := fun hh => by simp [isO, hh.1, hh.2] at h
    unfold nameB
    rw [if_neg (by omega), if_neg (by omega), if_neg (by omega), if_neg (by omega), if_neg (by omega), if_neg (by omega), if_neg (by omega)]
    rfl
  · rcases isO_cases h with rfl | rfl | rfl | rfl | rfl | rfl | rfl <;> decide
end Go.Sh

