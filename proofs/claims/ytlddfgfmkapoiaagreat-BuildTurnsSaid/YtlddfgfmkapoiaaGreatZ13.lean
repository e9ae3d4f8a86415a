/-
  Printed by a program (gen.py): what the functions of the program do, as formulas; each with the proof that its call is what the formula says.
-/
/-
  Printed by a program (gen.py): what the functions of the program do, as formulas; each with the proof that its call is what the formula says.
-/
/- All printed texts. -/
/-
  What the functions of mix and order do.
-/
import Derived.Test.YtlddfgfmkapoiaaGreatZ02
import Derived.Test.YtlddfgfmkapoiaaGreatProg
import Derived.Test.YtlddfgfmkapoiaaGreatZ05
import Derived.Test.YtlddfgfmkapoiaaGreatZ03
import Derived.Test.YtlddfgfmkapoiaaGreatZ06
import Derived.Test.YtlddfgfmkapoiaaGreatZ07
import Derived.Test.YtlddfgfmkapoiaaGreatZ08
import Derived.Test.YtlddfgfmkapoiaaGreatZ09
import Derived.Test.YtlddfgfmkapoiaaGreatZ10
import Derived.Test.YtlddfgfmkapoiaaGreatZ11
import Derived.Test.YtlddfgfmkapoiaaGreatZ12

namespace Go.Proofs.YtlddfgfmkapoiaaGreat
open Go Go.Sh
set_option maxRecDepth 100000 in
/-- slices.symMergeCmpFunc[joinery/api.Pair] -/
def sh297 (data_p1 : Option Addr) (data_n2 : Nat) (data_c3 : Nat) (a_4 : Int) (m_5 : Int) (b_6 : Int) (cmp_f7 : Fn) (cmp_x8 : Array Value) (cmp_c9 : Array Value) (R : Ending → World → Prop) (w : World) : Prop :=
 ifB (((IntKind.wrap .i64 (m_5 - a_4)) : Int) == 1) (
 ∃ (I10 : List Value → World → Prop) (μ11 : List Value → World → Nat), I10 [.int .i64 m_5, .int .i64 b_6] w ∧ (∀ (i_14 : Int), ∀ (j_15 : Int), ∀ (_j12 : Nat → Value) (w13 : World), I10 [.int .i64 i_14, .int .i64 j_15] w13 → (
 ifB (decide ((i_14 : Int) < j_15)) (
 (0 : Int) ≤ 1 ∧ (
 doDr w13 (fun w17 =>
 ∃ (C16 : World → Prop), C16 w17 ∧ (
 doIx data_p1 data_n2 2 (IntKind.wrap .i64 (Int.fdiv (IntKind.wrap .u64 (IntKind.wrap .i64 (i_14 + j_15))) (2 ^ (min (1 : Int).toNat (IntKind.bits .u64))))) (fun a18 =>
 ∃ (x19 : Int), (∀ w, C16 w → World.cell? w (a18.add 0) = some (.int .i64 x19)) ∧ (
 ∃ (x20 : Int), (∀ w, C16 w → World.cell? w (a18.add 1) = some (.int .i64 x20)) ∧ (
 doIx data_p1 data_n2 2 (a_4) (fun a21 =>
 ∃ (x22 : Int), (∀ w, C16 w → World.cell? w (a21.add 0) = some (.int .i64 x22)) ∧ (
 ∃ (x23 : Int), (∀ w, C16 w → World.cell? w (a21.add 1) = some (.int .i64 x23)) ∧ (
 doCall Tryz.prog (.func cmp_f7 cmp_x8 cmp_c9) #[.agg #[.int .i64 x19, .int .i64 x20], .agg #[.int .i64 x22, .int .i64 x23]] w17 (retS (fun v25 w26 => ∃ (x24 : Int), v25 = (.int .i64 x24 : Value) ∧ (
 ifB (decide ((x24 : Int) < 0)) (
 I10 [.int .i64 (IntKind.wrap .i64 ((IntKind.wrap .i64 (Int.fdiv (IntKind.wrap .u64 (IntKind.wrap .i64 (i_14 + j_15))) (2 ^ (min (1 : Int).toNat (IntKind.bits .u64))))) + 1)), .int .i64 j_15] w26 ∧ μ11 [.int .i64 (IntKind.wrap .i64 ((IntKind.wrap .i64 (Int.fdiv (IntKind.wrap .u64 (IntKind.wrap .i64 (i_14 + j_15))) (2 ^ (min (1 : Int).toNat (IntKind.bits .u64))))) + 1)), .int .i64 j_15] w26 < μ11 [.int .i64 i_14, .int .i64 j_15] w13) (
 I10 [.int .i64 i_14, .int .i64 (IntKind.wrap .i64 (Int.fdiv (IntKind.wrap .u64 (IntKind.wrap .i64 (i_14 + j_15))) (2 ^ (min (1 : Int).toNat (IntKind.bits .u64)))))] w26 ∧ μ11 [.int .i64 i_14, .int .i64 (IntKind.wrap .i64 (Int.fdiv (IntKind.wrap .u64 (IntKind.wrap .i64 (i_14 + j_15))) (2 ^ (min (1 : Int).toNat (IntKind.bits .u64)))))] w26 < μ11 [.int .i64 i_14, .int .i64 j_15] w13))) (fun ch w => Kfn R ch [] w)))))))))))) (
 ∃ (I27 : List Value → World → Prop) (μ28 : List Value → World → Nat), I27 [.int .i64 a_4] w13 ∧ (∀ (k_31 : Int), ∀ (_j29 : Nat → Value) (w30 : World), I27 [.int .i64 k_31] w30 → (
 ifB (decide ((k_31 : Int) < (IntKind.wrap .i64 (i_14 - 1)))) (
 doDr w30 (fun w33 =>
 ∃ (C32 : World → Prop), C32 w33 ∧ (
 doIx data_p1 data_n2 2 (IntKind.wrap .i64 (k_31 + 1)) (fun a34 =>
 ∃ (x35 : Int), (∀ w, C32 w → World.cell? w (a34.add 0) = some (.int .i64 x35)) ∧ (
 ∃ (x36 : Int), (∀ w, C32 w → World.cell? w (a34.add 1) = some (.int .i64 x36)) ∧ (
 doIx data_p1 data_n2 2 (k_31) (fun a37 =>
 ∃ (x38 : Int), (∀ w, C32 w → World.cell? w (a37.add 0) = some (.int .i64 x38)) ∧ (
 ∃ (x39 : Int), (∀ w, C32 w → World.cell? w (a37.add 1) = some (.int .i64 x39)) ∧ (
 doIx data_p1 data_n2 2 (k_31) (fun a40 =>
 doSt (a40.add 0) (.int .i64 x35) w33 (fun w41 =>
 doSt (a40.add 1) (.int .i64 x36) w41 (fun w42 =>
 doIx data_p1 data_n2 2 (IntKind.wrap .i64 (k_31 + 1)) (fun a43 =>
 doSt (a43.add 0) (.int .i64 x38) w42 (fun w44 =>
 doSt (a43.add 1) (.int .i64 x39) w44 (fun w45 =>
 I27 [.int .i64 (IntKind.wrap .i64 (k_31 + 1))] w45 ∧ μ28 [.int .i64 (IntKind.wrap .i64 (k_31 + 1))] w45 < μ28 [.int .i64 k_31] w30))))))))))))))) (
 R (.returned (.tuple #[])) w30))))))) (
 ifB (((IntKind.wrap .i64 (b_6 - m_5)) : Int) == 1) (
 ∃ (I46 : List Value → World → Prop) (μ47 : List Value → World → Nat), I46 [.int .i64 a_4, .int .i64 m_5] w ∧ (∀ (i_50 : Int), ∀ (j_51 : Int), ∀ (_j48 : Nat → Value) (w49 : World), I46 [.int .i64 i_50, .int .i64 j_51] w49 → (
 ifB (decide ((i_50 : Int) < j_51)) (
 (0 : Int) ≤ 1 ∧ (
 doDr w49 (fun w53 =>
 ∃ (C52 : World → Prop), C52 w53 ∧ (
 doIx data_p1 data_n2 2 (m_5) (fun a54 =>
 ∃ (x55 : Int), (∀ w, C52 w → World.cell? w (a54.add 0) = some (.int .i64 x55)) ∧ (
 ∃ (x56 : Int), (∀ w, C52 w → World.cell? w (a54.add 1) = some (.int .i64 x56)) ∧ (
 doIx data_p1 data_n2 2 (IntKind.wrap .i64 (Int.fdiv (IntKind.wrap .u64 (IntKind.wrap .i64 (i_50 + j_51))) (2 ^ (min (1 : Int).toNat (IntKind.bits .u64))))) (fun a57 =>
 ∃ (x58 : Int), (∀ w, C52 w → World.cell? w (a57.add 0) = some (.int .i64 x58)) ∧ (
 ∃ (x59 : Int), (∀ w, C52 w → World.cell? w (a57.add 1) = some (.int .i64 x59)) ∧ (
 doCall Tryz.prog (.func cmp_f7 cmp_x8 cmp_c9) #[.agg #[.int .i64 x55, .int .i64 x56], .agg #[.int .i64 x58, .int .i64 x59]] w53 (retS (fun v61 w62 => ∃ (x60 : Int), v61 = (.int .i64 x60 : Value) ∧ (
 ifB (!(decide ((x60 : Int) < 0))) (
 I46 [.int .i64 (IntKind.wrap .i64 ((IntKind.wrap .i64 (Int.fdiv (IntKind.wrap .u64 (IntKind.wrap .i64 (i_50 + j_51))) (2 ^ (min (1 : Int).toNat (IntKind.bits .u64))))) + 1)), .int .i64 j_51] w62 ∧ μ47 [.int .i64 (IntKind.wrap .i64 ((IntKind.wrap .i64 (Int.fdiv (IntKind.wrap .u64 (IntKind.wrap .i64 (i_50 + j_51))) (2 ^ (min (1 : Int).toNat (IntKind.bits .u64))))) + 1)), .int .i64 j_51] w62 < μ47 [.int .i64 i_50, .int .i64 j_51] w49) (
 I46 [.int .i64 i_50, .int .i64 (IntKind.wrap .i64 (Int.fdiv (IntKind.wrap .u64 (IntKind.wrap .i64 (i_50 + j_51))) (2 ^ (min (1 : Int).toNat (IntKind.bits .u64)))))] w62 ∧ μ47 [.int .i64 i_50, .int .i64 (IntKind.wrap .i64 (Int.fdiv (IntKind.wrap .u64 (IntKind.wrap .i64 (i_50 + j_51))) (2 ^ (min (1 : Int).toNat (IntKind.bits .u64)))))] w62 < μ47 [.int .i64 i_50, .int .i64 j_51] w49))) (fun ch w => Kfn R ch [] w)))))))))))) (
 ∃ (I63 : List Value → World → Prop) (μ64 : List Value → World → Nat), I63 [.int .i64 m_5] w49 ∧ (∀ (k_67 : Int), ∀ (_j65 : Nat → Value) (w66 : World), I63 [.int .i64 k_67] w66 → (
 ifB (decide ((k_67 : Int) > i_50)) (
 doDr w66 (fun w69 =>
 ∃ (C68 : World → Prop), C68 w69 ∧ (
 doIx data_p1 data_n2 2 (IntKind.wrap .i64 (k_67 - 1)) (fun a70 =>
 ∃ (x71 : Int), (∀ w, C68 w → World.cell? w (a70.add 0) = some (.int .i64 x71)) ∧ (
 ∃ (x72 : Int), (∀ w, C68 w → World.cell? w (a70.add 1) = some (.int .i64 x72)) ∧ (
 doIx data_p1 data_n2 2 (k_67) (fun a73 =>
 ∃ (x74 : Int), (∀ w, C68 w → World.cell? w (a73.add 0) = some (.int .i64 x74)) ∧ (
 ∃ (x75 : Int), (∀ w, C68 w → World.cell? w (a73.add 1) = some (.int .i64 x75)) ∧ (
 doIx data_p1 data_n2 2 (k_67) (fun a76 =>
 doSt (a76.add 0) (.int .i64 x71) w69 (fun w77 =>
 doSt (a76.add 1) (.int .i64 x72) w77 (fun w78 =>
 doIx data_p1 data_n2 2 (IntKind.wrap .i64 (k_67 - 1)) (fun a79 =>
 doSt (a79.add 0) (.int .i64 x74) w78 (fun w80 =>
 doSt (a79.add 1) (.int .i64 x75) w80 (fun w81 =>
 I63 [.int .i64 (IntKind.wrap .i64 (k_67 - 1))] w81 ∧ μ64 [.int .i64 (IntKind.wrap .i64 (k_67 - 1))] w81 < μ64 [.int .i64 k_67] w66))))))))))))))) (
 R (.returned (.tuple #[])) w66))))))) (
 (0 : Int) ≤ 1 ∧ (
 ∃ (J82 : List Value → World → Prop), (∀ (start_85 : Int), ∀ (r_86 : Int), ∀ (_j83 : Nat → Value) (w84 : World), J82 [.int .i64 start_85, .int .i64 r_86] w84 → (
 ∃ (I87 : List Value → World → Prop) (μ88 : List Value → World → Nat), I87 [.int .i64 start_85, .int .i64 r_86] w84 ∧ (∀ (start_91 : Int), ∀ (r_92 : Int), ∀ (_j89 : Nat → Value) (w90 : World), I87 [.int .i64 start_91, .int .i64 r_92] w90 → (
 ifB (decide ((start_91 : Int) < r_92)) (
 (0 : Int) ≤ 1 ∧ (
 doDr w90 (fun w94 =>
 ∃ (C93 : World → Prop), C93 w94 ∧ (
 doIx data_p1 data_n2 2 (IntKind.wrap .i64 ((IntKind.wrap .i64 ((IntKind.wrap .i64 ((IntKind.wrap .i64 (Int.fdiv (IntKind.wrap .u64 (IntKind.wrap .i64 (a_4 + b_6))) (2 ^ (min (1 : Int).toNat (IntKind.bits .u64))))) + m_5)) - 1)) - (IntKind.wrap .i64 (Int.fdiv (IntKind.wrap .u64 (IntKind.wrap .i64 (start_91 + r_92))) (2 ^ (min (1 : Int).toNat (IntKind.bits .u64))))))) (fun a95 =>
 ∃ (x96 : Int), (∀ w, C93 w → World.cell? w (a95.add 0) = some (.int .i64 x96)) ∧ (
 ∃ (x97 : Int), (∀ w, C93 w → World.cell? w (a95.add 1) = some (.int .i64 x97)) ∧ (
 doIx data_p1 data_n2 2 (IntKind.wrap .i64 (Int.fdiv (IntKind.wrap .u64 (IntKind.wrap .i64 (start_91 + r_92))) (2 ^ (min (1 : Int).toNat (IntKind.bits .u64))))) (fun a98 =>
 ∃ (x99 : Int), (∀ w, C93 w → World.cell? w (a98.add 0) = some (.int .i64 x99)) ∧ (
 ∃ (x100 : Int), (∀ w, C93 w → World.cell? w (a98.add 1) = some (.int .i64 x100)) ∧ (
 doCall Tryz.prog (.func cmp_f7 cmp_x8 cmp_c9) #[.agg #[.int .i64 x96, .int .i64 x97], .agg #[.int .i64 x99, .int .i64 x100]] w94 (retS (fun v102 w103 => ∃ (x101 : Int), v102 = (.int .i64 x101 : Value) ∧ (
 ifB (!(decide ((x101 : Int) < 0))) (
 I87 [.int .i64 (IntKind.wrap .i64 ((IntKind.wrap .i64 (Int.fdiv (IntKind.wrap .u64 (IntKind.wrap .i64 (start_91 + r_92))) (2 ^ (min (1 : Int).toNat (IntKind.bits .u64))))) + 1)), .int .i64 r_92] w103 ∧ μ88 [.int .i64 (IntKind.wrap .i64 ((IntKind.wrap .i64 (Int.fdiv (IntKind.wrap .u64 (IntKind.wrap .i64 (start_91 + r_92))) (2 ^ (min (1 : Int).toNat (IntKind.bits .u64))))) + 1)), .int .i64 r_92] w103 < μ88 [.int .i64 start_91, .int .i64 r_92] w90) (
 I87 [.int .i64 start_91, .int .i64 (IntKind.wrap .i64 (Int.fdiv (IntKind.wrap .u64 (IntKind.wrap .i64 (start_91 + r_92))) (2 ^ (min (1 : Int).toNat (IntKind.bits .u64)))))] w103 ∧ μ88 [.int .i64 start_91, .int .i64 (IntKind.wrap .i64 (Int.fdiv (IntKind.wrap .u64 (IntKind.wrap .i64 (start_91 + r_92))) (2 ^ (min (1 : Int).toNat (IntKind.bits .u64)))))] w103 < μ88 [.int .i64 start_91, .int .i64 r_92] w90))) (fun ch w => Kfn R ch [] w)))))))))))) (
 ∃ (J104 : List Value → World → Prop), (∀ (_j105 : Nat → Value) (w106 : World), J104 [] w106 → (
 ∃ (J107 : List Value → World → Prop), (∀ (_j108 : Nat → Value) (w109 : World), J107 [] w109 → (
 ∃ (J110 : List Value → World → Prop), (∀ (x113 : Bool), ∀ (_j111 : Nat → Value) (w112 : World), J110 [.bool x113] w112 → (
 ifB x113 (
 doCall Tryz.prog (.func (.func 297) #[] #[]) #[.slice data_p1 data_n2 data_c3, .int .i64 (IntKind.wrap .i64 (Int.fdiv (IntKind.wrap .u64 (IntKind.wrap .i64 (a_4 + b_6))) (2 ^ (min (1 : Int).toNat (IntKind.bits .u64))))), .int .i64 (IntKind.wrap .i64 ((IntKind.wrap .i64 ((IntKind.wrap .i64 (Int.fdiv (IntKind.wrap .u64 (IntKind.wrap .i64 (a_4 + b_6))) (2 ^ (min (1 : Int).toNat (IntKind.bits .u64))))) + m_5)) - start_91)), .int .i64 b_6, .func cmp_f7 cmp_x8 cmp_c9] w112 (retS (fun v114 w115 => v114 = (.tuple #[] : Value) ∧ (
 R (.returned (.tuple #[])) w115)) (fun ch w => Kfn R ch [] w))) (
 R (.returned (.tuple #[])) w112))) ∧ (
 ifB (decide (((IntKind.wrap .i64 (Int.fdiv (IntKind.wrap .u64 (IntKind.wrap .i64 (a_4 + b_6))) (2 ^ (min (1 : Int).toNat (IntKind.bits .u64))))) : Int) < (IntKind.wrap .i64 ((IntKind.wrap .i64 ((IntKind.wrap .i64 (Int.fdiv (IntKind.wrap .u64 (IntKind.wrap .i64 (a_4 + b_6))) (2 ^ (min (1 : Int).toNat (IntKind.bits .u64))))) + m_5)) - start_91)))) (
 J110 [.bool (decide (((IntKind.wrap .i64 ((IntKind.wrap .i64 ((IntKind.wrap .i64 (Int.fdiv (IntKind.wrap .u64 (IntKind.wrap .i64 (a_4 + b_6))) (2 ^ (min (1 : Int).toNat (IntKind.bits .u64))))) + m_5)) - start_91)) : Int) < b_6))] w109) (
 J110 [.bool false] w109)))) ∧ (
 ∃ (J116 : List Value → World → Prop), (∀ (x119 : Bool), ∀ (_j117 : Nat → Value) (w118 : World), J116 [.bool x119] w118 → (
 ifB x119 (
 doCall Tryz.prog (.func (.func 297) #[] #[]) #[.slice data_p1 data_n2 data_c3, .int .i64 a_4, .int .i64 start_91, .int .i64 (IntKind.wrap .i64 (Int.fdiv (IntKind.wrap .u64 (IntKind.wrap .i64 (a_4 + b_6))) (2 ^ (min (1 : Int).toNat (IntKind.bits .u64))))), .func cmp_f7 cmp_x8 cmp_c9] w118 (retS (fun v120 w121 => v120 = (.tuple #[] : Value) ∧ (
 J107 [] w121)) (fun ch w => Kfn R ch [] w))) (
 J107 [] w118))) ∧ (
 ifB (decide ((a_4 : Int) < start_91)) (
 J116 [.bool (decide ((start_91 : Int) < (IntKind.wrap .i64 (Int.fdiv (IntKind.wrap .u64 (IntKind.wrap .i64 (a_4 + b_6))) (2 ^ (min (1 : Int).toNat (IntKind.bits .u64)))))))] w106) (
 J116 [.bool false] w106))))) ∧ (
 ∃ (J122 : List Value → World → Prop), (∀ (x125 : Bool), ∀ (_j123 : Nat → Value) (w124 : World), J122 [.bool x125] w124 → (
 ifB x125 (
 doCall Tryz.prog (.func (.func 330) #[] #[]) #[.slice data_p1 data_n2 data_c3, .int .i64 start_91, .int .i64 m_5, .int .i64 (IntKind.wrap .i64 ((IntKind.wrap .i64 ((IntKind.wrap .i64 (Int.fdiv (IntKind.wrap .u64 (IntKind.wrap .i64 (a_4 + b_6))) (2 ^ (min (1 : Int).toNat (IntKind.bits .u64))))) + m_5)) - start_91)), .func cmp_f7 cmp_x8 cmp_c9] w124 (retS (fun v126 w127 => v126 = (.tuple #[] : Value) ∧ (
 J104 [] w127)) (fun ch w => Kfn R ch [] w))) (
 J104 [] w124))) ∧ (
 ifB (decide ((start_91 : Int) < m_5)) (
 J122 [.bool (decide ((m_5 : Int) < (IntKind.wrap .i64 ((IntKind.wrap .i64 ((IntKind.wrap .i64 (Int.fdiv (IntKind.wrap .u64 (IntKind.wrap .i64 (a_4 + b_6))) (2 ^ (min (1 : Int).toNat (IntKind.bits .u64))))) + m_5)) - start_91))))] w90) (
 J122 [.bool false] w90)))))))) ∧ (
 ifB (decide ((m_5 : Int) > (IntKind.wrap .i64 (Int.fdiv (IntKind.wrap .u64 (IntKind.wrap .i64 (a_4 + b_6))) (2 ^ (min (1 : Int).toNat (IntKind.bits .u64))))))) (
 J82 [.int .i64 (IntKind.wrap .i64 ((IntKind.wrap .i64 ((IntKind.wrap .i64 (Int.fdiv (IntKind.wrap .u64 (IntKind.wrap .i64 (a_4 + b_6))) (2 ^ (min (1 : Int).toNat (IntKind.bits .u64))))) + m_5)) - b_6)), .int .i64 (IntKind.wrap .i64 (Int.fdiv (IntKind.wrap .u64 (IntKind.wrap .i64 (a_4 + b_6))) (2 ^ (min (1 : Int).toNat (IntKind.bits .u64)))))] w) (
 J82 [.int .i64 a_4, .int .i64 m_5] w)))))
set_option maxRecDepth 100000 in
theorem sh297_ok (data_p1 : Option Addr) (data_n2 : Nat) (data_c3 : Nat) (a_4 : Int) (m_5 : Int) (b_6 : Int) (cmp_f7 : Fn) (cmp_x8 : Array Value) (cmp_c9 : Array Value) {R : Ending → World → Prop} {w : World} : sh297 data_p1 data_n2 data_c3 a_4 m_5 b_6 cmp_f7 cmp_x8 cmp_c9 R w → Calls Tryz.prog 297 #[.slice data_p1 data_n2 data_c3, .int .i64 a_4, .int .i64 m_5, .int .i64 b_6, .func cmp_f7 cmp_x8 cmp_c9] w R :=
  calls_of_eq (ann := fun i => if i = 1000044 then [(0, .nilIface), (213, .bool false)] else if i = 1000043 then [(0, .nilIface)] else if i = 1000042 then [(0, .nilIface), (199, .bool false)] else if i = 1000041 then [(0, .nilIface)] else if i = 1000040 then [(0, .nilIface), (185, .bool false)] else if i = 8 then [(20, .int .i64 0), (21, .int .i64 0)] else if i = 1000032 then [(0, .nilIface), (20, .int .i64 0), (21, .int .i64 0)] else if i = 6 then [(17, .int .i64 0)] else if i = 4 then [(14, .int .i64 0), (15, .int .i64 0)] else if i = 2 then [(13, .int .i64 0)] else if i = 0 then [(10, .int .i64 0), (11, .int .i64 0)] else []) (fn := Tryz.f297) (c := bodyOf Tryz.f297) (args := #[.slice data_p1 data_n2 data_c3, .int .i64 a_4, .int .i64 m_5, .int .i64 b_6, .func cmp_f7 cmp_x8 cmp_c9]) 400 follows_mixed Tryz.func297 (by kernel_rfl) (by kernel_rfl)
end Go.Proofs.YtlddfgfmkapoiaaGreat

namespace Go.Proofs.YtlddfgfmkapoiaaGreat
open Go Go.Sh
set_option maxRecDepth 100000 in
/-- joinery/split.parts -/
def sh165 (s_1 : Option Addr) (at_f2 : Fn) (at_x3 : Array Value) (at_c4 : Array Value) (t_5 : Option Addr) (R : Ending → World → Prop) (w : World) : Prop :=
 doAl (.cells #[.int .i64 0, .int .i64 0, .int .u64 0] 114) w (fun b6 w7 =>
 ifB ((t_5).isNone) (
 doDr w7 (fun w9 =>
 ∃ (C8 : World → Prop), C8 w9 ∧ (
 ∃ (x10 : Int), (∀ w, C8 w → World.cell? w ((blk b6).add 0) = some (.int .i64 x10)) ∧ (
 ∃ (x11 : Int), (∀ w, C8 w → World.cell? w ((blk b6).add 1) = some (.int .i64 x11)) ∧ (
 ∃ (x12 : Int), (∀ w, C8 w → World.cell? w ((blk b6).add 2) = some (.int .u64 x12)) ∧ (
 doSt ((blk b6).add 0) (.int .i64 x10) w9 (fun w13 =>
 doSt ((blk b6).add 1) (.int .i64 x11) w13 (fun w14 =>
 doSt ((blk b6).add 2) (.int .u64 x12) w14 (fun w15 =>
 ∃ (x16 : Int), World.cell? w15 ((blk b6).add 0) = some (.int .i64 x16) ∧ (
 ∃ (x17 : Int), World.cell? w15 ((blk b6).add 1) = some (.int .i64 x17) ∧ (
 ∃ (x18 : Int), World.cell? w15 ((blk b6).add 2) = some (.int .u64 x18) ∧ (
 R (.returned (.tuple #[.pointer none, .agg #[.int .i64 x16, .int .i64 x17, .int .u64 x18], .bool false, .pointer none])) w15)))))))))))) (
 doCall Tryz.prog (.func (.func 108) #[] #[]) #[.pointer t_5] w7 (retS (fun v20 w21 => ∃ (x19 : Int), v20 = (.int .i64 x19 : Value) ∧ (
 doCall Tryz.prog (.func at_f2 at_x3 at_c4) #[.int .i64 x19] w21 (retS (fun v23 w24 => ∃ (x22 : Int), v23 = (.int .i64 x22 : Value) ∧ (
 ifB (decide ((x22 : Int) < 0)) (
 doCall Tryz.prog (.func (.func 125) #[] #[]) #[.pointer t_5] w24 (retS (fun v26 w27 => ∃ (x25 : Option Addr), v26 = (.pointer x25 : Value) ∧ (
 doCall Tryz.prog (.func (.func 165) #[] #[]) #[.pointer s_1, .func at_f2 at_x3 at_c4, .pointer x25] w27 (retS (fun v34 w35 => ∃ (x28 : Option Addr), ∃ (x29 : Int), ∃ (x30 : Int), ∃ (x31 : Int), ∃ (x32 : Bool), ∃ (x33 : Option Addr), v34 = (.tuple #[.pointer x28, .agg #[.int .i64 x29, .int .i64 x30, .int .u64 x31], .bool x32, .pointer x33] : Value) ∧ (
 doSt ((blk b6).add 0) (.int .i64 x29) w35 (fun w36 =>
 doSt ((blk b6).add 1) (.int .i64 x30) w36 (fun w37 =>
 doSt ((blk b6).add 2) (.int .u64 x31) w37 (fun w38 =>
 doDr w38 (fun w40 =>
 ∃ (C39 : World → Prop), C39 w40 ∧ (
 ∃ (x41 : Int), (∀ w, C39 w → World.cell? w ((blk b6).add 0) = some (.int .i64 x41)) ∧ (
 ∃ (x42 : Int), (∀ w, C39 w → World.cell? w ((blk b6).add 1) = some (.int .i64 x42)) ∧ (
 ∃ (x43 : Int), (∀ w, C39 w → World.cell? w ((blk b6).add 2) = some (.int .u64 x43)) ∧ (
 doCall Tryz.prog (.func (.func 123) #[] #[]) #[.pointer t_5] w40 (retS (fun v45 w46 => ∃ (x44 : Option Addr), v45 = (.pointer x44 : Value) ∧ (
 C39 w46 ∧ (
 doCall Tryz.prog (.func (.func 213) #[] #[]) #[.pointer s_1, .pointer t_5] w46 (retS (fun v50 w51 => ∃ (x47 : Int), ∃ (x48 : Int), ∃ (x49 : Int), v50 = (.agg #[.int .i64 x47, .int .i64 x48, .int .u64 x49] : Value) ∧ (
 C39 w51 ∧ (
 doCall Tryz.prog (.func (.func 106) #[] #[]) #[.pointer s_1, .pointer x44, .agg #[.int .i64 x47, .int .i64 x48, .int .u64 x49], .pointer x28] w51 (retS (fun v53 w54 => ∃ (x52 : Option Addr), v53 = (.pointer x52 : Value) ∧ (
 C39 w54 ∧ (
 doSt ((blk b6).add 0) (.int .i64 x41) w54 (fun w55 =>
 doSt ((blk b6).add 1) (.int .i64 x42) w55 (fun w56 =>
 doSt ((blk b6).add 2) (.int .u64 x43) w56 (fun w57 =>
 ∃ (x58 : Int), World.cell? w57 ((blk b6).add 0) = some (.int .i64 x58) ∧ (
 ∃ (x59 : Int), World.cell? w57 ((blk b6).add 1) = some (.int .i64 x59) ∧ (
 ∃ (x60 : Int), World.cell? w57 ((blk b6).add 2) = some (.int .u64 x60) ∧ (
 R (.returned (.tuple #[.pointer x52, .agg #[.int .i64 x58, .int .i64 x59, .int .u64 x60], .bool x32, .pointer x33])) w57))))))))) (fun ch w => Kfn R ch [] w))))) (fun ch w => Kfn R ch [] w))))) (fun ch w => Kfn R ch [] w)))))))))))) (fun ch w => Kfn R ch [] w)))) (fun ch w => Kfn R ch [] w))) (
 ifB (decide ((x22 : Int) > 0)) (
 doCall Tryz.prog (.func (.func 123) #[] #[]) #[.pointer t_5] w24 (retS (fun v62 w63 => ∃ (x61 : Option Addr), v62 = (.pointer x61 : Value) ∧ (
 doCall Tryz.prog (.func (.func 165) #[] #[]) #[.pointer s_1, .func at_f2 at_x3 at_c4, .pointer x61] w63 (retS (fun v70 w71 => ∃ (x64 : Option Addr), ∃ (x65 : Int), ∃ (x66 : Int), ∃ (x67 : Int), ∃ (x68 : Bool), ∃ (x69 : Option Addr), v70 = (.tuple #[.pointer x64, .agg #[.int .i64 x65, .int .i64 x66, .int .u64 x67], .bool x68, .pointer x69] : Value) ∧ (
 doSt ((blk b6).add 0) (.int .i64 x65) w71 (fun w72 =>
 doSt ((blk b6).add 1) (.int .i64 x66) w72 (fun w73 =>
 doSt ((blk b6).add 2) (.int .u64 x67) w73 (fun w74 =>
 doDr w74 (fun w76 =>
 ∃ (C75 : World → Prop), C75 w76 ∧ (
 ∃ (x77 : Int), (∀ w, C75 w → World.cell? w ((blk b6).add 0) = some (.int .i64 x77)) ∧ (
 ∃ (x78 : Int), (∀ w, C75 w → World.cell? w ((blk b6).add 1) = some (.int .i64 x78)) ∧ (
 ∃ (x79 : Int), (∀ w, C75 w → World.cell? w ((blk b6).add 2) = some (.int .u64 x79)) ∧ (
 doCall Tryz.prog (.func (.func 213) #[] #[]) #[.pointer s_1, .pointer t_5] w76 (retS (fun v83 w84 => ∃ (x80 : Int), ∃ (x81 : Int), ∃ (x82 : Int), v83 = (.agg #[.int .i64 x80, .int .i64 x81, .int .u64 x82] : Value) ∧ (
 C75 w84 ∧ (
 doCall Tryz.prog (.func (.func 125) #[] #[]) #[.pointer t_5] w84 (retS (fun v86 w87 => ∃ (x85 : Option Addr), v86 = (.pointer x85 : Value) ∧ (
 C75 w87 ∧ (
 doCall Tryz.prog (.func (.func 106) #[] #[]) #[.pointer s_1, .pointer x69, .agg #[.int .i64 x80, .int .i64 x81, .int .u64 x82], .pointer x85] w87 (retS (fun v89 w90 => ∃ (x88 : Option Addr), v89 = (.pointer x88 : Value) ∧ (
 C75 w90 ∧ (
 doSt ((blk b6).add 0) (.int .i64 x77) w90 (fun w91 =>
 doSt ((blk b6).add 1) (.int .i64 x78) w91 (fun w92 =>
 doSt ((blk b6).add 2) (.int .u64 x79) w92 (fun w93 =>
 ∃ (x94 : Int), World.cell? w93 ((blk b6).add 0) = some (.int .i64 x94) ∧ (
 ∃ (x95 : Int), World.cell? w93 ((blk b6).add 1) = some (.int .i64 x95) ∧ (
 ∃ (x96 : Int), World.cell? w93 ((blk b6).add 2) = some (.int .u64 x96) ∧ (
 R (.returned (.tuple #[.pointer x64, .agg #[.int .i64 x94, .int .i64 x95, .int .u64 x96], .bool x68, .pointer x88])) w93))))))))) (fun ch w => Kfn R ch [] w))))) (fun ch w => Kfn R ch [] w))))) (fun ch w => Kfn R ch [] w)))))))))))) (fun ch w => Kfn R ch [] w)))) (fun ch w => Kfn R ch [] w))) (
 doCall Tryz.prog (.func (.func 123) #[] #[]) #[.pointer t_5] w24 (retS (fun v98 w99 => ∃ (x97 : Option Addr), v98 = (.pointer x97 : Value) ∧ (
 doCall Tryz.prog (.func (.func 162) #[] #[]) #[.pointer s_1, .pointer x97] w99 (retS (fun v101 w102 => ∃ (x100 : Option Addr), v101 = (.pointer x100 : Value) ∧ (
 doCall Tryz.prog (.func (.func 213) #[] #[]) #[.pointer s_1, .pointer t_5] w102 (retS (fun v106 w107 => ∃ (x103 : Int), ∃ (x104 : Int), ∃ (x105 : Int), v106 = (.agg #[.int .i64 x103, .int .i64 x104, .int .u64 x105] : Value) ∧ (
 doCall Tryz.prog (.func (.func 125) #[] #[]) #[.pointer t_5] w107 (retS (fun v109 w110 => ∃ (x108 : Option Addr), v109 = (.pointer x108 : Value) ∧ (
 doCall Tryz.prog (.func (.func 162) #[] #[]) #[.pointer s_1, .pointer x108] w110 (retS (fun v112 w113 => ∃ (x111 : Option Addr), v112 = (.pointer x111 : Value) ∧ (
 doSt ((blk b6).add 0) (.int .i64 x103) w113 (fun w114 =>
 doSt ((blk b6).add 1) (.int .i64 x104) w114 (fun w115 =>
 doSt ((blk b6).add 2) (.int .u64 x105) w115 (fun w116 =>
 ∃ (x117 : Int), World.cell? w116 ((blk b6).add 0) = some (.int .i64 x117) ∧ (
 ∃ (x118 : Int), World.cell? w116 ((blk b6).add 1) = some (.int .i64 x118) ∧ (
 ∃ (x119 : Int), World.cell? w116 ((blk b6).add 2) = some (.int .u64 x119) ∧ (
 R (.returned (.tuple #[.pointer x100, .agg #[.int .i64 x117, .int .i64 x118, .int .u64 x119], .bool true, .pointer x111])) w116)))))))) (fun ch w => Kfn R ch [] w)))) (fun ch w => Kfn R ch [] w)))) (fun ch w => Kfn R ch [] w)))) (fun ch w => Kfn R ch [] w)))) (fun ch w => Kfn R ch [] w)))))) (fun ch w => Kfn R ch [] w)))) (fun ch w => Kfn R ch [] w))))
set_option maxRecDepth 100000 in
theorem sh165_ok (s_1 : Option Addr) (at_f2 : Fn) (at_x3 : Array Value) (at_c4 : Array Value) (t_5 : Option Addr) {R : Ending → World → Prop} {w : World} : sh165 s_1 at_f2 at_x3 at_c4 t_5 R w → Calls Tryz.prog 165 #[.pointer s_1, .func at_f2 at_x3 at_c4, .pointer t_5] w R :=
  calls_of_eq (ann := fun _ => []) (fn := Tryz.f165) (c := bodyOf Tryz.f165) (args := #[.pointer s_1, .func at_f2 at_x3 at_c4, .pointer t_5]) 400 follows_mixed Tryz.func165 (by kernel_rfl) (by kernel_rfl)
end Go.Proofs.YtlddfgfmkapoiaaGreat

namespace Go.Proofs.YtlddfgfmkapoiaaGreat
open Go Go.Sh Go.RowKit

/-! ### mix.Mix: a range over a function -/
def stepsA : Array Value := #[.int .i64 30, .int .u64 13787848793156543929, .int .i64 27, .int .u64 10723151780598845931, .int .i64 31, .int .u64 1]
theorem c_all {w : World} {R : Ending → World → Prop} (h : ∀ w', Ext w w' → R (.returned (.agg stepsA)) w') : Calls Tryz.prog 254 #[] w R := by
  refine sh254_ok ?_
  unfold sh254
  refine ⟨?_⟩
  refine do_st (blk_alloc w _ _) (i := 0) rfl (by decide) fun w1 h1 g1 => ?_
  refine do_st h1 (i := 1) rfl (by decide) fun w2 h2 g2 => ?_
  refine do_st h2 (i := 2) rfl (by decide) fun w3 h3 g3 => ?_
  refine do_st h3 (i := 3) rfl (by decide) fun w4 h4 g4 => ?_
  refine do_st h4 (i := 4) rfl (by decide) fun w5 h5 g5 => ?_
  refine do_st h5 (i := 5) rfl (by decide) fun w6 h6 g6 => ?_
  refine ⟨_, h6.cell (i := 0) rfl rfl, _, h6.cell (i := 1) rfl rfl, _, h6.cell (i := 2) rfl rfl, _, h6.cell (i := 3) rfl rfl, _, h6.cell (i := 4) rfl rfl, _, h6.cell (i := 5) rfl rfl, ?_⟩
  have e := ext_alloc w (.cells #[.int .i64 0, .int .u64 0, .int .i64 0, .int .u64 0, .int .i64 0, .int .u64 0] 320)
  exact h _ ((((((e.st g1 (Nat.le_refl _)).st g2 (Nat.le_refl _)).st g3 (Nat.le_refl _)).st g4 (Nat.le_refl _)).st g5 (Nat.le_refl _)).st g6 (Nat.le_refl _))
theorem c_steps {back : Bool} {w : World} {R : Ending → World → Prop} (h : ∀ b1 b2 w', Ext w w' → w.heap.size ≤ b1 → w.heap.size ≤ b2 → b1 ≠ b2 → Blk w' b1 #[.bool back] 4 → Blk w' b2 stepsA 320 →
    R (.returned (.func (.func 255) #[] #[.pointer (some (blk b1)), .pointer (some (blk b2))])) w') : Calls Tryz.prog 197 #[.bool back] w R := by
  refine sh197_ok _ ?_
  unfold sh197
  refine ⟨?_⟩
  have hb := blk_alloc w #[.bool back] 4
  refine do_call Tryz.call254 (c_all fun w0 e0 => retS_ret ⟨_, _, _, _, _, _, rfl, ⟨?_⟩⟩)
  have E0 := (ext_alloc w (.cells #[.bool back] 4)).trans e0
  have hb0 := (hb.ext e0).ext (ext_alloc w0 (.cells #[.int .i64 0, .int .u64 0, .int .i64 0, .int .u64 0, .int .i64 0, .int .u64 0] 320))
  have hne : w.heap.size ≠ w0.heap.size := by have := (hb.ext e0).lt; omega
  have hle : w.heap.size ≤ w0.heap.size := by have := (hb.ext e0).lt; omega
  refine do_st (blk_alloc w0 _ _) (i := 0) rfl (by decide) fun w1 h1 g1 => ?_
  refine do_st h1 (i := 1) rfl (by decide) fun w2 h2 g2 => ?_
  refine do_st h2 (i := 2) rfl (by decide) fun w3 h3 g3 => ?_
  refine do_st h3 (i := 3) rfl (by decide) fun w4 h4 g4 => ?_
  refine do_st h4 (i := 4) rfl (by decide) fun w5 h5 g5 => ?_
  refine do_st h5 (i := 5) rfl (by decide) fun w6 h6 g6 => ?_
  have hb6 := (((((hb0.grown g1 (ne_some hne)).grown g2 (ne_some hne)).grown g3 (ne_some hne)).grown g4 (ne_some hne)).grown g5 (ne_some hne)).grown g6 (ne_some hne)
  have e := E0.alloc (.cells #[.int .i64 0, .int .u64 0, .int .i64 0, .int .u64 0, .int .i64 0, .int .u64 0] 320)
  exact h _ _ _ ((((((e.st g1 hle).st g2 hle).st g3 hle).st g4 hle).st g5 hle).st g6 hle) (Nat.le_refl _) hle hne hb6 h6
/-- a round of the mixing -/
def stepB (x : BitVec 64) : Nat → BitVec 64
  | 0 => xs 30 x * 13787848793156543929#64
  | 1 => xs 27 x * 10723151780598845931#64
  | _ => xs 31 x * 1#64
def stepsB (x : BitVec 64) : Nat → BitVec 64
  | 0 => x
  | i + 1 => stepB (stepsB x i) i
theorem stepsB_3 (x : BitVec 64) : stepsB x 3 = mixB x := by simp [stepsB, stepB, mixB]
set_option maxRecDepth 20000 in
theorem c_mix {x : BitVec 64} {w : World} {R : Ending → World → Prop} (h : ∀ w', Ext w w' → R (.returned (.int .u64 (U (mixB x)))) w') : Calls Tryz.prog 122 #[.int .u64 (U x)] w R := by
  refine sh122_ok _ ?_
  unfold sh122
  refine ⟨?_⟩
  have hx := blk_alloc w #[.int .u64 (U x)] 75
  refine do_call Tryz.call197 (c_steps fun b1 b2 w1 e1 hb1 hb2 hne h1 h2 => retS_ret ⟨_, _, _, rfl, ⟨fun fn => ?_⟩⟩)
  have hx1 := hx.ext e1
  have E1 := (ext_alloc w (.cells #[.int .u64 (U x)] 75)).trans e1
  have hd : (w1.alloc (.deferred (some []))).heap[w1.heap.size]? = some (.deferred (some [])) := heap_alloc_new _ _
  generalize hrec : mkLoop _ _ _ _ = L
  have hl : ((w1.alloc (.deferred (some []))).alloc (.loop (L fn w1.heap.size))).heap[w1.heap.size + 1]? = some (.loop (L fn w1.heap.size)) := by
    have := heap_alloc_new (w1.alloc (.deferred (some []))) (.loop (L fn w1.heap.size))
    simpa using this
  have e2 := (ext_alloc w1 (.deferred (some []))).trans (ext_alloc _ (.loop (L fn w1.heap.size)))
  have hd := (ext_alloc _ (.loop (L fn w1.heap.size))).heap hd
  have hE : w.heap.size < w1.heap.size := hx1.lt
  have hl1 := h1.lt
  have hl2 := h2.lt
  have hx2 := hx1.ext e2
  have h1 := h1.ext e2
  have h2 := h2.ext e2
  have E2 := E1.trans e2
  simp at hb1 hb2
  generalize (w1.alloc (.deferred (some []))).alloc (.loop (L fn w1.heap.size)) = w2 at hd hl hx2 h1 h2 E2 ⊢
  generalize hsz : w1.heap.size = d at *
  clear e1 hx1 e2 E1 hx
  have hst : (L fn d).state = .ready ∧ (L fn d).pending = none := by rw [← hrec]; exact ⟨rfl, rfl⟩
  refine callE_c Tryz.call255 (by rfl) (sh255_ok _ _ _ _ _ ?_)
  unfold sh255
  refine ⟨fun vs w' => ∃ i : Nat, vs = [.int .i64 i] ∧ i ≤ 3 ∧ Ext w w' ∧ w'.heap[d]? = some (.deferred (some [])) ∧ w'.heap[d + 1]? = some (.loop (L fn d)) ∧ Blk w' b1 #[.bool false] 4 ∧ Blk w' b2 stepsA 320 ∧
      Blk w' w.heap.size #[.int .u64 (U (stepsB x i))] 75, fun vs _ => 3 - (intOf (vs.getD 0 undef)).toNat, ⟨0, rfl, by omega, E2, hd, hl, h1, h2, hx2⟩, ?_⟩
  clear hd hl h1 h2 hx2 E2
  rintro i j w3 ⟨m, hm, hm3, E3, hd, hl, h1, h2, hx⟩
  simp only [List.cons.injEq, Value.int.injEq, true_and, and_true] at hm
  obtain rfl := hm
  refine ifB_intro (fun hlt => ?_) fun hge => ?_
  · have hlt : m < 3 := by have := of_decide_eq_true hlt; omega
    refine ⟨_, h1.cell (i := 0) rfl rfl, ifB_f rfl ?_⟩
    have hA : ∃ (s : Nat) (c : BitVec 64), stepsA[2 * m]? = some (.int .i64 s) ∧ stepsA[2 * m + 1]? = some (.int .u64 (U c)) ∧ s ≤ 64 ∧ stepsB x (m + 1) = xs s (stepsB x m) * c := by
      rcases m with _ | _ | _ | m
      · exact ⟨30, 13787848793156543929#64, rfl, rfl, by omega, rfl⟩
      · exact ⟨27, 10723151780598845931#64, rfl, rfl, by omega, rfl⟩
      · exact ⟨31, 1#64, rfl, rfl, by omega, rfl⟩
      · omega
    obtain ⟨s, c, hs, hc, hs64, hst'⟩ := hA
    have ha : ∀ k, ((blk b2).add ((m : Int).toNat * 2)).add k = ⟨b2, 2 * m + k, none⟩ := fun k => by rw [add_blk]; simp only [Addr.add]; split <;> simp <;> omega
    refine ⟨_, rfl, by omega, by omega, _, h2.cell (ha 0) hs, _, h2.cell (ha 1) hc, ?_⟩
    refine sh122_0_ok (by rw [hl, ← hrec]) ?_
    unfold sh122_0
    refine ⟨?_⟩
    have hw3 := hx.lt
    have hd3 := (Array.getElem?_eq_some_iff.1 hl).1
    refine do_st (blk_alloc w3 _ _) (i := 0) rfl (by simp) fun w5 h5 g5 => do_st h5 (i := 1) rfl (by simp) fun w6 h6 g6 => ?_
    have e6 : Ext w3 w6 := ((ext_alloc w3 _).st g5 (Nat.le_refl _)).st g6 (Nat.le_refl _)
    refine ⟨_, e6.heap hl, hst.1, ?_⟩
    have g7 := put_grown w6 (d + 1) (.loop { L fn d with state := .busy })
    have hl7 := put_heap (o' := .loop { L fn d with state := .busy }) (e6.heap hl)
    have hx7 := (hx.ext e6).grown g7 (ne_some (by omega))
    have h17 := (h1.ext e6).grown g7 (ne_some (by omega))
    have h27 := (h2.ext e6).grown g7 (ne_some (by omega))
    have hd7 := heap_grown g7 (e6.heap hd) (ne_some (by omega))
    have h67 := h6.grown g7 (ne_some (by omega))
    have E7 := (E3.trans e6).st g7 (by omega)
    generalize w6.putObj (d + 1) (.loop { L fn d with state := .busy }) = w7 at hl7 hx7 h17 h27 hd7 h67 E7 ⊢
    refine ⟨⟨fun w' => Ext w7 w', ext_drew _, ?_⟩⟩
    refine ⟨_, fun w' e' => (hx7.ext e').cell (i := 0) rfl rfl, _, fun w' e' => (hx7.ext e').cell (i := 0) rfl rfl, _, fun w' e' => (h67.ext e').cell (i := 0) rfl rfl, by omega, _, fun w' e' => (h67.ext e').cell (i := 1) rfl rfl, ?_⟩
    rw [shr_U _ s hs64, bXor_U, mul_U]
    refine do_st (w := w7.drew) (b := w.heap.size) hx7 (i := 0) rfl (by simp) fun w8 h8 g8 => ?_
    have hl8 := heap_grown (w := w7.drew) g8 hl7 (ne_some (by omega))
    refine ⟨_, hl8, ?_⟩
    rw [rec_back hst.1 hst.2]
    have g9 := put_grown w8 (d + 1) (.loop (L fn d))
    refine retS_ret ⟨_, rfl, ifB_f rfl ⟨⟨m + 1, by rw [wrap_succ hlt (by omega)], by omega, ?_, ?_, put_heap hl8, ?_, ?_, ?_⟩, ?_⟩⟩
    · exact (E7.drew.st g8 (Nat.le_refl _)).st g9 (by omega)
    · exact heap_grown g9 (heap_grown (w := w7.drew) g8 hd7 (ne_some (by omega))) (ne_some (by omega))
    · exact (Blk.grown (w := w7.drew) h17 g8 (ne_some (by omega))).grown g9 (ne_some (by omega))
    · exact (Blk.grown (w := w7.drew) h27 g8 (ne_some (by omega))).grown g9 (ne_some (by omega))
    · have : stepsB x (m + 1) = (xs s (stepsB x m)) * c := hst'
      rw [this]
      exact h8.grown g9 (ne_some (by omega))
    · rw [wrap_succ hlt (by omega)]
      simp [intOf]; omega
  · have hge : m = 3 := by have := of_decide_eq_false hge; omega
    subst hge
    rw [← stepsB_3] at h
    have hd3 := (Array.getElem?_eq_some_iff.1 hl).1
    refine rf_done hl (by rw [hst.1]; simp) hst.2 fun o => ?_
    have g9 := put_grown w3 (d + 1) o
    exact ⟨_, (hx.grown g9 (ne_some (by omega))).cell (i := 0) rfl rfl, heap_grown g9 hd (ne_some (by omega)), h _ ((E3.st g9 (by omega)).put (by omega) _)⟩

/-! ### bits -/
theorem c_revBytes {x : BitVec 64} {w : World} {R : Ending → World → Prop} (h : R (.returned (.int .u64 (U (revBytes x)))) w) : Calls Tryz.prog 344 #[.int .u64 (U x)] w R := by
  refine sh344_ok _ ?_
  unfold sh344
  refine ⟨by omega, by omega, by omega, by omega, by omega, by omega, ?_⟩
  simp only [shr_8, shr_16, shr_32, and_d, and_e, shl_8, shl_16, shl_32, bOr_U]
  exact h
theorem c_rev64 {x : BitVec 64} {w : World} {R : Ending → World → Prop} (h : R (.returned (.int .u64 (U (revB x)))) w) : Calls Tryz.prog 328 #[.int .u64 (U x)] w R := by
  refine sh328_ok _ ?_
  unfold sh328
  refine ⟨by omega, by omega, by omega, by omega, by omega, by omega, ?_⟩
  simp only [shr_1, shr_2, shr_4, and_a, and_b, and_c, shl_1, shl_2, shl_4, bOr_U]
  exact do_call Tryz.call344 (c_revBytes (retS_ret ⟨_, rfl, h⟩))
theorem c_flip {x : BitVec 64} {w : World} {R : Ending → World → Prop} (h : R (.returned (.int .u64 (U (revB x)))) w) : Calls Tryz.prog 287 #[.int .u64 (U x)] w R := by
  refine sh287_ok _ ?_
  unfold sh287
  exact do_call Tryz.call328 (c_rev64 (retS_ret ⟨_, rfl, h⟩))
theorem c_rotl {x : BitVec 64} {k : Int} {s : Nat} (hs : s < 64) (hk : bAnd .u64 (IntKind.wrap .u64 k) 63 = (s : Int)) {w : World} {R : Ending → World → Prop}
    (h : R (.returned (.int .u64 (U ((x <<< s) ||| (x >>> (64 - s)))))) w) : Calls Tryz.prog 198 #[.int .u64 (U x), .int .i64 k] w R := by
  refine sh198_ok _ _ ?_
  unfold sh198
  have e : IntKind.wrap .u64 (64 - (s : Int)) = ((64 - s : Nat) : Int) := by rw [wrap64u]; omega
  rw [hk, e]
  refine ⟨by omega, by omega, ?_⟩
  rw [shl_U x s (by omega), shr_U x (64 - s) (by omega), bOr_U]
  exact h
theorem c_turn {x : BitVec 64} {n : Int} {s : Nat} (hs : s < 64) (hk : bAnd .u64 (IntKind.wrap .u64 (Int.tmod n 64)) 63 = (s : Int)) {w : World} {R : Ending → World → Prop}
    (h : R (.returned (.int .u64 (U ((x <<< s) ||| (x >>> (64 - s)))))) w) : Calls Tryz.prog 124 #[.int .u64 (U x), .int .i64 n] w R := by
  refine sh124_ok _ _ ?_
  unfold sh124
  exact ⟨by omega, do_call Tryz.call198 (c_rotl hs hk (retS_ret ⟨_, rfl, h⟩))⟩

/-! ### the codes -/
theorem c_up {k : Int} (hk : In k) {w : World} {R : Ending → World → Prop} (h : R (.returned (.int .u64 (upI k))) w) : Calls Tryz.prog 280 #[.int .i64 k] w R := by
  refine sh280_ok _ ?_
  unfold sh280
  rw [upB_U hk]
  exact h
theorem up_U {k : Int} (hk : In k) : upI k = U (BitVec.ofInt 64 (upI k)) := by
  rw [U_ofInt]; unfold upI In at *; omega
def kd (nm : ByteArray) (f g : Nat) : Value := .agg #[.string nm, .func (.func f) #[] #[], .func (.func g) #[] #[]]
def orderEs : Array MapEntry := #[
  { key := .int .u8 1, val := kd ⟨#[117, 112]⟩ 280 281, born := 0 },
  { key := .int .u8 2, val := kd ⟨#[100, 111, 119, 110]⟩ 282 283, born := 1 },
  { key := .int .u8 3, val := kd ⟨#[115, 105, 122, 101]⟩ 284 285, born := 2 },
  { key := .int .u8 4, val := kd ⟨#[98, 105, 116, 115]⟩ 286 288, born := 3 },
  { key := .int .u8 5, val := kd ⟨#[101, 118, 101, 110]⟩ 289 290, born := 4 },
  { key := .int .u8 6, val := kd ⟨#[108, 111, 119]⟩ 291 292, born := 5 },
  { key := .int .u8 7, val := kd ⟨#[109, 105, 120]⟩ 293 294, born := 6 }]
theorem c_okinds {w : World} {R : Ending → World → Prop} (h : ∀ b w', Ext w w' → w'.heap[b]? = some (.map orderEs 7) → R (.returned (.map (some b))) w') : Calls Tryz.prog 235 #[] w R := by
  refine sh235_ok ?_
  unfold sh235
  refine ⟨?_⟩
  refine do_mu_new Tryz.underlying300 Tryz.underlying5 (heap_alloc_new w _) (by rfl) (by rfl) fun w1 h1 g1 => ?_
  refine do_mu_new Tryz.underlying300 Tryz.underlying5 h1 (by rfl) (by rfl) fun w2 h2 g2 => ?_
  refine do_mu_new Tryz.underlying300 Tryz.underlying5 h2 (by rfl) (by rfl) fun w3 h3 g3 => ?_
  refine do_mu_new Tryz.underlying300 Tryz.underlying5 h3 (by rfl) (by rfl) fun w4 h4 g4 => ?_
  refine do_mu_new Tryz.underlying300 Tryz.underlying5 h4 (by rfl) (by rfl) fun w5 h5 g5 => ?_
  refine do_mu_new Tryz.underlying300 Tryz.underlying5 h5 (by rfl) (by rfl) fun w6 h6 g6 => ?_
  refine do_mu_new Tryz.underlying300 Tryz.underlying5 h6 (by rfl) (by rfl) fun w7 h7 g7 => ?_
  have e := ext_alloc w (.map #[] 0)
  exact h _ _ (((((((e.st g1 (Nat.le_refl _)).st g2 (Nat.le_refl _)).st g3 (Nat.le_refl _)).st g4 (Nat.le_refl _)).st g5 (Nat.le_refl _)).st g6 (Nat.le_refl _)).st g7 (Nat.le_refl _)) h7
theorem find_order {o : Int} (h : isO o = true) : ∃ i f g, Instr.findNow (.int .u8) (.int .u8 o) orderEs.toList 0 = some (some (i, kd (nameB o) f g)) ∧
    ∀ (k : Int), In k → ∀ (w : World) (R : Ending → World → Prop), (∀ w', Ext w w' → R (.returned (.int .u64 (codeI o k))) w') → doCall Tryz.prog (.func (.func f) #[] #[]) #[.int .i64 k] w R := by
  rcases isO_cases h with rfl | rfl | rfl | rfl | rfl | rfl | rfl
  · exact ⟨0, 280, 281, rfl, fun k hk w R h => do_call Tryz.call280 (c_up hk (h _ (ext_refl _)))⟩
  · refine ⟨1, 282, 283, rfl, fun k hk w R h => do_call Tryz.call282 (sh282_ok _ ?_)⟩
    unfold sh282
    refine do_call Tryz.call280 (c_up hk (retS_ret ⟨_, rfl, ?_⟩))
    rw [not_U (by unfold upI In at *; omega) (by unfold upI In at *; omega)]
    exact h _ (ext_refl _)
  · refine ⟨2, 284, 285, rfl, fun k hk w R h => do_call Tryz.call284 (sh284_ok _ ?_)⟩
    unfold sh284
    refine ⟨by omega, by omega, ?_⟩
    rw [size_U hk]
    exact h _ (ext_refl _)
  · refine ⟨3, 286, 288, rfl, fun k hk w R h => do_call Tryz.call286 (sh286_ok _ ?_)⟩
    unfold sh286
    rw [wrap_U]
    exact do_call Tryz.call287 (c_flip (retS_ret ⟨_, rfl, h _ (ext_refl _)⟩))
  · refine ⟨4, 289, 290, rfl, fun k hk w R h => do_call Tryz.call289 (sh289_ok _ ?_)⟩
    unfold sh289
    refine do_call Tryz.call280 (c_up hk (retS_ret ⟨_, rfl, ?_⟩))
    have hu := up_U hk
    rw [hu]
    refine do_call Tryz.call124 (c_turn (s := 63) (by omega) (by decide) (retS_ret ⟨_, rfl, ?_⟩))
    have := h _ (ext_refl _)
    have e : U ((BitVec.ofInt 64 (upI k)) <<< 63 ||| (BitVec.ofInt 64 (upI k)) >>> (64 - 63)) = codeI 5 k := by
      rw [rot_U _ (by omega) (by omega)]
      have hn : ((BitVec.ofInt 64 (upI k)).toNat : Int) = upI k := hu.symm
      simp only [codeI]
      simp
      unfold upI In at *
      split <;> omega
    rw [e]; exact this
  · refine ⟨5, 291, 292, rfl, fun k hk w R h => do_call Tryz.call291 (sh291_ok _ ?_)⟩
    unfold sh291
    refine do_call Tryz.call280 (c_up hk (retS_ret ⟨_, rfl, ?_⟩))
    have hu := up_U hk
    rw [hu]
    refine do_call Tryz.call124 (c_turn (s := 32) (by omega) (by decide) (retS_ret ⟨_, rfl, ?_⟩))
    have := h _ (ext_refl _)
    have e : U ((BitVec.ofInt 64 (upI k)) <<< 32 ||| (BitVec.ofInt 64 (upI k)) >>> (64 - 32)) = codeI 6 k := by
      rw [rot_U _ (by omega) (by omega)]
      have hn : ((BitVec.ofInt 64 (upI k)).toNat : Int) = upI k := hu.symm
      simp only [codeI]
      simp
      unfold upI In at *
      omega
    rw [e]; exact this
  · refine ⟨6, 293, 294, rfl, fun k hk w R h => do_call Tryz.call293 (sh293_ok _ ?_)⟩
    unfold sh293
    rw [wrap_U]
    exact do_call Tryz.call122 (c_mix fun w' e => retS_ret ⟨_, rfl, h _ e⟩)
theorem find_order_none {o : Int} (h : isO o = false) : Instr.findNow (.int .u8) (.int .u8 o) orderEs.toList 0 = some none := by
  have hn : ∀ i : Int, 1 ≤ i → i ≤ 7 → (o == i) = false := fun i h1 h2 => by
    simp [isO] at h
    simp; omega
  simp [orderEs, Instr.findNow, Instr.sameNow, hn]
theorem c_name {o : Int} {w : World} {R : Ending → World → Prop} (h : ∀ w', Ext w w' → R (.returned (.string (nameB o))) w') : Calls Tryz.prog 172 #[.int .u8 o] w R := by
  refine sh172_ok _ ?_
  unfold sh172
  refine do_call Tryz.call235 (c_okinds fun b w1 e1 hb => retS_ret ⟨_, rfl, ?_⟩)
  cases hm : isO o
  · refine do_lk1_miss Tryz.underlying300 Tryz.underlying5 hb (by rfl) (find_order_none hm) (z := .agg #[.string ⟨#[]⟩, .nilFunc, .nilFunc]) (by kernel_rfl) (.inr ⟨rfl, ?_⟩)
    have : nameB o = ⟨#[]⟩ := by
      simp [isO] at hm
      unfold nameB
      rw [if_neg (by omega), if_neg (by omega), if_neg (by omega), if_neg (by omega), if_neg (by omega), if_neg (by omega), if_neg (by omega)]
    exact this ▸ h _ e1
  · obtain ⟨i, f, g, hf, hc⟩ := find_order hm
    exact do_lk1_hit Tryz.underlying300 Tryz.underlying5 hb (by rfl) hf (.inl ⟨_, _, _, _, _, _, _, rfl, h _ e1⟩)
theorem c_code {o k : Int} (hk : In k) {w : World} {R : Ending → World → Prop} (h : ∀ w', Ext w w' → R (.returned (.tuple #[.int .u64 (cond (isO o) (codeI o k) 0), .int .i64 (cond (isO o) 0 2)])) w') :
    Calls Tryz.prog 215 #[.int .u8 o, .int .i64 k] w R := by
  refine sh215_ok _ _ ?_
  unfold sh215
  refine do_call Tryz.call235 (c_okinds fun b w1 e1 hb => retS_ret ⟨_, rfl, ?_⟩)
  cases hm : isO o <;> simp only [hm] at h
  · refine do_lk_miss Tryz.underlying300 Tryz.underlying5 hb (by rfl) (find_order_none hm) (z := .agg #[.string ⟨#[]⟩, .nilFunc, .nilFunc]) (by kernel_rfl) (.inr ⟨rfl, ⟨?_⟩⟩)
    refine do_st (blk_alloc w1 _ _) (i := 0) rfl (by simp) fun w2 h2 g2 => do_st h2 (i := 1) rfl (by simp) fun w3 h3 g3 => do_st h3 (i := 2) rfl (by simp) fun w4 h4 g4 => ?_
    exact h _ ((((e1.alloc _).st g2 e1.size).st g3 e1.size).st g4 e1.size)
  · obtain ⟨i, f, g, hf, hc⟩ := find_order hm
    refine do_lk_hit Tryz.underlying300 Tryz.underlying5 hb (by rfl) hf (.inl ⟨_, _, _, _, _, _, _, _, rfl, ⟨?_⟩⟩)
    refine do_st (blk_alloc w1 _ _) (i := 0) rfl (by simp) fun w2 h2 g2 => do_st h2 (i := 1) rfl (by simp) fun w3 h3 g3 => do_st h3 (i := 2) rfl (by simp) fun w4 h4 g4 => ?_
    have E4 := (((e1.alloc (.cells #[.string ⟨#[]⟩, .nilFunc, .nilFunc] 299)).st g2 e1.size).st g3 e1.size).st g4 e1.size
    exact ⟨_, _, _, h4.cell (i := 1) rfl rfl, hc k hk _ _ fun w5 e5 => retS_ret ⟨_, rfl, h _ (E4.trans e5)⟩⟩
theorem c_cmp64 {x y : Int} {w : World} {R : Ending → World → Prop} (h : R (.returned (.int .i64 (if x < y then -1 else if y < x then 1 else 0))) w) : Calls Tryz.prog 217 #[.int .u64 x, .int .u64 y] w R := by
  have nan : ∀ x : Int, ∀ {w : World} {R : Ending → World → Prop}, R (.returned (.bool false)) w → Calls Tryz.prog 264 #[.int .u64 x] w R := fun x w R h => sh264_ok _ (by
    unfold sh264
    rw [show (x != x) = false by simp]; exact h)
  refine sh217_ok _ _ ?_
  unfold sh217
  refine do_call Tryz.call264 (nan _ (retS_ret ⟨_, rfl, do_call Tryz.call264 (nan _ (retS_ret ⟨_, rfl, ifB_f rfl (ifB_f rfl ?_)⟩))⟩))
  refine ifB_intro (fun h1 => ?_) fun h1 => ifB_intro (fun h2 => ?_) fun h2 => ?_
  · rw [if_pos (of_decide_eq_true h1)] at h; exact h
  · rw [if_neg (of_decide_eq_false h1), if_pos (of_decide_eq_true h2)] at h; exact h
  · rw [if_neg (of_decide_eq_false h1), if_neg (of_decide_eq_false h2)] at h; exact h
theorem c_compare {o a b : Int} (ha : In a) (hb : In b) {w : World} {R : Ending → World → Prop} (h : ∀ w', Ext w w' → R (.returned (.int .i64 (cmpI o a b))) w') :
    Calls Tryz.prog 176 #[.int .u8 o, .int .i64 a, .int .i64 b] w R := by
  refine sh176_ok _ _ _ ?_
  unfold sh176
  refine do_call Tryz.call215 (c_code ha fun w1 e1 => retS_ret ⟨_, _, rfl, do_call Tryz.call215 (c_code hb fun w2 e2 => retS_ret ⟨_, _, rfl, ?_⟩)⟩)
  cases hm : isO o
  · refine ifB_t rfl ?_
    have : cmpI o a b = 0 := by simp [isO] at hm; unfold cmpI; rw [if_neg (by omega)]
    exact this ▸ h _ (e1.trans e2)
  · have : cmpI o a b = (if codeI o a < codeI o b then -1 else if codeI o b < codeI o a then 1 else 0) := by simp [isO] at hm; unfold cmpI; rw [if_pos hm]
    exact ifB_f rfl (do_call Tryz.call217 (c_cmp64 (retS_ret ⟨_, rfl, this ▸ h _ (e1.trans e2)⟩)))

/-! ### the reference -/
theorem c_ris {o : Int} {w : World} {R : Ending → World → Prop} (h : R (.returned (.bool (isO o))) w) : Calls Tryz.prog 16 #[.int .u8 o] w R := by
  refine sh16_ok _ ?_
  unfold sh16
  unfold isO at h
  refine ifB_intro (fun h1 => ?_) fun h1 => ?_
  · have h1 : 1 ≤ o := by simpa using h1
    simpa [h1] using h
  · have h1 : ¬ 1 ≤ o := by simpa using h1
    simpa [h1] using h
theorem c_rup {k : Int} (hk : In k) {w : World} {R : Ending → World → Prop} (h : R (.returned (.int .u64 (upI k))) w) : Calls Tryz.prog 208 #[.int .i64 k] w R := by
  refine sh208_ok _ ?_
  unfold sh208
  rw [upR_U hk]
  exact h
theorem c_rflip {x : BitVec 64} {w : World} {R : Ending → World → Prop} (h : R (.returned (.int .u64 (U (revB x)))) w) : Calls Tryz.prog 209 #[.int .u64 (U x)] w R := by
  refine sh209_ok _ ?_
  unfold sh209
  refine ⟨fun vs w' => ∃ (i : Nat) (a b : BitVec 64), vs = [.int .u64 (U a), .int .u64 (U b), .int .i64 i] ∧ i ≤ 64 ∧ FlipI x i a b ∧ w' = w, fun vs _ => 64 - (intOf (vs.getD 2 undef)).toNat,
    ⟨0, x, 0#64, rfl, by omega, flipI_init x, rfl⟩, ?_⟩
  rintro a b i j w3 ⟨m, a', b', hv, hm, hf, rfl⟩
  simp only [List.cons.injEq, Value.int.injEq, true_and, and_true] at hv
  obtain ⟨rfl, rfl, rfl⟩ := hv
  refine ifB_intro (fun h1 => ?_) fun h1 => ?_
  · have h1 : m < 64 := by have := of_decide_eq_true h1; omega
    refine ⟨by omega, by omega, ?_⟩
    rw [tdiv2_U, tmod2_U, mul2_U, add_U, wrap_succ h1 (by omega)]
    exact ⟨⟨m + 1, _, _, rfl, by omega, flipI_step h1 hf, rfl⟩, by simp [intOf]; omega⟩
  · have h1 : m = 64 := by have := of_decide_eq_false h1; omega
    subst h1
    rw [rev_eq (flipI_rev hf) (revB_rev x)]
    exact h
theorem c_rturn {x : Nat} (hx : x < 18446744073709551616) {w : World} {R : Ending → World → Prop} (h : R (.returned (.int .u64 ((x % 4294967296 * 4294967296 + x / 4294967296 : Nat) : Int))) w) : Calls Tryz.prog 132 #[.int .u64 (x : Int), .int .i64 32] w R := by
  refine sh132_ok _ _ ?_
  unfold sh132
  rw [← turnY_64 hx] at h
  refine ⟨by omega, by omega, fun vs w' => ∃ i : Nat, vs = [.int .u64 ((turnY x i : Nat) : Int), .int .i64 i] ∧ i ≤ 64 ∧ w' = w, fun vs _ => 64 - (intOf (vs.getD 1 undef)).toNat,
    ⟨0, by simp [turnY, Nat.mod_one], by omega, rfl⟩, ?_⟩
  rintro y i j w3 ⟨m, hv, hm, rfl⟩
  simp only [List.cons.injEq, Value.int.injEq, true_and, and_true] at hv
  obtain ⟨rfl, rfl⟩ := hv
  refine ifB_intro (fun h1 => ?_) fun h1 => ?_
  · have h1 : m < 64 := by have := of_decide_eq_true h1; omega
    have e1 : Int.tmod (IntKind.wrap .i64 (Int.tmod 32 64 + 64)) 64 = 32 := by decide
    have e2 : IntKind.wrap .i64 ((m : Int) + 32) = ((m + 32 : Nat) : Int) := by rw [wrap_of (by omega) (by omega)]; simp
    have e3 : IntKind.wrap .u64 (Int.tmod ((m + 32 : Nat) : Int) 64) = (((m + 32) % 64 : Nat) : Int) := by
      rw [wrap64u, Int.tmod_eq_emod_of_nonneg (by omega)]; omega
    have e4 : IntKind.wrap .u64 (m : Int) = (m : Int) := by rw [wrap64u]; omega
    rw [e1, e2, e3, e4, wrap_succ h1 (by omega)]
    refine ⟨by omega, by omega, by omega, by omega, ?_⟩
    have e5 : Int.fdiv (x : Int) (2 ^ (min ((m : Nat) : Int).toNat (IntKind.bits .u64))) = ((x / 2 ^ m : Nat) : Int) := by
      rw [bits_u64, Int.toNat_natCast, Nat.min_eq_left (by omega), Int.fdiv_eq_ediv_of_nonneg _ (Int.pow_nonneg (by omega))]
      simp
    have e6 : Int.tmod ((x / 2 ^ m : Nat) : Int) 2 = ((x / 2 ^ m % 2 : Nat) : Int) := by
      generalize x / 2 ^ m = q
      rw [Int.tmod_eq_emod_of_nonneg (by omega)]; omega
    have hlt : x / 2 ^ m % 2 * 2 ^ ((m + 32) % 64) < 18446744073709551616 := by
      have h2 : x / 2 ^ m % 2 ≤ 1 := by omega
      have h3 : 2 ^ ((m + 32) % 64) ≤ 2 ^ 63 := Nat.pow_le_pow_right (by omega) (by omega)
      have := Nat.mul_le_mul h2 h3
      omega
    have e7 : IntKind.wrap .u64 (((x / 2 ^ m % 2 : Nat) : Int) * 2 ^ (min (((m + 32) % 64 : Nat) : Int).toNat (IntKind.bits .u64))) = ((x / 2 ^ m % 2 * 2 ^ ((m + 32) % 64) : Nat) : Int) := by
      rw [bits_u64, Int.toNat_natCast, Nat.min_eq_left (by omega), wrap64u]
      have : (((x / 2 ^ m % 2 : Nat) : Int) * 2 ^ ((m + 32) % 64)) = ((x / 2 ^ m % 2 * 2 ^ ((m + 32) % 64) : Nat) : Int) := by simp
      rw [this]
      generalize x / 2 ^ m % 2 * 2 ^ ((m + 32) % 64) = q at hlt ⊢
      omega
    have e8 : IntKind.wrap .u64 (((turnY x m : Nat) : Int) + ((x / 2 ^ m % 2 * 2 ^ ((m + 32) % 64) : Nat) : Int)) = ((turnY x (m + 1) : Nat) : Int) := by
      have h2 := turnY_step (x := x) h1
      have h3 := turnY_lt hx (show m + 1 ≤ 64 by omega)
      rw [h2] at h3 ⊢
      rw [wrap64u]
      generalize x / 2 ^ m % 2 * 2 ^ ((m + 32) % 64) = q at h3 ⊢
      omega
    rw [e5, e6, e7, e8]
    exact ⟨⟨m + 1, rfl, by omega, rfl⟩, by simp [intOf]; omega⟩
  · have h1 : m = 64 := by have := of_decide_eq_false h1; omega
    subst h1
    exact h
theorem c_rmix {x : BitVec 64} {w : World} {R : Ending → World → Prop} (h : R (.returned (.int .u64 (U (mixB x)))) w) : Calls Tryz.prog 131 #[.int .u64 (U x)] w R := by
  refine sh131_ok _ ?_
  unfold sh131
  refine ⟨by omega, by omega, by omega, ?_⟩
  have d1 : ∀ x : BitVec 64, IntKind.wrap .u64 (Int.tdiv (U x) 1073741824) = U (x >>> 30) := fun x => tdiv_U x 30
  have d2 : ∀ x : BitVec 64, IntKind.wrap .u64 (Int.tdiv (U x) 134217728) = U (x >>> 27) := fun x => tdiv_U x 27
  have d3 : ∀ x : BitVec 64, IntKind.wrap .u64 (Int.tdiv (U x) 2147483648) = U (x >>> 31) := fun x => tdiv_U x 31
  have m1 : ∀ x : BitVec 64, IntKind.wrap .u64 (U x * 13787848793156543929) = U (x * 13787848793156543929#64) := fun x => mul_U x 13787848793156543929#64
  have m2 : ∀ x : BitVec 64, IntKind.wrap .u64 (U x * 10723151780598845931) = U (x * 10723151780598845931#64) := fun x => mul_U x 10723151780598845931#64
  simp only [d1, bXor_U, m1, d2, m2, d3]
  exact h
theorem c_rcode {o k : Int} (ho : isO o = true) (hk : In k) {w : World} {R : Ending → World → Prop} (h : R (.returned (.int .u64 (codeI o k))) w) : Calls Tryz.prog 150 #[.int .u8 o, .int .i64 k] w R := by
  refine sh150_ok _ _ ?_
  unfold sh150
  have hr := codeI_rng (o := o) hk
  rcases isO_cases ho with rfl | rfl | rfl | rfl | rfl | rfl | rfl
  · exact ifB_t rfl (do_call Tryz.call208 (c_rup hk (retS_ret ⟨_, rfl, h⟩)))
  · refine ifB_f rfl (ifB_t rfl (do_call Tryz.call208 (c_rup hk (retS_ret ⟨_, rfl, ?_⟩))))
    rw [wrap64u, Int.emod_eq_of_lt (by unfold upI In at *; omega) (by unfold upI In at *; omega)]
    exact h
  · refine ifB_f rfl (ifB_f rfl (ifB_t rfl (ifB_intro (fun h1 => ?_) fun h1 => ?_)))
    · have h1 := of_decide_eq_true h1
      have e : IntKind.wrap .u64 (IntKind.wrap .u64 (IntKind.wrap .u64 (IntKind.wrap .i64 (0 - IntKind.wrap .i64 (k + 1))) * 2) + 1) = codeI 3 k := by
        unfold In at hk
        rw [wrap_of (x := k + 1) (by omega) (by omega), wrap_of (by omega) (by omega), wrap64u, wrap64u, wrap64u]
        simp only [codeI]; simp [h1]; omega
      rw [e]; exact h
    · have h1 := of_decide_eq_false h1
      have e : IntKind.wrap .u64 (IntKind.wrap .u64 k * 2) = codeI 3 k := by
        unfold In at hk
        rw [wrap64u, wrap64u]
        simp only [codeI]; simp [h1]; omega
      rw [e]; exact h
  · refine ifB_f rfl (ifB_f rfl (ifB_f rfl (ifB_t rfl ?_)))
    rw [wrap_U]
    exact do_call Tryz.call209 (c_rflip (retS_ret ⟨_, rfl, h⟩))
  · refine ifB_f rfl (ifB_f rfl (ifB_f rfl (ifB_f rfl (ifB_t rfl (do_call Tryz.call208 (c_rup hk (retS_ret ⟨_, rfl, by omega, by omega, ?_⟩)))))))
    have ht : Int.tdiv (upI k) 2 = upI k / 2 := Int.tdiv_eq_ediv_of_nonneg (by unfold upI In at *; omega)
    have hm : Int.tmod (IntKind.wrap .u64 k) 2 = k % 2 := by
      rw [wrap64u, Int.tmod_eq_emod_of_nonneg (by omega)]; omega
    rw [hm, ht]
    refine ifB_intro (fun h1 => ?_) fun h1 => ?_
    · have h1 : k % 2 = 1 := by simpa using h1
      have e : IntKind.wrap .u64 (IntKind.wrap .u64 (upI k / 2) + 9223372036854775808) = codeI 5 k := by
        unfold In at hk
        rw [wrap64u, wrap64u]
        simp only [codeI]; simp [h1]; unfold upI; omega
      rw [e]; exact h
    · have h1 : ¬ k % 2 = 1 := by simpa using h1
      have e : IntKind.wrap .u64 (upI k / 2) = codeI 5 k := by
        unfold In at hk
        rw [wrap64u]
        simp only [codeI]; simp [h1]; unfold upI; omega
      rw [e]; exact h
  · refine ifB_f rfl (ifB_f rfl (ifB_f rfl (ifB_f rfl (ifB_f rfl (ifB_t rfl (do_call Tryz.call208 (c_rup hk (retS_ret ⟨_, rfl, ?_⟩))))))))
    obtain ⟨x, hx⟩ : ∃ x : Nat, upI k = (x : Int) := ⟨(upI k).toNat, by unfold upI In at *; omega⟩
    rw [hx]
    refine do_call Tryz.call132 (c_rturn (by unfold upI In at *; omega) (retS_ret ⟨_, rfl, ?_⟩))
    have e : ((x % 4294967296 * 4294967296 + x / 4294967296 : Nat) : Int) = codeI 6 k := by
      simp only [codeI]; simp; rw [hx]
    rw [e]; exact h
  · refine ifB_f rfl (ifB_f rfl (ifB_f rfl (ifB_f rfl (ifB_f rfl (ifB_f rfl ?_)))))
    rw [wrap_U]
    exact do_call Tryz.call131 (c_rmix (retS_ret ⟨_, rfl, h⟩))
theorem c_rcompare {o a b : Int} (ha : In a) (hb : In b) {w : World} {R : Ending → World → Prop} (h : R (.returned (.int .i64 (cmpI o a b))) w) :
    Calls Tryz.prog 79 #[.int .u8 o, .int .i64 a, .int .i64 b] w R := by
  refine sh79_ok _ _ _ ?_
  unfold sh79
  refine do_call Tryz.call16 (c_ris (retS_ret ⟨_, rfl, ?_⟩))
  cases hm : isO o
  · refine ifB_t rfl ?_
    have : cmpI o a b = 0 := by simp [isO] at hm; unfold cmpI; rw [if_neg (by omega)]
    exact this ▸ h
  · have hc : cmpI o a b = (if codeI o a < codeI o b then -1 else if codeI o b < codeI o a then 1 else 0) := by simp [isO] at hm; unfold cmpI; rw [if_pos hm]
    refine ifB_f rfl (do_call Tryz.call150 (c_rcode hm ha (retS_ret ⟨_, rfl, do_call Tryz.call150 (c_rcode hm hb (retS_ret ⟨_, rfl, ?_⟩))⟩)))
    refine ifB_intro (fun h1 => ?_) fun h1 => ?_
    · have h1 : codeI o a = codeI o b := by simpa using h1
      rw [hc, if_neg (by omega), if_neg (by omega)] at h; exact h
    · have h1 : ¬ codeI o a = codeI o b := by simpa using h1
      refine do_call Tryz.call150 (c_rcode hm ha (retS_ret ⟨_, rfl, do_call Tryz.call150 (c_rcode hm hb (retS_ret ⟨_, rfl, ?_⟩))⟩))
      refine ifB_intro (fun h2 => ?_) fun h2 => ?_
      · rw [hc, if_pos (of_decide_eq_true h2)] at h; exact h
      · have h2 := of_decide_eq_false h2
        rw [hc, if_neg h2, if_pos (by omega)] at h; exact h
theorem c_rless {o a b : Int} (ha : In a) (hb : In b) {w : World} {R : Ending → World → Prop} (h : R (.returned (.bool (decide (cmpI o a b < 0)))) w) :
    Calls Tryz.prog 100 #[.int .u8 o, .int .i64 a, .int .i64 b] w R := by
  refine sh100_ok _ _ _ ?_
  unfold sh100
  exact do_call Tryz.call79 (c_rcompare ha hb (retS_ret ⟨_, rfl, h⟩))
end Go.Proofs.YtlddfgfmkapoiaaGreat

