/-
  Printed by a program (gen.py): what the functions of the program do, as formulas; each with the proof that its call is what the formula says.
-/
import Derived.Test.YtffbkhebekkhlaaCd
import Derived.Test.YtffbkhebekkhlaaProg
namespace Go.Proofs.Ytffbkhebekkhlaa
open Go Go.Sh
theorem follows_mixed : Try.prog.follows .mixedOrders = true := by kernel_rfl
/-- joinery/joinerylaw03.FoldParts -/
def sh3 (p_1 : Int) (l_p2 : Option Addr) (l_n3 : Nat) (l_c4 : Nat) (at_5 : Int) (then_6 : Int) (R : Ending → World → Prop) (w : World) : Prop :=
 3 ≠ (0 : Int) ∧ (
 let K9 : Bool → World → Prop := fun (x7 : Bool) (w8 : World) => 
 ifB x7 (
 doCall Try.prog (.func (.func 6) #[] #[]) #[] w8 (retS (fun v11 w12 => ∃ (x10 : Bool), v11 = (.bool x10 : Value) ∧ (
 R (.returned (.bool x10)) w12)) (fun ch w => Kfn R ch [] w))) (
 (IntKind.wrap .i64 (((l_n3 : Nat) : Int) - 2)) ≠ (0 : Int) ∧ (
 (IntKind.wrap .i64 ((IntKind.wrap .i64 (((l_n3 : Nat) : Int) - (IntKind.wrap .i64 (1 + (Int.tmod (IntKind.wrap .i64 at_5) (IntKind.wrap .i64 (((l_n3 : Nat) : Int) - 2))))))) - 1)) ≠ (0 : Int) ∧ (
 doSl l_p2 l_c4 1 (0) (IntKind.wrap .i64 (1 + (Int.tmod (IntKind.wrap .i64 at_5) (IntKind.wrap .i64 (((l_n3 : Nat) : Int) - 2))))) (fun p13 n14 c15 =>
 doCall Try.prog (.func (.func 7) #[] #[]) #[.int .u8 (IntKind.wrap .u8 (1 + (Int.tmod p_1 3))), .slice p13 n14 c15] w8 (retS (fun v18 w19 => ∃ (x16 : Int), ∃ (x17 : Int), v18 = (.tuple #[.int .i64 x16, .int .i64 x17] : Value) ∧ (
 doSl l_p2 l_c4 1 (IntKind.wrap .i64 (1 + (Int.tmod (IntKind.wrap .i64 at_5) (IntKind.wrap .i64 (((l_n3 : Nat) : Int) - 2))))) (IntKind.wrap .i64 ((IntKind.wrap .i64 ((IntKind.wrap .i64 (1 + (Int.tmod (IntKind.wrap .i64 at_5) (IntKind.wrap .i64 (((l_n3 : Nat) : Int) - 2))))) + 1)) + (Int.tmod (IntKind.wrap .i64 then_6) (IntKind.wrap .i64 ((IntKind.wrap .i64 (((l_n3 : Nat) : Int) - (IntKind.wrap .i64 (1 + (Int.tmod (IntKind.wrap .i64 at_5) (IntKind.wrap .i64 (((l_n3 : Nat) : Int) - 2))))))) - 1))))) (fun p20 n21 c22 =>
 doCall Try.prog (.func (.func 7) #[] #[]) #[.int .u8 (IntKind.wrap .u8 (1 + (Int.tmod p_1 3))), .slice p20 n21 c22] w19 (retS (fun v25 w26 => ∃ (x23 : Int), ∃ (x24 : Int), v25 = (.tuple #[.int .i64 x23, .int .i64 x24] : Value) ∧ (
 doSl l_p2 l_c4 1 (IntKind.wrap .i64 ((IntKind.wrap .i64 ((IntKind.wrap .i64 (1 + (Int.tmod (IntKind.wrap .i64 at_5) (IntKind.wrap .i64 (((l_n3 : Nat) : Int) - 2))))) + 1)) + (Int.tmod (IntKind.wrap .i64 then_6) (IntKind.wrap .i64 ((IntKind.wrap .i64 (((l_n3 : Nat) : Int) - (IntKind.wrap .i64 (1 + (Int.tmod (IntKind.wrap .i64 at_5) (IntKind.wrap .i64 (((l_n3 : Nat) : Int) - 2))))))) - 1))))) (((l_n3 : Nat) : Int)) (fun p27 n28 c29 =>
 doCall Try.prog (.func (.func 7) #[] #[]) #[.int .u8 (IntKind.wrap .u8 (1 + (Int.tmod p_1 3))), .slice p27 n28 c29] w26 (retS (fun v32 w33 => ∃ (x30 : Int), ∃ (x31 : Int), v32 = (.tuple #[.int .i64 x30, .int .i64 x31] : Value) ∧ (
 doCall Try.prog (.func (.func 7) #[] #[]) #[.int .u8 (IntKind.wrap .u8 (1 + (Int.tmod p_1 3))), .slice l_p2 l_n3 l_c4] w33 (retS (fun v36 w37 => ∃ (x34 : Int), ∃ (x35 : Int), v36 = (.tuple #[.int .i64 x34, .int .i64 x35] : Value) ∧ (
 let K40 : Bool → World → Prop := fun (x38 : Bool) (w39 : World) => 
 ifB x38 (
 R (.returned (.bool false)) w39) (
 doCall Try.prog (.func (.func 8) #[] #[]) #[.int .u8 (IntKind.wrap .u8 (1 + (Int.tmod p_1 3))), .int .i64 x16, .int .i64 x23] w39 (retS (fun v43 w44 => ∃ (x41 : Int), ∃ (x42 : Int), v43 = (.tuple #[.int .i64 x41, .int .i64 x42] : Value) ∧ (
 doCall Try.prog (.func (.func 8) #[] #[]) #[.int .u8 (IntKind.wrap .u8 (1 + (Int.tmod p_1 3))), .int .i64 x23, .int .i64 x30] w44 (retS (fun v47 w48 => ∃ (x45 : Int), ∃ (x46 : Int), v47 = (.tuple #[.int .i64 x45, .int .i64 x46] : Value) ∧ (
 doCall Try.prog (.func (.func 8) #[] #[]) #[.int .u8 (IntKind.wrap .u8 (1 + (Int.tmod p_1 3))), .int .i64 x41, .int .i64 x30] w48 (retS (fun v51 w52 => ∃ (x49 : Int), ∃ (x50 : Int), v51 = (.tuple #[.int .i64 x49, .int .i64 x50] : Value) ∧ (
 doCall Try.prog (.func (.func 8) #[] #[]) #[.int .u8 (IntKind.wrap .u8 (1 + (Int.tmod p_1 3))), .int .i64 x16, .int .i64 x45] w52 (retS (fun v55 w56 => ∃ (x53 : Int), ∃ (x54 : Int), v55 = (.tuple #[.int .i64 x53, .int .i64 x54] : Value) ∧ (
 let K59 : Bool → World → Prop := fun (x57 : Bool) (w58 : World) => 
 R (.returned (.bool x57)) w58
 doDr w56 (fun w60 =>
 ifB ((x49 : Int) == x34) (
 ifB ((x53 : Int) == x34) (
 doSl l_p2 l_c4 1 (0) (IntKind.wrap .i64 ((IntKind.wrap .i64 ((IntKind.wrap .i64 (1 + (Int.tmod (IntKind.wrap .i64 at_5) (IntKind.wrap .i64 (((l_n3 : Nat) : Int) - 2))))) + 1)) + (Int.tmod (IntKind.wrap .i64 then_6) (IntKind.wrap .i64 ((IntKind.wrap .i64 (((l_n3 : Nat) : Int) - (IntKind.wrap .i64 (1 + (Int.tmod (IntKind.wrap .i64 at_5) (IntKind.wrap .i64 (((l_n3 : Nat) : Int) - 2))))))) - 1))))) (fun p61 n62 c63 =>
 doSl l_p2 l_c4 1 (IntKind.wrap .i64 ((IntKind.wrap .i64 ((IntKind.wrap .i64 (1 + (Int.tmod (IntKind.wrap .i64 at_5) (IntKind.wrap .i64 (((l_n3 : Nat) : Int) - 2))))) + 1)) + (Int.tmod (IntKind.wrap .i64 then_6) (IntKind.wrap .i64 ((IntKind.wrap .i64 (((l_n3 : Nat) : Int) - (IntKind.wrap .i64 (1 + (Int.tmod (IntKind.wrap .i64 at_5) (IntKind.wrap .i64 (((l_n3 : Nat) : Int) - 2))))))) - 1))))) (((l_n3 : Nat) : Int)) (fun p64 n65 c66 =>
 doCall Try.prog (.func (.func 9) #[] #[]) #[.slice l_p2 l_n3 l_c4] w60 (retS (fun v68 w69 => ∃ (x67 : Int), v68 = (.int .i64 x67 : Value) ∧ (
 doCall Try.prog (.func (.func 9) #[] #[]) #[.slice p61 n62 c63] w69 (retS (fun v71 w72 => ∃ (x70 : Int), v71 = (.int .i64 x70 : Value) ∧ (
 doCall Try.prog (.func (.func 9) #[] #[]) #[.slice p64 n65 c66] w72 (retS (fun v74 w75 => ∃ (x73 : Int), v74 = (.int .i64 x73 : Value) ∧ (
 ifB ((x67 : Int) == (IntKind.wrap .i64 (x70 + x73))) (
 doCall Try.prog (.func (.func 6) #[] #[]) #[] w75 (retS (fun v77 w78 => ∃ (x76 : Bool), v77 = (.bool x76 : Value) ∧ (
 K59 x76 w78)) (fun ch w => Kfn R ch [] w))) (
 K59 false w75))) (fun ch w => Kfn R ch [] w)))) (fun ch w => Kfn R ch [] w)))) (fun ch w => Kfn R ch [] w))))) (
 K59 false w60)) (
 K59 false w60)))) (fun ch w => Kfn R ch [] w)))) (fun ch w => Kfn R ch [] w)))) (fun ch w => Kfn R ch [] w)))) (fun ch w => Kfn R ch [] w)))
 ifB ((x17 : Int) != 0) (
 K40 true w37) (
 ifB ((x24 : Int) != 0) (
 K40 true w37) (
 ifB ((x31 : Int) != 0) (
 K40 true w37) (
 K40 ((x35 : Int) != 0) w37))))) (fun ch w => Kfn R ch [] w)))) (fun ch w => Kfn R ch [] w))))) (fun ch w => Kfn R ch [] w))))) (fun ch w => Kfn R ch [] w))))))
 ifB (decide ((((l_n3 : Nat) : Int) : Int) > 300)) (
 K9 true w) (
 K9 (decide ((((l_n3 : Nat) : Int) : Int) < 3)) w))
theorem sh3_ok (p_1 : Int) (l_p2 : Option Addr) (l_n3 : Nat) (l_c4 : Nat) (at_5 : Int) (then_6 : Int) {R : Ending → World → Prop} {w : World} : sh3 p_1 l_p2 l_n3 l_c4 at_5 then_6 R w → Calls Try.prog 3 #[.int .u8 p_1, .slice l_p2 l_n3 l_c4, .int .u8 at_5, .int .u8 then_6] w R :=
  calls_of_eq (ann := fun _ => []) (fn := Try.f3) (c := bodyOf Try.f3) (args := #[.int .u8 p_1, .slice l_p2 l_n3 l_c4, .int .u8 at_5, .int .u8 then_6]) 400 follows_mixed Try.func3 (by kernel_rfl) (by kernel_rfl)
/-- joinery/joinerylaw03.FoldTurns -/
def sh4 (l_p1 : Option Addr) (l_n2 : Nat) (l_c3 : Nat) (i_4 : Int) (k_5 : Int) (v_6 : Int) (R : Ending → World → Prop) (w : World) : Prop :=
 let K9 : Bool → World → Prop := fun (x7 : Bool) (w8 : World) => 
 ifB x7 (
 doCall Try.prog (.func (.func 6) #[] #[]) #[] w8 (retS (fun v11 w12 => ∃ (x10 : Bool), v11 = (.bool x10 : Value) ∧ (
 R (.returned (.bool x10)) w12)) (fun ch w => Kfn R ch [] w))) (
 doCall Try.prog (.func (.func 10) #[] #[]) #[.slice l_p1 l_n2 l_c3] w8 (retS (fun v16 w17 => ∃ (xp13 : Option Addr), ∃ (xn14 : Nat), ∃ (xc15 : Nat), v16 = (.slice xp13 xn14 xc15 : Value) ∧ (
 doCall Try.prog (.func (.func 10) #[] #[]) #[.slice l_p1 l_n2 l_c3] w17 (retS (fun v21 w22 => ∃ (xp18 : Option Addr), ∃ (xn19 : Nat), ∃ (xc20 : Nat), v21 = (.slice xp18 xn19 xc20 : Value) ∧ (
 doDr w22 (fun w23 =>
 ((l_n2 : Nat) : Int) ≠ (0 : Int) ∧ (
 ((l_n2 : Nat) : Int) ≠ (0 : Int) ∧ (
 doDr w23 (fun w25 =>
 ∃ (C24 : World → Prop), C24 w25 ∧ (
 doIx xp13 xn14 1 (Int.tmod (IntKind.wrap .i64 k_5) ((l_n2 : Nat) : Int)) (fun a26 =>
 ∃ (x27 : Int), (∀ w, C24 w → World.cell? w a26 = some (.int .i64 x27)) ∧ (
 doIx xp13 xn14 1 (Int.tmod (IntKind.wrap .i64 i_4) ((l_n2 : Nat) : Int)) (fun a28 =>
 ∃ (x29 : Int), (∀ w, C24 w → World.cell? w a28 = some (.int .i64 x29)) ∧ (
 doIx xp13 xn14 1 (Int.tmod (IntKind.wrap .i64 i_4) ((l_n2 : Nat) : Int)) (fun a30 =>
 doSt (a30.add 0) (.int .i64 x27) w25 (fun w31 =>
 doIx xp13 xn14 1 (Int.tmod (IntKind.wrap .i64 k_5) ((l_n2 : Nat) : Int)) (fun a32 =>
 doSt (a32.add 0) (.int .i64 x29) w31 (fun w33 =>
 doCall Try.prog (.func (.func 7) #[] #[]) #[.int .u8 3, .slice l_p1 l_n2 l_c3] w33 (retS (fun v36 w37 => ∃ (x34 : Int), ∃ (x35 : Int), v36 = (.tuple #[.int .i64 x34, .int .i64 x35] : Value) ∧ (
 doCall Try.prog (.func (.func 7) #[] #[]) #[.int .u8 3, .slice xp13 xn14 xc15] w37 (retS (fun v40 w41 => ∃ (x38 : Int), ∃ (x39 : Int), v40 = (.tuple #[.int .i64 x38, .int .i64 x39] : Value) ∧ (
 let K44 : Bool → World → Prop := fun (x42 : Bool) (w43 : World) => 
 ifB x42 (
 R (.returned (.bool false)) w43) (
 doIx xp18 xn19 1 (IntKind.wrap .i64 (((xn19 : Nat) : Int) - 1)) (fun a45 =>
 doSt (a45.add 0) (.int .i64 v_6) w43 (fun w46 =>
 doCall Try.prog (.func (.func 7) #[] #[]) #[.int .u8 1, .slice l_p1 l_n2 l_c3] w46 (retS (fun v49 w50 => ∃ (x47 : Int), ∃ (x48 : Int), v49 = (.tuple #[.int .i64 x47, .int .i64 x48] : Value) ∧ (
 doCall Try.prog (.func (.func 7) #[] #[]) #[.int .u8 1, .slice xp18 xn19 xc20] w50 (retS (fun v53 w54 => ∃ (x51 : Int), ∃ (x52 : Int), v53 = (.tuple #[.int .i64 x51, .int .i64 x52] : Value) ∧ (
 ifB ((x47 : Int) != x51) (
 R (.returned (.bool false)) w54) (
 doCall Try.prog (.func (.func 10) #[] #[]) #[.slice l_p1 l_n2 l_c3] w54 (retS (fun v58 w59 => ∃ (xp55 : Option Addr), ∃ (xn56 : Nat), ∃ (xc57 : Nat), v58 = (.slice xp55 xn56 xc57 : Value) ∧ (
 doIx xp55 xn56 1 (0) (fun a60 =>
 doSt (a60.add 0) (.int .i64 v_6) w59 (fun w61 =>
 doCall Try.prog (.func (.func 7) #[] #[]) #[.int .u8 2, .slice l_p1 l_n2 l_c3] w61 (retS (fun v64 w65 => ∃ (x62 : Int), ∃ (x63 : Int), v64 = (.tuple #[.int .i64 x62, .int .i64 x63] : Value) ∧ (
 doCall Try.prog (.func (.func 7) #[] #[]) #[.int .u8 2, .slice xp55 xn56 xc57] w65 (retS (fun v68 w69 => ∃ (x66 : Int), ∃ (x67 : Int), v68 = (.tuple #[.int .i64 x66, .int .i64 x67] : Value) ∧ (
 doCall Try.prog (.func (.func 11) #[] #[]) #[.slice l_p1 l_n2 l_c3] w69 (retS (fun v73 w74 => ∃ (xp70 : Option Addr), ∃ (xn71 : Nat), ∃ (xc72 : Nat), v73 = (.slice xp70 xn71 xc72 : Value) ∧ (
 let K77 : Bool → World → Prop := fun (x75 : Bool) (w76 : World) => 
 ifB x75 (
 R (.returned (.bool false)) w76) (
 ∃ (I78 : List Value → World → Prop) (μ79 : List Value → World → Nat), I78 [.int .i64 1] w76 ∧ (∀ (n_82 : Int), ∀ (_j80 : Nat → Value) (w81 : World), I78 [.int .i64 n_82] w81 → (
 ifB (decide ((n_82 : Int) < ((l_n2 : Nat) : Int))) (
 doDr w81 (fun w84 =>
 ∃ (C83 : World → Prop), C83 w84 ∧ (
 doIx xp70 xn71 1 (n_82) (fun a85 =>
 ∃ (x86 : Int), (∀ w, C83 w → World.cell? w a85 = some (.int .i64 x86)) ∧ (
 doIx xp70 xn71 1 (IntKind.wrap .i64 (n_82 - 1)) (fun a87 =>
 ∃ (x88 : Int), (∀ w, C83 w → World.cell? w a87 = some (.int .i64 x88)) ∧ (
 doIx l_p1 l_n2 1 (n_82) (fun a89 =>
 ∃ (x90 : Int), (∀ w, C83 w → World.cell? w a89 = some (.int .i64 x90)) ∧ (
 ifB (((IntKind.wrap .i64 (x86 - x88)) : Int) != x90) (
 R (.returned (.bool false)) w84) (
 I78 [.int .i64 (IntKind.wrap .i64 (n_82 + 1))] w84 ∧ μ79 [.int .i64 (IntKind.wrap .i64 (n_82 + 1))] w84 < μ79 [.int .i64 n_82] w81)))))))))) (
 doCall Try.prog (.func (.func 6) #[] #[]) #[] w81 (retS (fun v92 w93 => ∃ (x91 : Bool), v92 = (.bool x91 : Value) ∧ (
 R (.returned (.bool x91)) w93)) (fun ch w => Kfn R ch [] w))))))
 doDr w74 (fun w95 =>
 ∃ (C94 : World → Prop), C94 w95 ∧ (
 ifB ((x62 : Int) != x66) (
 K77 true w95) (
 ifB ((((xn71 : Nat) : Int) : Int) != ((l_n2 : Nat) : Int)) (
 K77 true w95) (
 doIx xp70 xn71 1 (0) (fun a96 =>
 ∃ (x97 : Int), (∀ w, C94 w → World.cell? w a96 = some (.int .i64 x97)) ∧ (
 doIx l_p1 l_n2 1 (0) (fun a98 =>
 ∃ (x99 : Int), (∀ w, C94 w → World.cell? w a98 = some (.int .i64 x99)) ∧ (
 K77 ((x97 : Int) != x99) w95)))))))))) (fun ch w => Kfn R ch [] w)))) (fun ch w => Kfn R ch [] w)))) (fun ch w => Kfn R ch [] w)))))) (fun ch w => Kfn R ch [] w))))) (fun ch w => Kfn R ch [] w)))) (fun ch w => Kfn R ch [] w)))))
 ifB ((x34 : Int) != x38) (
 K44 true w41) (
 ifB ((x35 : Int) != 0) (
 K44 true w41) (
 ifB ((x39 : Int) != 0) (
 K44 true w41) (
 doCall Try.prog (.func (.func 9) #[] #[]) #[.slice xp13 xn14 xc15] w41 (retS (fun v101 w102 => ∃ (x100 : Int), v101 = (.int .i64 x100 : Value) ∧ (
 K44 ((x34 : Int) != x100) w102)) (fun ch w => Kfn R ch [] w))))))) (fun ch w => Kfn R ch [] w)))) (fun ch w => Kfn R ch [] w))))))))))))))))) (fun ch w => Kfn R ch [] w)))) (fun ch w => Kfn R ch [] w)))
 ifB (decide ((((l_n2 : Nat) : Int) : Int) > 300)) (
 K9 true w) (
 K9 (decide ((((l_n2 : Nat) : Int) : Int) < 2)) w)
theorem sh4_ok (l_p1 : Option Addr) (l_n2 : Nat) (l_c3 : Nat) (i_4 : Int) (k_5 : Int) (v_6 : Int) {R : Ending → World → Prop} {w : World} : sh4 l_p1 l_n2 l_c3 i_4 k_5 v_6 R w → Calls Try.prog 4 #[.slice l_p1 l_n2 l_c3, .int .u8 i_4, .int .u8 k_5, .int .i64 v_6] w R :=
  calls_of_eq (ann := fun i => if i = 0 then [(18, .int .i64 0)] else []) (fn := Try.f4) (c := bodyOf Try.f4) (args := #[.slice l_p1 l_n2 l_c3, .int .u8 i_4, .int .u8 k_5, .int .i64 v_6]) 400 follows_mixed Try.func4 (by kernel_rfl) (by kernel_rfl)
/-- joinery/joinerylaw03.FoldTells -/
def sh5 (p_1 : Int) (a_2 : Int) (b_3 : Int) (l_p4 : Option Addr) (l_n5 : Nat) (l_c6 : Nat) (R : Ending → World → Prop) (w : World) : Prop :=
 ifB (decide ((((l_n5 : Nat) : Int) : Int) > 300)) (
 doCall Try.prog (.func (.func 6) #[] #[]) #[] w (retS (fun v8 w9 => ∃ (x7 : Bool), v8 = (.bool x7 : Value) ∧ (
 R (.returned (.bool x7)) w9)) (fun ch w => Kfn R ch [] w))) (
 doCall Try.prog (.func (.func 8) #[] #[]) #[.int .u8 p_1, .int .i64 a_2, .int .i64 b_3] w (retS (fun v12 w13 => ∃ (x10 : Int), ∃ (x11 : Int), v12 = (.tuple #[.int .i64 x10, .int .i64 x11] : Value) ∧ (
 doCall Try.prog (.func (.func 10) #[] #[]) #[.slice l_p4 l_n5 l_c6] w13 (retS (fun v17 w18 => ∃ (xp14 : Option Addr), ∃ (xn15 : Nat), ∃ (xc16 : Nat), v17 = (.slice xp14 xn15 xc16 : Value) ∧ (
 doCall Try.prog (.func (.func 7) #[] #[]) #[.int .u8 p_1, .slice xp14 xn15 xc16] w18 (retS (fun v21 w22 => ∃ (x19 : Int), ∃ (x20 : Int), v21 = (.tuple #[.int .i64 x19, .int .i64 x20] : Value) ∧ (
 doCall Try.prog (.func (.func 12) #[] #[]) #[.int .u8 p_1, .slice l_p4 l_n5 l_c6] w22 (retS (fun v25 w26 => ∃ (x23 : Int), ∃ (x24 : Int), v25 = (.tuple #[.int .i64 x23, .int .i64 x24] : Value) ∧ (
 let K29 : Bool → World → Prop := fun (x27 : Bool) (w28 : World) => 
 ifB x27 (
 R (.returned (.bool false)) w28) (
 doCall Try.prog (.func (.func 14) #[] #[]) #[.int .u8 p_1] w28 (retS (fun v31 w32 => ∃ (x30 : Bool), v31 = (.bool x30 : Value) ∧ (
 ifB (!x30) (
 let K35 : Bool → World → Prop := fun (x33 : Bool) (w34 : World) => 
 R (.returned (.bool x33)) w34
 ifB ((x10 : Int) == 0) (
 ifB ((x11 : Int) == 2) (
 doCall Try.prog (.func (.func 6) #[] #[]) #[] w32 (retS (fun v37 w38 => ∃ (x36 : Bool), v37 = (.bool x36 : Value) ∧ (
 K35 x36 w38)) (fun ch w => Kfn R ch [] w))) (
 K35 false w32)) (
 K35 false w32)) (
 let K41 : Bool → World → Prop := fun (x39 : Bool) (w40 : World) => 
 R (.returned (.bool x39)) w40
 doCall Try.prog (.func (.func 18) #[] #[]) #[.int .u8 p_1, .int .i64 a_2, .int .i64 b_3] w32 (retS (fun v43 w44 => ∃ (x42 : Int), v43 = (.int .i64 x42 : Value) ∧ (
 ifB ((x10 : Int) == x42) (
 ifB ((x11 : Int) == 0) (
 doCall Try.prog (.func (.func 6) #[] #[]) #[] w44 (retS (fun v46 w47 => ∃ (x45 : Bool), v46 = (.bool x45 : Value) ∧ (
 K41 x45 w47)) (fun ch w => Kfn R ch [] w))) (
 K41 false w44)) (
 K41 false w44))) (fun ch w => Kfn R ch [] w))))) (fun ch w => Kfn R ch [] w)))
 doCall Try.prog (.func (.func 13) #[] #[]) #[.int .u8 p_1] w26 (retS (fun v49 w50 => ∃ (x48 : Bool), v49 = (.bool x48 : Value) ∧ (
 doCall Try.prog (.func (.func 14) #[] #[]) #[.int .u8 p_1] w50 (retS (fun v52 w53 => ∃ (x51 : Bool), v52 = (.bool x51 : Value) ∧ (
 ifB (!(x48 == x51)) (
 K29 true w53) (
 ifB ((x19 : Int) != x23) (
 K29 true w53) (
 ifB ((x20 : Int) != x24) (
 K29 true w53) (
 doCall Try.prog (.func (.func 9) #[] #[]) #[.slice l_p4 l_n5 l_c6] w53 (retS (fun v55 w56 => ∃ (x54 : Int), v55 = (.int .i64 x54 : Value) ∧ (
 doCall Try.prog (.func (.func 15) #[] #[]) #[.slice l_p4 l_n5 l_c6] w56 (retS (fun v58 w59 => ∃ (x57 : Int), v58 = (.int .i64 x57 : Value) ∧ (
 ifB ((x54 : Int) != x57) (
 K29 true w59) (
 doCall Try.prog (.func (.func 11) #[] #[]) #[.slice l_p4 l_n5 l_c6] w59 (retS (fun v63 w64 => ∃ (xp60 : Option Addr), ∃ (xn61 : Nat), ∃ (xc62 : Nat), v63 = (.slice xp60 xn61 xc62 : Value) ∧ (
 doCall Try.prog (.func (.func 17) #[] #[]) #[.slice l_p4 l_n5 l_c6] w64 (retS (fun v68 w69 => ∃ (xp65 : Option Addr), ∃ (xn66 : Nat), ∃ (xc67 : Nat), v68 = (.slice xp65 xn66 xc67 : Value) ∧ (
 doCall Try.prog (.func (.func 16) #[] #[]) #[.slice xp60 xn61 xc62, .slice xp65 xn66 xc67] w69 (retS (fun v71 w72 => ∃ (x70 : Bool), v71 = (.bool x70 : Value) ∧ (
 K29 (!x70) w72)) (fun ch w => Kfn R ch [] w)))) (fun ch w => Kfn R ch [] w)))) (fun ch w => Kfn R ch [] w))))) (fun ch w => Kfn R ch [] w)))) (fun ch w => Kfn R ch [] w))))))) (fun ch w => Kfn R ch [] w)))) (fun ch w => Kfn R ch [] w)))) (fun ch w => Kfn R ch [] w)))) (fun ch w => Kfn R ch [] w)))) (fun ch w => Kfn R ch [] w)))) (fun ch w => Kfn R ch [] w)))
theorem sh5_ok (p_1 : Int) (a_2 : Int) (b_3 : Int) (l_p4 : Option Addr) (l_n5 : Nat) (l_c6 : Nat) {R : Ending → World → Prop} {w : World} : sh5 p_1 a_2 b_3 l_p4 l_n5 l_c6 R w → Calls Try.prog 5 #[.int .u8 p_1, .int .i64 a_2, .int .i64 b_3, .slice l_p4 l_n5 l_c6] w R :=
  calls_of_eq (ann := fun _ => []) (fn := Try.f5) (c := bodyOf Try.f5) (args := #[.int .u8 p_1, .int .i64 a_2, .int .i64 b_3, .slice l_p4 l_n5 l_c6]) 400 follows_mixed Try.func5 (by kernel_rfl) (by kernel_rfl)
/-- joinery/joinerylaw03.alive -/
def sh6  (R : Ending → World → Prop) (w : World) : Prop :=
 doCall Try.prog (.func (.func 8) #[] #[]) #[.int .u8 1, .int .i64 1, .int .i64 2] w (retS (fun v3 w4 => ∃ (x1 : Int), ∃ (x2 : Int), v3 = (.tuple #[.int .i64 x1, .int .i64 x2] : Value) ∧ (
 doAl (.cells #[.int .i64 1, .int .i64 2, .int .i64 3] 2) w4 (fun b5 w6 =>
 doCall Try.prog (.func (.func 7) #[] #[]) #[.int .u8 3, .slice (some (blk b5)) 3 3] w6 (retS (fun v9 w10 => ∃ (x7 : Int), ∃ (x8 : Int), v9 = (.tuple #[.int .i64 x7, .int .i64 x8] : Value) ∧ (
 doAl (.cells #[.int .i64 1, .int .i64 2, .int .i64 3] 2) w10 (fun b11 w12 =>
 doCall Try.prog (.func (.func 7) #[] #[]) #[.int .u8 2, .slice (some (blk b11)) 3 3] w12 (retS (fun v15 w16 => ∃ (x13 : Int), ∃ (x14 : Int), v15 = (.tuple #[.int .i64 x13, .int .i64 x14] : Value) ∧ (
 doCall Try.prog (.func (.func 7) #[] #[]) #[.int .u8 3, .slice none 0 0] w16 (retS (fun v19 w20 => ∃ (x17 : Int), ∃ (x18 : Int), v19 = (.tuple #[.int .i64 x17, .int .i64 x18] : Value) ∧ (
 let K23 : Bool → World → Prop := fun (x21 : Bool) (w22 : World) => 
 R (.returned (.bool x21)) w22
 ifB ((x1 : Int) == 1) (
 ifB ((x2 : Int) == 0) (
 ifB ((x7 : Int) == 6) (
 ifB ((x8 : Int) == 0) (
 ifB ((x13 : Int) == 3) (
 ifB ((x14 : Int) == 0) (
 ifB ((x18 : Int) == 3) (
 doAl (.cells #[.int .i64 1, .int .i64 2, .int .i64 3] 2) w20 (fun b24 w25 =>
 doCall Try.prog (.func (.func 11) #[] #[]) #[.slice (some (blk b24)) 3 3] w25 (retS (fun v29 w30 => ∃ (xp26 : Option Addr), ∃ (xn27 : Nat), ∃ (xc28 : Nat), v29 = (.slice xp26 xn27 xc28 : Value) ∧ (
 doAl (.cells #[.int .i64 1, .int .i64 3, .int .i64 6] 2) w30 (fun b31 w32 =>
 doCall Try.prog (.func (.func 16) #[] #[]) #[.slice xp26 xn27 xc28, .slice (some (blk b31)) 3 3] w32 (retS (fun v34 w35 => ∃ (x33 : Bool), v34 = (.bool x33 : Value) ∧ (
 ifB x33 (
 doAl (.cells #[.int .i64 9223372036854775807, .int .i64 1] 2) w35 (fun b36 w37 =>
 doCall Try.prog (.func (.func 9) #[] #[]) #[.slice (some (blk b36)) 2 2] w37 (retS (fun v39 w40 => ∃ (x38 : Int), v39 = (.int .i64 x38 : Value) ∧ (
 K23 ((x38 : Int) == (-9223372036854775808)) w40)) (fun ch w => Kfn R ch [] w)))) (
 K23 false w35))) (fun ch w => Kfn R ch [] w))))) (fun ch w => Kfn R ch [] w)))) (
 K23 false w20)) (
 K23 false w20)) (
 K23 false w20)) (
 K23 false w20)) (
 K23 false w20)) (
 K23 false w20)) (
 K23 false w20))) (fun ch w => Kfn R ch [] w)))) (fun ch w => Kfn R ch [] w))))) (fun ch w => Kfn R ch [] w))))) (fun ch w => Kfn R ch [] w))
theorem sh6_ok  {R : Ending → World → Prop} {w : World} : sh6  R w → Calls Try.prog 6 #[] w R :=
  calls_of_eq (ann := fun _ => []) (fn := Try.f6) (c := bodyOf Try.f6) (args := #[]) 400 follows_mixed Try.func6 (by kernel_rfl) (by kernel_rfl)
/-- joinery/fold.Run -/
def sh7 (p_1 : Int) (l_p2 : Option Addr) (l_n3 : Nat) (l_c4 : Nat) (R : Ending → World → Prop) (w : World) : Prop :=
 let K8 : Addr → Bool → World → Prop := fun (k_5 : Addr) (is_6 : Bool) (w7 : World) => 
 ifB (!is_6) (
 R (.returned (.tuple #[.int .i64 0, .int .i64 2])) w7) (
 ifB ((((l_n3 : Nat) : Int) : Int) == 0) (
 R (.returned (.tuple #[.int .i64 0, .int .i64 3])) w7) (
 doIx l_p2 l_n3 1 (0) (fun a9 =>
 ∃ (x10 : Int), World.cell? w7 a9 = some (.int .i64 x10) ∧ (
 doSl l_p2 l_c4 1 (1) (((l_n3 : Nat) : Int)) (fun p11 n12 _c13 =>
 ∃ (I14 : List Value → World → Prop) (μ15 : List Value → World → Nat), I14 [.int .i64 x10, .int .i64 0] w7 ∧ (∀ (v_18 : Int), ∀ (x19 : Int), ∀ (_j16 : Nat → Value) (w17 : World), I14 [.int .i64 v_18, .int .i64 x19] w17 → (
 ifB (decide ((x19 : Int) < ((n12 : Nat) : Int))) (
 doIx p11 n12 1 (x19) (fun a20 =>
 ∃ (x21 : Int), World.cell? w17 a20 = some (.int .i64 x21) ∧ (
 ∃ (xf22 : Fn), ∃ (xx23 : Array Value), ∃ (xc24 : Array Value), World.cell? w17 (k_5.add 0) = some (.func xf22 xx23 xc24) ∧ (
 doCall Try.prog (.func xf22 xx23 xc24) #[.int .i64 v_18, .int .i64 x21] w17 (retS (fun v26 w27 => ∃ (x25 : Int), v26 = (.int .i64 x25 : Value) ∧ (
 I14 [.int .i64 x25, .int .i64 (IntKind.wrap .i64 (x19 + 1))] w27 ∧ μ15 [.int .i64 x25, .int .i64 (IntKind.wrap .i64 (x19 + 1))] w27 < μ15 [.int .i64 v_18, .int .i64 x19] w17)) (fun ch w => Kfn R ch [] w)))))) (
 R (.returned (.tuple #[.int .i64 v_18, .int .i64 0])) w17))))))))
 doCall Try.prog (.func (.func 19) #[] #[]) #[] w (retS (fun v29 w30 => ∃ (x28 : Option Nat), v29 = (.map x28 : Value) ∧ (
 doLk Try.prog 43 (.map x28) (.int .u8 p_1) true w30 (fun v35 => (∃ (xf31 : Fn), ∃ (xx32 : Array Value), ∃ (xc33 : Array Value), ∃ (x34 : Bool), v35 = (.tuple #[.agg #[.func xf31 xx32 xc33], .bool x34] : Value) ∧ (
 doAl (.cells #[.nilFunc] 41) w30 (fun b36 w37 =>
 doSt ((blk b36).add 0) (.func xf31 xx32 xc33) w37 (fun w38 =>
 K8 (blk b36) x34 w38)))) ∨ (v35 = (.tuple #[.agg #[.nilFunc], .bool false] : Value) ∧ (
 doAl (.cells #[.nilFunc] 41) w30 (fun b39 w40 =>
 doSt ((blk b39).add 0) (.nilFunc) w40 (fun w41 =>
 K8 (blk b39) false w41))))))) (fun ch w => Kfn R ch [] w))
theorem sh7_ok (p_1 : Int) (l_p2 : Option Addr) (l_n3 : Nat) (l_c4 : Nat) {R : Ending → World → Prop} {w : World} : sh7 p_1 l_p2 l_n3 l_c4 R w → Calls Try.prog 7 #[.int .u8 p_1, .slice l_p2 l_n3 l_c4] w R :=
  calls_of_eq (ann := fun i => if i = 1 then [(4, .int .i64 0), (29, .int .i64 0)] else []) (fn := Try.f7) (c := bodyOf Try.f7) (args := #[.int .u8 p_1, .slice l_p2 l_n3 l_c4]) 400 follows_mixed Try.func7 (by kernel_rfl) (by kernel_rfl)
/-- joinery/fold.Combine -/
def sh8 (p_1 : Int) (a_2 : Int) (b_3 : Int) (R : Ending → World → Prop) (w : World) : Prop :=
 let K7 : Addr → Bool → World → Prop := fun (k_4 : Addr) (is_5 : Bool) (w6 : World) => 
 ifB (!is_5) (
 R (.returned (.tuple #[.int .i64 0, .int .i64 2])) w6) (
 ∃ (xf8 : Fn), ∃ (xx9 : Array Value), ∃ (xc10 : Array Value), World.cell? w6 (k_4.add 0) = some (.func xf8 xx9 xc10) ∧ (
 doCall Try.prog (.func xf8 xx9 xc10) #[.int .i64 a_2, .int .i64 b_3] w6 (retS (fun v12 w13 => ∃ (x11 : Int), v12 = (.int .i64 x11 : Value) ∧ (
 R (.returned (.tuple #[.int .i64 x11, .int .i64 0])) w13)) (fun ch w => Kfn R ch [] w))))
 doCall Try.prog (.func (.func 19) #[] #[]) #[] w (retS (fun v15 w16 => ∃ (x14 : Option Nat), v15 = (.map x14 : Value) ∧ (
 doLk Try.prog 43 (.map x14) (.int .u8 p_1) true w16 (fun v21 => (∃ (xf17 : Fn), ∃ (xx18 : Array Value), ∃ (xc19 : Array Value), ∃ (x20 : Bool), v21 = (.tuple #[.agg #[.func xf17 xx18 xc19], .bool x20] : Value) ∧ (
 doAl (.cells #[.nilFunc] 41) w16 (fun b22 w23 =>
 doSt ((blk b22).add 0) (.func xf17 xx18 xc19) w23 (fun w24 =>
 K7 (blk b22) x20 w24)))) ∨ (v21 = (.tuple #[.agg #[.nilFunc], .bool false] : Value) ∧ (
 doAl (.cells #[.nilFunc] 41) w16 (fun b25 w26 =>
 doSt ((blk b25).add 0) (.nilFunc) w26 (fun w27 =>
 K7 (blk b25) false w27))))))) (fun ch w => Kfn R ch [] w))
theorem sh8_ok (p_1 : Int) (a_2 : Int) (b_3 : Int) {R : Ending → World → Prop} {w : World} : sh8 p_1 a_2 b_3 R w → Calls Try.prog 8 #[.int .u8 p_1, .int .i64 a_2, .int .i64 b_3] w R :=
  calls_of_eq (ann := fun _ => []) (fn := Try.f8) (c := bodyOf Try.f8) (args := #[.int .u8 p_1, .int .i64 a_2, .int .i64 b_3]) 400 follows_mixed Try.func8 (by kernel_rfl) (by kernel_rfl)
/-- joinery/fold.Sum -/
def sh9 (l_p1 : Option Addr) (l_n2 : Nat) (_l_c3 : Nat) (R : Ending → World → Prop) (w : World) : Prop :=
 doCall Try.prog (.func (.func 20) #[] #[]) #[] w (retS (fun v7 w8 => ∃ (xf4 : Fn), ∃ (xx5 : Array Value), ∃ (xc6 : Array Value), v7 = (.func xf4 xx5 xc6 : Value) ∧ (
 ∃ (I9 : List Value → World → Prop) (μ10 : List Value → World → Nat), I9 [.int .i64 0, .int .i64 0] w8 ∧ (∀ (sum_13 : Int), ∀ (x14 : Int), ∀ (_j11 : Nat → Value) (w12 : World), I9 [.int .i64 sum_13, .int .i64 x14] w12 → (
 ifB (decide ((x14 : Int) < ((l_n2 : Nat) : Int))) (
 doIx l_p1 l_n2 1 (x14) (fun a15 =>
 ∃ (x16 : Int), World.cell? w12 a15 = some (.int .i64 x16) ∧ (
 doCall Try.prog (.func xf4 xx5 xc6) #[.int .i64 x16] w12 (retS (fun v18 w19 => ∃ (x17 : Int), v18 = (.int .i64 x17 : Value) ∧ (
 I9 [.int .i64 x17, .int .i64 (IntKind.wrap .i64 (x14 + 1))] w19 ∧ μ10 [.int .i64 x17, .int .i64 (IntKind.wrap .i64 (x14 + 1))] w19 < μ10 [.int .i64 sum_13, .int .i64 x14] w12)) (fun ch w => Kfn R ch [] w))))) (
 R (.returned (.int .i64 sum_13)) w12))))) (fun ch w => Kfn R ch [] w))
theorem sh9_ok (l_p1 : Option Addr) (l_n2 : Nat) (l_c3 : Nat) {R : Ending → World → Prop} {w : World} : sh9 l_p1 l_n2 l_c3 R w → Calls Try.prog 9 #[.slice l_p1 l_n2 l_c3] w R :=
  calls_of_eq (ann := fun i => if i = 0 then [(2, .int .i64 0), (9, .int .i64 0)] else []) (fn := Try.f9) (c := bodyOf Try.f9) (args := #[.slice l_p1 l_n2 l_c3]) 400 follows_mixed Try.func9 (by kernel_rfl) (by kernel_rfl)
/-- joinery/joinerylaw03.own -/
def sh10 (l_p1 : Option Addr) (l_n2 : Nat) (l_c3 : Nat) (R : Ending → World → Prop) (w : World) : Prop :=
 doGo Try.prog (.builtin .append #[22, 22] 22 #[true, false]) #[.slice none 0 0, .slice l_p1 l_n2 l_c3] w (retS (fun v7 w8 => ∃ (xp4 : Option Addr), ∃ (xn5 : Nat), ∃ (xc6 : Nat), v7 = (.slice xp4 xn5 xc6 : Value) ∧ (
 R (.returned (.slice xp4 xn5 xc6)) w8)) (fun ch w => Kfn R ch [] w))
theorem sh10_ok (l_p1 : Option Addr) (l_n2 : Nat) (l_c3 : Nat) {R : Ending → World → Prop} {w : World} : sh10 l_p1 l_n2 l_c3 R w → Calls Try.prog 10 #[.slice l_p1 l_n2 l_c3] w R :=
  calls_of_eq (ann := fun _ => []) (fn := Try.f10) (c := bodyOf Try.f10) (args := #[.slice l_p1 l_n2 l_c3]) 400 follows_mixed Try.func10 (by kernel_rfl) (by kernel_rfl)
/-- joinery/fold.Sums -/
def sh11 (l_p1 : Option Addr) (l_n2 : Nat) (_l_c3 : Nat) (R : Ending → World → Prop) (w : World) : Prop :=
 doCall Try.prog (.func (.func 20) #[] #[]) #[] w (retS (fun v7 w8 => ∃ (xf4 : Fn), ∃ (xx5 : Array Value), ∃ (xc6 : Array Value), v7 = (.func xf4 xx5 xc6 : Value) ∧ (
 ∃ (I9 : List Value → World → Prop) (μ10 : List Value → World → Nat), I9 [.slice none 0 0, .int .i64 0] w8 ∧ (∀ (out_p13 : Option Addr), ∀ (out_n14 : Nat), ∀ (out_c15 : Nat), ∀ (x16 : Int), ∀ (_j11 : Nat → Value) (w12 : World), I9 [.slice out_p13 out_n14 out_c15, .int .i64 x16] w12 → (
 ifB (decide ((x16 : Int) < ((l_n2 : Nat) : Int))) (
 doIx l_p1 l_n2 1 (x16) (fun a17 =>
 ∃ (x18 : Int), World.cell? w12 a17 = some (.int .i64 x18) ∧ (
 doCall Try.prog (.func xf4 xx5 xc6) #[.int .i64 x18] w12 (retS (fun v20 w21 => ∃ (x19 : Int), v20 = (.int .i64 x19 : Value) ∧ (
 doAl (.cells #[.int .i64 x19] 2) w21 (fun b22 w23 =>
 doGo Try.prog (.builtin .append #[22, 22] 22 #[false, false]) #[.slice out_p13 out_n14 out_c15, .slice (some (blk b22)) 1 1] w23 (retS (fun v27 w28 => ∃ (xp24 : Option Addr), ∃ (xn25 : Nat), ∃ (xc26 : Nat), v27 = (.slice xp24 xn25 xc26 : Value) ∧ (
 I9 [.slice xp24 xn25 xc26, .int .i64 (IntKind.wrap .i64 (x16 + 1))] w28 ∧ μ10 [.slice xp24 xn25 xc26, .int .i64 (IntKind.wrap .i64 (x16 + 1))] w28 < μ10 [.slice out_p13 out_n14 out_c15, .int .i64 x16] w12)) (fun ch w => Kfn R ch [] w))))) (fun ch w => Kfn R ch [] w))))) (
 R (.returned (.slice out_p13 out_n14 out_c15)) w12))))) (fun ch w => Kfn R ch [] w))
theorem sh11_ok (l_p1 : Option Addr) (l_n2 : Nat) (l_c3 : Nat) {R : Ending → World → Prop} {w : World} : sh11 l_p1 l_n2 l_c3 R w → Calls Try.prog 11 #[.slice l_p1 l_n2 l_c3] w R :=
  calls_of_eq (ann := fun i => if i = 0 then [(2, .slice none 0 0), (9, .int .i64 0)] else []) (fn := Try.f11) (c := bodyOf Try.f11) (args := #[.slice l_p1 l_n2 l_c3]) 400 follows_mixed Try.func11 (by kernel_rfl) (by kernel_rfl)
/-- joinery/joineryref03.Run -/
def sh12 (p_1 : Int) (l_p2 : Option Addr) (l_n3 : Nat) (_l_c4 : Nat) (R : Ending → World → Prop) (w : World) : Prop :=
 doCall Try.prog (.func (.func 14) #[] #[]) #[.int .u8 p_1] w (retS (fun v6 w7 => ∃ (x5 : Bool), v6 = (.bool x5 : Value) ∧ (
 ifB (!x5) (
 R (.returned (.tuple #[.int .i64 0, .int .i64 2])) w7) (
 ifB ((((l_n3 : Nat) : Int) : Int) == 0) (
 R (.returned (.tuple #[.int .i64 0, .int .i64 3])) w7) (
 doIx l_p2 l_n3 1 (0) (fun a8 =>
 ∃ (x9 : Int), World.cell? w7 a8 = some (.int .i64 x9) ∧ (
 ∃ (I10 : List Value → World → Prop) (μ11 : List Value → World → Nat), I10 [.int .i64 x9, .int .i64 1] w7 ∧ (∀ (v_14 : Int), ∀ (i_15 : Int), ∀ (_j12 : Nat → Value) (w13 : World), I10 [.int .i64 v_14, .int .i64 i_15] w13 → (
 ifB (decide ((i_15 : Int) < ((l_n3 : Nat) : Int))) (
 doIx l_p2 l_n3 1 (i_15) (fun a16 =>
 ∃ (x17 : Int), World.cell? w13 a16 = some (.int .i64 x17) ∧ (
 doCall Try.prog (.func (.func 18) #[] #[]) #[.int .u8 p_1, .int .i64 v_14, .int .i64 x17] w13 (retS (fun v19 w20 => ∃ (x18 : Int), v19 = (.int .i64 x18 : Value) ∧ (
 I10 [.int .i64 x18, .int .i64 (IntKind.wrap .i64 (i_15 + 1))] w20 ∧ μ11 [.int .i64 x18, .int .i64 (IntKind.wrap .i64 (i_15 + 1))] w20 < μ11 [.int .i64 v_14, .int .i64 i_15] w13)) (fun ch w => Kfn R ch [] w))))) (
 R (.returned (.tuple #[.int .i64 v_14, .int .i64 0])) w13))))))))) (fun ch w => Kfn R ch [] w))
theorem sh12_ok (p_1 : Int) (l_p2 : Option Addr) (l_n3 : Nat) (l_c4 : Nat) {R : Ending → World → Prop} {w : World} : sh12 p_1 l_p2 l_n3 l_c4 R w → Calls Try.prog 12 #[.int .u8 p_1, .slice l_p2 l_n3 l_c4] w R :=
  calls_of_eq (ann := fun i => if i = 0 then [(6, .int .i64 0), (7, .int .i64 0)] else []) (fn := Try.f12) (c := bodyOf Try.f12) (args := #[.int .u8 p_1, .slice l_p2 l_n3 l_c4]) 400 follows_mixed Try.func12 (by kernel_rfl) (by kernel_rfl)
/-- joinery/fold.May -/
def sh13 (p_1 : Int) (R : Ending → World → Prop) (w : World) : Prop :=
 let K4 : Bool → World → Prop := fun (is_2 : Bool) (w3 : World) => 
 R (.returned (.bool is_2)) w3
 doCall Try.prog (.func (.func 19) #[] #[]) #[] w (retS (fun v6 w7 => ∃ (x5 : Option Nat), v6 = (.map x5 : Value) ∧ (
 doLk Try.prog 43 (.map x5) (.int .u8 p_1) true w7 (fun v12 => (∃ (xf8 : Fn), ∃ (xx9 : Array Value), ∃ (xc10 : Array Value), ∃ (x11 : Bool), v12 = (.tuple #[.agg #[.func xf8 xx9 xc10], .bool x11] : Value) ∧ (
 doAl (.cells #[.nilFunc] 41) w7 (fun b13 w14 =>
 doSt ((blk b13).add 0) (.func xf8 xx9 xc10) w14 (fun w15 =>
 K4 x11 w15)))) ∨ (v12 = (.tuple #[.agg #[.nilFunc], .bool false] : Value) ∧ (
 doAl (.cells #[.nilFunc] 41) w7 (fun b16 w17 =>
 doSt ((blk b16).add 0) (.nilFunc) w17 (fun w18 =>
 K4 false w18))))))) (fun ch w => Kfn R ch [] w))
theorem sh13_ok (p_1 : Int) {R : Ending → World → Prop} {w : World} : sh13 p_1 R w → Calls Try.prog 13 #[.int .u8 p_1] w R :=
  calls_of_eq (ann := fun _ => []) (fn := Try.f13) (c := bodyOf Try.f13) (args := #[.int .u8 p_1]) 400 follows_mixed Try.func13 (by kernel_rfl) (by kernel_rfl)
/-- joinery/joineryref03.May -/
def sh14 (p_1 : Int) (R : Ending → World → Prop) (w : World) : Prop :=
 let K4 : Bool → World → Prop := fun (x2 : Bool) (w3 : World) => 
 R (.returned (.bool x2)) w3
 ifB ((p_1 : Int) == 1) (
 K4 true w) (
 ifB ((p_1 : Int) == 2) (
 K4 true w) (
 K4 ((p_1 : Int) == 3) w))
theorem sh14_ok (p_1 : Int) {R : Ending → World → Prop} {w : World} : sh14 p_1 R w → Calls Try.prog 14 #[.int .u8 p_1] w R :=
  calls_of_eq (ann := fun _ => []) (fn := Try.f14) (c := bodyOf Try.f14) (args := #[.int .u8 p_1]) 400 follows_mixed Try.func14 (by kernel_rfl) (by kernel_rfl)
/-- joinery/joineryref03.Sum -/
def sh15 (l_p1 : Option Addr) (l_n2 : Nat) (_l_c3 : Nat) (R : Ending → World → Prop) (w : World) : Prop :=
 ∃ (I4 : List Value → World → Prop) (μ5 : List Value → World → Nat), I4 [.int .i64 0, .int .i64 0] w ∧ (∀ (v_8 : Int), ∀ (i_9 : Int), ∀ (_j6 : Nat → Value) (w7 : World), I4 [.int .i64 v_8, .int .i64 i_9] w7 → (
 ifB (decide ((i_9 : Int) < ((l_n2 : Nat) : Int))) (
 doIx l_p1 l_n2 1 (i_9) (fun a10 =>
 ∃ (x11 : Int), World.cell? w7 a10 = some (.int .i64 x11) ∧ (
 I4 [.int .i64 (IntKind.wrap .i64 (v_8 + x11)), .int .i64 (IntKind.wrap .i64 (i_9 + 1))] w7 ∧ μ5 [.int .i64 (IntKind.wrap .i64 (v_8 + x11)), .int .i64 (IntKind.wrap .i64 (i_9 + 1))] w7 < μ5 [.int .i64 v_8, .int .i64 i_9] w7))) (
 R (.returned (.int .i64 v_8)) w7)))
theorem sh15_ok (l_p1 : Option Addr) (l_n2 : Nat) (l_c3 : Nat) {R : Ending → World → Prop} {w : World} : sh15 l_p1 l_n2 l_c3 R w → Calls Try.prog 15 #[.slice l_p1 l_n2 l_c3] w R :=
  calls_of_eq (ann := fun i => if i = 0 then [(3, .int .i64 0), (4, .int .i64 0)] else []) (fn := Try.f15) (c := bodyOf Try.f15) (args := #[.slice l_p1 l_n2 l_c3]) 400 follows_mixed Try.func15 (by kernel_rfl) (by kernel_rfl)
/-- joinery/joineryref03.Same -/
def sh16 (a_p1 : Option Addr) (a_n2 : Nat) (_a_c3 : Nat) (b_p4 : Option Addr) (b_n5 : Nat) (_b_c6 : Nat) (R : Ending → World → Prop) (w : World) : Prop :=
 ifB ((((a_n2 : Nat) : Int) : Int) != ((b_n5 : Nat) : Int)) (
 R (.returned (.bool false)) w) (
 ∃ (I7 : List Value → World → Prop) (μ8 : List Value → World → Nat), I7 [.int .i64 0] w ∧ (∀ (i_11 : Int), ∀ (_j9 : Nat → Value) (w10 : World), I7 [.int .i64 i_11] w10 → (
 ifB (decide ((i_11 : Int) < ((a_n2 : Nat) : Int))) (
 doDr w10 (fun w13 =>
 ∃ (C12 : World → Prop), C12 w13 ∧ (
 doIx a_p1 a_n2 1 (i_11) (fun a14 =>
 ∃ (x15 : Int), (∀ w, C12 w → World.cell? w a14 = some (.int .i64 x15)) ∧ (
 doIx b_p4 b_n5 1 (i_11) (fun a16 =>
 ∃ (x17 : Int), (∀ w, C12 w → World.cell? w a16 = some (.int .i64 x17)) ∧ (
 ifB ((x15 : Int) != x17) (
 R (.returned (.bool false)) w13) (
 I7 [.int .i64 (IntKind.wrap .i64 (i_11 + 1))] w13 ∧ μ8 [.int .i64 (IntKind.wrap .i64 (i_11 + 1))] w13 < μ8 [.int .i64 i_11] w10)))))))) (
 R (.returned (.bool true)) w10))))
theorem sh16_ok (a_p1 : Option Addr) (a_n2 : Nat) (a_c3 : Nat) (b_p4 : Option Addr) (b_n5 : Nat) (b_c6 : Nat) {R : Ending → World → Prop} {w : World} : sh16 a_p1 a_n2 a_c3 b_p4 b_n5 b_c6 R w → Calls Try.prog 16 #[.slice a_p1 a_n2 a_c3, .slice b_p4 b_n5 b_c6] w R :=
  calls_of_eq (ann := fun i => if i = 0 then [(5, .int .i64 0)] else []) (fn := Try.f16) (c := bodyOf Try.f16) (args := #[.slice a_p1 a_n2 a_c3, .slice b_p4 b_n5 b_c6]) 400 follows_mixed Try.func16 (by kernel_rfl) (by kernel_rfl)
/-- joinery/joineryref03.Sums -/
def sh17 (l_p1 : Option Addr) (l_n2 : Nat) (l_c3 : Nat) (R : Ending → World → Prop) (w : World) : Prop :=
 ∃ (I4 : List Value → World → Prop) (μ5 : List Value → World → Nat), I4 [.slice none 0 0, .int .i64 0] w ∧ (∀ (out_p8 : Option Addr), ∀ (out_n9 : Nat), ∀ (out_c10 : Nat), ∀ (i_11 : Int), ∀ (_j6 : Nat → Value) (w7 : World), I4 [.slice out_p8 out_n9 out_c10, .int .i64 i_11] w7 → (
 ifB (decide ((i_11 : Int) < ((l_n2 : Nat) : Int))) (
 doSl l_p1 l_c3 1 (0) (IntKind.wrap .i64 (i_11 + 1)) (fun p12 n13 c14 =>
 doCall Try.prog (.func (.func 15) #[] #[]) #[.slice p12 n13 c14] w7 (retS (fun v16 w17 => ∃ (x15 : Int), v16 = (.int .i64 x15 : Value) ∧ (
 doAl (.cells #[.int .i64 x15] 2) w17 (fun b18 w19 =>
 doGo Try.prog (.builtin .append #[22, 22] 22 #[false, false]) #[.slice out_p8 out_n9 out_c10, .slice (some (blk b18)) 1 1] w19 (retS (fun v23 w24 => ∃ (xp20 : Option Addr), ∃ (xn21 : Nat), ∃ (xc22 : Nat), v23 = (.slice xp20 xn21 xc22 : Value) ∧ (
 I4 [.slice xp20 xn21 xc22, .int .i64 (IntKind.wrap .i64 (i_11 + 1))] w24 ∧ μ5 [.slice xp20 xn21 xc22, .int .i64 (IntKind.wrap .i64 (i_11 + 1))] w24 < μ5 [.slice out_p8 out_n9 out_c10, .int .i64 i_11] w7)) (fun ch w => Kfn R ch [] w))))) (fun ch w => Kfn R ch [] w)))) (
 R (.returned (.slice out_p8 out_n9 out_c10)) w7)))
theorem sh17_ok (l_p1 : Option Addr) (l_n2 : Nat) (l_c3 : Nat) {R : Ending → World → Prop} {w : World} : sh17 l_p1 l_n2 l_c3 R w → Calls Try.prog 17 #[.slice l_p1 l_n2 l_c3] w R :=
  calls_of_eq (ann := fun i => if i = 0 then [(3, .slice none 0 0), (4, .int .i64 0)] else []) (fn := Try.f17) (c := bodyOf Try.f17) (args := #[.slice l_p1 l_n2 l_c3]) 400 follows_mixed Try.func17 (by kernel_rfl) (by kernel_rfl)
/-- joinery/joineryref03.Combine -/
def sh18 (p_1 : Int) (a_2 : Int) (b_3 : Int) (R : Ending → World → Prop) (w : World) : Prop :=
 ifB ((p_1 : Int) == 1) (
 R (.returned (.int .i64 a_2)) w) (
 ifB ((p_1 : Int) == 2) (
 R (.returned (.int .i64 b_3)) w) (
 R (.returned (.int .i64 (IntKind.wrap .i64 (a_2 + b_3)))) w))
theorem sh18_ok (p_1 : Int) (a_2 : Int) (b_3 : Int) {R : Ending → World → Prop} {w : World} : sh18 p_1 a_2 b_3 R w → Calls Try.prog 18 #[.int .u8 p_1, .int .i64 a_2, .int .i64 b_3] w R :=
  calls_of_eq (ann := fun _ => []) (fn := Try.f18) (c := bodyOf Try.f18) (args := #[.int .u8 p_1, .int .i64 a_2, .int .i64 b_3]) 400 follows_mixed Try.func18 (by kernel_rfl) (by kernel_rfl)
/-- joinery/fold.kinds -/
def sh19  (R : Ending → World → Prop) (w : World) : Prop :=
 doAl (.map #[] 0) w (fun b1 w2 =>
 doMu Try.prog 43 (.map (some b1)) (.int .u8 1) (.agg #[.func (.func 21) #[] #[]]) w2 (fun w3 =>
 doMu Try.prog 43 (.map (some b1)) (.int .u8 2) (.agg #[.func (.func 22) #[] #[]]) w3 (fun w4 =>
 doMu Try.prog 43 (.map (some b1)) (.int .u8 3) (.agg #[.func (.func 23) #[] #[]]) w4 (fun w5 =>
 R (.returned (.map (some b1))) w5))))
theorem sh19_ok  {R : Ending → World → Prop} {w : World} : sh19  R w → Calls Try.prog 19 #[] w R :=
  calls_of_eq (ann := fun _ => []) (fn := Try.f19) (c := bodyOf Try.f19) (args := #[]) 400 follows_mixed Try.func19 (by kernel_rfl) (by kernel_rfl)
/-- joinery/fold.adder -/
def sh20  (R : Ending → World → Prop) (w : World) : Prop :=
 doAl (.cells #[.int .i64 0] 2) w (fun b1 w2 =>
 doSt ((blk b1).add 0) (.int .i64 0) w2 (fun w3 =>
 R (.returned (.func (.func 24) #[] #[.pointer (some (blk b1))])) w3))
theorem sh20_ok  {R : Ending → World → Prop} {w : World} : sh20  R w → Calls Try.prog 20 #[] w R :=
  calls_of_eq (ann := fun _ => []) (fn := Try.f20) (c := bodyOf Try.f20) (args := #[]) 400 follows_mixed Try.func20 (by kernel_rfl) (by kernel_rfl)
/-- joinery/fold.kinds$1 -/
def sh21 (a_1 : Int) (_x2 : Int) (R : Ending → World → Prop) (w : World) : Prop :=
 R (.returned (.int .i64 a_1)) w
theorem sh21_ok (a_1 : Int) (x2 : Int) {R : Ending → World → Prop} {w : World} : sh21 a_1 x2 R w → Calls Try.prog 21 #[.int .i64 a_1, .int .i64 x2] w R :=
  calls_of_eq (ann := fun _ => []) (fn := Try.f21) (c := bodyOf Try.f21) (args := #[.int .i64 a_1, .int .i64 x2]) 400 follows_mixed Try.func21 (by kernel_rfl) (by kernel_rfl)
/-- joinery/fold.kinds$2 -/
def sh22 (_x1 : Int) (b_2 : Int) (R : Ending → World → Prop) (w : World) : Prop :=
 R (.returned (.int .i64 b_2)) w
theorem sh22_ok (x1 : Int) (b_2 : Int) {R : Ending → World → Prop} {w : World} : sh22 x1 b_2 R w → Calls Try.prog 22 #[.int .i64 x1, .int .i64 b_2] w R :=
  calls_of_eq (ann := fun _ => []) (fn := Try.f22) (c := bodyOf Try.f22) (args := #[.int .i64 x1, .int .i64 b_2]) 400 follows_mixed Try.func22 (by kernel_rfl) (by kernel_rfl)
/-- joinery/fold.kinds$3 -/
def sh23 (a_1 : Int) (b_2 : Int) (R : Ending → World → Prop) (w : World) : Prop :=
 R (.returned (.int .i64 (IntKind.wrap .i64 (a_1 + b_2)))) w
theorem sh23_ok (a_1 : Int) (b_2 : Int) {R : Ending → World → Prop} {w : World} : sh23 a_1 b_2 R w → Calls Try.prog 23 #[.int .i64 a_1, .int .i64 b_2] w R :=
  calls_of_eq (ann := fun _ => []) (fn := Try.f23) (c := bodyOf Try.f23) (args := #[.int .i64 a_1, .int .i64 b_2]) 400 follows_mixed Try.func23 (by kernel_rfl) (by kernel_rfl)
/-- joinery/fold.adder$1 -/
def sh24 (v_1 : Int) (x2 : Addr) (R : Ending → World → Prop) (w : World) : Prop :=
 ∃ (x3 : Int), World.cell? w x2 = some (.int .i64 x3) ∧ (
 doSt (x2.add 0) (.int .i64 (IntKind.wrap .i64 (x3 + v_1))) w (fun w4 =>
 ∃ (x5 : Int), World.cell? w4 x2 = some (.int .i64 x5) ∧ (
 R (.returned (.int .i64 x5)) w4)))
theorem sh24_ok (v_1 : Int) (x2 : Addr) {R : Ending → World → Prop} {w : World} : sh24 v_1 x2 R w → Calls Try.prog 24 #[.int .i64 v_1, .pointer (some x2)] w R :=
  calls_of_eq (ann := fun _ => []) (fn := Try.f24) (c := bodyOf Try.f24) (args := #[.int .i64 v_1, .pointer (some x2)]) 400 follows_mixed Try.func24 (by kernel_rfl) (by kernel_rfl)
end Go.Proofs.Ytffbkhebekkhlaa
