/-
  Printed by a program (gen.py): what the functions of the program do, as formulas; each with the proof that its call is what the formula says.
-/
import Derived.Test.YtinkkhcffoikmaaCd
import Derived.Test.YtinkkhcffoikmaaProg
import Derived.Test.YtinkkhcffoikmaaS1
namespace Go.Proofs.Ytinkkhcffoikmaa
open Go Go.Sh
set_option maxRecDepth 100000 in
/-- joinery/joinerylaw04.RowKeeps -/
def sh6 (o_1 : Int) (l_p2 : Option Addr) (l_n3 : Nat) (_l_c4 : Nat) (key_5 : Int) (R : Ending → World → Prop) (w : World) : Prop :=
 ifB (decide ((((l_n3 : Nat) : Int) : Int) > 100)) (
 doCall Try.prog (.func (.func 37) #[] #[]) #[] w (retS (fun v7 w8 => ∃ (x6 : Bool), v7 = (.bool x6 : Value) ∧ (
 R (.returned (.bool x6)) w8)) (fun ch w => Kfn R ch [] w))) (
 7 ≠ (0 : Int) ∧ (
 ∃ (I9 : List Value → World → Prop) (μ10 : List Value → World → Nat), I9 [.slice none 0 0, .int .i64 0, .bool false, .int .i64 0] w ∧ (∀ (r_p13 : Option Addr), ∀ (r_n14 : Nat), ∀ (r_c15 : Nat), ∀ (val_16 : Int), ∀ (has_17 : Bool), ∀ (i_18 : Int), ∀ (_j11 : Nat → Value) (w12 : World), I9 [.slice r_p13 r_n14 r_c15, .int .i64 val_16, .bool has_17, .int .i64 i_18] w12 → (
 ifB (decide ((i_18 : Int) < ((l_n3 : Nat) : Int))) (
 doIx l_p2 l_n3 3 (i_18) (fun a19 =>
 ∃ (x20 : Int), World.cell? w12 ((a19.add 0).add 0) = some (.int .i64 x20) ∧ (
 ∃ (x21 : Int), World.cell? w12 ((a19.add 0).add 1) = some (.int .i64 x21) ∧ (
 doAl (.cells #[.int .i64 0, .int .i64 0] 38) w12 (fun b22 w23 =>
 doSt ((blk b22).add 0) (.int .i64 x20) w23 (fun w24 =>
 doSt ((blk b22).add 1) (.int .i64 x21) w24 (fun w25 =>
 ∃ (x26 : Int), World.cell? w25 ((blk b22).add 0) = some (.int .i64 x26) ∧ (
 doCall Try.prog (.func (.func 28) #[] #[]) #[.int .u8 (IntKind.wrap .u8 (1 + (Int.tmod o_1 7))), .slice r_p13 r_n14 r_c15, .int .i64 x26] w25 (retS (fun v29 w30 => ∃ (x27 : Int), ∃ (x28 : Bool), v29 = (.tuple #[.int .i64 x27, .bool x28] : Value) ∧ (
 ∃ (J31 : List Value → World → Prop), (∀ (r_p34 : Option Addr), ∀ (r_n35 : Nat), ∀ (r_c36 : Nat), ∀ (val_37 : Int), ∀ (has_38 : Bool), ∀ (_j32 : Nat → Value) (w33 : World), J31 [.slice r_p34 r_n35 r_c36, .int .i64 val_37, .bool has_38] w33 → (
 doCall Try.prog (.func (.func 28) #[] #[]) #[.int .u8 (IntKind.wrap .u8 (1 + (Int.tmod o_1 7))), .slice r_p34 r_n35 r_c36, .int .i64 key_5] w33 (retS (fun v41 w42 => ∃ (x39 : Int), ∃ (x40 : Bool), v41 = (.tuple #[.int .i64 x39, .bool x40] : Value) ∧ (
 ∃ (J43 : List Value → World → Prop), (∀ (x46 : Bool), ∀ (_j44 : Nat → Value) (w45 : World), J43 [.bool x46] w45 → (
 ifB x46 (
 R (.returned (.bool false)) w45) (
 I9 [.slice r_p34 r_n35 r_c36, .int .i64 val_37, .bool has_38, .int .i64 (IntKind.wrap .i64 (i_18 + 1))] w45 ∧ μ10 [.slice r_p34 r_n35 r_c36, .int .i64 val_37, .bool has_38, .int .i64 (IntKind.wrap .i64 (i_18 + 1))] w45 < μ10 [.slice r_p13 r_n14 r_c15, .int .i64 val_16, .bool has_17, .int .i64 i_18] w12))) ∧ (
 ifB (!(x40 == has_38)) (
 J43 [.bool true] w42) (
 ifB x40 (
 ifB ((x39 : Int) != val_37) (
 J43 [.bool true] w42) (
 doCall Try.prog (.func (.func 40) #[] #[]) #[.int .u8 (IntKind.wrap .u8 (1 + (Int.tmod o_1 7))), .slice r_p34 r_n35 r_c36] w42 (retS (fun v48 w49 => ∃ (x47 : Bool), v48 = (.bool x47 : Value) ∧ (
 J43 [.bool (!x47)] w49)) (fun ch w => Kfn R ch [] w)))) (
 doCall Try.prog (.func (.func 40) #[] #[]) #[.int .u8 (IntKind.wrap .u8 (1 + (Int.tmod o_1 7))), .slice r_p34 r_n35 r_c36] w42 (retS (fun v51 w52 => ∃ (x50 : Bool), v51 = (.bool x50 : Value) ∧ (
 J43 [.bool (!x50)] w52)) (fun ch w => Kfn R ch [] w))))))) (fun ch w => Kfn R ch [] w)))) ∧ (
 doIx l_p2 l_n3 3 (i_18) (fun a53 =>
 ∃ (x54 : Bool), World.cell? w30 (a53.add 2) = some (.bool x54) ∧ (
 ifB x54 (
 ∃ (x55 : Int), World.cell? w30 ((blk b22).add 0) = some (.int .i64 x55) ∧ (
 doCall Try.prog (.func (.func 38) #[] #[]) #[.int .u8 (IntKind.wrap .u8 (1 + (Int.tmod o_1 7))), .slice r_p13 r_n14 r_c15, .int .i64 x55] w30 (retS (fun v60 w61 => ∃ (xp56 : Option Addr), ∃ (xn57 : Nat), ∃ (xc58 : Nat), ∃ (x59 : Bool), v60 = (.tuple #[.slice xp56 xn57 xc58, .bool x59] : Value) ∧ (
 ∃ (J62 : List Value → World → Prop), (∀ (x65 : Bool), ∀ (_j63 : Nat → Value) (w64 : World), J62 [.bool x65] w64 → (
 ifB x65 (
 R (.returned (.bool false)) w64) (
 ∃ (x66 : Int), World.cell? w64 ((blk b22).add 0) = some (.int .i64 x66) ∧ (
 ifB ((x66 : Int) == key_5) (
 J31 [.slice xp56 xn57 xc58, .int .i64 val_16, .bool false] w64) (
 J31 [.slice xp56 xn57 xc58, .int .i64 val_16, .bool has_17] w64))))) ∧ (
 ifB (!(x59 == x28)) (
 J62 [.bool true] w61) (
 ifB ((((xn57 : Nat) : Int) : Int) != ((r_n14 : Nat) : Int)) (
 ifB (!x28) (
 J62 [.bool true] w61) (
 ifB x28 (
 J62 [.bool ((((xn57 : Nat) : Int) : Int) != (IntKind.wrap .i64 (((r_n14 : Nat) : Int) - 1)))] w61) (
 J62 [.bool false] w61))) (
 ifB x28 (
 J62 [.bool ((((xn57 : Nat) : Int) : Int) != (IntKind.wrap .i64 (((r_n14 : Nat) : Int) - 1)))] w61) (
 J62 [.bool false] w61)))))) (fun ch w => Kfn R ch [] w)))) (
 ∃ (x67 : Int), World.cell? w30 ((blk b22).add 0) = some (.int .i64 x67) ∧ (
 ∃ (x68 : Int), World.cell? w30 ((blk b22).add 1) = some (.int .i64 x68) ∧ (
 doCall Try.prog (.func (.func 39) #[] #[]) #[.int .u8 (IntKind.wrap .u8 (1 + (Int.tmod o_1 7))), .int .u8 3, .slice r_p13 r_n14 r_c15, .agg #[.int .i64 x67, .int .i64 x68]] w30 (retS (fun v73 w74 => ∃ (xp69 : Option Addr), ∃ (xn70 : Nat), ∃ (xc71 : Nat), ∃ (x72 : Int), v73 = (.tuple #[.slice xp69 xn70 xc71, .int .i64 x72] : Value) ∧ (
 ∃ (J75 : List Value → World → Prop), (∀ (x78 : Bool), ∀ (_j76 : Nat → Value) (w77 : World), J75 [.bool x78] w77 → (
 ifB x78 (
 R (.returned (.bool false)) w77) (
 ∃ (x79 : Int), World.cell? w77 ((blk b22).add 0) = some (.int .i64 x79) ∧ (
 doCall Try.prog (.func (.func 28) #[] #[]) #[.int .u8 (IntKind.wrap .u8 (1 + (Int.tmod o_1 7))), .slice xp69 xn70 xc71, .int .i64 x79] w77 (retS (fun v82 w83 => ∃ (x80 : Int), ∃ (x81 : Bool), v82 = (.tuple #[.int .i64 x80, .bool x81] : Value) ∧ (
 ∃ (J84 : List Value → World → Prop), (∀ (x87 : Bool), ∀ (_j85 : Nat → Value) (w86 : World), J84 [.bool x87] w86 → (
 ifB x87 (
 R (.returned (.bool false)) w86) (
 ∃ (x88 : Int), World.cell? w86 ((blk b22).add 0) = some (.int .i64 x88) ∧ (
 ifB ((x88 : Int) == key_5) (
 J31 [.slice xp69 xn70 xc71, .int .i64 x80, .bool true] w86) (
 J31 [.slice xp69 xn70 xc71, .int .i64 val_16, .bool has_17] w86))))) ∧ (
 ifB (!x81) (
 J84 [.bool true] w83) (
 ∃ (x89 : Int), World.cell? w83 ((blk b22).add 1) = some (.int .i64 x89) ∧ (
 J84 [.bool ((x80 : Int) != (IntKind.wrap .i64 (x27 + x89)))] w83))))) (fun ch w => Kfn R ch [] w)))))) ∧ (
 ifB ((x72 : Int) != 0) (
 J75 [.bool true] w74) (
 ifB x28 (
 ifB ((((xn70 : Nat) : Int) : Int) != ((r_n14 : Nat) : Int)) (
 J75 [.bool true] w74) (
 ifB (!x28) (
 J75 [.bool ((((xn70 : Nat) : Int) : Int) != (IntKind.wrap .i64 (((r_n14 : Nat) : Int) + 1)))] w74) (
 J75 [.bool false] w74))) (
 ifB (!x28) (
 J75 [.bool ((((xn70 : Nat) : Int) : Int) != (IntKind.wrap .i64 (((r_n14 : Nat) : Int) + 1)))] w74) (
 J75 [.bool false] w74)))))) (fun ch w => Kfn R ch [] w)))))))))) (fun ch w => Kfn R ch [] w)))))))))) (
 doCall Try.prog (.func (.func 37) #[] #[]) #[] w12 (retS (fun v91 w92 => ∃ (x90 : Bool), v91 = (.bool x90 : Value) ∧ (
 R (.returned (.bool x90)) w92)) (fun ch w => Kfn R ch [] w)))))))
set_option maxRecDepth 100000 in
theorem sh6_ok (o_1 : Int) (l_p2 : Option Addr) (l_n3 : Nat) (l_c4 : Nat) (key_5 : Int) {R : Ending → World → Prop} {w : World} : sh6 o_1 l_p2 l_n3 l_c4 key_5 R w → Calls Try.prog 6 #[.int .u8 o_1, .slice l_p2 l_n3 l_c4, .int .i64 key_5] w R :=
  calls_of_eq (ann := fun i => if i = 1000031 then [(0, .nilIface), (167, .bool false)] else if i = 1000029 then [(0, .nilIface), (7, .slice none 0 0), (8, .int .i64 0), (9, .bool false)] else if i = 1000025 then [(0, .nilIface), (138, .bool false)] else if i = 1000021 then [(0, .nilIface), (119, .bool false)] else if i = 1000015 then [(0, .nilIface), (85, .bool false)] else if i = 0 then [(7, .slice none 0 0), (8, .int .i64 0), (9, .bool false), (10, .int .i64 0)] else []) (fn := Try.f6) (c := bodyOf Try.f6) (args := #[.int .u8 o_1, .slice l_p2 l_n3 l_c4, .int .i64 key_5]) 400 follows_mixed Try.func6 (by kernel_rfl) (by kernel_rfl)
end Go.Proofs.Ytinkkhcffoikmaa
