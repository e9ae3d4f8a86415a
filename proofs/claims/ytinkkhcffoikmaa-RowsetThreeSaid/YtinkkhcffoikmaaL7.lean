/-
  Printed by a program (gen.py): what the functions of the program do, as formulas; each with the proof that its call is what the formula says.
-/
import Derived.Test.YtinkkhcffoikmaaCd
import Derived.Test.YtinkkhcffoikmaaProg
import Derived.Test.YtinkkhcffoikmaaS1
namespace Go.Proofs.Ytinkkhcffoikmaa
open Go Go.Sh
set_option maxRecDepth 100000 in
/-- joinery/joinerylaw04.RowEnds -/
def sh7 (o_1 : Int) (l_p2 : Option Addr) (l_n3 : Nat) (l_c4 : Nat) (key_5 : Int) (R : Ending → World → Prop) (w : World) : Prop :=
 ∃ (J6 : List Value → World → Prop), (∀ (x9 : Bool), ∀ (_j7 : Nat → Value) (w8 : World), J6 [.bool x9] w8 → (
 ifB x9 (
 doCall Try.prog (.func (.func 37) #[] #[]) #[] w8 (retS (fun v11 w12 => ∃ (x10 : Bool), v11 = (.bool x10 : Value) ∧ (
 R (.returned (.bool x10)) w12)) (fun ch w => Kfn R ch [] w))) (
 ∃ (I13 : List Value → World → Prop) (μ14 : List Value → World → Nat), I13 [.int .i64 0] w8 ∧ (∀ (i_17 : Int), ∀ (_j15 : Nat → Value) (w16 : World), I13 [.int .i64 i_17] w16 → (
 ifB (decide ((i_17 : Int) < ((l_n3 : Nat) : Int))) (
 doIx l_p2 l_n3 2 (i_17) (fun a18 =>
 ∃ (x19 : Int), World.cell? w16 (a18.add 0) = some (.int .i64 x19) ∧ (
 doCall Try.prog (.func (.func 25) #[] #[]) #[.int .u8 o_1, .slice l_p2 l_n3 l_c4, .int .i64 x19] w16 (retS (fun v22 w23 => ∃ (x20 : Int), ∃ (x21 : Bool), v22 = (.tuple #[.int .i64 x20, .bool x21] : Value) ∧ (
 doIx l_p2 l_n3 2 (i_17) (fun a24 =>
 ∃ (x25 : Int), World.cell? w23 (a24.add 0) = some (.int .i64 x25) ∧ (
 doCall Try.prog (.func (.func 28) #[] #[]) #[.int .u8 o_1, .slice l_p2 l_n3 l_c4, .int .i64 x25] w23 (retS (fun v28 w29 => ∃ (x26 : Int), ∃ (x27 : Bool), v28 = (.tuple #[.int .i64 x26, .bool x27] : Value) ∧ (
 ∃ (J30 : List Value → World → Prop), (∀ (x33 : Bool), ∀ (_j31 : Nat → Value) (w32 : World), J30 [.bool x33] w32 → (
 ifB x33 (
 R (.returned (.bool false)) w32) (
 I13 [.int .i64 (IntKind.wrap .i64 (i_17 + 1))] w32 ∧ μ14 [.int .i64 (IntKind.wrap .i64 (i_17 + 1))] w32 < μ14 [.int .i64 i_17] w16))) ∧ (
 ifB ((x20 : Int) != i_17) (
 J30 [.bool true] w29) (
 ifB (!x21) (
 J30 [.bool true] w29) (
 doIx l_p2 l_n3 2 (i_17) (fun a34 =>
 ∃ (x35 : Int), World.cell? w29 (a34.add 1) = some (.int .i64 x35) ∧ (
 ifB ((x26 : Int) != x35) (
 J30 [.bool true] w29) (
 J30 [.bool (!x27)] w29)))))))) (fun ch w => Kfn R ch [] w)))))) (fun ch w => Kfn R ch [] w))))) (
 doCall Try.prog (.func (.func 25) #[] #[]) #[.int .u8 o_1, .slice l_p2 l_n3 l_c4, .int .i64 key_5] w16 (retS (fun v38 w39 => ∃ (x36 : Int), ∃ (x37 : Bool), v38 = (.tuple #[.int .i64 x36, .bool x37] : Value) ∧ (
 ∃ (J40 : List Value → World → Prop), (∀ (x43 : Bool), ∀ (_j41 : Nat → Value) (w42 : World), J40 [.bool x43] w42 → (
 ifB x43 (
 R (.returned (.bool false)) w42) (
 doCall Try.prog (.func (.func 30) #[] #[]) #[.int .u8 o_1, .slice l_p2 l_n3 l_c4, .int .i64 key_5] w42 (retS (fun v47 w48 => ∃ (x44 : Int), ∃ (x45 : Int), ∃ (x46 : Bool), v47 = (.tuple #[.agg #[.int .i64 x44, .int .i64 x45], .bool x46] : Value) ∧ (
 doAl (.cells #[.int .i64 0, .int .i64 0] 38) w48 (fun b49 w50 =>
 doSt ((blk b49).add 0) (.int .i64 x44) w50 (fun w51 =>
 doSt ((blk b49).add 1) (.int .i64 x45) w51 (fun w52 =>
 doCall Try.prog (.func (.func 32) #[] #[]) #[.int .u8 o_1, .slice l_p2 l_n3 l_c4, .int .i64 key_5] w52 (retS (fun v56 w57 => ∃ (x53 : Int), ∃ (x54 : Int), ∃ (x55 : Bool), v56 = (.tuple #[.agg #[.int .i64 x53, .int .i64 x54], .bool x55] : Value) ∧ (
 doAl (.cells #[.int .i64 0, .int .i64 0] 38) w57 (fun b58 w59 =>
 doSt ((blk b58).add 0) (.int .i64 x53) w59 (fun w60 =>
 doSt ((blk b58).add 1) (.int .i64 x54) w60 (fun w61 =>
 ∃ (J62 : List Value → World → Prop), (∀ (x65 : Bool), ∀ (_j63 : Nat → Value) (w64 : World), J62 [.bool x65] w64 → (
 ifB x65 (
 R (.returned (.bool false)) w64) (
 ∃ (J66 : List Value → World → Prop), (∀ (x69 : Bool), ∀ (_j67 : Nat → Value) (w68 : World), J66 [.bool x69] w68 → (
 ifB x69 (
 R (.returned (.bool false)) w68) (
 let K72 : Bool → World → Prop := fun (x70 : Bool) (w71 : World) => 
 R (.returned (.bool x70)) w71
 ifB (!x46) (
 ifB (!x55) (
 doCall Try.prog (.func (.func 37) #[] #[]) #[] w68 (retS (fun v74 w75 => ∃ (x73 : Bool), v74 = (.bool x73 : Value) ∧ (
 K72 x73 w75)) (fun ch w => Kfn R ch [] w))) (
 ∃ (x76 : Int), World.cell? w68 ((blk b58).add 0) = some (.int .i64 x76) ∧ (
 doCall Try.prog (.func (.func 41) #[] #[]) #[.int .u8 o_1, .int .i64 key_5, .int .i64 x76] w68 (retS (fun v78 w79 => ∃ (x77 : Int), v78 = (.int .i64 x77 : Value) ∧ (
 ifB (decide ((x77 : Int) ≤ 0)) (
 doCall Try.prog (.func (.func 37) #[] #[]) #[] w79 (retS (fun v81 w82 => ∃ (x80 : Bool), v81 = (.bool x80 : Value) ∧ (
 K72 x80 w82)) (fun ch w => Kfn R ch [] w))) (
 R (.returned (.bool false)) w79))) (fun ch w => Kfn R ch [] w))))) (
 ∃ (x83 : Int), World.cell? w68 ((blk b49).add 0) = some (.int .i64 x83) ∧ (
 doCall Try.prog (.func (.func 41) #[] #[]) #[.int .u8 o_1, .int .i64 x83, .int .i64 key_5] w68 (retS (fun v85 w86 => ∃ (x84 : Int), v85 = (.int .i64 x84 : Value) ∧ (
 ifB (decide ((x84 : Int) ≤ 0)) (
 ifB (!x55) (
 doCall Try.prog (.func (.func 37) #[] #[]) #[] w86 (retS (fun v88 w89 => ∃ (x87 : Bool), v88 = (.bool x87 : Value) ∧ (
 K72 x87 w89)) (fun ch w => Kfn R ch [] w))) (
 ∃ (x90 : Int), World.cell? w86 ((blk b58).add 0) = some (.int .i64 x90) ∧ (
 doCall Try.prog (.func (.func 41) #[] #[]) #[.int .u8 o_1, .int .i64 key_5, .int .i64 x90] w86 (retS (fun v92 w93 => ∃ (x91 : Int), v92 = (.int .i64 x91 : Value) ∧ (
 ifB (decide ((x91 : Int) ≤ 0)) (
 doCall Try.prog (.func (.func 37) #[] #[]) #[] w93 (retS (fun v95 w96 => ∃ (x94 : Bool), v95 = (.bool x94 : Value) ∧ (
 K72 x94 w96)) (fun ch w => Kfn R ch [] w))) (
 R (.returned (.bool false)) w93))) (fun ch w => Kfn R ch [] w))))) (
 R (.returned (.bool false)) w86))) (fun ch w => Kfn R ch [] w))))))) ∧ (
 doDr w64 (fun w98 =>
 ∃ (C97 : World → Prop), C97 w98 ∧ (
 ifB x55 (
 ∃ (x99 : Int), (∀ w, C97 w → World.cell? w ((blk b58).add 0) = some (.int .i64 x99)) ∧ (
 ∃ (x100 : Int), (∀ w, C97 w → World.cell? w ((blk b58).add 1) = some (.int .i64 x100)) ∧ (
 doIx l_p2 l_n3 2 (x36) (fun a101 =>
 ∃ (x102 : Int), (∀ w, C97 w → World.cell? w (a101.add 0) = some (.int .i64 x102)) ∧ (
 ∃ (x103 : Int), (∀ w, C97 w → World.cell? w (a101.add 1) = some (.int .i64 x103)) ∧ (
 ifB (!(((x99 : Int) == x102) && (((x100 : Int) == x103) && true))) (
 J66 [.bool true] w98) (
 ifB x37 (
 ∃ (x104 : Int), (∀ w, C97 w → World.cell? w ((blk b49).add 0) = some (.int .i64 x104)) ∧ (
 ∃ (x105 : Int), (∀ w, C97 w → World.cell? w ((blk b49).add 1) = some (.int .i64 x105)) ∧ (
 ∃ (x106 : Int), (∀ w, C97 w → World.cell? w ((blk b58).add 0) = some (.int .i64 x106)) ∧ (
 ∃ (x107 : Int), (∀ w, C97 w → World.cell? w ((blk b58).add 1) = some (.int .i64 x107)) ∧ (
 ifB (!(((x104 : Int) == x106) && (((x105 : Int) == x107) && true))) (
 J66 [.bool true] w98) (
 ∃ (x108 : Int), (∀ w, C97 w → World.cell? w ((blk b58).add 0) = some (.int .i64 x108)) ∧ (
 ifB ((x108 : Int) != key_5) (
 J66 [.bool true] w98) (
 ifB x46 (
 ifB (!x37) (
 ∃ (x109 : Int), (∀ w, C97 w → World.cell? w ((blk b49).add 0) = some (.int .i64 x109)) ∧ (
 ∃ (x110 : Int), (∀ w, C97 w → World.cell? w ((blk b49).add 1) = some (.int .i64 x110)) ∧ (
 doIx l_p2 l_n3 2 (IntKind.wrap .i64 (x36 - 1)) (fun a111 =>
 ∃ (x112 : Int), (∀ w, C97 w → World.cell? w (a111.add 0) = some (.int .i64 x112)) ∧ (
 ∃ (x113 : Int), (∀ w, C97 w → World.cell? w (a111.add 1) = some (.int .i64 x113)) ∧ (
 J66 [.bool (!(((x109 : Int) == x112) && (((x110 : Int) == x113) && true)))] w98)))))) (
 J66 [.bool false] w98)) (
 J66 [.bool false] w98))))))))) (
 ifB x46 (
 ifB (!x37) (
 ∃ (x114 : Int), (∀ w, C97 w → World.cell? w ((blk b49).add 0) = some (.int .i64 x114)) ∧ (
 ∃ (x115 : Int), (∀ w, C97 w → World.cell? w ((blk b49).add 1) = some (.int .i64 x115)) ∧ (
 doIx l_p2 l_n3 2 (IntKind.wrap .i64 (x36 - 1)) (fun a116 =>
 ∃ (x117 : Int), (∀ w, C97 w → World.cell? w (a116.add 0) = some (.int .i64 x117)) ∧ (
 ∃ (x118 : Int), (∀ w, C97 w → World.cell? w (a116.add 1) = some (.int .i64 x118)) ∧ (
 J66 [.bool (!(((x114 : Int) == x117) && (((x115 : Int) == x118) && true)))] w98)))))) (
 J66 [.bool false] w98)) (
 J66 [.bool false] w98))))))))) (
 ifB x37 (
 ∃ (x119 : Int), (∀ w, C97 w → World.cell? w ((blk b49).add 0) = some (.int .i64 x119)) ∧ (
 ∃ (x120 : Int), (∀ w, C97 w → World.cell? w ((blk b49).add 1) = some (.int .i64 x120)) ∧ (
 ∃ (x121 : Int), (∀ w, C97 w → World.cell? w ((blk b58).add 0) = some (.int .i64 x121)) ∧ (
 ∃ (x122 : Int), (∀ w, C97 w → World.cell? w ((blk b58).add 1) = some (.int .i64 x122)) ∧ (
 ifB (!(((x119 : Int) == x121) && (((x120 : Int) == x122) && true))) (
 J66 [.bool true] w98) (
 ∃ (x123 : Int), (∀ w, C97 w → World.cell? w ((blk b58).add 0) = some (.int .i64 x123)) ∧ (
 ifB ((x123 : Int) != key_5) (
 J66 [.bool true] w98) (
 ifB x46 (
 ifB (!x37) (
 ∃ (x124 : Int), (∀ w, C97 w → World.cell? w ((blk b49).add 0) = some (.int .i64 x124)) ∧ (
 ∃ (x125 : Int), (∀ w, C97 w → World.cell? w ((blk b49).add 1) = some (.int .i64 x125)) ∧ (
 doIx l_p2 l_n3 2 (IntKind.wrap .i64 (x36 - 1)) (fun a126 =>
 ∃ (x127 : Int), (∀ w, C97 w → World.cell? w (a126.add 0) = some (.int .i64 x127)) ∧ (
 ∃ (x128 : Int), (∀ w, C97 w → World.cell? w (a126.add 1) = some (.int .i64 x128)) ∧ (
 J66 [.bool (!(((x124 : Int) == x127) && (((x125 : Int) == x128) && true)))] w98)))))) (
 J66 [.bool false] w98)) (
 J66 [.bool false] w98))))))))) (
 ifB x46 (
 ifB (!x37) (
 ∃ (x129 : Int), (∀ w, C97 w → World.cell? w ((blk b49).add 0) = some (.int .i64 x129)) ∧ (
 ∃ (x130 : Int), (∀ w, C97 w → World.cell? w ((blk b49).add 1) = some (.int .i64 x130)) ∧ (
 doIx l_p2 l_n3 2 (IntKind.wrap .i64 (x36 - 1)) (fun a131 =>
 ∃ (x132 : Int), (∀ w, C97 w → World.cell? w (a131.add 0) = some (.int .i64 x132)) ∧ (
 ∃ (x133 : Int), (∀ w, C97 w → World.cell? w (a131.add 1) = some (.int .i64 x133)) ∧ (
 J66 [.bool (!(((x129 : Int) == x132) && (((x130 : Int) == x133) && true)))] w98)))))) (
 J66 [.bool false] w98)) (
 J66 [.bool false] w98))))))))) ∧ (
 ifB (decide ((x36 : Int) > 0)) (
 ifB (!(x46 == true)) (
 J62 [.bool true] w61) (
 J62 [.bool (!(x55 == (decide ((x36 : Int) < ((l_n3 : Nat) : Int)))))] w61)) (
 ifB (!(x46 == x37)) (
 J62 [.bool true] w61) (
 J62 [.bool (!(x55 == (decide ((x36 : Int) < ((l_n3 : Nat) : Int)))))] w61)))))))) (fun ch w => Kfn R ch [] w))))))) (fun ch w => Kfn R ch [] w))))) ∧ (
 ifB (decide ((x36 : Int) < 0)) (
 J40 [.bool true] w39) (
 J40 [.bool (decide ((x36 : Int) > ((l_n3 : Nat) : Int)))] w39)))) (fun ch w => Kfn R ch [] w)))))))) ∧ (
 ifB (decide ((((l_n3 : Nat) : Int) : Int) > 200)) (
 J6 [.bool true] w) (
 doCall Try.prog (.func (.func 40) #[] #[]) #[.int .u8 o_1, .slice l_p2 l_n3 l_c4] w (retS (fun v135 w136 => ∃ (x134 : Bool), v135 = (.bool x134 : Value) ∧ (
 J6 [.bool (!x134)] w136)) (fun ch w => Kfn R ch [] w))))
set_option maxRecDepth 100000 in
theorem sh7_ok (o_1 : Int) (l_p2 : Option Addr) (l_n3 : Nat) (l_c4 : Nat) (key_5 : Int) {R : Ending → World → Prop} {w : World} : sh7 o_1 l_p2 l_n3 l_c4 key_5 R w → Calls Try.prog 7 #[.int .u8 o_1, .slice l_p2 l_n3 l_c4, .int .i64 key_5] w R :=
  calls_of_eq (ann := fun i => if i = 1000018 then [(0, .nilIface), (158, .bool false)] else if i = 1000016 then [(0, .nilIface), (119, .bool false)] else if i = 1000012 then [(0, .nilIface), (90, .bool false)] else if i = 1000009 then [(0, .nilIface), (75, .bool false)] else if i = 0 then [(7, .int .i64 0)] else if i = 1000002 then [(0, .nilIface), (26, .bool false)] else []) (fn := Try.f7) (c := bodyOf Try.f7) (args := #[.int .u8 o_1, .slice l_p2 l_n3 l_c4, .int .i64 key_5]) 400 follows_mixed Try.func7 (by kernel_rfl) (by kernel_rfl)
end Go.Proofs.Ytinkkhcffoikmaa
