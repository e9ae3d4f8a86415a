/-
  Printed by a program (gen.py): what the functions of the program do, as formulas; each with the proof that its call is what the formula says.
-/
import Derived.Test.YthgckfeocalbdaaGreatPb
import Derived.Test.YthgckfeocalbdaaGreatProg
import Derived.Test.YthgckfeocalbdaaGreatPd
namespace Go.Proofs.YthgckfeocalbdaaGreat
open Go Go.Sh
set_option maxRecDepth 100000 in
/-- joinery/joinerylaw24.SplitStands -/
def sh5 (code_1 : Int) (o_2 : Int) (l_p3 : Option Addr) (l_n4 : Nat) (l_c5 : Nat) (key_6 : Int) (R : Ending → World → Prop) (w : World) : Prop :=
 doCall Tryz.prog (.func (.func 10) #[] #[]) #[.int .u8 code_1] w (retS (fun v9 w10 => ∃ (x7 : Option Addr), ∃ (x8 : Bool), v9 = (.tuple #[.pointer x7, .bool x8] : Value) ∧ (
 let K13 : Bool → World → Prop := fun (x11 : Bool) (w12 : World) => 
 ifB x11 (
 let K16 : Bool → World → Prop := fun (x14 : Bool) (w15 : World) => 
 R (.returned (.bool x14)) w15
 doCall Tryz.prog (.func (.func 12) #[] #[]) #[.int .u8 code_1] w12 (retS (fun v18 w19 => ∃ (x17 : Bool), v18 = (.bool x17 : Value) ∧ (
 ifB (x8 == x17) (
 doCall Tryz.prog (.func (.func 14) #[] #[]) #[] w19 (retS (fun v21 w22 => ∃ (x20 : Bool), v21 = (.bool x20 : Value) ∧ (
 K16 x20 w22)) (fun ch w => Kfn R ch [] w))) (
 R (.returned (.bool false)) w19))) (fun ch w => Kfn R ch [] w))) (
 doCall Tryz.prog (.func (.func 15) #[] #[]) #[.slice l_p3 l_n4 l_c5] w12 (retS (fun v24 w25 => ∃ (x23 : Option Addr), v24 = (.pointer x23 : Value) ∧ (
 doCall Tryz.prog (.func (.func 16) #[] #[]) #[.pointer x7, .int .u8 o_2, .pointer x23, .int .i64 key_6] w25 (retS (fun v33 w34 => ∃ (x26 : Option Addr), ∃ (x27 : Int), ∃ (x28 : Int), ∃ (x29 : Int), ∃ (x30 : Bool), ∃ (x31 : Option Addr), ∃ (x32 : Int), v33 = (.tuple #[.pointer x26, .agg #[.int .i64 x27, .int .i64 x28, .int .u64 x29], .bool x30, .pointer x31, .int .i64 x32] : Value) ∧ (
 doAl (.cells #[.int .i64 0, .int .i64 0, .int .u64 0] 33) w34 (fun b35 w36 =>
 doSt ((blk b35).add 0) (.int .i64 x27) w36 (fun w37 =>
 doSt ((blk b35).add 1) (.int .i64 x28) w37 (fun w38 =>
 doSt ((blk b35).add 2) (.int .u64 x29) w38 (fun w39 =>
 doCall Tryz.prog (.func (.func 26) #[] #[]) #[.pointer x7, .pointer x26] w39 (retS (fun v42 w43 => ∃ (x40 : Int), ∃ (x41 : Int), v42 = (.tuple #[.int .i64 x40, .int .i64 x41] : Value) ∧ (
 doCall Tryz.prog (.func (.func 26) #[] #[]) #[.pointer x7, .pointer x31] w43 (retS (fun v46 w47 => ∃ (x44 : Int), ∃ (x45 : Int), v46 = (.tuple #[.int .i64 x44, .int .i64 x45] : Value) ∧ (
 doCall Tryz.prog (.func (.func 27) #[] #[]) #[.pointer none, .int .i64 key_6, .int .i64 0, .int .u64 0, .pointer none] w47 (retS (fun v49 w50 => ∃ (x48 : Option Addr), v49 = (.pointer x48 : Value) ∧ (
 let K53 : Bool → World → Prop := fun (x51 : Bool) (w52 : World) => 
 ifB x51 (
 R (.returned (.bool false)) w52) (
 doCall Tryz.prog (.func (.func 29) #[] #[]) #[.pointer x26] w52 (retS (fun v55 w56 => ∃ (x54 : Int), v55 = (.int .i64 x54 : Value) ∧ (
 doCall Tryz.prog (.func (.func 29) #[] #[]) #[.pointer x31] w56 (retS (fun v58 w59 => ∃ (x57 : Int), v58 = (.int .i64 x57 : Value) ∧ (
 doCall Tryz.prog (.func (.func 30) #[] #[]) #[.pointer x26] w59 (retS (fun v61 w62 => ∃ (x60 : Int), v61 = (.int .i64 x60 : Value) ∧ (
 doCall Tryz.prog (.func (.func 30) #[] #[]) #[.pointer x31] w62 (retS (fun v64 w65 => ∃ (x63 : Int), v64 = (.int .i64 x63 : Value) ∧ (
 let K69 : Int → Int → World → Prop := fun (n_66 : Int) (sum_67 : Int) (w68 : World) => 
 let K72 : Bool → World → Prop := fun (x70 : Bool) (w71 : World) => 
 R (.returned (.bool x70)) w71
 doCall Tryz.prog (.func (.func 29) #[] #[]) #[.pointer x23] w68 (retS (fun v74 w75 => ∃ (x73 : Int), v74 = (.int .i64 x73 : Value) ∧ (
 ifB ((n_66 : Int) == x73) (
 doCall Tryz.prog (.func (.func 30) #[] #[]) #[.pointer x23] w75 (retS (fun v77 w78 => ∃ (x76 : Int), v77 = (.int .i64 x76 : Value) ∧ (
 ifB ((sum_67 : Int) == x76) (
 ifB (!x30) (
 ∃ (x79 : Int), World.cell? w78 ((blk b35).add 0) = some (.int .i64 x79) ∧ (
 ∃ (x80 : Int), World.cell? w78 ((blk b35).add 1) = some (.int .i64 x80) ∧ (
 ∃ (x81 : Int), World.cell? w78 ((blk b35).add 2) = some (.int .u64 x81) ∧ (
 ifB (((x79 : Int) == 0) && (((x80 : Int) == 0) && (((x81 : Int) == 0) && true))) (
 doCall Tryz.prog (.func (.func 14) #[] #[]) #[] w78 (retS (fun v83 w84 => ∃ (x82 : Bool), v83 = (.bool x82 : Value) ∧ (
 K72 x82 w84)) (fun ch w => Kfn R ch [] w))) (
 ifB x30 (
 ∃ (x85 : Int), World.cell? w78 ((blk b35).add 0) = some (.int .i64 x85) ∧ (
 ifB ((x85 : Int) == key_6) (
 doCall Tryz.prog (.func (.func 14) #[] #[]) #[] w78 (retS (fun v87 w88 => ∃ (x86 : Bool), v87 = (.bool x86 : Value) ∧ (
 K72 x86 w88)) (fun ch w => Kfn R ch [] w))) (
 R (.returned (.bool false)) w78))) (
 R (.returned (.bool false)) w78)))))) (
 ifB x30 (
 ∃ (x89 : Int), World.cell? w78 ((blk b35).add 0) = some (.int .i64 x89) ∧ (
 ifB ((x89 : Int) == key_6) (
 doCall Tryz.prog (.func (.func 14) #[] #[]) #[] w78 (retS (fun v91 w92 => ∃ (x90 : Bool), v91 = (.bool x90 : Value) ∧ (
 K72 x90 w92)) (fun ch w => Kfn R ch [] w))) (
 R (.returned (.bool false)) w78))) (
 R (.returned (.bool false)) w78))) (
 R (.returned (.bool false)) w78))) (fun ch w => Kfn R ch [] w))) (
 R (.returned (.bool false)) w75))) (fun ch w => Kfn R ch [] w))
 ifB x30 (
 doDr w65 (fun w94 =>
 ∃ (C93 : World → Prop), C93 w94 ∧ (
 ∃ (x95 : Int), (∀ w, C93 w → World.cell? w ((blk b35).add 1) = some (.int .i64 x95)) ∧ (
 K69 (IntKind.wrap .i64 ((IntKind.wrap .i64 (x54 + x57)) + 1)) (IntKind.wrap .i64 ((IntKind.wrap .i64 (x60 + x63)) + x95)) w94)))) (
 K69 (IntKind.wrap .i64 (x54 + x57)) (IntKind.wrap .i64 (x60 + x63)) w65))) (fun ch w => Kfn R ch [] w)))) (fun ch w => Kfn R ch [] w)))) (fun ch w => Kfn R ch [] w)))) (fun ch w => Kfn R ch [] w)))
 ifB ((x32 : Int) != 0) (
 R (.returned (.bool false)) w50) (
 ifB ((x41 : Int) != 0) (
 R (.returned (.bool false)) w50) (
 ifB ((x45 : Int) != 0) (
 R (.returned (.bool false)) w50) (
 doCall Tryz.prog (.func (.func 28) #[] #[]) #[.int .u8 o_2, .pointer x26, .pointer x48] w50 (retS (fun v97 w98 => ∃ (x96 : Bool), v97 = (.bool x96 : Value) ∧ (
 ifB (!x96) (
 R (.returned (.bool false)) w98) (
 doCall Tryz.prog (.func (.func 28) #[] #[]) #[.int .u8 o_2, .pointer x48, .pointer x31] w98 (retS (fun v100 w101 => ∃ (x99 : Bool), v100 = (.bool x99 : Value) ∧ (
 ifB (!x99) (
 R (.returned (.bool false)) w101) (
 doCall Tryz.prog (.func (.func 28) #[] #[]) #[.int .u8 o_2, .pointer x26, .pointer x31] w101 (retS (fun v103 w104 => ∃ (x102 : Bool), v103 = (.bool x102 : Value) ∧ (
 K53 (!x102) w104)) (fun ch w => Kfn R ch [] w))))) (fun ch w => Kfn R ch [] w))))) (fun ch w => Kfn R ch [] w))))))) (fun ch w => Kfn R ch [] w)))) (fun ch w => Kfn R ch [] w)))) (fun ch w => Kfn R ch [] w)))))))) (fun ch w => Kfn R ch [] w)))) (fun ch w => Kfn R ch [] w)))
 doCall Tryz.prog (.func (.func 11) #[] #[]) #[.int .u8 code_1, .int .u8 o_2, .slice l_p3 l_n4 l_c5] w10 (retS (fun v106 w107 => ∃ (x105 : Bool), v106 = (.bool x105 : Value) ∧ (
 ifB x105 (
 K13 true w107) (
 K13 (!x8) w107))) (fun ch w => Kfn R ch [] w)))) (fun ch w => Kfn R ch [] w))
set_option maxRecDepth 100000 in
theorem sh5_ok (code_1 : Int) (o_2 : Int) (l_p3 : Option Addr) (l_n4 : Nat) (l_c5 : Nat) (key_6 : Int) {R : Ending → World → Prop} {w : World} : sh5 code_1 o_2 l_p3 l_n4 l_c5 key_6 R w → Calls Tryz.prog 5 #[.int .u8 code_1, .int .u8 o_2, .slice l_p3 l_n4 l_c5, .int .i64 key_6] w R :=
  calls_of_eq (ann := fun _ => []) (fn := Tryz.f5) (c := bodyOf Tryz.f5) (args := #[.int .u8 code_1, .int .u8 o_2, .slice l_p3 l_n4 l_c5, .int .i64 key_6]) 400 follows_mixed Tryz.func5 (by kernel_rfl) (by kernel_rfl)
end Go.Proofs.YthgckfeocalbdaaGreat
