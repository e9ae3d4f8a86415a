/-
  Printed by a program (gen.py): what the functions of the program do, as formulas; each with the proof that its call is what the formula says.
-/
import Derived.Test.YthgckfeocalbdaaGreatPb
import Derived.Test.YthgckfeocalbdaaGreatProg
import Derived.Test.YthgckfeocalbdaaGreatPd
namespace Go.Proofs.YthgckfeocalbdaaGreat
open Go Go.Sh
set_option maxRecDepth 100000 in
/-- joinery/joinerylaw28.UnionMany -/
def sh9 (code_1 : Int) (o_2 : Int) (p_3 : Int) (l_p4 : Option Addr) (l_n5 : Nat) (l_c6 : Nat) (m_p7 : Option Addr) (m_n8 : Nat) (m_c9 : Nat) (n_p10 : Option Addr) (n_n11 : Nat) (n_c12 : Nat) (which_p13 : Option Addr) (which_n14 : Nat) (_which_c15 : Nat) (R : Ending → World → Prop) (w : World) : Prop :=
 doCall Tryz.prog (.func (.func 10) #[] #[]) #[.int .u8 code_1] w (retS (fun v18 w19 => ∃ (x16 : Option Addr), ∃ (x17 : Bool), v18 = (.tuple #[.pointer x16, .bool x17] : Value) ∧ (
 let K22 : Bool → World → Prop := fun (x20 : Bool) (w21 : World) => 
 ifB x20 (
 let K25 : Bool → World → Prop := fun (x23 : Bool) (w24 : World) => 
 R (.returned (.bool x23)) w24
 doCall Tryz.prog (.func (.func 12) #[] #[]) #[.int .u8 code_1] w21 (retS (fun v27 w28 => ∃ (x26 : Bool), v27 = (.bool x26 : Value) ∧ (
 ifB (x17 == x26) (
 doCall Tryz.prog (.func (.func 41) #[] #[]) #[.int .u8 o_2, .int .u8 p_3] w28 (retS (fun v30 w31 => ∃ (x29 : Bool), v30 = (.bool x29 : Value) ∧ (
 ifB x29 (
 doCall Tryz.prog (.func (.func 42) #[] #[]) #[] w31 (retS (fun v33 w34 => ∃ (x32 : Bool), v33 = (.bool x32 : Value) ∧ (
 K25 x32 w34)) (fun ch w => Kfn R ch [] w))) (
 R (.returned (.bool false)) w31))) (fun ch w => Kfn R ch [] w))) (
 R (.returned (.bool false)) w28))) (fun ch w => Kfn R ch [] w))) (
 doAl (.cells #[.slice l_p4 l_n5 l_c6, .slice m_p7 m_n8 m_c9, .slice n_p10 n_n11 n_c12] 22) w21 (fun b35 w36 =>
 ∃ (I37 : List Value → World → Prop) (μ38 : List Value → World → Nat), I37 [.slice none 0 0, .slice none 0 0, .int .i64 0] w36 ∧ (∀ (trees_p41 : Option Addr), ∀ (trees_n42 : Nat), ∀ (trees_c43 : Nat), ∀ (rows_p44 : Option Addr), ∀ (rows_n45 : Nat), ∀ (rows_c46 : Nat), ∀ (i_47 : Int), ∀ (_j39 : Nat → Value) (w40 : World), I37 [.slice trees_p41 trees_n42 trees_c43, .slice rows_p44 rows_n45 rows_c46, .int .i64 i_47] w40 → (
 ifB (decide ((i_47 : Int) < ((which_n14 : Nat) : Int))) (
 doIx which_p13 which_n14 1 (i_47) (fun a48 =>
 ∃ (x49 : Int), World.cell? w40 a48 = some (.int .u8 x49) ∧ (
 3 ≠ (0 : Int) ∧ (
 doIx (some (blk b35)) 3 1 (Int.tmod x49 3) (fun a50 =>
 ∃ (xp51 : Option Addr), ∃ (xn52 : Nat), ∃ (xc53 : Nat), World.cell? w40 a50 = some (.slice xp51 xn52 xc53) ∧ (
 doCall Tryz.prog (.func (.func 15) #[] #[]) #[.slice xp51 xn52 xc53] w40 (retS (fun v55 w56 => ∃ (x54 : Option Addr), v55 = (.pointer x54 : Value) ∧ (
 doAl (.cells #[.pointer x54] 29) w56 (fun b57 w58 =>
 doGo Tryz.prog (.builtin .append #[74, 74] 74 #[false, false]) #[.slice trees_p41 trees_n42 trees_c43, .slice (some (blk b57)) 1 1] w58 (retS (fun v62 w63 => ∃ (xp59 : Option Addr), ∃ (xn60 : Nat), ∃ (xc61 : Nat), v62 = (.slice xp59 xn60 xc61 : Value) ∧ (
 doCall Tryz.prog (.func (.func 18) #[] #[]) #[.int .u8 code_1, .slice xp51 xn52 xc53] w63 (retS (fun v67 w68 => ∃ (xp64 : Option Addr), ∃ (xn65 : Nat), ∃ (xc66 : Nat), v67 = (.slice xp64 xn65 xc66 : Value) ∧ (
 doAl (.cells #[.slice xp64 xn65 xc66] 37) w68 (fun b69 w70 =>
 doGo Tryz.prog (.builtin .append #[75, 75] 75 #[false, false]) #[.slice rows_p44 rows_n45 rows_c46, .slice (some (blk b69)) 1 1] w70 (retS (fun v74 w75 => ∃ (xp71 : Option Addr), ∃ (xn72 : Nat), ∃ (xc73 : Nat), v74 = (.slice xp71 xn72 xc73 : Value) ∧ (
 I37 [.slice xp59 xn60 xc61, .slice xp71 xn72 xc73, .int .i64 (IntKind.wrap .i64 (i_47 + 1))] w75 ∧ μ38 [.slice xp59 xn60 xc61, .slice xp71 xn72 xc73, .int .i64 (IntKind.wrap .i64 (i_47 + 1))] w75 < μ38 [.slice trees_p41 trees_n42 trees_c43, .slice rows_p44 rows_n45 rows_c46, .int .i64 i_47] w40)) (fun ch w => Kfn R ch [] w))))) (fun ch w => Kfn R ch [] w)))) (fun ch w => Kfn R ch [] w))))) (fun ch w => Kfn R ch [] w)))))))) (
 doCall Tryz.prog (.func (.func 45) #[] #[]) #[.pointer x16, .int .u8 o_2, .int .u8 p_3, .slice trees_p41 trees_n42 trees_c43] w40 (retS (fun v78 w79 => ∃ (x76 : Option Addr), ∃ (x77 : Int), v78 = (.tuple #[.pointer x76, .int .i64 x77] : Value) ∧ (
 let K82 : Bool → World → Prop := fun (x80 : Bool) (w81 : World) => 
 R (.returned (.bool x80)) w81
 ifB ((x77 : Int) == 0) (
 doCall Tryz.prog (.func (.func 46) #[] #[]) #[.int .u8 o_2, .int .u8 p_3, .slice rows_p44 rows_n45 rows_c46] w79 (retS (fun v86 w87 => ∃ (xp83 : Option Addr), ∃ (xn84 : Nat), ∃ (xc85 : Nat), v86 = (.slice xp83 xn84 xc85 : Value) ∧ (
 doCall Tryz.prog (.func (.func 19) #[] #[]) #[.int .u8 code_1, .pointer x76, .slice xp83 xn84 xc85] w87 (retS (fun v89 w90 => ∃ (x88 : Bool), v89 = (.bool x88 : Value) ∧ (
 ifB x88 (
 doCall Tryz.prog (.func (.func 42) #[] #[]) #[] w90 (retS (fun v92 w93 => ∃ (x91 : Bool), v92 = (.bool x91 : Value) ∧ (
 K82 x91 w93)) (fun ch w => Kfn R ch [] w))) (
 R (.returned (.bool false)) w90))) (fun ch w => Kfn R ch [] w)))) (fun ch w => Kfn R ch [] w))) (
 R (.returned (.bool false)) w79))) (fun ch w => Kfn R ch [] w)))))))
 doCall Tryz.prog (.func (.func 40) #[] #[]) #[.int .u8 code_1, .int .u8 o_2, .slice l_p4 l_n5 l_c6, .slice m_p7 m_n8 m_c9] w19 (retS (fun v95 w96 => ∃ (x94 : Bool), v95 = (.bool x94 : Value) ∧ (
 ifB x94 (
 K22 true w96) (
 doCall Tryz.prog (.func (.func 40) #[] #[]) #[.int .u8 code_1, .int .u8 o_2, .slice n_p10 n_n11 n_c12, .slice none 0 0] w96 (retS (fun v98 w99 => ∃ (x97 : Bool), v98 = (.bool x97 : Value) ∧ (
 ifB x97 (
 K22 true w99) (
 ifB (!x17) (
 K22 true w99) (
 doCall Tryz.prog (.func (.func 31) #[] #[]) #[.int .u8 p_3] w99 (retS (fun v101 w102 => ∃ (x100 : Bool), v101 = (.bool x100 : Value) ∧ (
 ifB (!x100) (
 K22 true w102) (
 K22 (decide ((((which_n14 : Nat) : Int) : Int) > 6)) w102))) (fun ch w => Kfn R ch [] w)))))) (fun ch w => Kfn R ch [] w))))) (fun ch w => Kfn R ch [] w)))) (fun ch w => Kfn R ch [] w))
set_option maxRecDepth 100000 in
theorem sh9_ok (code_1 : Int) (o_2 : Int) (p_3 : Int) (l_p4 : Option Addr) (l_n5 : Nat) (l_c6 : Nat) (m_p7 : Option Addr) (m_n8 : Nat) (m_c9 : Nat) (n_p10 : Option Addr) (n_n11 : Nat) (n_c12 : Nat) (which_p13 : Option Addr) (which_n14 : Nat) (which_c15 : Nat) {R : Ending → World → Prop} {w : World} : sh9 code_1 o_2 p_3 l_p4 l_n5 l_c6 m_p7 m_n8 m_c9 n_p10 n_n11 n_c12 which_p13 which_n14 which_c15 R w → Calls Tryz.prog 9 #[.int .u8 code_1, .int .u8 o_2, .int .u8 p_3, .slice l_p4 l_n5 l_c6, .slice m_p7 m_n8 m_c9, .slice n_p10 n_n11 n_c12, .slice which_p13 which_n14 which_c15] w R :=
  calls_of_eq (ann := fun i => if i = 0 then [(18, .slice none 0 0), (19, .slice none 0 0), (20, .int .i64 0)] else []) (fn := Tryz.f9) (c := bodyOf Tryz.f9) (args := #[.int .u8 code_1, .int .u8 o_2, .int .u8 p_3, .slice l_p4 l_n5 l_c6, .slice m_p7 m_n8 m_c9, .slice n_p10 n_n11 n_c12, .slice which_p13 which_n14 which_c15]) 400 follows_mixed Tryz.func9 (by kernel_rfl) (by kernel_rfl)
end Go.Proofs.YthgckfeocalbdaaGreat
