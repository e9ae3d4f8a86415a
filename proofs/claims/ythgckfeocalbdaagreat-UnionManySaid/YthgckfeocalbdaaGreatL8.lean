/-
  Printed by a program (gen.py): what the functions of the program do, as formulas; each with the proof that its call is what the formula says.
-/
import Derived.Test.YthgckfeocalbdaaGreatPb
import Derived.Test.YthgckfeocalbdaaGreatProg
import Derived.Test.YthgckfeocalbdaaGreatPd
namespace Go.Proofs.YthgckfeocalbdaaGreat
open Go Go.Sh
set_option maxRecDepth 100000 in
/-- joinery/joinerylaw28.UnionTells -/
def sh8 (code_1 : Int) (o_2 : Int) (p_3 : Int) (l_p4 : Option Addr) (l_n5 : Nat) (l_c6 : Nat) (m_p7 : Option Addr) (m_n8 : Nat) (m_c9 : Nat) (R : Ending → World → Prop) (w : World) : Prop :=
 doCall Tryz.prog (.func (.func 10) #[] #[]) #[.int .u8 code_1] w (retS (fun v12 w13 => ∃ (x10 : Option Addr), ∃ (x11 : Bool), v12 = (.tuple #[.pointer x10, .bool x11] : Value) ∧ (
 let K16 : Bool → World → Prop := fun (x14 : Bool) (w15 : World) => 
 ifB x14 (
 let K19 : Bool → World → Prop := fun (x17 : Bool) (w18 : World) => 
 R (.returned (.bool x17)) w18
 doCall Tryz.prog (.func (.func 12) #[] #[]) #[.int .u8 code_1] w15 (retS (fun v21 w22 => ∃ (x20 : Bool), v21 = (.bool x20 : Value) ∧ (
 ifB (x11 == x20) (
 doCall Tryz.prog (.func (.func 41) #[] #[]) #[.int .u8 o_2, .int .u8 p_3] w22 (retS (fun v24 w25 => ∃ (x23 : Bool), v24 = (.bool x23 : Value) ∧ (
 ifB x23 (
 doCall Tryz.prog (.func (.func 42) #[] #[]) #[] w25 (retS (fun v27 w28 => ∃ (x26 : Bool), v27 = (.bool x26 : Value) ∧ (
 K19 x26 w28)) (fun ch w => Kfn R ch [] w))) (
 R (.returned (.bool false)) w25))) (fun ch w => Kfn R ch [] w))) (
 R (.returned (.bool false)) w22))) (fun ch w => Kfn R ch [] w))) (
 doCall Tryz.prog (.func (.func 15) #[] #[]) #[.slice l_p4 l_n5 l_c6] w15 (retS (fun v30 w31 => ∃ (x29 : Option Addr), v30 = (.pointer x29 : Value) ∧ (
 doCall Tryz.prog (.func (.func 15) #[] #[]) #[.slice m_p7 m_n8 m_c9] w31 (retS (fun v33 w34 => ∃ (x32 : Option Addr), v33 = (.pointer x32 : Value) ∧ (
 doCall Tryz.prog (.func (.func 18) #[] #[]) #[.int .u8 code_1, .slice l_p4 l_n5 l_c6] w34 (retS (fun v38 w39 => ∃ (xp35 : Option Addr), ∃ (xn36 : Nat), ∃ (xc37 : Nat), v38 = (.slice xp35 xn36 xc37 : Value) ∧ (
 doCall Tryz.prog (.func (.func 18) #[] #[]) #[.int .u8 code_1, .slice m_p7 m_n8 m_c9] w39 (retS (fun v43 w44 => ∃ (xp40 : Option Addr), ∃ (xn41 : Nat), ∃ (xc42 : Nat), v43 = (.slice xp40 xn41 xc42 : Value) ∧ (
 doCall Tryz.prog (.func (.func 43) #[] #[]) #[.pointer x10, .int .u8 o_2, .int .u8 p_3, .pointer x29, .pointer x32] w44 (retS (fun v47 w48 => ∃ (x45 : Option Addr), ∃ (x46 : Int), v47 = (.tuple #[.pointer x45, .int .i64 x46] : Value) ∧ (
 let K51 : Bool → World → Prop := fun (x49 : Bool) (w50 : World) => 
 R (.returned (.bool x49)) w50
 ifB ((x46 : Int) == 0) (
 doCall Tryz.prog (.func (.func 44) #[] #[]) #[.int .u8 o_2, .int .u8 p_3, .slice xp35 xn36 xc37, .slice xp40 xn41 xc42] w48 (retS (fun v55 w56 => ∃ (xp52 : Option Addr), ∃ (xn53 : Nat), ∃ (xc54 : Nat), v55 = (.slice xp52 xn53 xc54 : Value) ∧ (
 doCall Tryz.prog (.func (.func 19) #[] #[]) #[.int .u8 code_1, .pointer x45, .slice xp52 xn53 xc54] w56 (retS (fun v58 w59 => ∃ (x57 : Bool), v58 = (.bool x57 : Value) ∧ (
 ifB x57 (
 doCall Tryz.prog (.func (.func 21) #[] #[]) #[.slice l_p4 l_n5 l_c6] w59 (retS (fun v63 w64 => ∃ (xp60 : Option Addr), ∃ (xn61 : Nat), ∃ (xc62 : Nat), v63 = (.slice xp60 xn61 xc62 : Value) ∧ (
 doCall Tryz.prog (.func (.func 20) #[] #[]) #[.pointer x29, .slice xp60 xn61 xc62] w64 (retS (fun v66 w67 => ∃ (x65 : Bool), v66 = (.bool x65 : Value) ∧ (
 ifB x65 (
 doCall Tryz.prog (.func (.func 21) #[] #[]) #[.slice m_p7 m_n8 m_c9] w67 (retS (fun v71 w72 => ∃ (xp68 : Option Addr), ∃ (xn69 : Nat), ∃ (xc70 : Nat), v71 = (.slice xp68 xn69 xc70 : Value) ∧ (
 doCall Tryz.prog (.func (.func 20) #[] #[]) #[.pointer x32, .slice xp68 xn69 xc70] w72 (retS (fun v74 w75 => ∃ (x73 : Bool), v74 = (.bool x73 : Value) ∧ (
 ifB x73 (
 doCall Tryz.prog (.func (.func 41) #[] #[]) #[.int .u8 o_2, .int .u8 p_3] w75 (retS (fun v77 w78 => ∃ (x76 : Bool), v77 = (.bool x76 : Value) ∧ (
 ifB x76 (
 doCall Tryz.prog (.func (.func 42) #[] #[]) #[] w78 (retS (fun v80 w81 => ∃ (x79 : Bool), v80 = (.bool x79 : Value) ∧ (
 K51 x79 w81)) (fun ch w => Kfn R ch [] w))) (
 R (.returned (.bool false)) w78))) (fun ch w => Kfn R ch [] w))) (
 R (.returned (.bool false)) w75))) (fun ch w => Kfn R ch [] w)))) (fun ch w => Kfn R ch [] w))) (
 R (.returned (.bool false)) w67))) (fun ch w => Kfn R ch [] w)))) (fun ch w => Kfn R ch [] w))) (
 R (.returned (.bool false)) w59))) (fun ch w => Kfn R ch [] w)))) (fun ch w => Kfn R ch [] w))) (
 R (.returned (.bool false)) w48))) (fun ch w => Kfn R ch [] w)))) (fun ch w => Kfn R ch [] w)))) (fun ch w => Kfn R ch [] w)))) (fun ch w => Kfn R ch [] w)))) (fun ch w => Kfn R ch [] w)))
 doCall Tryz.prog (.func (.func 40) #[] #[]) #[.int .u8 code_1, .int .u8 o_2, .slice l_p4 l_n5 l_c6, .slice m_p7 m_n8 m_c9] w13 (retS (fun v83 w84 => ∃ (x82 : Bool), v83 = (.bool x82 : Value) ∧ (
 ifB x82 (
 K16 true w84) (
 ifB (!x11) (
 K16 true w84) (
 doCall Tryz.prog (.func (.func 31) #[] #[]) #[.int .u8 p_3] w84 (retS (fun v86 w87 => ∃ (x85 : Bool), v86 = (.bool x85 : Value) ∧ (
 K16 (!x85) w87)) (fun ch w => Kfn R ch [] w)))))) (fun ch w => Kfn R ch [] w)))) (fun ch w => Kfn R ch [] w))
set_option maxRecDepth 100000 in
theorem sh8_ok (code_1 : Int) (o_2 : Int) (p_3 : Int) (l_p4 : Option Addr) (l_n5 : Nat) (l_c6 : Nat) (m_p7 : Option Addr) (m_n8 : Nat) (m_c9 : Nat) {R : Ending → World → Prop} {w : World} : sh8 code_1 o_2 p_3 l_p4 l_n5 l_c6 m_p7 m_n8 m_c9 R w → Calls Tryz.prog 8 #[.int .u8 code_1, .int .u8 o_2, .int .u8 p_3, .slice l_p4 l_n5 l_c6, .slice m_p7 m_n8 m_c9] w R :=
  calls_of_eq (ann := fun _ => []) (fn := Tryz.f8) (c := bodyOf Tryz.f8) (args := #[.int .u8 code_1, .int .u8 o_2, .int .u8 p_3, .slice l_p4 l_n5 l_c6, .slice m_p7 m_n8 m_c9]) 400 follows_mixed Tryz.func8 (by kernel_rfl) (by kernel_rfl)
end Go.Proofs.YthgckfeocalbdaaGreat
