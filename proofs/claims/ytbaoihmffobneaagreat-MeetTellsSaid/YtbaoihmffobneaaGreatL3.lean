/-
  Printed by a program (gen.py): what the functions of the program do, as formulas; each with the proof that its call is what the formula says.
-/
import Derived.Test.YtbaoihmffobneaaGreatPb
import Derived.Test.YtbaoihmffobneaaGreatProg
import Derived.Test.YtbaoihmffobneaaGreatPd
namespace Go.Proofs.YtbaoihmffobneaaGreat
open Go Go.Sh
set_option maxRecDepth 100000 in
/-- joinery/joinerylaw29.MeetTells -/
def sh3 (code_1 : Int) (o_2 : Int) (p_3 : Int) (l_p4 : Option Addr) (l_n5 : Nat) (l_c6 : Nat) (m_p7 : Option Addr) (m_n8 : Nat) (m_c9 : Nat) (R : Ending → World → Prop) (w : World) : Prop :=
 doCall Tryz.prog (.func (.func 9) #[] #[]) #[.int .u8 code_1] w (retS (fun v12 w13 => ∃ (x10 : Option Addr), ∃ (x11 : Bool), v12 = (.tuple #[.pointer x10, .bool x11] : Value) ∧ (
 let K16 : Bool → World → Prop := fun (x14 : Bool) (w15 : World) => 
 ifB x14 (
 let K19 : Bool → World → Prop := fun (x17 : Bool) (w18 : World) => 
 R (.returned (.bool x17)) w18
 doCall Tryz.prog (.func (.func 12) #[] #[]) #[.int .u8 code_1] w15 (retS (fun v21 w22 => ∃ (x20 : Bool), v21 = (.bool x20 : Value) ∧ (
 ifB (x11 == x20) (
 doCall Tryz.prog (.func (.func 13) #[] #[]) #[.int .u8 o_2, .int .u8 p_3] w22 (retS (fun v24 w25 => ∃ (x23 : Bool), v24 = (.bool x23 : Value) ∧ (
 ifB x23 (
 doCall Tryz.prog (.func (.func 14) #[] #[]) #[] w25 (retS (fun v27 w28 => ∃ (x26 : Bool), v27 = (.bool x26 : Value) ∧ (
 K19 x26 w28)) (fun ch w => Kfn R ch [] w))) (
 R (.returned (.bool false)) w25))) (fun ch w => Kfn R ch [] w))) (
 R (.returned (.bool false)) w22))) (fun ch w => Kfn R ch [] w))) (
 doCall Tryz.prog (.func (.func 15) #[] #[]) #[.slice l_p4 l_n5 l_c6] w15 (retS (fun v30 w31 => ∃ (x29 : Option Addr), v30 = (.pointer x29 : Value) ∧ (
 doCall Tryz.prog (.func (.func 15) #[] #[]) #[.slice m_p7 m_n8 m_c9] w31 (retS (fun v33 w34 => ∃ (x32 : Option Addr), v33 = (.pointer x32 : Value) ∧ (
 doCall Tryz.prog (.func (.func 16) #[] #[]) #[.int .u8 code_1, .slice l_p4 l_n5 l_c6] w34 (retS (fun v38 w39 => ∃ (xp35 : Option Addr), ∃ (xn36 : Nat), ∃ (xc37 : Nat), v38 = (.slice xp35 xn36 xc37 : Value) ∧ (
 doCall Tryz.prog (.func (.func 16) #[] #[]) #[.int .u8 code_1, .slice m_p7 m_n8 m_c9] w39 (retS (fun v43 w44 => ∃ (xp40 : Option Addr), ∃ (xn41 : Nat), ∃ (xc42 : Nat), v43 = (.slice xp40 xn41 xc42 : Value) ∧ (
 doCall Tryz.prog (.func (.func 17) #[] #[]) #[.pointer x10, .int .u8 o_2, .int .u8 p_3, .pointer x29, .pointer x32] w44 (retS (fun v47 w48 => ∃ (x45 : Option Addr), ∃ (x46 : Int), v47 = (.tuple #[.pointer x45, .int .i64 x46] : Value) ∧ (
 doCall Tryz.prog (.func (.func 18) #[] #[]) #[.pointer x10, .int .u8 o_2, .pointer x29, .pointer x32] w48 (retS (fun v51 w52 => ∃ (x49 : Option Addr), ∃ (x50 : Int), v51 = (.tuple #[.pointer x49, .int .i64 x50] : Value) ∧ (
 doCall Tryz.prog (.func (.func 19) #[] #[]) #[.pointer x10, .int .u8 o_2, .pointer x29, .pointer x32] w52 (retS (fun v55 w56 => ∃ (x53 : Option Addr), ∃ (x54 : Int), v55 = (.tuple #[.pointer x53, .int .i64 x54] : Value) ∧ (
 doCall Tryz.prog (.func (.func 20) #[] #[]) #[.pointer x10, .int .u8 o_2, .pointer x29, .pointer x32] w56 (retS (fun v59 w60 => ∃ (x57 : Bool), ∃ (x58 : Int), v59 = (.tuple #[.bool x57, .int .i64 x58] : Value) ∧ (
 let K63 : Bool → World → Prop := fun (x61 : Bool) (w62 : World) => 
 ifB x61 (
 R (.returned (.bool false)) w62) (
 let K66 : Bool → World → Prop := fun (x64 : Bool) (w65 : World) => 
 R (.returned (.bool x64)) w65
 doCall Tryz.prog (.func (.func 23) #[] #[]) #[.int .u8 p_3, .slice xp35 xn36 xc37, .slice xp40 xn41 xc42] w62 (retS (fun v70 w71 => ∃ (xp67 : Option Addr), ∃ (xn68 : Nat), ∃ (xc69 : Nat), v70 = (.slice xp67 xn68 xc69 : Value) ∧ (
 doCall Tryz.prog (.func (.func 22) #[] #[]) #[.int .u8 code_1, .pointer x45, .slice xp67 xn68 xc69] w71 (retS (fun v73 w74 => ∃ (x72 : Bool), v73 = (.bool x72 : Value) ∧ (
 ifB x72 (
 doCall Tryz.prog (.func (.func 24) #[] #[]) #[.slice xp35 xn36 xc37, .slice xp40 xn41 xc42] w74 (retS (fun v78 w79 => ∃ (xp75 : Option Addr), ∃ (xn76 : Nat), ∃ (xc77 : Nat), v78 = (.slice xp75 xn76 xc77 : Value) ∧ (
 doCall Tryz.prog (.func (.func 22) #[] #[]) #[.int .u8 code_1, .pointer x49, .slice xp75 xn76 xc77] w79 (retS (fun v81 w82 => ∃ (x80 : Bool), v81 = (.bool x80 : Value) ∧ (
 ifB x80 (
 doCall Tryz.prog (.func (.func 25) #[] #[]) #[.int .u8 o_2, .slice xp35 xn36 xc37, .slice xp40 xn41 xc42] w82 (retS (fun v86 w87 => ∃ (xp83 : Option Addr), ∃ (xn84 : Nat), ∃ (xc85 : Nat), v86 = (.slice xp83 xn84 xc85 : Value) ∧ (
 doCall Tryz.prog (.func (.func 22) #[] #[]) #[.int .u8 code_1, .pointer x53, .slice xp83 xn84 xc85] w87 (retS (fun v89 w90 => ∃ (x88 : Bool), v89 = (.bool x88 : Value) ∧ (
 ifB x88 (
 doCall Tryz.prog (.func (.func 27) #[] #[]) #[.slice l_p4 l_n5 l_c6] w90 (retS (fun v94 w95 => ∃ (xp91 : Option Addr), ∃ (xn92 : Nat), ∃ (xc93 : Nat), v94 = (.slice xp91 xn92 xc93 : Value) ∧ (
 doCall Tryz.prog (.func (.func 26) #[] #[]) #[.pointer x29, .slice xp91 xn92 xc93] w95 (retS (fun v97 w98 => ∃ (x96 : Bool), v97 = (.bool x96 : Value) ∧ (
 ifB x96 (
 doCall Tryz.prog (.func (.func 27) #[] #[]) #[.slice m_p7 m_n8 m_c9] w98 (retS (fun v102 w103 => ∃ (xp99 : Option Addr), ∃ (xn100 : Nat), ∃ (xc101 : Nat), v102 = (.slice xp99 xn100 xc101 : Value) ∧ (
 doCall Tryz.prog (.func (.func 26) #[] #[]) #[.pointer x32, .slice xp99 xn100 xc101] w103 (retS (fun v105 w106 => ∃ (x104 : Bool), v105 = (.bool x104 : Value) ∧ (
 ifB x104 (
 doCall Tryz.prog (.func (.func 13) #[] #[]) #[.int .u8 o_2, .int .u8 p_3] w106 (retS (fun v108 w109 => ∃ (x107 : Bool), v108 = (.bool x107 : Value) ∧ (
 ifB x107 (
 doCall Tryz.prog (.func (.func 14) #[] #[]) #[] w109 (retS (fun v111 w112 => ∃ (x110 : Bool), v111 = (.bool x110 : Value) ∧ (
 K66 x110 w112)) (fun ch w => Kfn R ch [] w))) (
 R (.returned (.bool false)) w109))) (fun ch w => Kfn R ch [] w))) (
 R (.returned (.bool false)) w106))) (fun ch w => Kfn R ch [] w)))) (fun ch w => Kfn R ch [] w))) (
 R (.returned (.bool false)) w98))) (fun ch w => Kfn R ch [] w)))) (fun ch w => Kfn R ch [] w))) (
 R (.returned (.bool false)) w90))) (fun ch w => Kfn R ch [] w)))) (fun ch w => Kfn R ch [] w))) (
 R (.returned (.bool false)) w82))) (fun ch w => Kfn R ch [] w)))) (fun ch w => Kfn R ch [] w))) (
 R (.returned (.bool false)) w74))) (fun ch w => Kfn R ch [] w)))) (fun ch w => Kfn R ch [] w)))
 ifB ((x46 : Int) != 0) (
 R (.returned (.bool false)) w60) (
 ifB ((x50 : Int) != 0) (
 R (.returned (.bool false)) w60) (
 ifB ((x54 : Int) != 0) (
 R (.returned (.bool false)) w60) (
 ifB ((x58 : Int) != 0) (
 R (.returned (.bool false)) w60) (
 doCall Tryz.prog (.func (.func 21) #[] #[]) #[.slice xp35 xn36 xc37, .slice xp40 xn41 xc42] w60 (retS (fun v114 w115 => ∃ (x113 : Bool), v114 = (.bool x113 : Value) ∧ (
 K63 (!(x57 == x113)) w115)) (fun ch w => Kfn R ch [] w)))))))) (fun ch w => Kfn R ch [] w)))) (fun ch w => Kfn R ch [] w)))) (fun ch w => Kfn R ch [] w)))) (fun ch w => Kfn R ch [] w)))) (fun ch w => Kfn R ch [] w)))) (fun ch w => Kfn R ch [] w)))) (fun ch w => Kfn R ch [] w)))) (fun ch w => Kfn R ch [] w)))
 doCall Tryz.prog (.func (.func 10) #[] #[]) #[.int .u8 code_1, .int .u8 o_2, .slice l_p4 l_n5 l_c6, .slice m_p7 m_n8 m_c9] w13 (retS (fun v117 w118 => ∃ (x116 : Bool), v117 = (.bool x116 : Value) ∧ (
 ifB x116 (
 K16 true w118) (
 ifB (!x11) (
 K16 true w118) (
 doCall Tryz.prog (.func (.func 11) #[] #[]) #[.int .u8 p_3] w118 (retS (fun v120 w121 => ∃ (x119 : Bool), v120 = (.bool x119 : Value) ∧ (
 K16 (!x119) w121)) (fun ch w => Kfn R ch [] w)))))) (fun ch w => Kfn R ch [] w)))) (fun ch w => Kfn R ch [] w))
set_option maxRecDepth 100000 in
theorem sh3_ok (code_1 : Int) (o_2 : Int) (p_3 : Int) (l_p4 : Option Addr) (l_n5 : Nat) (l_c6 : Nat) (m_p7 : Option Addr) (m_n8 : Nat) (m_c9 : Nat) {R : Ending → World → Prop} {w : World} : sh3 code_1 o_2 p_3 l_p4 l_n5 l_c6 m_p7 m_n8 m_c9 R w → Calls Tryz.prog 3 #[.int .u8 code_1, .int .u8 o_2, .int .u8 p_3, .slice l_p4 l_n5 l_c6, .slice m_p7 m_n8 m_c9] w R :=
  calls_of_eq (ann := fun _ => []) (fn := Tryz.f3) (c := bodyOf Tryz.f3) (args := #[.int .u8 code_1, .int .u8 o_2, .int .u8 p_3, .slice l_p4 l_n5 l_c6, .slice m_p7 m_n8 m_c9]) 400 follows_mixed Tryz.func3 (by kernel_rfl) (by kernel_rfl)
end Go.Proofs.YtbaoihmffobneaaGreat
