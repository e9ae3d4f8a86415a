/-
  Printed by a program (gen.py): what the functions of the program do, as formulas; each with the proof that its call is what the formula says.
-/
import Derived.Test.YtmdboekndjlmgaaGreatZ04
import Derived.Test.YtmdboekndjlmgaaGreatProg
import Derived.Test.YtmdboekndjlmgaaGreatZ05

set_option maxRecDepth 100000
set_option maxHeartbeats 6400000
namespace Go.Proofs.YtmdboekndjlmgaaGreat
open Go Go.Sh
def sh142 (p_1 : Int) (a_2 : Int) (b_3 : Int) (R : EW) (w : World) : Prop :=
 let K7 : Addr → Bool → World → Prop := fun k_4 is_5 w6 => 
 ifB (!is_5) (
 R (.returned (.tuple #[.int .i64 0, .int .i64 2])) w6) (
 ∃ xf8 xx9 xc10, w6.cell? (k_4.add 0) = some (.func xf8 xx9 xc10) ∧ (
 doCall Tryz.prog (.func xf8 xx9 xc10) #[.int .i64 a_2, .int .i64 b_3] w6 (retS (fun v12 w13 => ∃ x11, v12 = (.int .i64 x11 : Value) ∧ (
 R (.returned (.tuple #[.int .i64 x11, .int .i64 0])) w13)) (kN R))))
 doCall Tryz.prog (.func (.func 158) #[] #[]) #[] w (retS (fun v15 w16 => ∃ x14, v15 = (.map x14 : Value) ∧ (
 doLk Tryz.prog 171 (.map x14) (.int .u8 p_1) true w16 (fun v21 => (∃ xf17 xx18 xc19 x20, v21 = (.tuple #[.agg #[.func xf17 xx18 xc19], .bool x20] : Value) ∧ (
 doAl (.cells #[.nilFunc] 169) w16 (fun b22 w23 =>
 doSt ((blk b22).add 0) (.func xf17 xx18 xc19) w23 (fun w24 =>
 K7 (blk b22) x20 w24)))) ∨ (v21 = (.tuple #[.agg #[.nilFunc], .bool false] : Value) ∧ (
 doAl (.cells #[.nilFunc] 169) w16 (fun b25 w26 =>
 doSt ((blk b25).add 0) (.nilFunc) w26 (fun w27 =>
 K7 (blk b25) false w27))))))) (kN R))
theorem sh142_ok (p_1 : Int) (a_2 : Int) (b_3 : Int) {R : EW} {w : World} : sh142 p_1 a_2 b_3 R w → Calls Tryz.prog 142 #[.int .u8 p_1, .int .i64 a_2, .int .i64 b_3] w R :=
  ceq Tryz.func142 (by kernel_rfl) (by kernel_rfl)
def sh143 (s_p1 : OA) (s_n2 : Nat) (s_c3 : Nat) (i_4 : Int) (j_5 : Int) (R : EW) (w : World) : Prop :=
 doSlm s_p1 s_c3 2 (i_4) (j_5) (((s_n2 : Nat) : Int)) (fun _p6 _n7 _c8 =>
 ifB ((i_4 : Int) == j_5) (
 R (.returned (.slice s_p1 s_n2 s_c3)) w) (
 doDr w (fun w9 =>
 doSl s_p1 s_c3 2 (0) (i_4) (fun p10 n11 c12 =>
 doSl s_p1 s_c3 2 (j_5) (((s_n2 : Nat) : Int)) (fun p13 n14 c15 =>
 doGo Tryz.prog (.builtin .append #[22, 22] 22 #[false, false]) #[.slice p10 n11 c12, .slice p13 n14 c15] w9 (retS (fun v19 w20 => ∃ xp16 xn17 xc18, v19 = (.slice xp16 xn17 xc18 : Value) ∧ (
 doSl xp16 xc18 2 (((xn17 : Nat) : Int)) (((s_n2 : Nat) : Int)) (fun p21 n22 c23 =>
 doGo Tryz.prog (.builtin .clear #[22] 0 #[false]) #[.slice p21 n22 c23] w20 (retS (fun v24 w25 => v24 = (.tuple #[] : Value) ∧ (
 R (.returned (.slice xp16 xn17 xc18)) w25)) (kN R))))) (kN R)))))))
theorem sh143_ok (s_p1 : OA) (s_n2 : Nat) (s_c3 : Nat) (i_4 : Int) (j_5 : Int) {R : EW} {w : World} : sh143 s_p1 s_n2 s_c3 i_4 j_5 R w → Calls Tryz.prog 143 #[.slice s_p1 s_n2 s_c3, .int .i64 i_4, .int .i64 j_5] w R :=
  ceq Tryz.func143 (by kernel_rfl) (by kernel_rfl)
def sh144 (x_p1 : OA) (x_n2 : Nat) (x_c3 : Nat) (cmp_f4 : Fn) (cmp_x5 : Array Value) (cmp_c6 : Array Value) (R : EW) (w : World) : Prop :=
 doCall Tryz.prog (.func (.func 167) #[] #[]) #[.slice x_p1 x_n2 x_c3, .int .i64 ((x_n2 : Nat) : Int), .func cmp_f4 cmp_x5 cmp_c6] w (retS (fun v7 w8 => v7 = (.tuple #[] : Value) ∧ (
 R (.returned (.tuple #[])) w8)) (kN R))
theorem sh144_ok (x_p1 : OA) (x_n2 : Nat) (x_c3 : Nat) (cmp_f4 : Fn) (cmp_x5 : Array Value) (cmp_c6 : Array Value) {R : EW} {w : World} : sh144 x_p1 x_n2 x_c3 cmp_f4 cmp_x5 cmp_c6 R w → Calls Tryz.prog 144 #[.slice x_p1 x_n2 x_c3, .func cmp_f4 cmp_x5 cmp_c6] w R :=
  ceq Tryz.func144 (by kernel_rfl) (by kernel_rfl)
def sh145 (a_1 : Int) (a_2 : Int) (b_3 : Int) (b_4 : Int) (x5 : Addr) (R : EW) (w : World) : Prop :=
 doAl (.cells #[.int .i64 a_1, .int .i64 a_2] 63) w (fun b6 w7 =>
 doAl (.cells #[.int .i64 b_3, .int .i64 b_4] 63) w7 (fun b8 w9 =>
 ∃ x10, w9.cell? x5 = some (.int .u8 x10) ∧ (
 ∃ x11, w9.cell? ((blk b6).add 0) = some (.int .i64 x11) ∧ (
 ∃ x12, w9.cell? ((blk b8).add 0) = some (.int .i64 x12) ∧ (
 doCall Tryz.prog (.func (.func 54) #[] #[]) #[.int .u8 x10, .int .i64 x11, .int .i64 x12] w9 (retS (fun v14 w15 => ∃ x13, v14 = (.int .i64 x13 : Value) ∧ (
 R (.returned (.int .i64 x13)) w15)) (kN R)))))))
theorem sh145_ok (a_1 : Int) (a_2 : Int) (b_3 : Int) (b_4 : Int) (x5 : Addr) {R : EW} {w : World} : sh145 a_1 a_2 b_3 b_4 x5 R w → Calls Tryz.prog 145 #[.agg #[.int .i64 a_1, .int .i64 a_2], .agg #[.int .i64 b_3, .int .i64 b_4], .pointer (some x5)] w R :=
  ceq Tryz.func145 (by kernel_rfl) (by kernel_rfl)
def sh146 (o_1 : Int) (p_2 : Int) (a_p3 : OA) (a_n4 : Nat) (a_c5 : Nat) (b_p6 : OA) (b_n7 : Nat) (b_c8 : Nat) (w_f9 : Fn) (w_x10 : Array Value) (w_c11 : Array Value) (R : EW) (w : World) : Prop :=
 doAl (.cells #[.int .u8 p_2] 5) w (fun b12 w13 =>
 doAl (.cells #[.func w_f9 w_x10 w_c11] 152) w13 (fun b14 w15 =>
 doAl (.cells #[.slice none 0 0] 22) w15 (fun b16 w17 =>
 let K31 : Bool → Bool → Bool → Value → Value → Value → Value → Bool → Bool → Value → Value → Value → World → Prop := fun x18 x19 x20 d21 d22 d23 d24 x25 x26 d27 d28 d29 w30 => 
 doCall Tryz.prog (.func (.func 168) #[] #[]) #[.int .u8 o_1, .slice a_p3 a_n4 a_c5, .slice b_p6 b_n7 b_c8] w30 (retS (fun v35 w36 => ∃ xf32 xx33 xc34, v35 = (.func xf32 xx33 xc34 : Value) ∧ (
 rfW Tryz.prog (.func xf32 xx33 xc34) (mkLoop #[.int .u8 o_1, .int .u8 p_2, .slice a_p3 a_n4 a_c5, .slice b_p6 b_n7 b_c8, .agg #[.func w_f9 w_x10 w_c11], undef, .pointer (some (blk b12)), undef, undef, .pointer (some (blk b14)), .pointer (some (blk b16)), .int .i64 0, undef, undef, .int .u8 o_1, .slice a_p3 a_n4 a_c5, .bool x18, .bool x19, .bool x20, d21, d22, d23, d24, .bool x25, .bool x26, d27, d28, d29, .bool false, .int .u8 o_1, .slice a_p3 a_n4 a_c5, .slice b_p6 b_n7 b_c8, .func xf32 xx33 xc34, undef, undef, undef, undef, undef, undef, undef, undef, undef, undef, undef, undef, undef, undef, undef, undef, undef, undef, undef, undef, undef, undef, undef, undef, undef, undef, undef, undef, undef, undef, undef, undef, undef, undef] (rfOf Tryz.f146 0).1 (rfOf Tryz.f146 0).2.1 (rfOf Tryz.f146 0).2.2)
 (fun w38 =>
 ∃ xp39 xn40 xc41, w38.cell? (blk b16) = some (.slice xp39 xn40 xc41) ∧ (
 doSt ((blk b16).add 0) (.slice xp39 xn40 xc41) w38 (fun w42 =>
 w42.heap[w36.heap.size]? = some (.deferred (some [])) ∧ (
 let w43 : World := w42.putObj w36.heap.size (.deferred none)
 ∃ xp44 xn45 xc46, w43.cell? (blk b16) = some (.slice xp44 xn45 xc46) ∧ (
 R (.returned (.tuple #[.slice xp44 xn45 xc46, .int .i64 0])) w43)))))
 (fun w47 =>
 w47.heap[w36.heap.size]? = some (.deferred (some [])) ∧ (
 let w48 : World := w47.putObj w36.heap.size (.deferred none)
 ∃ xp49 xn50 xc51, w48.cell? (blk b16) = some (.slice xp49 xn50 xc51) ∧ (
 R (.returned (.tuple #[.slice xp49 xn50 xc51, .int .i64 0])) w48)))
 [(1, (fun _ => False))] w36)) (kN R))
 let K66 : Bool → Bool → Bool → Value → Value → Value → Value → Bool → Bool → Value → Value → Value → Bool → World → Prop := fun x52 x53 x54 d55 d56 d57 d58 x59 x60 d61 d62 d63 x64 w65 => 
 ifB x64 (
 doSt ((blk b16).add 0) (.slice none 0 0) w65 (fun w67 =>
 ∃ xp68 xn69 xc70, w67.cell? (blk b16) = some (.slice xp68 xn69 xc70) ∧ (
 R (.returned (.tuple #[.slice xp68 xn69 xc70, .int .i64 2])) w67))) (
 K31 x52 x53 x54 (d55 : Value) (d56 : Value) (d57 : Value) (d58 : Value) x59 x60 (d61 : Value) (d62 : Value) (d63 : Value) w65)
 doCall Tryz.prog (.func (.func 24) #[] #[]) #[.int .u8 o_1, .slice a_p3 a_n4 a_c5] w17 (retS (fun v72 w73 => ∃ x71, v72 = (.bool x71 : Value) ∧ (
 ifB (!x71) (
 doSt ((blk b16).add 0) (.slice none 0 0) w73 (fun w74 =>
 ∃ xp75 xn76 xc77, w74.cell? (blk b16) = some (.slice xp75 xn76 xc77) ∧ (
 R (.returned (.tuple #[.slice xp75 xn76 xc77, .int .i64 2])) w74))) (
 doCall Tryz.prog (.func (.func 24) #[] #[]) #[.int .u8 o_1, .slice b_p6 b_n7 b_c8] w73 (retS (fun v79 w80 => ∃ x78, v79 = (.bool x78 : Value) ∧ (
 ifB (!x78) (
 doSt ((blk b16).add 0) (.slice none 0 0) w80 (fun w81 =>
 ∃ xp82 xn83 xc84, w81.cell? (blk b16) = some (.slice xp82 xn83 xc84) ∧ (
 R (.returned (.tuple #[.slice xp82 xn83 xc84, .int .i64 2])) w81))) (
 ∃ x85, w80.cell? (blk b12) = some (.int .u8 x85) ∧ (
 doCall Tryz.prog (.func (.func 118) #[] #[]) #[.int .u8 x85] w80 (retS (fun v87 w88 => ∃ x86, v87 = (.bool x86 : Value) ∧ (
 K66 x71 (!x71) false (.int .u8 o_1 : Value) (.slice b_p6 b_n7 b_c8 : Value) (.bool x78 : Value) (.bool (!x78) : Value) (!x78) false (.int .u8 x85 : Value) (.bool x86 : Value) (.bool (!x86) : Value) (!x86) w88)) (kN R)))))) (kN R))))) (kN R)))))
theorem sh146_ok (o_1 : Int) (p_2 : Int) (a_p3 : OA) (a_n4 : Nat) (a_c5 : Nat) (b_p6 : OA) (b_n7 : Nat) (b_c8 : Nat) (w_f9 : Fn) (w_x10 : Array Value) (w_c11 : Array Value) {R : EW} {w : World} : sh146 o_1 p_2 a_p3 a_n4 a_c5 b_p6 b_n7 b_c8 w_f9 w_x10 w_c11 R w → Calls Tryz.prog 146 #[.int .u8 o_1, .int .u8 p_2, .slice a_p3 a_n4 a_c5, .slice b_p6 b_n7 b_c8, .agg #[.func w_f9 w_x10 w_c11]] w R :=
  ceq Tryz.func146 (by kernel_rfl) (by kernel_rfl)
def sh146_0 (p_1 : Addr) (w_2 : Addr) (out_3 : Addr) (y68 : Int) (y69 : Int) (y70 : Int) (y71 : Bool) (y72 : Bool) (l : Nat) (R : EW) (w : World) : Prop :=
 doAl (.cells #[.int .i64 0, .int .i64 0, .int .i64 0, .bool false, .bool false] 149) w (fun b73 w74 =>
 doSt ((blk b73).add 0) (.int .i64 y68) w74 (fun w75 =>
 doSt ((blk b73).add 1) (.int .i64 y69) w75 (fun w76 =>
 doSt ((blk b73).add 2) (.int .i64 y70) w76 (fun w77 =>
 doSt ((blk b73).add 3) (.bool y71) w77 (fun w78 =>
 doSt ((blk b73).add 4) (.bool y72) w78 (fun w79 =>
 ∃ r80, w79.heap[l]? = some (.loop r80) ∧ r80.state = .ready ∧ (
 let w81 : World := w79.putObj l (.loop { r80 with state := .busy })
 ∃ xf82 xx83 xc84, w81.cell? (w_2.add 0) = some (.func xf82 xx83 xc84) ∧ (
 ∃ x85, w81.cell? ((blk b73).add 0) = some (.int .i64 x85) ∧ (
 ∃ x86, w81.cell? ((blk b73).add 1) = some (.int .i64 x86) ∧ (
 ∃ x87, w81.cell? ((blk b73).add 2) = some (.int .i64 x87) ∧ (
 ∃ x88, w81.cell? ((blk b73).add 3) = some (.bool x88) ∧ (
 ∃ x89, w81.cell? ((blk b73).add 4) = some (.bool x89) ∧ (
 doCall Tryz.prog (.func xf82 xx83 xc84) #[.agg #[.int .i64 x85, .int .i64 x86, .int .i64 x87, .bool x88, .bool x89]] w81 (retS (fun v91 w92 => ∃ x90, v91 = (.bool x90 : Value) ∧ (
 ifB (!x90) (
 ∃ r93, w92.heap[l]? = some (.loop r93) ∧ R (.returned (.bool true)) (w92.putObj l (.loop { r93 with state := .ready, pending := none }))) (
 ∃ x94, w92.cell? ((blk b73).add 1) = some (.int .i64 x94) ∧ (
 ∃ x95, w92.cell? ((blk b73).add 2) = some (.int .i64 x95) ∧ (
 let K98 : Int → World → Prop := fun v_96 w97 => 
 ∃ xp99 xn100 xc101, w97.cell? out_3 = some (.slice xp99 xn100 xc101) ∧ (
 ∃ x102, w97.cell? ((blk b73).add 0) = some (.int .i64 x102) ∧ (
 doAl (.cells #[.int .i64 x102, .int .i64 v_96] 63) w97 (fun b103 w104 =>
 doGo Tryz.prog (.builtin .append #[22, 22] 22 #[false, false]) #[.slice xp99 xn100 xc101, .slice (some (blk b103)) 1 1] w104 (retS (fun v108 w109 => ∃ xp105 xn106 xc107, v108 = (.slice xp105 xn106 xc107 : Value) ∧ (
 doSt (out_3.add 0) (.slice xp105 xn106 xc107) w109 (fun w110 =>
 ∃ r111, w110.heap[l]? = some (.loop r111) ∧ R (.returned (.bool true)) (w110.putObj l (.loop { r111 with state := .ready, pending := none }))))) (fun _ _ => False)))))
 let K114 : Bool → World → Prop := fun x112 w113 => 
 ifB x112 (
 ∃ x115, w113.cell? p_1 = some (.int .u8 x115) ∧ (
 ∃ x116, w113.cell? ((blk b73).add 1) = some (.int .i64 x116) ∧ (
 ∃ x117, w113.cell? ((blk b73).add 2) = some (.int .i64 x117) ∧ (
 doCall Tryz.prog (.func (.func 142) #[] #[]) #[.int .u8 x115, .int .i64 x116, .int .i64 x117] w113 (retS (fun v120 w121 => ∃ x118 x119, v120 = (.tuple #[.int .i64 x118, .int .i64 x119] : Value) ∧ (
 K98 x118 w121)) (fun _ _ => False)))))) (
 K98 (IntKind.wrap .i64 (x94 + x95)) w113)
 ∃ x122, w92.cell? ((blk b73).add 3) = some (.bool x122) ∧ (
 ifB x122 (
 ∃ x123, w92.cell? ((blk b73).add 4) = some (.bool x123) ∧ (
 K114 x123 w92)) (
 K98 (IntKind.wrap .i64 (x94 + x95)) w92))))))) (fun _ _ => False)))))))))))))))
theorem sh146_0_ok {dd4 : Value} {dd5 : Value} {dd6 : Value} {dd7 : Value} {dd8 : Value} {dd9 : Value} {dd10 : Value} {dd11 : Value} {dd12 : Value} {dd13 : Value} {dd14 : Value} {dd15 : Value} {dd16 : Value} {dd17 : Value} {dd18 : Value} {dd19 : Value} {dd20 : Value} {dd21 : Value} {dd22 : Value} {dd23 : Value} {dd24 : Value} {dd25 : Value} {dd26 : Value} {dd27 : Value} {dd28 : Value} {dd29 : Value} {dd30 : Value} {dd31 : Value} {dd32 : Value} {dd33 : Value} {dd34 : Value} {dd35 : Value} {dd36 : Value} {dd37 : Value} {dd38 : Value} {dd39 : Value} {dd40 : Value} {dd41 : Value} {dd42 : Value} {dd43 : Value} {dd44 : Value} {dd45 : Value} {dd46 : Value} {dd47 : Value} {dd48 : Value} {dd49 : Value} {dd50 : Value} {dd51 : Value} {dd52 : Value} {dd53 : Value} {dd54 : Value} {dd55 : Value} {dd56 : Value} {dd57 : Value} {dd58 : Value} {dd59 : Value} {dd60 : Value} {dd61 : Value} {dd62 : Value} {dd63 : Value} {dd64 : Value} {dd65 : Value} {dd66 : Value} {dd67 : Value} {p_1 : Addr} {w_2 : Addr} {out_3 : Addr} {y68 : Int} {y69 : Int} {y70 : Int} {y71 : Bool} {y72 : Bool} {l fn D : Nat} {R : EW} {w : World} (hl : w.heap[l]? = some (.loop (mkLoop #[dd4, dd5, dd6, dd7, dd8, dd9, .pointer (some p_1), dd10, dd11, .pointer (some w_2), .pointer (some out_3), dd12, dd13, dd14, dd15, dd16, dd17, dd18, dd19, dd20, dd21, dd22, dd23, dd24, dd25, dd26, dd27, dd28, dd29, dd30, dd31, dd32, dd33, dd34, dd35, dd36, dd37, dd38, dd39, dd40, dd41, dd42, dd43, dd44, dd45, dd46, dd47, dd48, dd49, dd50, dd51, dd52, dd53, dd54, dd55, dd56, dd57, dd58, dd59, dd60, dd61, dd62, dd63, dd64, dd65, dd66, dd67] (rfOf Tryz.f146 0).1 (rfOf Tryz.f146 0).2.1 (rfOf Tryz.f146 0).2.2 fn D))) : sh146_0 p_1 w_2 out_3 y68 y69 y70 y71 y72 l R w → doCall Tryz.prog (.func (.yield l) #[] #[]) #[.agg #[.int .i64 y68, .int .i64 y69, .int .i64 y70, .bool y71, .bool y72]] w R :=
  fun h => ⟨Old.round_of_eq (ann := fun _ => []) 400 follows_mixed hl (by kernel_rfl) (by kernel_rfl) h⟩
def sh147 (x1 : Int) (x2 : Int) (x3 : Int) (x4 : Bool) (x5 : Bool) (R : EW) (w : World) : Prop :=
 doAl (.cells #[.int .i64 x1, .int .i64 x2, .int .i64 x3, .bool x4, .bool x5] 149) w (fun _b6 w7 =>
 R (.returned (.bool true)) w7)
theorem sh147_ok (x1 : Int) (x2 : Int) (x3 : Int) (x4 : Bool) (x5 : Bool) {R : EW} {w : World} : sh147 x1 x2 x3 x4 x5 R w → Calls Tryz.prog 147 #[.agg #[.int .i64 x1, .int .i64 x2, .int .i64 x3, .bool x4, .bool x5]] w R :=
  ceq Tryz.func147 (by kernel_rfl) (by kernel_rfl)
def sh148 (x_1 : Int) (x_2 : Int) (x_3 : Int) (x_4 : Bool) (x_5 : Bool) (R : EW) (w : World) : Prop :=
 doAl (.cells #[.int .i64 x_1, .int .i64 x_2, .int .i64 x_3, .bool x_4, .bool x_5] 149) w (fun b6 w7 =>
 let K10 : Bool → World → Prop := fun x8 w9 => 
 R (.returned (.bool x8)) w9
 ∃ x11, w7.cell? ((blk b6).add 3) = some (.bool x11) ∧ (
 ifB x11 (
 ∃ x12, w7.cell? ((blk b6).add 4) = some (.bool x12) ∧ (
 K10 x12 w7)) (
 R (.returned (.bool false)) w7)))
theorem sh148_ok (x_1 : Int) (x_2 : Int) (x_3 : Int) (x_4 : Bool) (x_5 : Bool) {R : EW} {w : World} : sh148 x_1 x_2 x_3 x_4 x_5 R w → Calls Tryz.prog 148 #[.agg #[.int .i64 x_1, .int .i64 x_2, .int .i64 x_3, .bool x_4, .bool x_5]] w R :=
  ceq Tryz.func148 (by kernel_rfl) (by kernel_rfl)
def sh149 (x_1 : Int) (x_2 : Int) (x_3 : Int) (x_4 : Bool) (x_5 : Bool) (R : EW) (w : World) : Prop :=
 doAl (.cells #[.int .i64 x_1, .int .i64 x_2, .int .i64 x_3, .bool x_4, .bool x_5] 149) w (fun b6 w7 =>
 ∃ x8, w7.cell? ((blk b6).add 4) = some (.bool x8) ∧ (
 R (.returned (.bool (!x8))) w7))
theorem sh149_ok (x_1 : Int) (x_2 : Int) (x_3 : Int) (x_4 : Bool) (x_5 : Bool) {R : EW} {w : World} : sh149 x_1 x_2 x_3 x_4 x_5 R w → Calls Tryz.prog 149 #[.agg #[.int .i64 x_1, .int .i64 x_2, .int .i64 x_3, .bool x_4, .bool x_5]] w R :=
  ceq Tryz.func149 (by kernel_rfl) (by kernel_rfl)
def sh150 (x_1 : Int) (x_2 : Int) (x_3 : Int) (x_4 : Bool) (x_5 : Bool) (R : EW) (w : World) : Prop :=
 doAl (.cells #[.int .i64 x_1, .int .i64 x_2, .int .i64 x_3, .bool x_4, .bool x_5] 149) w (fun b6 w7 =>
 ∃ x8, w7.cell? ((blk b6).add 3) = some (.bool x8) ∧ (
 ∃ x9, w7.cell? ((blk b6).add 4) = some (.bool x9) ∧ (
 R (.returned (.bool (!(x8 == x9)))) w7)))
theorem sh150_ok (x_1 : Int) (x_2 : Int) (x_3 : Int) (x_4 : Bool) (x_5 : Bool) {R : EW} {w : World} : sh150 x_1 x_2 x_3 x_4 x_5 R w → Calls Tryz.prog 150 #[.agg #[.int .i64 x_1, .int .i64 x_2, .int .i64 x_3, .bool x_4, .bool x_5]] w R :=
  ceq Tryz.func150 (by kernel_rfl) (by kernel_rfl)
def sh151 (p_1 : Int) (p_2 : Int) (p_3 : Int) (p_4 : Bool) (l_p5 : OA) (l_n6 : Nat) (_l_c7 : Nat) (R : EW) (w : World) : Prop :=
 doAl (.cells #[.int .u8 p_1, .int .i64 p_2, .int .i64 p_3, .bool p_4] 27) w (fun b8 w9 =>
 ∃ x10, w9.cell? ((blk b8).add 0) = some (.int .u8 x10) ∧ (
 ∃ x11, w9.cell? ((blk b8).add 1) = some (.int .i64 x11) ∧ (
 ∃ x12, w9.cell? ((blk b8).add 2) = some (.int .i64 x12) ∧ (
 ∃ x13, w9.cell? ((blk b8).add 3) = some (.bool x13) ∧ (
 doCall Tryz.prog (.func (.func 119) #[] #[]) #[.agg #[.int .u8 x10, .int .i64 x11, .int .i64 x12, .bool x13]] w9 (retS (fun v15 w16 => ∃ x14, v15 = (.bool x14 : Value) ∧ (
 ifB (!x14) (
 R (.returned (.tuple #[.slice none 0 0, .slice none 0 0, .int .i64 2])) w16) (
 ∃ (I17 : List Value → World → Prop) (μ18 : List Value → World → Nat), I17 [.slice none 0 0, .slice none 0 0, .int .i64 0] w16 ∧ (∀ (in_p21 : OA), ∀ (in_n22 : Nat), ∀ (in_c23 : Nat), ∀ (out_p24 : OA), ∀ (out_n25 : Nat), ∀ (out_c26 : Nat), ∀ (x27 : Int), ∀ (_j19 : Nat → Value) (w20 : World), I17 [.slice in_p21 in_n22 in_c23, .slice out_p24 out_n25 out_c26, .int .i64 x27] w20 → (
 ifB (decide ((x27 : Int) < ((l_n6 : Nat) : Int))) (
 let K35 : (OA) → Nat → Nat → (OA) → Nat → Nat → World → Prop := fun in_p28 in_n29 in_c30 out_p31 out_n32 out_c33 w34 => 
 I17 [.slice in_p28 in_n29 in_c30, .slice out_p31 out_n32 out_c33, .int .i64 (IntKind.wrap .i64 (x27 + 1))] w34 ∧ μ18 [.slice in_p28 in_n29 in_c30, .slice out_p31 out_n32 out_c33, .int .i64 (IntKind.wrap .i64 (x27 + 1))] w34 < μ18 [.slice in_p21 in_n22 in_c23, .slice out_p24 out_n25 out_c26, .int .i64 x27] w20
 doIx l_p5 l_n6 2 (x27) (fun a36 =>
 ∃ x37, w20.cell? (a36.add 0) = some (.int .i64 x37) ∧ (
 ∃ x38, w20.cell? (a36.add 1) = some (.int .i64 x38) ∧ (
 doAl (.cells #[.int .i64 0, .int .i64 0] 63) w20 (fun b39 w40 =>
 doSt ((blk b39).add 0) (.int .i64 x37) w40 (fun w41 =>
 doSt ((blk b39).add 1) (.int .i64 x38) w41 (fun w42 =>
 ∃ x43, w42.cell? ((blk b8).add 0) = some (.int .u8 x43) ∧ (
 ∃ x44, w42.cell? ((blk b8).add 1) = some (.int .i64 x44) ∧ (
 ∃ x45, w42.cell? ((blk b8).add 2) = some (.int .i64 x45) ∧ (
 ∃ x46, w42.cell? ((blk b8).add 3) = some (.bool x46) ∧ (
 ∃ x47, w42.cell? ((blk b39).add 0) = some (.int .i64 x47) ∧ (
 ∃ x48, w42.cell? ((blk b39).add 1) = some (.int .i64 x48) ∧ (
 doCall Tryz.prog (.func (.func 169) #[] #[]) #[.agg #[.int .u8 x43, .int .i64 x44, .int .i64 x45, .bool x46], .agg #[.int .i64 x47, .int .i64 x48]] w42 (retS (fun v50 w51 => ∃ x49, v50 = (.bool x49 : Value) ∧ (
 ifB x49 (
 ∃ x52, w51.cell? ((blk b39).add 0) = some (.int .i64 x52) ∧ (
 ∃ x53, w51.cell? ((blk b39).add 1) = some (.int .i64 x53) ∧ (
 doAl (.cells #[.int .i64 x52, .int .i64 x53] 63) w51 (fun b54 w55 =>
 doGo Tryz.prog (.builtin .append #[22, 22] 22 #[false, false]) #[.slice in_p21 in_n22 in_c23, .slice (some (blk b54)) 1 1] w55 (retS (fun v59 w60 => ∃ xp56 xn57 xc58, v59 = (.slice xp56 xn57 xc58 : Value) ∧ (
 K35 xp56 xn57 xc58 out_p24 out_n25 out_c26 w60)) (kN R)))))) (
 ∃ x61, w51.cell? ((blk b39).add 0) = some (.int .i64 x61) ∧ (
 ∃ x62, w51.cell? ((blk b39).add 1) = some (.int .i64 x62) ∧ (
 doAl (.cells #[.int .i64 x61, .int .i64 x62] 63) w51 (fun b63 w64 =>
 doGo Tryz.prog (.builtin .append #[22, 22] 22 #[false, false]) #[.slice out_p24 out_n25 out_c26, .slice (some (blk b63)) 1 1] w64 (retS (fun v68 w69 => ∃ xp65 xn66 xc67, v68 = (.slice xp65 xn66 xc67 : Value) ∧ (
 K35 in_p21 in_n22 in_c23 xp65 xn66 xc67 w69)) (kN R)))))))) (kN R))))))))))))))) (
 R (.returned (.tuple #[.slice in_p21 in_n22 in_c23, .slice out_p24 out_n25 out_c26, .int .i64 0])) w20)))))) (kN R)))))))
theorem sh151_ok (p_1 : Int) (p_2 : Int) (p_3 : Int) (p_4 : Bool) (l_p5 : OA) (l_n6 : Nat) (l_c7 : Nat) {R : EW} {w : World} : sh151 p_1 p_2 p_3 p_4 l_p5 l_n6 l_c7 R w → Calls Tryz.prog 151 #[.agg #[.int .u8 p_1, .int .i64 p_2, .int .i64 p_3, .bool p_4], .slice l_p5 l_n6 l_c7] w R :=
  Old.calls_of_eq (ann := fun i => if i = 0 then [(4, .slice none 0 0), (5, .slice none 0 0), (14, .int .i64 0)] else []) (fn := Tryz.f151) (c := bodyOf Tryz.f151) (args := #[.agg #[.int .u8 p_1, .int .i64 p_2, .int .i64 p_3, .bool p_4], .slice l_p5 l_n6 l_c7]) 400 follows_mixed Tryz.func151 (by kernel_rfl) (by kernel_rfl)
def sh152 (o_1 : Int) (l_p2 : OA) (l_n3 : Nat) (l_c4 : Nat) (key_5 : Int) (R : EW) (w : World) : Prop :=
 doAl (.cells #[.int .u8 o_1] 5) w (fun b6 w7 =>
 doAl (.cells #[.slice l_p2 l_n3 l_c4] 22) w7 (fun b8 w9 =>
 doAl (.cells #[.int .i64 key_5] 2) w9 (fun b10 w11 =>
 ∃ xp12 xn13 xc14, w11.cell? (blk b8) = some (.slice xp12 xn13 xc14) ∧ (
 doCall Tryz.prog (.func (.func 170) #[] #[]) #[.int .i64 ((xn13 : Nat) : Int), .func (.func 171) #[] #[.pointer (some (blk b6)), .pointer (some (blk b8)), .pointer (some (blk b10))]] w11 (retS (fun v16 w17 => ∃ x15, v16 = (.int .i64 x15 : Value) ∧ (
 R (.returned (.int .i64 x15)) w17)) (kN R))))))
theorem sh152_ok (o_1 : Int) (l_p2 : OA) (l_n3 : Nat) (l_c4 : Nat) (key_5 : Int) {R : EW} {w : World} : sh152 o_1 l_p2 l_n3 l_c4 key_5 R w → Calls Tryz.prog 152 #[.int .u8 o_1, .slice l_p2 l_n3 l_c4, .int .i64 key_5] w R :=
  ceq Tryz.func152 (by kernel_rfl) (by kernel_rfl)
def sh153 (x_1 : Int) (x_2 : Int) (x_3 : Int) (x_4 : Bool) (x_5 : Bool) (x6 : Addr) (x7 : Addr) (x8 : Addr) (R : EW) (w : World) : Prop :=
 doAl (.cells #[.int .i64 x_1, .int .i64 x_2, .int .i64 x_3, .bool x_4, .bool x_5] 149) w (fun b9 w10 =>
 let K13 : Bool → World → Prop := fun x11 w12 => 
 R (.returned (.bool x11)) w12
 ∃ x14, w10.cell? x6 = some (.int .u8 x14) ∧ (
 ∃ x15, w10.cell? ((blk b9).add 0) = some (.int .i64 x15) ∧ (
 ∃ x16, w10.cell? x7 = some (.int .i64 x16) ∧ (
 doCall Tryz.prog (.func (.func 54) #[] #[]) #[.int .u8 x14, .int .i64 x15, .int .i64 x16] w10 (retS (fun v18 w19 => ∃ x17, v18 = (.int .i64 x17 : Value) ∧ (
 ifB (decide ((x17 : Int) ≥ 0)) (
 ∃ x20, w19.cell? x6 = some (.int .u8 x20) ∧ (
 ∃ x21, w19.cell? ((blk b9).add 0) = some (.int .i64 x21) ∧ (
 ∃ x22, w19.cell? x8 = some (.int .i64 x22) ∧ (
 doCall Tryz.prog (.func (.func 54) #[] #[]) #[.int .u8 x20, .int .i64 x21, .int .i64 x22] w19 (retS (fun v24 w25 => ∃ x23, v24 = (.int .i64 x23 : Value) ∧ (
 K13 (decide ((x23 : Int) ≤ 0)) w25)) (kN R)))))) (
 R (.returned (.bool false)) w19))) (kN R))))))
theorem sh153_ok (x_1 : Int) (x_2 : Int) (x_3 : Int) (x_4 : Bool) (x_5 : Bool) (x6 : Addr) (x7 : Addr) (x8 : Addr) {R : EW} {w : World} : sh153 x_1 x_2 x_3 x_4 x_5 x6 x7 x8 R w → Calls Tryz.prog 153 #[.agg #[.int .i64 x_1, .int .i64 x_2, .int .i64 x_3, .bool x_4, .bool x_5], .pointer (some x6), .pointer (some x7), .pointer (some x8)] w R :=
  ceq Tryz.func153 (by kernel_rfl) (by kernel_rfl)
def sh154 (l_p1 : OA) (l_n2 : Nat) (_l_c3 : Nat) (R : EW) (w : World) : Prop :=
 doCall Tryz.prog (.func (.func 172) #[] #[]) #[] w (retS (fun v7 w8 => ∃ xf4 xx5 xc6, v7 = (.func xf4 xx5 xc6 : Value) ∧ (
 ∃ (I9 : List Value → World → Prop) (μ10 : List Value → World → Nat), I9 [.int .i64 0, .int .i64 0] w8 ∧ (∀ (sum_13 : Int), ∀ (x14 : Int), ∀ (_j11 : Nat → Value) (w12 : World), I9 [.int .i64 sum_13, .int .i64 x14] w12 → (
 ifB (decide ((x14 : Int) < ((l_n2 : Nat) : Int))) (
 doIx l_p1 l_n2 1 (x14) (fun a15 =>
 ∃ x16, w12.cell? a15 = some (.int .i64 x16) ∧ (
 doCall Tryz.prog (.func xf4 xx5 xc6) #[.int .i64 x16] w12 (retS (fun v18 w19 => ∃ x17, v18 = (.int .i64 x17 : Value) ∧ (
 I9 [.int .i64 x17, .int .i64 (IntKind.wrap .i64 (x14 + 1))] w19 ∧ μ10 [.int .i64 x17, .int .i64 (IntKind.wrap .i64 (x14 + 1))] w19 < μ10 [.int .i64 sum_13, .int .i64 x14] w12)) (kN R))))) (
 R (.returned (.int .i64 sum_13)) w12))))) (kN R))
theorem sh154_ok (l_p1 : OA) (l_n2 : Nat) (l_c3 : Nat) {R : EW} {w : World} : sh154 l_p1 l_n2 l_c3 R w → Calls Tryz.prog 154 #[.slice l_p1 l_n2 l_c3] w R :=
  Old.calls_of_eq (ann := fun i => if i = 0 then [(2, .int .i64 0), (9, .int .i64 0)] else []) (fn := Tryz.f154) (c := bodyOf Tryz.f154) (args := #[.slice l_p1 l_n2 l_c3]) 400 follows_mixed Tryz.func154 (by kernel_rfl) (by kernel_rfl)
def sh156 (x_1 : Value) (R : EW) (w : World) : Prop :=
 doEqN Tryz.prog .eql 20 (.tmp 6) (.const (.nilIface)) (x_1) (fun b2 =>
 ifB b2 (
 R (.returned (.bool false)) w) (
 doTA Tryz.prog (x_1) 20 194 true w (fun v4 => ∃ x3, v4 = (.tuple #[.agg #[], .bool x3] : Value) ∧ (
 ifB x3 (
 doAl (.cells #[] 194) w (fun _b5 w6 =>
 R (.returned (.bool true)) w6)) (
 doPanic Tryz.prog (x_1) w (kN R))))))
theorem sh156_ok (x_1 : Value) {R : EW} {w : World} : sh156 x_1 R w → Calls Tryz.prog 156 #[x_1] w R :=
  ceq Tryz.func156 (by kernel_rfl) (by kernel_rfl)
def sh157 (x_1 : OA) (c_t2 : TypeId) (c_v3 : Value) (R : EW) (w : World) : Prop :=
 doDr w (fun w4 =>
 ∃ q5, x_1 = some q5 ∧ (
 doNC Tryz.prog (.func (.method "joinery/op.word") #[.iface c_t2 c_v3] #[]) (
 doCall Tryz.prog (.func (.func 173) #[] #[]) #[] w4 (retS (fun v9 w10 => ∃ xp6 xn7 xc8, v9 = (.slice xp6 xn7 xc8 : Value) ∧ (
 doGo Tryz.prog (.fn (.method "joinery/op.word") #[]) #[.iface c_t2 c_v3, .pointer (some (q5.add 0)), .slice xp6 xn7 xc8] w10 (retS (fun v11 w12 => v11 = (.tuple #[] : Value) ∧ (
 doCall Tryz.prog (.func (.func 174) #[] #[]) #[.agg #[.pointer x_1, .iface c_t2 c_v3]] w12 (retS (fun v16 w17 => ∃ xp13 xn14 xc15, v16 = (.slice xp13 xn14 xc15 : Value) ∧ (
 ∃ (I18 : List Value → World → Prop) (μ19 : List Value → World → Nat), I18 [.int .i64 0] w17 ∧ (∀ (x22 : Int), ∀ (_j20 : Nat → Value) (w21 : World), I18 [.int .i64 x22] w21 → (
 ifB (decide ((x22 : Int) < ((xn14 : Nat) : Int))) (
 doIx xp13 xn14 1 (x22) (fun a23 =>
 ∃ xf24 xx25 xc26, w21.cell? a23 = some (.func xf24 xx25 xc26) ∧ (
 doCall Tryz.prog (.func xf24 xx25 xc26) #[] w21 (retS (fun v27 w28 => v27 = (.tuple #[] : Value) ∧ (
 I18 [.int .i64 (IntKind.wrap .i64 (x22 + 1))] w28 ∧ μ19 [.int .i64 (IntKind.wrap .i64 (x22 + 1))] w28 < μ19 [.int .i64 x22] w21)) (kN R))))) (
 R (.returned (.tuple #[])) w21))))) (kN R)))) (kN R)))) (kN R)))))
theorem sh157_ok (x_1 : OA) (c_t2 : TypeId) (c_v3 : Value) {R : EW} {w : World} : sh157 x_1 c_t2 c_v3 R w → Calls Tryz.prog 157 #[.pointer x_1, .iface c_t2 c_v3] w R :=
  Old.calls_of_eq (ann := fun i => if i = 0 then [(20, .int .i64 0)] else []) (fn := Tryz.f157) (c := bodyOf Tryz.f157) (args := #[.pointer x_1, .iface c_t2 c_v3]) 400 follows_mixed Tryz.func157 (by kernel_rfl) (by kernel_rfl)
def sh158  (R : EW) (w : World) : Prop :=
 doAl (.map #[] 0) w (fun b1 w2 =>
 doMu Tryz.prog 171 (.map (some b1)) (.int .u8 1) (.agg #[.func (.func 175) #[] #[]]) w2 (fun w3 =>
 doMu Tryz.prog 171 (.map (some b1)) (.int .u8 2) (.agg #[.func (.func 176) #[] #[]]) w3 (fun w4 =>
 doMu Tryz.prog 171 (.map (some b1)) (.int .u8 3) (.agg #[.func (.func 177) #[] #[]]) w4 (fun w5 =>
 R (.returned (.map (some b1))) w5))))
theorem sh158_ok  {R : EW} {w : World} : sh158  R w → Calls Tryz.prog 158 #[] w R :=
  ceq Tryz.func158 (by kernel_rfl) (by kernel_rfl)
def sh159  (R : EW) (w : World) : Prop :=
 doAl (.cells #[.nilFunc] 205) w (fun b1 w2 =>
 doSt ((blk b1).add 0) (.func (.func 179) #[] #[]) w2 (fun w3 =>
 doAl (.map #[] 0) w3 (fun b4 w5 =>
 doMu Tryz.prog 178 (.map (some b4)) (.int .u8 1) (.agg #[.func (.func 180) #[] #[], .func (.func 181) #[] #[]]) w5 (fun w6 =>
 doMu Tryz.prog 178 (.map (some b4)) (.int .u8 2) (.agg #[.func (.func 178) #[] #[], .func (.func 182) #[] #[.pointer (some (blk b1))]]) w6 (fun w7 =>
 doMu Tryz.prog 178 (.map (some b4)) (.int .u8 3) (.agg #[.func (.func 178) #[] #[], .func (.func 183) #[] #[.pointer (some (blk b1))]]) w7 (fun w8 =>
 doMu Tryz.prog 178 (.map (some b4)) (.int .u8 4) (.agg #[.func (.func 184) #[] #[], .func (.func 185) #[] #[]]) w8 (fun w9 =>
 doMu Tryz.prog 178 (.map (some b4)) (.int .u8 5) (.agg #[.func (.func 186) #[] #[], .func (.func 187) #[] #[]]) w9 (fun w10 =>
 R (.returned (.map (some b4))) w10))))))))
theorem sh159_ok  {R : EW} {w : World} : sh159  R w → Calls Tryz.prog 159 #[] w R :=
  ceq Tryz.func159 (by kernel_rfl) (by kernel_rfl)
def sh160 (x_1 : Int) (R : EW) (w : World) : Prop :=
 (0 : Int) ≤ 1 ∧ (
 (0 : Int) ≤ 1 ∧ (
 (0 : Int) ≤ 2 ∧ (
 (0 : Int) ≤ 2 ∧ (
 (0 : Int) ≤ 4 ∧ (
 (0 : Int) ≤ 4 ∧ (
 doCall Tryz.prog (.func (.func 188) #[] #[]) #[.int .u64 (bOr .u64 (bAnd .u64 (Int.fdiv (bOr .u64 (bAnd .u64 (Int.fdiv (bOr .u64 (bAnd .u64 (Int.fdiv x_1 (2 ^ (min (1 : Int).toNat (IntKind.bits .u64)))) 6148914691236517205) (IntKind.wrap .u64 ((bAnd .u64 x_1 6148914691236517205) * 2 ^ (min (1 : Int).toNat (IntKind.bits .u64))))) (2 ^ (min (2 : Int).toNat (IntKind.bits .u64)))) 3689348814741910323) (IntKind.wrap .u64 ((bAnd .u64 (bOr .u64 (bAnd .u64 (Int.fdiv x_1 (2 ^ (min (1 : Int).toNat (IntKind.bits .u64)))) 6148914691236517205) (IntKind.wrap .u64 ((bAnd .u64 x_1 6148914691236517205) * 2 ^ (min (1 : Int).toNat (IntKind.bits .u64))))) 3689348814741910323) * 2 ^ (min (2 : Int).toNat (IntKind.bits .u64))))) (2 ^ (min (4 : Int).toNat (IntKind.bits .u64)))) 1085102592571150095) (IntKind.wrap .u64 ((bAnd .u64 (bOr .u64 (bAnd .u64 (Int.fdiv (bOr .u64 (bAnd .u64 (Int.fdiv x_1 (2 ^ (min (1 : Int).toNat (IntKind.bits .u64)))) 6148914691236517205) (IntKind.wrap .u64 ((bAnd .u64 x_1 6148914691236517205) * 2 ^ (min (1 : Int).toNat (IntKind.bits .u64))))) (2 ^ (min (2 : Int).toNat (IntKind.bits .u64)))) 3689348814741910323) (IntKind.wrap .u64 ((bAnd .u64 (bOr .u64 (bAnd .u64 (Int.fdiv x_1 (2 ^ (min (1 : Int).toNat (IntKind.bits .u64)))) 6148914691236517205) (IntKind.wrap .u64 ((bAnd .u64 x_1 6148914691236517205) * 2 ^ (min (1 : Int).toNat (IntKind.bits .u64))))) 3689348814741910323) * 2 ^ (min (2 : Int).toNat (IntKind.bits .u64))))) 1085102592571150095) * 2 ^ (min (4 : Int).toNat (IntKind.bits .u64)))))] w (retS (fun v3 w4 => ∃ x2, v3 = (.int .u64 x2 : Value) ∧ (
 R (.returned (.int .u64 x2)) w4)) (kN R))))))))
theorem sh160_ok (x_1 : Int) {R : EW} {w : World} : sh160 x_1 R w → Calls Tryz.prog 160 #[.int .u64 x_1] w R :=
  ceq Tryz.func160 (by kernel_rfl) (by kernel_rfl)
end Go.Proofs.YtmdboekndjlmgaaGreat

