/-
  Printed by a program (gen.py): what the functions of the program do, as formulas; each with the proof that its call is what the formula says.
-/
/-
  Printed by a program (gen.py): what the functions of the program do, as formulas; each with the proof that its call is what the formula says.
-/
/-
  Printed by a program (gen.py): what the functions of the program do, as formulas; each with the proof that its call is what the formula says.
-/
import Derived.Test.YtlddfgfmkapoiaaGreatZ02
import Derived.Test.YtlddfgfmkapoiaaGreatProg
import Derived.Test.YtlddfgfmkapoiaaGreatZ04

namespace Go.Proofs.YtlddfgfmkapoiaaGreat
open Go Go.Sh
set_option maxRecDepth 100000 in
/-- joinery/canon.Is -/
def sh51 (o_1 : Int) (t_2 : Option Addr) (R : Ending → World → Prop) (w : World) : Prop :=
 doCall Tryz.prog (.func (.func 117) #[] #[]) #[.int .u8 o_1, .pointer t_2] w (retS (fun v5 w6 => ∃ (x3 : Int), ∃ (x4 : Int), v5 = (.tuple #[.int .i64 x3, .int .i64 x4] : Value) ∧ (
 let K9 : Bool → World → Prop := fun (x7 : Bool) (w8 : World) => 
 R (.returned (.bool x7)) w8
 ifB ((x4 : Int) == 0) (
 doCall Tryz.prog (.func (.func 118) #[] #[]) #[.pointer t_2] w6 (retS (fun v11 w12 => ∃ (x10 : Bool), v11 = (.bool x10 : Value) ∧ (
 ifB x10 (
 doCall Tryz.prog (.func (.func 119) #[] #[]) #[.pointer t_2] w12 (retS (fun v14 w15 => ∃ (x13 : Bool), v14 = (.bool x13 : Value) ∧ (
 K9 x13 w15)) (fun ch w => Kfn R ch [] w))) (
 R (.returned (.bool false)) w12))) (fun ch w => Kfn R ch [] w))) (
 R (.returned (.bool false)) w6))) (fun ch w => Kfn R ch [] w))
set_option maxRecDepth 100000 in
theorem sh51_ok (o_1 : Int) (t_2 : Option Addr) {R : Ending → World → Prop} {w : World} : sh51 o_1 t_2 R w → Calls Tryz.prog 51 #[.int .u8 o_1, .pointer t_2] w R :=
  calls_of_eq (ann := fun _ => []) (fn := Tryz.f51) (c := bodyOf Tryz.f51) (args := #[.int .u8 o_1, .pointer t_2]) 400 follows_mixed Tryz.func51 (by kernel_rfl) (by kernel_rfl)
set_option maxRecDepth 100000 in
/-- joinery/canon.Same -/
def sh54 (a_1 : Option Addr) (b_2 : Option Addr) (R : Ending → World → Prop) (w : World) : Prop :=
 doCall Tryz.prog (.func (.func 121) #[] #[]) #[.pointer a_1, .pointer b_2] w (retS (fun v4 w5 => ∃ (x3 : Bool), v4 = (.bool x3 : Value) ∧ (
 R (.returned (.bool x3)) w5)) (fun ch w => Kfn R ch [] w))
set_option maxRecDepth 100000 in
theorem sh54_ok (a_1 : Option Addr) (b_2 : Option Addr) {R : Ending → World → Prop} {w : World} : sh54 a_1 b_2 R w → Calls Tryz.prog 54 #[.pointer a_1, .pointer b_2] w R :=
  calls_of_eq (ann := fun _ => []) (fn := Tryz.f54) (c := bodyOf Tryz.f54) (args := #[.pointer a_1, .pointer b_2]) 400 follows_mixed Tryz.func54 (by kernel_rfl) (by kernel_rfl)
set_option maxRecDepth 100000 in
/-- joinery/canon.Digest -/
def sh55 (t_1 : Option Addr) (R : Ending → World → Prop) (w : World) : Prop :=
 ifB ((t_1).isNone) (
 R (.returned (.int .u64 0)) w) (
 doCall Tryz.prog (.func (.func 123) #[] #[]) #[.pointer t_1] w (retS (fun v3 w4 => ∃ (x2 : Option Addr), v3 = (.pointer x2 : Value) ∧ (
 doCall Tryz.prog (.func (.func 55) #[] #[]) #[.pointer x2] w4 (retS (fun v6 w7 => ∃ (x5 : Int), v6 = (.int .u64 x5 : Value) ∧ (
 doCall Tryz.prog (.func (.func 125) #[] #[]) #[.pointer t_1] w7 (retS (fun v9 w10 => ∃ (x8 : Option Addr), v9 = (.pointer x8 : Value) ∧ (
 doCall Tryz.prog (.func (.func 55) #[] #[]) #[.pointer x8] w10 (retS (fun v12 w13 => ∃ (x11 : Int), v12 = (.int .u64 x11 : Value) ∧ (
 doCall Tryz.prog (.func (.func 124) #[] #[]) #[.int .u64 x11, .int .i64 17] w13 (retS (fun v15 w16 => ∃ (x14 : Int), v15 = (.int .u64 x14 : Value) ∧ (
 doCall Tryz.prog (.func (.func 108) #[] #[]) #[.pointer t_1] w16 (retS (fun v18 w19 => ∃ (x17 : Int), v18 = (.int .i64 x17 : Value) ∧ (
 doCall Tryz.prog (.func (.func 122) #[] #[]) #[.int .u64 (IntKind.wrap .u64 x17)] w19 (retS (fun v21 w22 => ∃ (x20 : Int), v21 = (.int .u64 x20 : Value) ∧ (
 doCall Tryz.prog (.func (.func 126) #[] #[]) #[.pointer t_1] w22 (retS (fun v24 w25 => ∃ (x23 : Int), v24 = (.int .i64 x23 : Value) ∧ (
 doCall Tryz.prog (.func (.func 122) #[] #[]) #[.int .u64 (IntKind.wrap .u64 x23)] w25 (retS (fun v27 w28 => ∃ (x26 : Int), v27 = (.int .u64 x26 : Value) ∧ (
 doCall Tryz.prog (.func (.func 124) #[] #[]) #[.int .u64 x26, .int .i64 31] w28 (retS (fun v30 w31 => ∃ (x29 : Int), v30 = (.int .u64 x29 : Value) ∧ (
 doCall Tryz.prog (.func (.func 122) #[] #[]) #[.int .u64 (IntKind.wrap .u64 ((IntKind.wrap .u64 ((IntKind.wrap .u64 ((IntKind.wrap .u64 (1 + x5)) + x14)) + x20)) + x29))] w31 (retS (fun v33 w34 => ∃ (x32 : Int), v33 = (.int .u64 x32 : Value) ∧ (
 R (.returned (.int .u64 x32)) w34)) (fun ch w => Kfn R ch [] w)))) (fun ch w => Kfn R ch [] w)))) (fun ch w => Kfn R ch [] w)))) (fun ch w => Kfn R ch [] w)))) (fun ch w => Kfn R ch [] w)))) (fun ch w => Kfn R ch [] w)))) (fun ch w => Kfn R ch [] w)))) (fun ch w => Kfn R ch [] w)))) (fun ch w => Kfn R ch [] w)))) (fun ch w => Kfn R ch [] w)))) (fun ch w => Kfn R ch [] w)))
set_option maxRecDepth 100000 in
theorem sh55_ok (t_1 : Option Addr) {R : Ending → World → Prop} {w : World} : sh55 t_1 R w → Calls Tryz.prog 55 #[.pointer t_1] w R :=
  calls_of_eq (ann := fun _ => []) (fn := Tryz.f55) (c := bodyOf Tryz.f55) (args := #[.pointer t_1]) 400 follows_mixed Tryz.func55 (by kernel_rfl) (by kernel_rfl)
set_option maxRecDepth 100000 in
/-- joinery/canon.Diff -/
def sh58 (o_1 : Int) (a_2 : Option Addr) (b_3 : Option Addr) (R : Ending → World → Prop) (w : World) : Prop :=
 doAl (.cells #[.slice none 0 0] 24) w (fun b4 w5 =>
 doCall Tryz.prog (.func (.func 92) #[] #[]) #[.int .u8 4] w5 (retS (fun v8 w9 => ∃ (x6 : Option Addr), ∃ (x7 : Int), v8 = (.tuple #[.pointer x6, .int .i64 x7] : Value) ∧ (
 let K22 : Bool → Value → Value → Value → Value → Bool → Bool → Value → Value → Value → Value → World → Prop := fun (x10 : Bool) (d11 : Value) (d12 : Value) (d13 : Value) (d14 : Value) (x15 : Bool) (x16 : Bool) (d17 : Value) (d18 : Value) (d19 : Value) (d20 : Value) (w21 : World) => 
 doCall Tryz.prog (.func (.func 133) #[] #[]) #[.pointer x6, .int .u8 o_1, .pointer a_2, .pointer b_3] w21 (retS (fun v26 w27 => ∃ (xf23 : Fn), ∃ (xx24 : Array Value), ∃ (xc25 : Array Value), v26 = (.func xf23 xx24 xc25 : Value) ∧ (
 rfW Tryz.prog (.func xf23 xx24 xc25) (mkLoop #[.int .u8 o_1, .pointer a_2, .pointer b_3, undef, undef, undef, .pointer (some (blk b4)), .int .i64 x7, .pointer x6, undef, .tuple #[.pointer x6, .int .i64 x7], .tuple #[.pointer x6, .int .i64 x7], .pointer x6, .int .i64 x7, .int .i64 x7, .bool ((x7 : Int) != 0), .bool x10, d11, d12, d13, d14, .bool x15, .bool x16, d17, d18, d19, d20, .bool false, .pointer x6, .int .u8 o_1, .pointer a_2, .pointer b_3, .func xf23 xx24 xc25, undef, undef, undef, undef, undef, undef] (rfOf Tryz.f58 0).1 (rfOf Tryz.f58 0).2.1 (rfOf Tryz.f58 0).2.2)
 (fun w28 =>
 ∃ (xp29 : Option Addr), ∃ (xn30 : Nat), ∃ (xc31 : Nat), World.cell? w28 (blk b4) = some (.slice xp29 xn30 xc31) ∧ (
 doSt ((blk b4).add 0) (.slice xp29 xn30 xc31) w28 (fun w32 =>
 w32.heap[w27.heap.size]? = some (.deferred (some [])) ∧ (
 let w33 : World := w32.putObj w27.heap.size (.deferred none)
 ∃ (xp34 : Option Addr), ∃ (xn35 : Nat), ∃ (xc36 : Nat), World.cell? w33 (blk b4) = some (.slice xp34 xn35 xc36) ∧ (
 R (.returned (.tuple #[.slice xp34 xn35 xc36, .int .i64 0])) w33)))))
 (fun w37 =>
 w37.heap[w27.heap.size]? = some (.deferred (some [])) ∧ (
 let w38 : World := w37.putObj w27.heap.size (.deferred none)
 ∃ (xp39 : Option Addr), ∃ (xn40 : Nat), ∃ (xc41 : Nat), World.cell? w38 (blk b4) = some (.slice xp39 xn40 xc41) ∧ (
 R (.returned (.tuple #[.slice xp39 xn40 xc41, .int .i64 x7])) w38)))
 [] w27)) (fun ch w => Kfn R ch [] w))
 let K55 : Bool → Value → Value → Value → Value → Bool → Bool → Value → Value → Value → Value → Bool → World → Prop := fun (x42 : Bool) (d43 : Value) (d44 : Value) (d45 : Value) (d46 : Value) (x47 : Bool) (x48 : Bool) (d49 : Value) (d50 : Value) (d51 : Value) (d52 : Value) (x53 : Bool) (w54 : World) => 
 ifB x53 (
 doSt ((blk b4).add 0) (.slice none 0 0) w54 (fun w56 =>
 ∃ (xp57 : Option Addr), ∃ (xn58 : Nat), ∃ (xc59 : Nat), World.cell? w56 (blk b4) = some (.slice xp57 xn58 xc59) ∧ (
 R (.returned (.tuple #[.slice xp57 xn58 xc59, .int .i64 2])) w56))) (
 K22 x42 (d43 : Value) (d44 : Value) (d45 : Value) (d46 : Value) x47 x48 (d49 : Value) (d50 : Value) (d51 : Value) (d52 : Value) w54)
 ifB ((x7 : Int) != 0) (
 doSt ((blk b4).add 0) (.slice none 0 0) w9 (fun w60 =>
 ∃ (xp61 : Option Addr), ∃ (xn62 : Nat), ∃ (xc63 : Nat), World.cell? w60 (blk b4) = some (.slice xp61 xn62 xc63) ∧ (
 R (.returned (.tuple #[.slice xp61 xn62 xc63, .int .i64 2])) w60))) (
 doCall Tryz.prog (.func (.func 51) #[] #[]) #[.int .u8 o_1, .pointer a_2] w9 (retS (fun v65 w66 => ∃ (x64 : Bool), v65 = (.bool x64 : Value) ∧ (
 ifB (!x64) (
 doSt ((blk b4).add 0) (.slice none 0 0) w66 (fun w67 =>
 ∃ (xp68 : Option Addr), ∃ (xn69 : Nat), ∃ (xc70 : Nat), World.cell? w67 (blk b4) = some (.slice xp68 xn69 xc70) ∧ (
 R (.returned (.tuple #[.slice xp68 xn69 xc70, .int .i64 2])) w67))) (
 doCall Tryz.prog (.func (.func 51) #[] #[]) #[.int .u8 o_1, .pointer b_3] w66 (retS (fun v72 w73 => ∃ (x71 : Bool), v72 = (.bool x71 : Value) ∧ (
 K55 false (.int .u8 o_1 : Value) (.pointer a_2 : Value) (.bool x64 : Value) (.bool (!x64) : Value) (!x64) false (.int .u8 o_1 : Value) (.pointer b_3 : Value) (.bool x71 : Value) (.bool (!x71) : Value) (!x71) w73)) (fun ch w => Kfn R ch [] w))))) (fun ch w => Kfn R ch [] w))))) (fun ch w => Kfn R ch [] w)))
set_option maxRecDepth 100000 in
theorem sh58_ok (o_1 : Int) (a_2 : Option Addr) (b_3 : Option Addr) {R : Ending → World → Prop} {w : World} : sh58 o_1 a_2 b_3 R w → Calls Tryz.prog 58 #[.int .u8 o_1, .pointer a_2, .pointer b_3] w R :=
  calls_of_eq (ann := fun _ => []) (fn := Tryz.f58) (c := bodyOf Tryz.f58) (args := #[.int .u8 o_1, .pointer a_2, .pointer b_3]) 400 follows_mixed Tryz.func58 (by kernel_rfl) (by kernel_rfl)
set_option maxRecDepth 100000 in
/-- joinery/canon.Diff, a round of loop 0 -/
def sh58_0 (l_1 : Addr) (y40 : Int) (l : Nat) (R : Ending → World → Prop) (w : World) : Prop :=
 ∃ (r41 : Loop), w.heap[l]? = some (.loop r41) ∧ r41.state = .ready ∧ (
 let w42 : World := w.putObj l (.loop { r41 with state := .busy })
 ∃ (xp43 : Option Addr), ∃ (xn44 : Nat), ∃ (xc45 : Nat), World.cell? w42 l_1 = some (.slice xp43 xn44 xc45) ∧ (
 doAl (.cells #[.int .i64 y40] 2) w42 (fun b46 w47 =>
 doGo Tryz.prog (.builtin .append #[24, 24] 24 #[false, false]) #[.slice xp43 xn44 xc45, .slice (some (blk b46)) 1 1] w47 (retS (fun v51 w52 => ∃ (xp48 : Option Addr), ∃ (xn49 : Nat), ∃ (xc50 : Nat), v51 = (.slice xp48 xn49 xc50 : Value) ∧ (
 doSt (l_1.add 0) (.slice xp48 xn49 xc50) w52 (fun w53 =>
 ∃ (r54 : Loop), w53.heap[l]? = some (.loop r54) ∧ R (.returned (.bool true)) (w53.putObj l (.loop { r54 with state := .ready, pending := none }))))) (fun _ _ => False)))))
set_option maxRecDepth 100000 in
theorem sh58_0_ok {dd2 : Value} {dd3 : Value} {dd4 : Value} {dd5 : Value} {dd6 : Value} {dd7 : Value} {dd8 : Value} {dd9 : Value} {dd10 : Value} {dd11 : Value} {dd12 : Value} {dd13 : Value} {dd14 : Value} {dd15 : Value} {dd16 : Value} {dd17 : Value} {dd18 : Value} {dd19 : Value} {dd20 : Value} {dd21 : Value} {dd22 : Value} {dd23 : Value} {dd24 : Value} {dd25 : Value} {dd26 : Value} {dd27 : Value} {dd28 : Value} {dd29 : Value} {dd30 : Value} {dd31 : Value} {dd32 : Value} {dd33 : Value} {dd34 : Value} {dd35 : Value} {dd36 : Value} {dd37 : Value} {dd38 : Value} {dd39 : Value} {l_1 : Addr} {y40 : Int} {l fn D : Nat} {R : Ending → World → Prop} {w : World} (hl : w.heap[l]? = some (.loop (mkLoop #[dd2, dd3, dd4, dd5, dd6, dd7, .pointer (some l_1), dd8, dd9, dd10, dd11, dd12, dd13, dd14, dd15, dd16, dd17, dd18, dd19, dd20, dd21, dd22, dd23, dd24, dd25, dd26, dd27, dd28, dd29, dd30, dd31, dd32, dd33, dd34, dd35, dd36, dd37, dd38, dd39] (rfOf Tryz.f58 0).1 (rfOf Tryz.f58 0).2.1 (rfOf Tryz.f58 0).2.2 fn D))) : sh58_0 l_1 y40 l R w → doCall Tryz.prog (.func (.yield l) #[] #[]) #[.int .i64 y40] w R :=
  fun h => ⟨round_of_eq (ann := fun _ => []) 400 follows_mixed hl (by kernel_rfl) (by kernel_rfl) h⟩
set_option maxRecDepth 100000 in
/-- joinery/joineryref10.SameKeys -/
def sh61 (a_p1 : Option Addr) (a_n2 : Nat) (_a_c3 : Nat) (b_p4 : Option Addr) (b_n5 : Nat) (_b_c6 : Nat) (R : Ending → World → Prop) (w : World) : Prop :=
 ifB ((((a_n2 : Nat) : Int) : Int) != ((b_n5 : Nat) : Int)) (
 R (.returned (.bool false)) w) (
 ∃ (I7 : List Value → World → Prop) (μ8 : List Value → World → Nat), I7 [.int .i64 0] w ∧ (∀ (i_11 : Int), ∀ (_j9 : Nat → Value) (w10 : World), I7 [.int .i64 i_11] w10 → (
 ifB (decide ((i_11 : Int) < ((a_n2 : Nat) : Int))) (
 doDr w10 (fun w13 =>
 ∃ (C12 : World → Prop), C12 w13 ∧ (
 doIx a_p1 a_n2 1 (i_11) (fun a14 =>
 ∃ (x15 : Int), (∀ w, C12 w → World.cell? w a14 = some (.int .i64 x15)) ∧ (
 doIx b_p4 b_n5 1 (i_11) (fun a16 =>
 ∃ (x17 : Int), (∀ w, C12 w → World.cell? w a16 = some (.int .i64 x17)) ∧ (
 ifB ((x15 : Int) != x17) (
 R (.returned (.bool false)) w13) (
 I7 [.int .i64 (IntKind.wrap .i64 (i_11 + 1))] w13 ∧ μ8 [.int .i64 (IntKind.wrap .i64 (i_11 + 1))] w13 < μ8 [.int .i64 i_11] w10)))))))) (
 R (.returned (.bool true)) w10))))
set_option maxRecDepth 100000 in
theorem sh61_ok (a_p1 : Option Addr) (a_n2 : Nat) (a_c3 : Nat) (b_p4 : Option Addr) (b_n5 : Nat) (b_c6 : Nat) {R : Ending → World → Prop} {w : World} : sh61 a_p1 a_n2 a_c3 b_p4 b_n5 b_c6 R w → Calls Tryz.prog 61 #[.slice a_p1 a_n2 a_c3, .slice b_p4 b_n5 b_c6] w R :=
  calls_of_eq (ann := fun i => if i = 0 then [(5, .int .i64 0)] else []) (fn := Tryz.f61) (c := bodyOf Tryz.f61) (args := #[.slice a_p1 a_n2 a_c3, .slice b_p4 b_n5 b_c6]) 400 follows_mixed Tryz.func61 (by kernel_rfl) (by kernel_rfl)
end Go.Proofs.YtlddfgfmkapoiaaGreat

namespace Go.Proofs.YtlddfgfmkapoiaaGreat
open Go Go.Sh
set_option maxRecDepth 100000 in
/-- joinery/mix.Of -/
def sh83 (key_1 : Int) (R : Ending → World → Prop) (w : World) : Prop :=
 doCall Tryz.prog (.func (.func 122) #[] #[]) #[.int .u64 (IntKind.wrap .u64 ((IntKind.wrap .u64 key_1) + 11400714819323198485))] w (retS (fun v3 w4 => ∃ (x2 : Int), v3 = (.int .u64 x2 : Value) ∧ (
 R (.returned (.int .u64 x2)) w4)) (fun ch w => Kfn R ch [] w))
set_option maxRecDepth 100000 in
theorem sh83_ok (key_1 : Int) {R : Ending → World → Prop} {w : World} : sh83 key_1 R w → Calls Tryz.prog 83 #[.int .i64 key_1] w R :=
  calls_of_eq (ann := fun _ => []) (fn := Tryz.f83) (c := bodyOf Tryz.f83) (args := #[.int .i64 key_1]) 400 follows_mixed Tryz.func83 (by kernel_rfl) (by kernel_rfl)
set_option maxRecDepth 100000 in
/-- joinery/edit.Insert -/
def sh84 (s_1 : Option Addr) (o_2 : Int) (p_3 : Int) (t_4 : Option Addr) (x_5 : Int) (x_6 : Int) (x_7 : Int) (R : Ending → World → Prop) (w : World) : Prop :=
 doAl (.cells #[.int .u8 p_3] 5) w (fun b8 w9 =>
 doAl (.cells #[.int .i64 x_5, .int .i64 x_6, .int .u64 x_7] 114) w9 (fun b10 w11 =>
 ∃ (x12 : Int), World.cell? w11 (blk b8) = some (.int .u8 x12) ∧ (
 doCall Tryz.prog (.func (.func 151) #[] #[]) #[.int .u8 x12] w11 (retS (fun v14 w15 => ∃ (x13 : Bool), v14 = (.bool x13 : Value) ∧ (
 ifB (!x13) (
 R (.returned (.tuple #[.pointer none, .int .i64 0, .bool false, .int .i64 2])) w15) (
 ∃ (x16 : Int), World.cell? w15 ((blk b10).add 0) = some (.int .i64 x16) ∧ (
 doCall Tryz.prog (.func (.func 152) #[] #[]) #[.pointer s_1, .int .u8 o_2, .pointer t_4, .int .i64 x16, .func (.func 153) #[] #[.pointer (some (blk b10)), .pointer (some (blk b8))]] w15 (retS (fun v21 w22 => ∃ (x17 : Option Addr), ∃ (x18 : Int), ∃ (x19 : Bool), ∃ (x20 : Int), v21 = (.tuple #[.pointer x17, .int .i64 x18, .bool x19, .int .i64 x20] : Value) ∧ (
 R (.returned (.tuple #[.pointer x17, .int .i64 x18, .bool x19, .int .i64 x20])) w22)) (fun ch w => Kfn R ch [] w)))))) (fun ch w => Kfn R ch [] w)))))
set_option maxRecDepth 100000 in
theorem sh84_ok (s_1 : Option Addr) (o_2 : Int) (p_3 : Int) (t_4 : Option Addr) (x_5 : Int) (x_6 : Int) (x_7 : Int) {R : Ending → World → Prop} {w : World} : sh84 s_1 o_2 p_3 t_4 x_5 x_6 x_7 R w → Calls Tryz.prog 84 #[.pointer s_1, .int .u8 o_2, .int .u8 p_3, .pointer t_4, .agg #[.int .i64 x_5, .int .i64 x_6, .int .u64 x_7]] w R :=
  calls_of_eq (ann := fun _ => []) (fn := Tryz.f84) (c := bodyOf Tryz.f84) (args := #[.pointer s_1, .int .u8 o_2, .int .u8 p_3, .pointer t_4, .agg #[.int .i64 x_5, .int .i64 x_6, .int .u64 x_7]]) 400 follows_mixed Tryz.func84 (by kernel_rfl) (by kernel_rfl)
set_option maxRecDepth 100000 in
/-- joinery/edit.Delete -/
def sh85 (s_1 : Option Addr) (o_2 : Int) (t_3 : Option Addr) (key_4 : Int) (R : Ending → World → Prop) (w : World) : Prop :=
 doCall Tryz.prog (.func (.func 152) #[] #[]) #[.pointer s_1, .int .u8 o_2, .pointer t_3, .int .i64 key_4, .func (.func 155) #[] #[]] w (retS (fun v9 w10 => ∃ (x5 : Option Addr), ∃ (x6 : Int), ∃ (x7 : Bool), ∃ (x8 : Int), v9 = (.tuple #[.pointer x5, .int .i64 x6, .bool x7, .int .i64 x8] : Value) ∧ (
 R (.returned (.tuple #[.pointer x5, .int .i64 x6, .bool x7, .int .i64 x8])) w10)) (fun ch w => Kfn R ch [] w))
set_option maxRecDepth 100000 in
theorem sh85_ok (s_1 : Option Addr) (o_2 : Int) (t_3 : Option Addr) (key_4 : Int) {R : Ending → World → Prop} {w : World} : sh85 s_1 o_2 t_3 key_4 R w → Calls Tryz.prog 85 #[.pointer s_1, .int .u8 o_2, .pointer t_3, .int .i64 key_4] w R :=
  calls_of_eq (ann := fun _ => []) (fn := Tryz.f85) (c := bodyOf Tryz.f85) (args := #[.pointer s_1, .int .u8 o_2, .pointer t_3, .int .i64 key_4]) 400 follows_mixed Tryz.func85 (by kernel_rfl) (by kernel_rfl)
set_option maxRecDepth 100000 in
/-- joinery/union.Union -/
def sh86 (s_1 : Option Addr) (o_2 : Int) (p_3 : Int) (a_4 : Option Addr) (b_5 : Option Addr) (R : Ending → World → Prop) (w : World) : Prop :=
 doCall Tryz.prog (.func (.func 156) #[] #[]) #[.pointer s_1, .int .u8 o_2, .int .u8 p_3] w (retS (fun v7 w8 => ∃ (x6 : Bool), v7 = (.bool x6 : Value) ∧ (
 ifB (!x6) (
 R (.returned (.tuple #[.pointer none, .int .i64 2])) w8) (
 doCall Tryz.prog (.func (.func 157) #[] #[]) #[.pointer s_1, .int .u8 o_2, .func (.func 158) #[.int .u8 p_3] #[], .pointer a_4, .pointer b_5] w8 (retS (fun v10 w11 => ∃ (x9 : Option Addr), v10 = (.pointer x9 : Value) ∧ (
 R (.returned (.tuple #[.pointer x9, .int .i64 0])) w11)) (fun ch w => Kfn R ch [] w))))) (fun ch w => Kfn R ch [] w))
set_option maxRecDepth 100000 in
theorem sh86_ok (s_1 : Option Addr) (o_2 : Int) (p_3 : Int) (a_4 : Option Addr) (b_5 : Option Addr) {R : Ending → World → Prop} {w : World} : sh86 s_1 o_2 p_3 a_4 b_5 R w → Calls Tryz.prog 86 #[.pointer s_1, .int .u8 o_2, .int .u8 p_3, .pointer a_4, .pointer b_5] w R :=
  calls_of_eq (ann := fun _ => []) (fn := Tryz.f86) (c := bodyOf Tryz.f86) (args := #[.pointer s_1, .int .u8 o_2, .int .u8 p_3, .pointer a_4, .pointer b_5]) 400 follows_mixed Tryz.func86 (by kernel_rfl) (by kernel_rfl)
end Go.Proofs.YtlddfgfmkapoiaaGreat

namespace Go.Proofs.YtlddfgfmkapoiaaGreat
open Go Go.Sh
set_option maxRecDepth 100000 in
/-- joinery/meet.Meet -/
def sh87 (s_1 : Option Addr) (o_2 : Int) (p_3 : Int) (a_4 : Option Addr) (b_5 : Option Addr) (R : Ending → World → Prop) (w : World) : Prop :=
 doAl (.cells #[.int .u8 p_3] 5) w (fun b6 w7 =>
 ∃ (x8 : Int), World.cell? w7 (blk b6) = some (.int .u8 x8) ∧ (
 doCall Tryz.prog (.func (.func 151) #[] #[]) #[.int .u8 x8] w7 (retS (fun v10 w11 => ∃ (x9 : Bool), v10 = (.bool x9 : Value) ∧ (
 ifB (!x9) (
 R (.returned (.tuple #[.pointer none, .int .i64 2])) w11) (
 doCall Tryz.prog (.func (.func 161) #[] #[]) #[.agg #[.func (.func 159) #[] #[], .func (.func 159) #[] #[], .func (.func 160) #[] #[.pointer (some (blk b6))]], .pointer s_1, .int .u8 o_2, .pointer a_4, .pointer b_5] w11 (retS (fun v14 w15 => ∃ (x12 : Option Addr), ∃ (x13 : Int), v14 = (.tuple #[.pointer x12, .int .i64 x13] : Value) ∧ (
 R (.returned (.tuple #[.pointer x12, .int .i64 x13])) w15)) (fun ch w => Kfn R ch [] w))))) (fun ch w => Kfn R ch [] w))))
set_option maxRecDepth 100000 in
theorem sh87_ok (s_1 : Option Addr) (o_2 : Int) (p_3 : Int) (a_4 : Option Addr) (b_5 : Option Addr) {R : Ending → World → Prop} {w : World} : sh87 s_1 o_2 p_3 a_4 b_5 R w → Calls Tryz.prog 87 #[.pointer s_1, .int .u8 o_2, .int .u8 p_3, .pointer a_4, .pointer b_5] w R :=
  calls_of_eq (ann := fun _ => []) (fn := Tryz.f87) (c := bodyOf Tryz.f87) (args := #[.pointer s_1, .int .u8 o_2, .int .u8 p_3, .pointer a_4, .pointer b_5]) 400 follows_mixed Tryz.func87 (by kernel_rfl) (by kernel_rfl)
set_option maxRecDepth 100000 in
/-- joinery/meet.Less -/
def sh88 (s_1 : Option Addr) (o_2 : Int) (a_3 : Option Addr) (b_4 : Option Addr) (R : Ending → World → Prop) (w : World) : Prop :=
 doCall Tryz.prog (.func (.func 161) #[] #[]) #[.agg #[.func (.func 162) #[.pointer s_1] #[], .func (.func 159) #[] #[], .func (.func 163) #[] #[]], .pointer s_1, .int .u8 o_2, .pointer a_3, .pointer b_4] w (retS (fun v7 w8 => ∃ (x5 : Option Addr), ∃ (x6 : Int), v7 = (.tuple #[.pointer x5, .int .i64 x6] : Value) ∧ (
 R (.returned (.tuple #[.pointer x5, .int .i64 x6])) w8)) (fun ch w => Kfn R ch [] w))
set_option maxRecDepth 100000 in
theorem sh88_ok (s_1 : Option Addr) (o_2 : Int) (a_3 : Option Addr) (b_4 : Option Addr) {R : Ending → World → Prop} {w : World} : sh88 s_1 o_2 a_3 b_4 R w → Calls Tryz.prog 88 #[.pointer s_1, .int .u8 o_2, .pointer a_3, .pointer b_4] w R :=
  calls_of_eq (ann := fun _ => []) (fn := Tryz.f88) (c := bodyOf Tryz.f88) (args := #[.pointer s_1, .int .u8 o_2, .pointer a_3, .pointer b_4]) 400 follows_mixed Tryz.func88 (by kernel_rfl) (by kernel_rfl)
set_option maxRecDepth 100000 in
/-- joinery/split.Split -/
def sh89 (s_1 : Option Addr) (o_2 : Int) (t_3 : Option Addr) (key_4 : Int) (R : Ending → World → Prop) (w : World) : Prop :=
 doAl (.cells #[.int .i64 0, .int .i64 0, .int .u64 0] 114) w (fun b5 w6 =>
 let K10 : Int → Value → World → Prop := fun (e_7 : Int) (d8 : Value) (w9 : World) => 
 let K13 : Bool → World → Prop := fun (x11 : Bool) (w12 : World) => 
 ifB x11 (
 doDr w12 (fun w15 =>
 ∃ (C14 : World → Prop), C14 w15 ∧ (
 ∃ (x16 : Int), (∀ w, C14 w → World.cell? w ((blk b5).add 0) = some (.int .i64 x16)) ∧ (
 ∃ (x17 : Int), (∀ w, C14 w → World.cell? w ((blk b5).add 1) = some (.int .i64 x17)) ∧ (
 ∃ (x18 : Int), (∀ w, C14 w → World.cell? w ((blk b5).add 2) = some (.int .u64 x18)) ∧ (
 doSt ((blk b5).add 0) (.int .i64 x16) w15 (fun w19 =>
 doSt ((blk b5).add 1) (.int .i64 x17) w19 (fun w20 =>
 doSt ((blk b5).add 2) (.int .u64 x18) w20 (fun w21 =>
 ∃ (x22 : Int), World.cell? w21 ((blk b5).add 0) = some (.int .i64 x22) ∧ (
 ∃ (x23 : Int), World.cell? w21 ((blk b5).add 1) = some (.int .i64 x23) ∧ (
 ∃ (x24 : Int), World.cell? w21 ((blk b5).add 2) = some (.int .u64 x24) ∧ (
 R (.returned (.tuple #[.pointer none, .agg #[.int .i64 x22, .int .i64 x23, .int .u64 x24], .bool false, .pointer none, .int .i64 2])) w21)))))))))))) (
 doCall Tryz.prog (.func (.func 165) #[] #[]) #[.pointer s_1, d8, .pointer t_3] w12 (retS (fun v31 w32 => ∃ (x25 : Option Addr), ∃ (x26 : Int), ∃ (x27 : Int), ∃ (x28 : Int), ∃ (x29 : Bool), ∃ (x30 : Option Addr), v31 = (.tuple #[.pointer x25, .agg #[.int .i64 x26, .int .i64 x27, .int .u64 x28], .bool x29, .pointer x30] : Value) ∧ (
 doSt ((blk b5).add 0) (.int .i64 x26) w32 (fun w33 =>
 doSt ((blk b5).add 1) (.int .i64 x27) w33 (fun w34 =>
 doSt ((blk b5).add 2) (.int .u64 x28) w34 (fun w35 =>
 doDr w35 (fun w37 =>
 ∃ (C36 : World → Prop), C36 w37 ∧ (
 ∃ (x38 : Int), (∀ w, C36 w → World.cell? w ((blk b5).add 0) = some (.int .i64 x38)) ∧ (
 ∃ (x39 : Int), (∀ w, C36 w → World.cell? w ((blk b5).add 1) = some (.int .i64 x39)) ∧ (
 ∃ (x40 : Int), (∀ w, C36 w → World.cell? w ((blk b5).add 2) = some (.int .u64 x40)) ∧ (
 doSt ((blk b5).add 0) (.int .i64 x38) w37 (fun w41 =>
 doSt ((blk b5).add 1) (.int .i64 x39) w41 (fun w42 =>
 doSt ((blk b5).add 2) (.int .u64 x40) w42 (fun w43 =>
 ∃ (x44 : Int), World.cell? w43 ((blk b5).add 0) = some (.int .i64 x44) ∧ (
 ∃ (x45 : Int), World.cell? w43 ((blk b5).add 1) = some (.int .i64 x45) ∧ (
 ∃ (x46 : Int), World.cell? w43 ((blk b5).add 2) = some (.int .u64 x46) ∧ (
 R (.returned (.tuple #[.pointer x25, .agg #[.int .i64 x44, .int .i64 x45, .int .u64 x46], .bool x29, .pointer x30, .int .i64 0])) w43)))))))))))))))) (fun ch w => Kfn R ch [] w)))
 ifB ((s_1).isNone) (
 K13 true w9) (
 K13 ((e_7 : Int) != 0) w9)
 doCall Tryz.prog (.func (.func 164) #[] #[]) #[.int .u8 o_2, .int .i64 key_4] w6 (retS (fun v51 w52 => (∃ (xf47 : Fn), ∃ (xx48 : Array Value), ∃ (xc49 : Array Value), ∃ (x50 : Int), v51 = (.tuple #[.func xf47 xx48 xc49, .int .i64 x50] : Value) ∧ (
 K10 x50 (.func xf47 xx48 xc49 : Value) w52)) ∨ (∃ (x53 : Int), v51 = (.tuple #[.nilFunc, .int .i64 x53] : Value) ∧ (
 K10 x53 (.nilFunc : Value) w52))) (fun ch w => Kfn R ch [] w)))
set_option maxRecDepth 100000 in
theorem sh89_ok (s_1 : Option Addr) (o_2 : Int) (t_3 : Option Addr) (key_4 : Int) {R : Ending → World → Prop} {w : World} : sh89 s_1 o_2 t_3 key_4 R w → Calls Tryz.prog 89 #[.pointer s_1, .int .u8 o_2, .pointer t_3, .int .i64 key_4] w R :=
  calls_of_eq (ann := fun _ => []) (fn := Tryz.f89) (c := bodyOf Tryz.f89) (args := #[.pointer s_1, .int .u8 o_2, .pointer t_3, .int .i64 key_4]) 400 follows_mixed Tryz.func89 (by kernel_rfl) (by kernel_rfl)
set_option maxRecDepth 100000 in
/-- joinery/joinerylaw41.one -/
def sh90 (o_1 : Int) (t_2 : Option Addr) (R : Ending → World → Prop) (w : World) : Prop :=
 doCall Tryz.prog (.func (.func 29) #[] #[]) #[.pointer t_2] w (retS (fun v6 w7 => ∃ (xp3 : Option Addr), ∃ (xn4 : Nat), ∃ (xc5 : Nat), v6 = (.slice xp3 xn4 xc5 : Value) ∧ (
 doCall Tryz.prog (.func (.func 49) #[] #[]) #[.int .u8 o_1, .int .u8 1, .slice xp3 xn4 xc5] w7 (retS (fun v10 w11 => ∃ (x8 : Option Addr), ∃ (x9 : Int), v10 = (.tuple #[.pointer x8, .int .i64 x9] : Value) ∧ (
 let K14 : Bool → World → Prop := fun (x12 : Bool) (w13 : World) => 
 R (.returned (.bool x12)) w13
 ifB ((x9 : Int) == 0) (
 doCall Tryz.prog (.func (.func 51) #[] #[]) #[.int .u8 o_1, .pointer t_2] w11 (retS (fun v16 w17 => ∃ (x15 : Bool), v16 = (.bool x15 : Value) ∧ (
 ifB x15 (
 doCall Tryz.prog (.func (.func 54) #[] #[]) #[.pointer t_2, .pointer x8] w17 (retS (fun v19 w20 => ∃ (x18 : Bool), v19 = (.bool x18 : Value) ∧ (
 ifB x18 (
 doCall Tryz.prog (.func (.func 55) #[] #[]) #[.pointer t_2] w20 (retS (fun v22 w23 => ∃ (x21 : Int), v22 = (.int .u64 x21 : Value) ∧ (
 doCall Tryz.prog (.func (.func 55) #[] #[]) #[.pointer x8] w23 (retS (fun v25 w26 => ∃ (x24 : Int), v25 = (.int .u64 x24 : Value) ∧ (
 K14 ((x21 : Int) == x24) w26)) (fun ch w => Kfn R ch [] w)))) (fun ch w => Kfn R ch [] w))) (
 R (.returned (.bool false)) w20))) (fun ch w => Kfn R ch [] w))) (
 R (.returned (.bool false)) w17))) (fun ch w => Kfn R ch [] w))) (
 R (.returned (.bool false)) w11))) (fun ch w => Kfn R ch [] w)))) (fun ch w => Kfn R ch [] w))
set_option maxRecDepth 100000 in
theorem sh90_ok (o_1 : Int) (t_2 : Option Addr) {R : Ending → World → Prop} {w : World} : sh90 o_1 t_2 R w → Calls Tryz.prog 90 #[.int .u8 o_1, .pointer t_2] w R :=
  calls_of_eq (ann := fun _ => []) (fn := Tryz.f90) (c := bodyOf Tryz.f90) (args := #[.int .u8 o_1, .pointer t_2]) 400 follows_mixed Tryz.func90 (by kernel_rfl) (by kernel_rfl)
set_option maxRecDepth 100000 in
/-- (*joinery/node.Node).Size -/
def sh91 (n_1 : Option Addr) (R : Ending → World → Prop) (w : World) : Prop :=
 doCall Tryz.prog (.func (.func 166) #[] #[]) #[.pointer n_1] w (retS (fun v7 w8 => ∃ (x2 : Int), ∃ (x3 : Int), ∃ (x4 : Int), ∃ (x5 : Int), ∃ (x6 : Int), v7 = (.agg #[.int .i64 x2, .int .i64 x3, .int .i64 x4, .int .u64 x5, .int .i64 x6] : Value) ∧ (
 R (.returned (.int .i64 x6)) w8)) (fun ch w => Kfn R ch [] w))
set_option maxRecDepth 100000 in
theorem sh91_ok (n_1 : Option Addr) {R : Ending → World → Prop} {w : World} : sh91 n_1 R w → Calls Tryz.prog 91 #[.pointer n_1] w R :=
  calls_of_eq (ann := fun _ => []) (fn := Tryz.f91) (c := bodyOf Tryz.f91) (args := #[.pointer n_1]) 400 follows_mixed Tryz.func91 (by kernel_rfl) (by kernel_rfl)
set_option maxRecDepth 100000 in
/-- joinery/scheme.Of -/
def sh92 (code_1 : Int) (R : Ending → World → Prop) (w : World) : Prop :=
 doCall Tryz.prog (.func (.func 167) #[] #[]) #[.int .u8 code_1] w (retS (fun v3 w4 => ∃ (x2 : Value), v3 = (x2 : Value) ∧ (
 doEqN Tryz.prog .eql 208 (.tmp 5) (.const (.nilIface)) (x2) (fun b5 =>
 ifB b5 (
 R (.returned (.tuple #[.pointer none, .int .i64 2])) w4) (
 doAl (.cells #[.int .u8 code_1, .int .u32 0, .int .i32 0, .int .u32 0, .string (⟨#[]⟩ : ByteArray), .nilFunc, .nilFunc, .nilFunc, .nilFunc, .nilFunc, .nilFunc, .bool false, .int .u64 0] 231) w4 (fun b6 w7 =>
 R (.returned (.tuple #[.pointer (some (blk b6)), .int .i64 0])) w7))))) (fun ch w => Kfn R ch [] w))
set_option maxRecDepth 100000 in
theorem sh92_ok (code_1 : Int) {R : Ending → World → Prop} {w : World} : sh92 code_1 R w → Calls Tryz.prog 92 #[.int .u8 code_1] w R :=
  calls_of_eq (ann := fun _ => []) (fn := Tryz.f92) (c := bodyOf Tryz.f92) (args := #[.int .u8 code_1]) 400 follows_mixed Tryz.func92 (by kernel_rfl) (by kernel_rfl)
set_option maxRecDepth 100000 in
/-- joinery/build.Items -/
def sh93 (s_1 : Option Addr) (l_p2 : Option Addr) (l_n3 : Nat) (l_c4 : Nat) (R : Ending → World → Prop) (w : World) : Prop :=
 doAl (.cells #[.pointer s_1] 25) w (fun b5 w6 =>
 doAl (.cells #[.nilFunc] 232) w6 (fun b7 w8 =>
 doSt ((blk b7).add 0) (.func (.func 168) #[] #[.pointer (some (blk b5)), .pointer (some (blk b7))]) w8 (fun w9 =>
 ∃ (xf10 : Fn), ∃ (xx11 : Array Value), ∃ (xc12 : Array Value), World.cell? w9 (blk b7) = some (.func xf10 xx11 xc12) ∧ (
 doCall Tryz.prog (.func xf10 xx11 xc12) #[.slice l_p2 l_n3 l_c4] w9 (retS (fun v14 w15 => ∃ (x13 : Option Addr), v14 = (.pointer x13 : Value) ∧ (
 R (.returned (.pointer x13)) w15)) (fun ch w => Kfn R ch [] w))))))
set_option maxRecDepth 100000 in
theorem sh93_ok (s_1 : Option Addr) (l_p2 : Option Addr) (l_n3 : Nat) (l_c4 : Nat) {R : Ending → World → Prop} {w : World} : sh93 s_1 l_p2 l_n3 l_c4 R w → Calls Tryz.prog 93 #[.pointer s_1, .slice l_p2 l_n3 l_c4] w R :=
  calls_of_eq (ann := fun _ => []) (fn := Tryz.f93) (c := bodyOf Tryz.f93) (args := #[.pointer s_1, .slice l_p2 l_n3 l_c4]) 400 follows_mixed Tryz.func93 (by kernel_rfl) (by kernel_rfl)
set_option maxRecDepth 100000 in
/-- joinery/rowset.Sort -/
def sh95 (o_1 : Int) (p_2 : Int) (l_p3 : Option Addr) (l_n4 : Nat) (l_c5 : Nat) (R : Ending → World → Prop) (w : World) : Prop :=
 doAl (.cells #[.int .u8 o_1] 5) w (fun b6 w7 =>
 let K10 : Bool → World → Prop := fun (x8 : Bool) (w9 : World) => 
 ifB x8 (
 R (.returned (.tuple #[.slice none 0 0, .int .i64 2])) w9) (
 doCall Tryz.prog (.func (.func 173) #[] #[]) #[.slice l_p3 l_n4 l_c5] w9 (retS (fun v14 w15 => ∃ (xp11 : Option Addr), ∃ (xn12 : Nat), ∃ (xc13 : Nat), v14 = (.slice xp11 xn12 xc13 : Value) ∧ (
 doCall Tryz.prog (.func (.func 174) #[] #[]) #[.slice xp11 xn12 xc13, .func (.func 175) #[] #[.pointer (some (blk b6))]] w15 (retS (fun v16 w17 => v16 = (.tuple #[] : Value) ∧ (
 ∃ (I18 : List Value → World → Prop) (μ19 : List Value → World → Nat), I18 [.slice none 0 0, .int .i64 0] w17 ∧ (∀ (out_p22 : Option Addr), ∀ (out_n23 : Nat), ∀ (out_c24 : Nat), ∀ (x25 : Int), ∀ (_j20 : Nat → Value) (w21 : World), I18 [.slice out_p22 out_n23 out_c24, .int .i64 x25] w21 → (
 ifB (decide ((x25 : Int) < ((xn12 : Nat) : Int))) (
 let K30 : (Option Addr) → Nat → Nat → World → Prop := fun (out_p26 : Option Addr) (out_n27 : Nat) (out_c28 : Nat) (w29 : World) => 
 I18 [.slice out_p26 out_n27 out_c28, .int .i64 (IntKind.wrap .i64 (x25 + 1))] w29 ∧ μ19 [.slice out_p26 out_n27 out_c28, .int .i64 (IntKind.wrap .i64 (x25 + 1))] w29 < μ19 [.slice out_p22 out_n23 out_c24, .int .i64 x25] w21
 doIx xp11 xn12 2 (x25) (fun a31 =>
 ∃ (x32 : Int), World.cell? w21 (a31.add 0) = some (.int .i64 x32) ∧ (
 ∃ (x33 : Int), World.cell? w21 (a31.add 1) = some (.int .i64 x33) ∧ (
 doAl (.cells #[.int .i64 0, .int .i64 0] 46) w21 (fun b34 w35 =>
 doSt ((blk b34).add 0) (.int .i64 x32) w35 (fun w36 =>
 doSt ((blk b34).add 1) (.int .i64 x33) w36 (fun w37 =>
 let K40 : Bool → World → Prop := fun (x38 : Bool) (w39 : World) => 
 ifB x38 (
 ∃ (x41 : Int), World.cell? w39 ((blk b34).add 0) = some (.int .i64 x41) ∧ (
 ∃ (x42 : Int), World.cell? w39 ((blk b34).add 1) = some (.int .i64 x42) ∧ (
 doAl (.cells #[.int .i64 x41, .int .i64 x42] 46) w39 (fun b43 w44 =>
 doGo Tryz.prog (.builtin .append #[22, 22] 22 #[false, false]) #[.slice out_p22 out_n23 out_c24, .slice (some (blk b43)) 1 1] w44 (retS (fun v48 w49 => ∃ (xp45 : Option Addr), ∃ (xn46 : Nat), ∃ (xc47 : Nat), v48 = (.slice xp45 xn46 xc47 : Value) ∧ (
 K30 xp45 xn46 xc47 w49)) (fun ch w => Kfn R ch [] w)))))) (
 doDr w39 (fun w51 =>
 ∃ (C50 : World → Prop), C50 w51 ∧ (
 doIx out_p22 out_n23 2 (IntKind.wrap .i64 (((out_n23 : Nat) : Int) - 1)) (fun a52 =>
 ∃ (x53 : Int), (∀ w, C50 w → World.cell? w (a52.add 1) = some (.int .i64 x53)) ∧ (
 ∃ (x54 : Int), (∀ w, C50 w → World.cell? w ((blk b34).add 1) = some (.int .i64 x54)) ∧ (
 doCall Tryz.prog (.func (.func 154) #[] #[]) #[.int .u8 p_2, .int .i64 x53, .int .i64 x54] w51 (retS (fun v57 w58 => ∃ (x55 : Int), ∃ (x56 : Int), v57 = (.tuple #[.int .i64 x55, .int .i64 x56] : Value) ∧ (
 doIx out_p22 out_n23 2 (IntKind.wrap .i64 (((out_n23 : Nat) : Int) - 1)) (fun a59 =>
 doSt ((a59.add 1).add 0) (.int .i64 x55) w58 (fun w60 =>
 K30 out_p22 out_n23 out_c24 w60)))) (fun ch w => Kfn R ch [] w))))))))
 doDr w37 (fun w62 =>
 ∃ (C61 : World → Prop), C61 w62 ∧ (
 ifB ((((out_n23 : Nat) : Int) : Int) == 0) (
 K40 true w62) (
 doIx out_p22 out_n23 2 (IntKind.wrap .i64 (((out_n23 : Nat) : Int) - 1)) (fun a63 =>
 ∃ (x64 : Int), (∀ w, C61 w → World.cell? w (a63.add 0) = some (.int .i64 x64)) ∧ (
 ∃ (x65 : Int), (∀ w, C61 w → World.cell? w ((blk b34).add 0) = some (.int .i64 x65)) ∧ (
 K40 ((x64 : Int) != x65) w62))))))))))))) (
 R (.returned (.tuple #[.slice out_p22 out_n23 out_c24, .int .i64 0])) w21))))) (fun ch w => Kfn R ch [] w)))) (fun ch w => Kfn R ch [] w)))
 ∃ (x66 : Int), World.cell? w7 (blk b6) = some (.int .u8 x66) ∧ (
 doCall Tryz.prog (.func (.func 172) #[] #[]) #[.int .u8 x66] w7 (retS (fun v68 w69 => ∃ (x67 : ByteArray), v68 = (.string x67 : Value) ∧ (
 ifB (x67.toList == (⟨#[]⟩ : ByteArray).toList) (
 R (.returned (.tuple #[.slice none 0 0, .int .i64 2])) w69) (
 doCall Tryz.prog (.func (.func 151) #[] #[]) #[.int .u8 p_2] w69 (retS (fun v71 w72 => ∃ (x70 : Bool), v71 = (.bool x70 : Value) ∧ (
 K10 (!x70) w72)) (fun ch w => Kfn R ch [] w))))) (fun ch w => Kfn R ch [] w))))
set_option maxRecDepth 100000 in
theorem sh95_ok (o_1 : Int) (p_2 : Int) (l_p3 : Option Addr) (l_n4 : Nat) (l_c5 : Nat) {R : Ending → World → Prop} {w : World} : sh95 o_1 p_2 l_p3 l_n4 l_c5 R w → Calls Tryz.prog 95 #[.int .u8 o_1, .int .u8 p_2, .slice l_p3 l_n4 l_c5] w R :=
  calls_of_eq (ann := fun i => if i = 0 then [(6, .slice none 0 0), (26, .int .i64 0)] else []) (fn := Tryz.f95) (c := bodyOf Tryz.f95) (args := #[.int .u8 o_1, .int .u8 p_2, .slice l_p3 l_n4 l_c5]) 400 follows_mixed Tryz.func95 (by kernel_rfl) (by kernel_rfl)
set_option maxRecDepth 100000 in
/-- joinery/look.All -/
def sh99 (t_1 : Option Addr) (R : Ending → World → Prop) (w : World) : Prop :=
 doCall Tryz.prog (.func (.func 181) #[] #[]) #[.pointer t_1] w (retS (fun v5 w6 => ∃ (xf2 : Fn), ∃ (xx3 : Array Value), ∃ (xc4 : Array Value), v5 = (.func xf2 xx3 xc4 : Value) ∧ (
 doCall Tryz.prog (.func (.func 180) #[] #[]) #[.func xf2 xx3 xc4] w6 (retS (fun v10 w11 => ∃ (xf7 : Fn), ∃ (xx8 : Array Value), ∃ (xc9 : Array Value), v10 = (.func xf7 xx8 xc9 : Value) ∧ (
 R (.returned (.func xf7 xx8 xc9)) w11)) (fun ch w => Kfn R ch [] w)))) (fun ch w => Kfn R ch [] w))
set_option maxRecDepth 100000 in
theorem sh99_ok (t_1 : Option Addr) {R : Ending → World → Prop} {w : World} : sh99 t_1 R w → Calls Tryz.prog 99 #[.pointer t_1] w R :=
  calls_of_eq (ann := fun _ => []) (fn := Tryz.f99) (c := bodyOf Tryz.f99) (args := #[.pointer t_1]) 400 follows_mixed Tryz.func99 (by kernel_rfl) (by kernel_rfl)
set_option maxRecDepth 100000 in
/-- joinery/row.May -/
def sh101 (o_1 : Int) (l_p2 : Option Addr) (l_n3 : Nat) (l_c4 : Nat) (R : Ending → World → Prop) (w : World) : Prop :=
 doAl (.cells #[.int .u8 o_1] 5) w (fun b5 w6 =>
 doAl (.cells #[.bool false] 4) w6 (fun b7 w8 =>
 doCall Tryz.prog (.func (.func 182) #[] #[]) #[.slice l_p2 l_n3 l_c4] w8 (retS (fun v12 w13 => ∃ (xf9 : Fn), ∃ (xx10 : Array Value), ∃ (xc11 : Array Value), v12 = (.func xf9 xx10 xc11 : Value) ∧ (
 rfW Tryz.prog (.func xf9 xx10 xc11) (mkLoop #[.int .u8 o_1, .slice l_p2 l_n3 l_c4, .pointer (some (blk b5)), undef, .pointer (some (blk b7)), undef, undef, .slice l_p2 l_n3 l_c4, .func xf9 xx10 xc11, undef, undef, undef, undef, undef, undef, undef, undef, undef, undef, undef, undef] (rfOf Tryz.f101 0).1 (rfOf Tryz.f101 0).2.1 (rfOf Tryz.f101 0).2.2)
 (fun w14 =>
 ∃ (x15 : Int), World.cell? w14 (blk b5) = some (.int .u8 x15) ∧ (
 doCall Tryz.prog (.func (.func 172) #[] #[]) #[.int .u8 x15] w14 (retS (fun v17 w18 => ∃ (x16 : ByteArray), v17 = (.string x16 : Value) ∧ (
 doSt ((blk b7).add 0) (.bool (!(x16.toList == (⟨#[]⟩ : ByteArray).toList))) w18 (fun w19 =>
 w19.heap[w13.heap.size]? = some (.deferred (some [])) ∧ (
 let w20 : World := w19.putObj w13.heap.size (.deferred none)
 ∃ (x21 : Bool), World.cell? w20 (blk b7) = some (.bool x21) ∧ (
 R (.returned (.bool x21)) w20))))) (fun ch w => Kfn R ch [{ target := .collected w13.heap.size, args := #[] }] w))))
 (fun w22 =>
 w22.heap[w13.heap.size]? = some (.deferred (some [])) ∧ (
 let w23 : World := w22.putObj w13.heap.size (.deferred none)
 ∃ (x24 : Bool), World.cell? w23 (blk b7) = some (.bool x24) ∧ (
 R (.returned (.bool x24)) w23)))
 [] w13)) (fun ch w => Kfn R ch [] w))))
set_option maxRecDepth 100000 in
theorem sh101_ok (o_1 : Int) (l_p2 : Option Addr) (l_n3 : Nat) (l_c4 : Nat) {R : Ending → World → Prop} {w : World} : sh101 o_1 l_p2 l_n3 l_c4 R w → Calls Tryz.prog 101 #[.int .u8 o_1, .slice l_p2 l_n3 l_c4] w R :=
  calls_of_eq (ann := fun _ => []) (fn := Tryz.f101) (c := bodyOf Tryz.f101) (args := #[.int .u8 o_1, .slice l_p2 l_n3 l_c4]) 400 follows_mixed Tryz.func101 (by kernel_rfl) (by kernel_rfl)
set_option maxRecDepth 100000 in
/-- joinery/row.May, a round of loop 0 -/
def sh101_0 (o_1 : Addr) (x2 : Addr) (y22 : Int) (y23 : Int) (y24 : Int) (y25 : Int) (l : Nat) (R : Ending → World → Prop) (w : World) : Prop :=
 doAl (.cells #[.int .i64 0, .int .i64 0] 46) w (fun b26 w27 =>
 doSt ((blk b26).add 0) (.int .i64 y22) w27 (fun w28 =>
 doSt ((blk b26).add 1) (.int .i64 y23) w28 (fun w29 =>
 doAl (.cells #[.int .i64 0, .int .i64 0] 46) w29 (fun b30 w31 =>
 doSt ((blk b30).add 0) (.int .i64 y24) w31 (fun w32 =>
 doSt ((blk b30).add 1) (.int .i64 y25) w32 (fun w33 =>
 ∃ (r34 : Loop), w33.heap[l]? = some (.loop r34) ∧ r34.state = .ready ∧ (
 let w35 : World := w33.putObj l (.loop { r34 with state := .busy })
 ∃ (x36 : Int), World.cell? w35 o_1 = some (.int .u8 x36) ∧ (
 ∃ (x37 : Int), World.cell? w35 ((blk b26).add 0) = some (.int .i64 x37) ∧ (
 ∃ (x38 : Int), World.cell? w35 ((blk b30).add 0) = some (.int .i64 x38) ∧ (
 doCall Tryz.prog (.func (.func 176) #[] #[]) #[.int .u8 x36, .int .i64 x37, .int .i64 x38] w35 (retS (fun v40 w41 => ∃ (x39 : Int), v40 = (.int .i64 x39 : Value) ∧ (
 ifB (decide ((x39 : Int) ≥ 0)) (
 doSt (x2.add 0) (.bool false) w41 (fun w42 =>
 ∃ (r43 : Loop), w42.heap[l]? = some (.loop r43) ∧ R (.returned (.bool false)) (w42.putObj l (.loop { r43 with state := .done, pending := some .ret })))) (
 ∃ (r44 : Loop), w41.heap[l]? = some (.loop r44) ∧ R (.returned (.bool true)) (w41.putObj l (.loop { r44 with state := .ready, pending := none }))))) (fun _ _ => False))))))))))))
set_option maxRecDepth 100000 in
theorem sh101_0_ok {dd3 : Value} {dd4 : Value} {dd5 : Value} {dd6 : Value} {dd7 : Value} {dd8 : Value} {dd9 : Value} {dd10 : Value} {dd11 : Value} {dd12 : Value} {dd13 : Value} {dd14 : Value} {dd15 : Value} {dd16 : Value} {dd17 : Value} {dd18 : Value} {dd19 : Value} {dd20 : Value} {dd21 : Value} {o_1 : Addr} {x2 : Addr} {y22 : Int} {y23 : Int} {y24 : Int} {y25 : Int} {l fn D : Nat} {R : Ending → World → Prop} {w : World} (hl : w.heap[l]? = some (.loop (mkLoop #[dd3, dd4, .pointer (some o_1), dd5, .pointer (some x2), dd6, dd7, dd8, dd9, dd10, dd11, dd12, dd13, dd14, dd15, dd16, dd17, dd18, dd19, dd20, dd21] (rfOf Tryz.f101 0).1 (rfOf Tryz.f101 0).2.1 (rfOf Tryz.f101 0).2.2 fn D))) : sh101_0 o_1 x2 y22 y23 y24 y25 l R w → doCall Tryz.prog (.func (.yield l) #[] #[]) #[.agg #[.int .i64 y22, .int .i64 y23], .agg #[.int .i64 y24, .int .i64 y25]] w R :=
  fun h => ⟨round_of_eq (ann := fun _ => []) 400 follows_mixed hl (by kernel_rfl) (by kernel_rfl) h⟩
set_option maxRecDepth 100000 in
/-- joinery/build.tagged -/
def sh102 (s_1 : Option Addr) (d_2 : Option Addr) (l_p3 : Option Addr) (l_n4 : Nat) (l_c5 : Nat) (R : Ending → World → Prop) (w : World) : Prop :=
 doAl (.cells #[.pointer s_1] 25) w (fun b6 w7 =>
 doAl (.cells #[.pointer d_2] 31) w7 (fun b8 w9 =>
 doAl (.cells #[.slice l_p3 l_n4 l_c5] 22) w9 (fun b10 w11 =>
 R (.returned (.func (.func 183) #[] #[.pointer (some (blk b10)), .pointer (some (blk b6)), .pointer (some (blk b8))])) w11)))
set_option maxRecDepth 100000 in
theorem sh102_ok (s_1 : Option Addr) (d_2 : Option Addr) (l_p3 : Option Addr) (l_n4 : Nat) (l_c5 : Nat) {R : Ending → World → Prop} {w : World} : sh102 s_1 d_2 l_p3 l_n4 l_c5 R w → Calls Tryz.prog 102 #[.pointer s_1, .pointer d_2, .slice l_p3 l_n4 l_c5] w R :=
  calls_of_eq (ann := fun _ => []) (fn := Tryz.f102) (c := bodyOf Tryz.f102) (args := #[.pointer s_1, .pointer d_2, .slice l_p3 l_n4 l_c5]) 400 follows_mixed Tryz.func102 (by kernel_rfl) (by kernel_rfl)
end Go.Proofs.YtlddfgfmkapoiaaGreat

