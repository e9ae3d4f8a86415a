/-
  Printed by a program (gen.py): what the functions of the program do, as formulas; each with the proof that its call is what the formula says.
-/
import Derived.Test.YtinkkhcffoikmaaCd
import Derived.Test.YtinkkhcffoikmaaProg
import Derived.Test.YtinkkhcffoikmaaS1
namespace Go.Proofs.Ytinkkhcffoikmaa
open Go Go.Sh
set_option maxRecDepth 100000 in
/-- joinery/order.Compare -/
def sh93 (o_1 : Int) (a_2 : Int) (b_3 : Int) (R : Ending → World → Prop) (w : World) : Prop :=
 doCall Try.prog (.func (.func 124) #[] #[]) #[.int .u8 o_1, .int .i64 a_2] w (retS (fun v6 w7 => ∃ (x4 : Int), ∃ (x5 : Int), v6 = (.tuple #[.int .u64 x4, .int .i64 x5] : Value) ∧ (
 doCall Try.prog (.func (.func 124) #[] #[]) #[.int .u8 o_1, .int .i64 b_3] w7 (retS (fun v10 w11 => ∃ (x8 : Int), ∃ (x9 : Int), v10 = (.tuple #[.int .u64 x8, .int .i64 x9] : Value) ∧ (
 ifB ((x5 : Int) != 0) (
 R (.returned (.int .i64 0)) w11) (
 doCall Try.prog (.func (.func 125) #[] #[]) #[.int .u64 x4, .int .u64 x8] w11 (retS (fun v13 w14 => ∃ (x12 : Int), v13 = (.int .i64 x12 : Value) ∧ (
 R (.returned (.int .i64 x12)) w14)) (fun ch w => Kfn R ch [] w))))) (fun ch w => Kfn R ch [] w)))) (fun ch w => Kfn R ch [] w))
set_option maxRecDepth 100000 in
theorem sh93_ok (o_1 : Int) (a_2 : Int) (b_3 : Int) {R : Ending → World → Prop} {w : World} : sh93 o_1 a_2 b_3 R w → Calls Try.prog 93 #[.int .u8 o_1, .int .i64 a_2, .int .i64 b_3] w R :=
  calls_of_eq (ann := fun _ => []) (fn := Try.f93) (c := bodyOf Try.f93) (args := #[.int .u8 o_1, .int .i64 a_2, .int .i64 b_3]) 400 follows_mixed Try.func93 (by kernel_rfl) (by kernel_rfl)
set_option maxRecDepth 100000 in
/-- joinery/order.Name -/
def sh94 (o_1 : Int) (R : Ending → World → Prop) (w : World) : Prop :=
 let K4 : ByteArray → World → Prop := fun (x2 : ByteArray) (w3 : World) => 
 R (.returned (.string x2)) w3
 doCall Try.prog (.func (.func 126) #[] #[]) #[] w (retS (fun v6 w7 => ∃ (x5 : Option Nat), v6 = (.map x5 : Value) ∧ (
 doLk Try.prog 154 (.map x5) (.int .u8 o_1) false w7 (fun v15 => (∃ (x8 : ByteArray), ∃ (xf9 : Fn), ∃ (xx10 : Array Value), ∃ (xc11 : Array Value), ∃ (xf12 : Fn), ∃ (xx13 : Array Value), ∃ (xc14 : Array Value), v15 = (.agg #[.string x8, .func xf9 xx10 xc11, .func xf12 xx13 xc14] : Value) ∧ (
 K4 x8 w7)) ∨ (v15 = (.agg #[.string (⟨#[]⟩ : ByteArray), .nilFunc, .nilFunc] : Value) ∧ (
 K4 (⟨#[]⟩ : ByteArray) w7))))) (fun ch w => Kfn R ch [] w))
set_option maxRecDepth 100000 in
theorem sh94_ok (o_1 : Int) {R : Ending → World → Prop} {w : World} : sh94 o_1 R w → Calls Try.prog 94 #[.int .u8 o_1] w R :=
  calls_of_eq (ann := fun _ => []) (fn := Try.f94) (c := bodyOf Try.f94) (args := #[.int .u8 o_1]) 400 follows_mixed Try.func94 (by kernel_rfl) (by kernel_rfl)
set_option maxRecDepth 100000 in
/-- joinery/joineryref02.Code -/
def sh95 (o_1 : Int) (k_2 : Int) (R : Ending → World → Prop) (w : World) : Prop :=
 ifB ((o_1 : Int) == 1) (
 doCall Try.prog (.func (.func 127) #[] #[]) #[.int .i64 k_2] w (retS (fun v4 w5 => ∃ (x3 : Int), v4 = (.int .u64 x3 : Value) ∧ (
 R (.returned (.int .u64 x3)) w5)) (fun ch w => Kfn R ch [] w))) (
 ifB ((o_1 : Int) == 2) (
 doCall Try.prog (.func (.func 127) #[] #[]) #[.int .i64 k_2] w (retS (fun v7 w8 => ∃ (x6 : Int), v7 = (.int .u64 x6 : Value) ∧ (
 R (.returned (.int .u64 (IntKind.wrap .u64 (18446744073709551615 - x6)))) w8)) (fun ch w => Kfn R ch [] w))) (
 ifB ((o_1 : Int) == 3) (
 ifB (decide ((k_2 : Int) < 0)) (
 R (.returned (.int .u64 (IntKind.wrap .u64 ((IntKind.wrap .u64 ((IntKind.wrap .u64 (IntKind.wrap .i64 (0 - (IntKind.wrap .i64 (k_2 + 1))))) * 2)) + 1)))) w) (
 R (.returned (.int .u64 (IntKind.wrap .u64 ((IntKind.wrap .u64 k_2) * 2)))) w)) (
 ifB ((o_1 : Int) == 4) (
 doCall Try.prog (.func (.func 128) #[] #[]) #[.int .u64 (IntKind.wrap .u64 k_2)] w (retS (fun v10 w11 => ∃ (x9 : Int), v10 = (.int .u64 x9 : Value) ∧ (
 R (.returned (.int .u64 x9)) w11)) (fun ch w => Kfn R ch [] w))) (
 ifB ((o_1 : Int) == 5) (
 doCall Try.prog (.func (.func 127) #[] #[]) #[.int .i64 k_2] w (retS (fun v13 w14 => ∃ (x12 : Int), v13 = (.int .u64 x12 : Value) ∧ (
 2 ≠ (0 : Int) ∧ (
 let K17 : Int → World → Prop := fun (half_15 : Int) (w16 : World) => 
 R (.returned (.int .u64 half_15)) w16
 2 ≠ (0 : Int) ∧ (
 ifB (((Int.tmod (IntKind.wrap .u64 k_2) 2) : Int) == 1) (
 K17 (IntKind.wrap .u64 ((IntKind.wrap .u64 (Int.tdiv x12 2)) + 9223372036854775808)) w14) (
 K17 (IntKind.wrap .u64 (Int.tdiv x12 2)) w14))))) (fun ch w => Kfn R ch [] w))) (
 ifB ((o_1 : Int) == 6) (
 doCall Try.prog (.func (.func 127) #[] #[]) #[.int .i64 k_2] w (retS (fun v19 w20 => ∃ (x18 : Int), v19 = (.int .u64 x18 : Value) ∧ (
 doCall Try.prog (.func (.func 129) #[] #[]) #[.int .u64 x18, .int .i64 32] w20 (retS (fun v22 w23 => ∃ (x21 : Int), v22 = (.int .u64 x21 : Value) ∧ (
 R (.returned (.int .u64 x21)) w23)) (fun ch w => Kfn R ch [] w)))) (fun ch w => Kfn R ch [] w))) (
 doCall Try.prog (.func (.func 130) #[] #[]) #[.int .u64 (IntKind.wrap .u64 k_2)] w (retS (fun v25 w26 => ∃ (x24 : Int), v25 = (.int .u64 x24 : Value) ∧ (
 R (.returned (.int .u64 x24)) w26)) (fun ch w => Kfn R ch [] w))))))))
set_option maxRecDepth 100000 in
theorem sh95_ok (o_1 : Int) (k_2 : Int) {R : Ending → World → Prop} {w : World} : sh95 o_1 k_2 R w → Calls Try.prog 95 #[.int .u8 o_1, .int .i64 k_2] w R :=
  calls_of_eq (ann := fun _ => []) (fn := Try.f95) (c := bodyOf Try.f95) (args := #[.int .u8 o_1, .int .i64 k_2]) 400 follows_mixed Try.func95 (by kernel_rfl) (by kernel_rfl)
set_option maxRecDepth 100000 in
/-- joinery/joineryref04.Less -/
def sh96 (o_1 : Int) (a_2 : Int) (b_3 : Int) (R : Ending → World → Prop) (w : World) : Prop :=
 doCall Try.prog (.func (.func 41) #[] #[]) #[.int .u8 o_1, .int .i64 a_2, .int .i64 b_3] w (retS (fun v5 w6 => ∃ (x4 : Int), v5 = (.int .i64 x4 : Value) ∧ (
 R (.returned (.bool (decide ((x4 : Int) < 0)))) w6)) (fun ch w => Kfn R ch [] w))
set_option maxRecDepth 100000 in
theorem sh96_ok (o_1 : Int) (a_2 : Int) (b_3 : Int) {R : Ending → World → Prop} {w : World} : sh96 o_1 a_2 b_3 R w → Calls Try.prog 96 #[.int .u8 o_1, .int .i64 a_2, .int .i64 b_3] w R :=
  calls_of_eq (ann := fun _ => []) (fn := Try.f96) (c := bodyOf Try.f96) (args := #[.int .u8 o_1, .int .i64 a_2, .int .i64 b_3]) 400 follows_mixed Try.func96 (by kernel_rfl) (by kernel_rfl)
set_option maxRecDepth 100000 in
/-- joinery/joineryref03.Combine -/
def sh97 (p_1 : Int) (a_2 : Int) (b_3 : Int) (R : Ending → World → Prop) (w : World) : Prop :=
 ifB ((p_1 : Int) == 1) (
 R (.returned (.int .i64 a_2)) w) (
 ifB ((p_1 : Int) == 2) (
 R (.returned (.int .i64 b_3)) w) (
 R (.returned (.int .i64 (IntKind.wrap .i64 (a_2 + b_3)))) w))
set_option maxRecDepth 100000 in
theorem sh97_ok (p_1 : Int) (a_2 : Int) (b_3 : Int) {R : Ending → World → Prop} {w : World} : sh97 p_1 a_2 b_3 R w → Calls Try.prog 97 #[.int .u8 p_1, .int .i64 a_2, .int .i64 b_3] w R :=
  calls_of_eq (ann := fun _ => []) (fn := Try.f97) (c := bodyOf Try.f97) (args := #[.int .u8 p_1, .int .i64 a_2, .int .i64 b_3]) 400 follows_mixed Try.func97 (by kernel_rfl) (by kernel_rfl)
set_option maxRecDepth 100000 in
/-- joinery/fold.Sum -/
def sh98 (l_p1 : Option Addr) (l_n2 : Nat) (_l_c3 : Nat) (R : Ending → World → Prop) (w : World) : Prop :=
 doCall Try.prog (.func (.func 131) #[] #[]) #[] w (retS (fun v7 w8 => ∃ (xf4 : Fn), ∃ (xx5 : Array Value), ∃ (xc6 : Array Value), v7 = (.func xf4 xx5 xc6 : Value) ∧ (
 ∃ (I9 : List Value → World → Prop) (μ10 : List Value → World → Nat), I9 [.int .i64 0, .int .i64 0] w8 ∧ (∀ (sum_13 : Int), ∀ (x14 : Int), ∀ (_j11 : Nat → Value) (w12 : World), I9 [.int .i64 sum_13, .int .i64 x14] w12 → (
 ifB (decide ((x14 : Int) < ((l_n2 : Nat) : Int))) (
 doIx l_p1 l_n2 1 (x14) (fun a15 =>
 ∃ (x16 : Int), World.cell? w12 a15 = some (.int .i64 x16) ∧ (
 doCall Try.prog (.func xf4 xx5 xc6) #[.int .i64 x16] w12 (retS (fun v18 w19 => ∃ (x17 : Int), v18 = (.int .i64 x17 : Value) ∧ (
 I9 [.int .i64 x17, .int .i64 (IntKind.wrap .i64 (x14 + 1))] w19 ∧ μ10 [.int .i64 x17, .int .i64 (IntKind.wrap .i64 (x14 + 1))] w19 < μ10 [.int .i64 sum_13, .int .i64 x14] w12)) (fun ch w => Kfn R ch [] w))))) (
 R (.returned (.int .i64 sum_13)) w12))))) (fun ch w => Kfn R ch [] w))
set_option maxRecDepth 100000 in
theorem sh98_ok (l_p1 : Option Addr) (l_n2 : Nat) (l_c3 : Nat) {R : Ending → World → Prop} {w : World} : sh98 l_p1 l_n2 l_c3 R w → Calls Try.prog 98 #[.slice l_p1 l_n2 l_c3] w R :=
  calls_of_eq (ann := fun i => if i = 0 then [(2, .int .i64 0), (9, .int .i64 0)] else []) (fn := Try.f98) (c := bodyOf Try.f98) (args := #[.slice l_p1 l_n2 l_c3]) 400 follows_mixed Try.func98 (by kernel_rfl) (by kernel_rfl)
set_option maxRecDepth 100000 in
/-- joinery/rowset.some -/
def sh99 (o_1 : Int) (p_2 : Int) (a_p3 : Option Addr) (a_n4 : Nat) (a_c5 : Nat) (b_p6 : Option Addr) (b_n7 : Nat) (b_c8 : Nat) (w_f9 : Fn) (w_x10 : Array Value) (w_c11 : Array Value) (R : Ending → World → Prop) (w : World) : Prop :=
 doAl (.cells #[.int .u8 p_2] 5) w (fun b12 w13 =>
 doAl (.cells #[.func w_f9 w_x10 w_c11] 125) w13 (fun b14 w15 =>
 doAl (.cells #[.slice none 0 0] 33) w15 (fun b16 w17 =>
 let K31 : Bool → Bool → Bool → Value → Value → Value → Value → Bool → Bool → Value → Value → Value → World → Prop := fun (x18 : Bool) (x19 : Bool) (x20 : Bool) (d21 : Value) (d22 : Value) (d23 : Value) (d24 : Value) (x25 : Bool) (x26 : Bool) (d27 : Value) (d28 : Value) (d29 : Value) (w30 : World) => 
 doCall Try.prog (.func (.func 132) #[] #[]) #[.int .u8 o_1, .slice a_p3 a_n4 a_c5, .slice b_p6 b_n7 b_c8] w30 (retS (fun v35 w36 => ∃ (xf32 : Fn), ∃ (xx33 : Array Value), ∃ (xc34 : Array Value), v35 = (.func xf32 xx33 xc34 : Value) ∧ (
 rfW Try.prog (.func xf32 xx33 xc34) (mkLoop #[.int .u8 o_1, .int .u8 p_2, .slice a_p3 a_n4 a_c5, .slice b_p6 b_n7 b_c8, .agg #[.func w_f9 w_x10 w_c11], undef, .pointer (some (blk b12)), undef, undef, .pointer (some (blk b14)), .pointer (some (blk b16)), .int .i64 0, undef, undef, .int .u8 o_1, .slice a_p3 a_n4 a_c5, .bool x18, .bool x19, .bool x20, d21, d22, d23, d24, .bool x25, .bool x26, d27, d28, d29, .bool false, .int .u8 o_1, .slice a_p3 a_n4 a_c5, .slice b_p6 b_n7 b_c8, .func xf32 xx33 xc34, undef, undef, undef, undef, undef, undef, undef, undef, undef, undef, undef, undef, undef, undef, undef, undef, undef, undef, undef, undef, undef, undef, undef, undef, undef, undef, undef, undef, undef, undef, undef, undef, undef, undef] (rfOf Try.f99 0).1 (rfOf Try.f99 0).2.1 (rfOf Try.f99 0).2.2)
 (fun w38 =>
 ∃ (xp39 : Option Addr), ∃ (xn40 : Nat), ∃ (xc41 : Nat), World.cell? w38 (blk b16) = some (.slice xp39 xn40 xc41) ∧ (
 doSt ((blk b16).add 0) (.slice xp39 xn40 xc41) w38 (fun w42 =>
 w42.heap[w36.heap.size]? = some (.deferred (some [])) ∧ (
 let w43 : World := w42.putObj w36.heap.size (.deferred none)
 ∃ (xp44 : Option Addr), ∃ (xn45 : Nat), ∃ (xc46 : Nat), World.cell? w43 (blk b16) = some (.slice xp44 xn45 xc46) ∧ (
 R (.returned (.tuple #[.slice xp44 xn45 xc46, .int .i64 0])) w43)))))
 (fun w47 =>
 w47.heap[w36.heap.size]? = some (.deferred (some [])) ∧ (
 let w48 : World := w47.putObj w36.heap.size (.deferred none)
 ∃ (xp49 : Option Addr), ∃ (xn50 : Nat), ∃ (xc51 : Nat), World.cell? w48 (blk b16) = some (.slice xp49 xn50 xc51) ∧ (
 R (.returned (.tuple #[.slice xp49 xn50 xc51, .int .i64 0])) w48)))
 [(1, (fun _ => False))] w36)) (fun ch w => Kfn R ch [] w))
 let K66 : Bool → Bool → Bool → Value → Value → Value → Value → Bool → Bool → Value → Value → Value → Bool → World → Prop := fun (x52 : Bool) (x53 : Bool) (x54 : Bool) (d55 : Value) (d56 : Value) (d57 : Value) (d58 : Value) (x59 : Bool) (x60 : Bool) (d61 : Value) (d62 : Value) (d63 : Value) (x64 : Bool) (w65 : World) => 
 ifB x64 (
 doSt ((blk b16).add 0) (.slice none 0 0) w65 (fun w67 =>
 ∃ (xp68 : Option Addr), ∃ (xn69 : Nat), ∃ (xc70 : Nat), World.cell? w67 (blk b16) = some (.slice xp68 xn69 xc70) ∧ (
 R (.returned (.tuple #[.slice xp68 xn69 xc70, .int .i64 2])) w67))) (
 K31 x52 x53 x54 (d55 : Value) (d56 : Value) (d57 : Value) (d58 : Value) x59 x60 (d61 : Value) (d62 : Value) (d63 : Value) w65)
 doCall Try.prog (.func (.func 40) #[] #[]) #[.int .u8 o_1, .slice a_p3 a_n4 a_c5] w17 (retS (fun v72 w73 => ∃ (x71 : Bool), v72 = (.bool x71 : Value) ∧ (
 ifB (!x71) (
 doSt ((blk b16).add 0) (.slice none 0 0) w73 (fun w74 =>
 ∃ (xp75 : Option Addr), ∃ (xn76 : Nat), ∃ (xc77 : Nat), World.cell? w74 (blk b16) = some (.slice xp75 xn76 xc77) ∧ (
 R (.returned (.tuple #[.slice xp75 xn76 xc77, .int .i64 2])) w74))) (
 doCall Try.prog (.func (.func 40) #[] #[]) #[.int .u8 o_1, .slice b_p6 b_n7 b_c8] w73 (retS (fun v79 w80 => ∃ (x78 : Bool), v79 = (.bool x78 : Value) ∧ (
 ifB (!x78) (
 doSt ((blk b16).add 0) (.slice none 0 0) w80 (fun w81 =>
 ∃ (xp82 : Option Addr), ∃ (xn83 : Nat), ∃ (xc84 : Nat), World.cell? w81 (blk b16) = some (.slice xp82 xn83 xc84) ∧ (
 R (.returned (.tuple #[.slice xp82 xn83 xc84, .int .i64 2])) w81))) (
 ∃ (x85 : Int), World.cell? w80 (blk b12) = some (.int .u8 x85) ∧ (
 doCall Try.prog (.func (.func 89) #[] #[]) #[.int .u8 x85] w80 (retS (fun v87 w88 => ∃ (x86 : Bool), v87 = (.bool x86 : Value) ∧ (
 K66 x71 (!x71) false (.int .u8 o_1 : Value) (.slice b_p6 b_n7 b_c8 : Value) (.bool x78 : Value) (.bool (!x78) : Value) (!x78) false (.int .u8 x85 : Value) (.bool x86 : Value) (.bool (!x86) : Value) (!x86) w88)) (fun ch w => Kfn R ch [] w)))))) (fun ch w => Kfn R ch [] w))))) (fun ch w => Kfn R ch [] w)))))
set_option maxRecDepth 100000 in
theorem sh99_ok (o_1 : Int) (p_2 : Int) (a_p3 : Option Addr) (a_n4 : Nat) (a_c5 : Nat) (b_p6 : Option Addr) (b_n7 : Nat) (b_c8 : Nat) (w_f9 : Fn) (w_x10 : Array Value) (w_c11 : Array Value) {R : Ending → World → Prop} {w : World} : sh99 o_1 p_2 a_p3 a_n4 a_c5 b_p6 b_n7 b_c8 w_f9 w_x10 w_c11 R w → Calls Try.prog 99 #[.int .u8 o_1, .int .u8 p_2, .slice a_p3 a_n4 a_c5, .slice b_p6 b_n7 b_c8, .agg #[.func w_f9 w_x10 w_c11]] w R :=
  calls_of_eq (ann := fun _ => []) (fn := Try.f99) (c := bodyOf Try.f99) (args := #[.int .u8 o_1, .int .u8 p_2, .slice a_p3 a_n4 a_c5, .slice b_p6 b_n7 b_c8, .agg #[.func w_f9 w_x10 w_c11]]) 400 follows_mixed Try.func99 (by kernel_rfl) (by kernel_rfl)
set_option maxRecDepth 100000 in
/-- joinery/rowset.some, a round of loop 0 -/
def sh99_0 (p_1 : Addr) (w_2 : Addr) (out_3 : Addr) (y68 : Int) (y69 : Int) (y70 : Int) (y71 : Bool) (y72 : Bool) (l : Nat) (R : Ending → World → Prop) (w : World) : Prop :=
 doAl (.cells #[.int .i64 0, .int .i64 0, .int .i64 0, .bool false, .bool false] 122) w (fun b73 w74 =>
 doSt ((blk b73).add 0) (.int .i64 y68) w74 (fun w75 =>
 doSt ((blk b73).add 1) (.int .i64 y69) w75 (fun w76 =>
 doSt ((blk b73).add 2) (.int .i64 y70) w76 (fun w77 =>
 doSt ((blk b73).add 3) (.bool y71) w77 (fun w78 =>
 doSt ((blk b73).add 4) (.bool y72) w78 (fun w79 =>
 ∃ (r80 : Loop), w79.heap[l]? = some (.loop r80) ∧ r80.state = .ready ∧ (
 let w81 : World := w79.putObj l (.loop { r80 with state := .busy })
 ∃ (xf82 : Fn), ∃ (xx83 : Array Value), ∃ (xc84 : Array Value), World.cell? w81 (w_2.add 0) = some (.func xf82 xx83 xc84) ∧ (
 ∃ (x85 : Int), World.cell? w81 ((blk b73).add 0) = some (.int .i64 x85) ∧ (
 ∃ (x86 : Int), World.cell? w81 ((blk b73).add 1) = some (.int .i64 x86) ∧ (
 ∃ (x87 : Int), World.cell? w81 ((blk b73).add 2) = some (.int .i64 x87) ∧ (
 ∃ (x88 : Bool), World.cell? w81 ((blk b73).add 3) = some (.bool x88) ∧ (
 ∃ (x89 : Bool), World.cell? w81 ((blk b73).add 4) = some (.bool x89) ∧ (
 doCall Try.prog (.func xf82 xx83 xc84) #[.agg #[.int .i64 x85, .int .i64 x86, .int .i64 x87, .bool x88, .bool x89]] w81 (retS (fun v91 w92 => ∃ (x90 : Bool), v91 = (.bool x90 : Value) ∧ (
 ifB (!x90) (
 ∃ (r93 : Loop), w92.heap[l]? = some (.loop r93) ∧ R (.returned (.bool true)) (w92.putObj l (.loop { r93 with state := .ready, pending := none }))) (
 ∃ (x94 : Int), World.cell? w92 ((blk b73).add 1) = some (.int .i64 x94) ∧ (
 ∃ (x95 : Int), World.cell? w92 ((blk b73).add 2) = some (.int .i64 x95) ∧ (
 let K98 : Int → World → Prop := fun (v_96 : Int) (w97 : World) => 
 ∃ (xp99 : Option Addr), ∃ (xn100 : Nat), ∃ (xc101 : Nat), World.cell? w97 out_3 = some (.slice xp99 xn100 xc101) ∧ (
 ∃ (x102 : Int), World.cell? w97 ((blk b73).add 0) = some (.int .i64 x102) ∧ (
 doAl (.cells #[.int .i64 x102, .int .i64 v_96] 38) w97 (fun b103 w104 =>
 doGo Try.prog (.builtin .append #[33, 33] 33 #[false, false]) #[.slice xp99 xn100 xc101, .slice (some (blk b103)) 1 1] w104 (retS (fun v108 w109 => ∃ (xp105 : Option Addr), ∃ (xn106 : Nat), ∃ (xc107 : Nat), v108 = (.slice xp105 xn106 xc107 : Value) ∧ (
 doSt (out_3.add 0) (.slice xp105 xn106 xc107) w109 (fun w110 =>
 ∃ (r111 : Loop), w110.heap[l]? = some (.loop r111) ∧ R (.returned (.bool true)) (w110.putObj l (.loop { r111 with state := .ready, pending := none }))))) (fun _ _ => False)))))
 let K114 : Bool → World → Prop := fun (x112 : Bool) (w113 : World) => 
 ifB x112 (
 ∃ (x115 : Int), World.cell? w113 p_1 = some (.int .u8 x115) ∧ (
 ∃ (x116 : Int), World.cell? w113 ((blk b73).add 1) = some (.int .i64 x116) ∧ (
 ∃ (x117 : Int), World.cell? w113 ((blk b73).add 2) = some (.int .i64 x117) ∧ (
 doCall Try.prog (.func (.func 91) #[] #[]) #[.int .u8 x115, .int .i64 x116, .int .i64 x117] w113 (retS (fun v120 w121 => ∃ (x118 : Int), ∃ (x119 : Int), v120 = (.tuple #[.int .i64 x118, .int .i64 x119] : Value) ∧ (
 K98 x118 w121)) (fun _ _ => False)))))) (
 K98 (IntKind.wrap .i64 (x94 + x95)) w113)
 ∃ (x122 : Bool), World.cell? w92 ((blk b73).add 3) = some (.bool x122) ∧ (
 ifB x122 (
 ∃ (x123 : Bool), World.cell? w92 ((blk b73).add 4) = some (.bool x123) ∧ (
 K114 x123 w92)) (
 K98 (IntKind.wrap .i64 (x94 + x95)) w92))))))) (fun _ _ => False)))))))))))))))
set_option maxRecDepth 100000 in
theorem sh99_0_ok {dd4 : Value} {dd5 : Value} {dd6 : Value} {dd7 : Value} {dd8 : Value} {dd9 : Value} {dd10 : Value} {dd11 : Value} {dd12 : Value} {dd13 : Value} {dd14 : Value} {dd15 : Value} {dd16 : Value} {dd17 : Value} {dd18 : Value} {dd19 : Value} {dd20 : Value} {dd21 : Value} {dd22 : Value} {dd23 : Value} {dd24 : Value} {dd25 : Value} {dd26 : Value} {dd27 : Value} {dd28 : Value} {dd29 : Value} {dd30 : Value} {dd31 : Value} {dd32 : Value} {dd33 : Value} {dd34 : Value} {dd35 : Value} {dd36 : Value} {dd37 : Value} {dd38 : Value} {dd39 : Value} {dd40 : Value} {dd41 : Value} {dd42 : Value} {dd43 : Value} {dd44 : Value} {dd45 : Value} {dd46 : Value} {dd47 : Value} {dd48 : Value} {dd49 : Value} {dd50 : Value} {dd51 : Value} {dd52 : Value} {dd53 : Value} {dd54 : Value} {dd55 : Value} {dd56 : Value} {dd57 : Value} {dd58 : Value} {dd59 : Value} {dd60 : Value} {dd61 : Value} {dd62 : Value} {dd63 : Value} {dd64 : Value} {dd65 : Value} {dd66 : Value} {dd67 : Value} {p_1 : Addr} {w_2 : Addr} {out_3 : Addr} {y68 : Int} {y69 : Int} {y70 : Int} {y71 : Bool} {y72 : Bool} {l fn D : Nat} {R : Ending → World → Prop} {w : World} (hl : w.heap[l]? = some (.loop (mkLoop #[dd4, dd5, dd6, dd7, dd8, dd9, .pointer (some p_1), dd10, dd11, .pointer (some w_2), .pointer (some out_3), dd12, dd13, dd14, dd15, dd16, dd17, dd18, dd19, dd20, dd21, dd22, dd23, dd24, dd25, dd26, dd27, dd28, dd29, dd30, dd31, dd32, dd33, dd34, dd35, dd36, dd37, dd38, dd39, dd40, dd41, dd42, dd43, dd44, dd45, dd46, dd47, dd48, dd49, dd50, dd51, dd52, dd53, dd54, dd55, dd56, dd57, dd58, dd59, dd60, dd61, dd62, dd63, dd64, dd65, dd66, dd67] (rfOf Try.f99 0).1 (rfOf Try.f99 0).2.1 (rfOf Try.f99 0).2.2 fn D))) : sh99_0 p_1 w_2 out_3 y68 y69 y70 y71 y72 l R w → doCall Try.prog (.func (.yield l) #[] #[]) #[.agg #[.int .i64 y68, .int .i64 y69, .int .i64 y70, .bool y71, .bool y72]] w R :=
  fun h => ⟨round_of_eq (ann := fun _ => []) 400 follows_mixed hl (by kernel_rfl) (by kernel_rfl) h⟩
set_option maxRecDepth 100000 in
/-- joinery/rowset.Union$1 -/
def sh100 (x1 : Int) (x2 : Int) (x3 : Int) (x4 : Bool) (x5 : Bool) (R : Ending → World → Prop) (w : World) : Prop :=
 doAl (.cells #[.int .i64 x1, .int .i64 x2, .int .i64 x3, .bool x4, .bool x5] 122) w (fun _b6 w7 =>
 R (.returned (.bool true)) w7)
set_option maxRecDepth 100000 in
theorem sh100_ok (x1 : Int) (x2 : Int) (x3 : Int) (x4 : Bool) (x5 : Bool) {R : Ending → World → Prop} {w : World} : sh100 x1 x2 x3 x4 x5 R w → Calls Try.prog 100 #[.agg #[.int .i64 x1, .int .i64 x2, .int .i64 x3, .bool x4, .bool x5]] w R :=
  calls_of_eq (ann := fun _ => []) (fn := Try.f100) (c := bodyOf Try.f100) (args := #[.agg #[.int .i64 x1, .int .i64 x2, .int .i64 x3, .bool x4, .bool x5]]) 400 follows_mixed Try.func100 (by kernel_rfl) (by kernel_rfl)
set_option maxRecDepth 100000 in
/-- joinery/rowset.Meet$1 -/
def sh101 (x_1 : Int) (x_2 : Int) (x_3 : Int) (x_4 : Bool) (x_5 : Bool) (R : Ending → World → Prop) (w : World) : Prop :=
 doAl (.cells #[.int .i64 x_1, .int .i64 x_2, .int .i64 x_3, .bool x_4, .bool x_5] 122) w (fun b6 w7 =>
 let K10 : Bool → World → Prop := fun (x8 : Bool) (w9 : World) => 
 R (.returned (.bool x8)) w9
 ∃ (x11 : Bool), World.cell? w7 ((blk b6).add 3) = some (.bool x11) ∧ (
 ifB x11 (
 ∃ (x12 : Bool), World.cell? w7 ((blk b6).add 4) = some (.bool x12) ∧ (
 K10 x12 w7)) (
 R (.returned (.bool false)) w7)))
set_option maxRecDepth 100000 in
theorem sh101_ok (x_1 : Int) (x_2 : Int) (x_3 : Int) (x_4 : Bool) (x_5 : Bool) {R : Ending → World → Prop} {w : World} : sh101 x_1 x_2 x_3 x_4 x_5 R w → Calls Try.prog 101 #[.agg #[.int .i64 x_1, .int .i64 x_2, .int .i64 x_3, .bool x_4, .bool x_5]] w R :=
  calls_of_eq (ann := fun _ => []) (fn := Try.f101) (c := bodyOf Try.f101) (args := #[.agg #[.int .i64 x_1, .int .i64 x_2, .int .i64 x_3, .bool x_4, .bool x_5]]) 400 follows_mixed Try.func101 (by kernel_rfl) (by kernel_rfl)
set_option maxRecDepth 100000 in
/-- joinery/rowset.Less$1 -/
def sh102 (x_1 : Int) (x_2 : Int) (x_3 : Int) (x_4 : Bool) (x_5 : Bool) (R : Ending → World → Prop) (w : World) : Prop :=
 doAl (.cells #[.int .i64 x_1, .int .i64 x_2, .int .i64 x_3, .bool x_4, .bool x_5] 122) w (fun b6 w7 =>
 ∃ (x8 : Bool), World.cell? w7 ((blk b6).add 4) = some (.bool x8) ∧ (
 R (.returned (.bool (!x8))) w7))
set_option maxRecDepth 100000 in
theorem sh102_ok (x_1 : Int) (x_2 : Int) (x_3 : Int) (x_4 : Bool) (x_5 : Bool) {R : Ending → World → Prop} {w : World} : sh102 x_1 x_2 x_3 x_4 x_5 R w → Calls Try.prog 102 #[.agg #[.int .i64 x_1, .int .i64 x_2, .int .i64 x_3, .bool x_4, .bool x_5]] w R :=
  calls_of_eq (ann := fun _ => []) (fn := Try.f102) (c := bodyOf Try.f102) (args := #[.agg #[.int .i64 x_1, .int .i64 x_2, .int .i64 x_3, .bool x_4, .bool x_5]]) 400 follows_mixed Try.func102 (by kernel_rfl) (by kernel_rfl)
set_option maxRecDepth 100000 in
/-- joinery/rowset.Apart$1 -/
def sh103 (x_1 : Int) (x_2 : Int) (x_3 : Int) (x_4 : Bool) (x_5 : Bool) (R : Ending → World → Prop) (w : World) : Prop :=
 doAl (.cells #[.int .i64 x_1, .int .i64 x_2, .int .i64 x_3, .bool x_4, .bool x_5] 122) w (fun b6 w7 =>
 ∃ (x8 : Bool), World.cell? w7 ((blk b6).add 3) = some (.bool x8) ∧ (
 ∃ (x9 : Bool), World.cell? w7 ((blk b6).add 4) = some (.bool x9) ∧ (
 R (.returned (.bool (!(x8 == x9)))) w7)))
set_option maxRecDepth 100000 in
theorem sh103_ok (x_1 : Int) (x_2 : Int) (x_3 : Int) (x_4 : Bool) (x_5 : Bool) {R : Ending → World → Prop} {w : World} : sh103 x_1 x_2 x_3 x_4 x_5 R w → Calls Try.prog 103 #[.agg #[.int .i64 x_1, .int .i64 x_2, .int .i64 x_3, .bool x_4, .bool x_5]] w R :=
  calls_of_eq (ann := fun _ => []) (fn := Try.f103) (c := bodyOf Try.f103) (args := #[.agg #[.int .i64 x_1, .int .i64 x_2, .int .i64 x_3, .bool x_4, .bool x_5]]) 400 follows_mixed Try.func103 (by kernel_rfl) (by kernel_rfl)
set_option maxRecDepth 100000 in
/-- slices.SortStableFunc[[]joinery/api.Pair,joinery/api.Pair] -/
def sh104 (x_p1 : Option Addr) (x_n2 : Nat) (x_c3 : Nat) (cmp_f4 : Fn) (cmp_x5 : Array Value) (cmp_c6 : Array Value) (R : Ending → World → Prop) (w : World) : Prop :=
 doCall Try.prog (.func (.func 133) #[] #[]) #[.slice x_p1 x_n2 x_c3, .int .i64 ((x_n2 : Nat) : Int), .func cmp_f4 cmp_x5 cmp_c6] w (retS (fun v7 w8 => v7 = (.tuple #[] : Value) ∧ (
 R (.returned (.tuple #[])) w8)) (fun ch w => Kfn R ch [] w))
set_option maxRecDepth 100000 in
theorem sh104_ok (x_p1 : Option Addr) (x_n2 : Nat) (x_c3 : Nat) (cmp_f4 : Fn) (cmp_x5 : Array Value) (cmp_c6 : Array Value) {R : Ending → World → Prop} {w : World} : sh104 x_p1 x_n2 x_c3 cmp_f4 cmp_x5 cmp_c6 R w → Calls Try.prog 104 #[.slice x_p1 x_n2 x_c3, .func cmp_f4 cmp_x5 cmp_c6] w R :=
  calls_of_eq (ann := fun _ => []) (fn := Try.f104) (c := bodyOf Try.f104) (args := #[.slice x_p1 x_n2 x_c3, .func cmp_f4 cmp_x5 cmp_c6]) 400 follows_mixed Try.func104 (by kernel_rfl) (by kernel_rfl)
set_option maxRecDepth 100000 in
/-- joinery/rowset.Sort$1 -/
def sh105 (a_1 : Int) (a_2 : Int) (b_3 : Int) (b_4 : Int) (x5 : Addr) (R : Ending → World → Prop) (w : World) : Prop :=
 doAl (.cells #[.int .i64 a_1, .int .i64 a_2] 38) w (fun b6 w7 =>
 doAl (.cells #[.int .i64 b_3, .int .i64 b_4] 38) w7 (fun b8 w9 =>
 ∃ (x10 : Int), World.cell? w9 x5 = some (.int .u8 x10) ∧ (
 ∃ (x11 : Int), World.cell? w9 ((blk b6).add 0) = some (.int .i64 x11) ∧ (
 ∃ (x12 : Int), World.cell? w9 ((blk b8).add 0) = some (.int .i64 x12) ∧ (
 doCall Try.prog (.func (.func 93) #[] #[]) #[.int .u8 x10, .int .i64 x11, .int .i64 x12] w9 (retS (fun v14 w15 => ∃ (x13 : Int), v14 = (.int .i64 x13 : Value) ∧ (
 R (.returned (.int .i64 x13)) w15)) (fun ch w => Kfn R ch [] w)))))))
set_option maxRecDepth 100000 in
theorem sh105_ok (a_1 : Int) (a_2 : Int) (b_3 : Int) (b_4 : Int) (x5 : Addr) {R : Ending → World → Prop} {w : World} : sh105 a_1 a_2 b_3 b_4 x5 R w → Calls Try.prog 105 #[.agg #[.int .i64 a_1, .int .i64 a_2], .agg #[.int .i64 b_3, .int .i64 b_4], .pointer (some x5)] w R :=
  calls_of_eq (ann := fun _ => []) (fn := Try.f105) (c := bodyOf Try.f105) (args := #[.agg #[.int .i64 a_1, .int .i64 a_2], .agg #[.int .i64 b_3, .int .i64 b_4], .pointer (some x5)]) 400 follows_mixed Try.func105 (by kernel_rfl) (by kernel_rfl)
set_option maxRecDepth 100000 in
/-- joinery/joineryref05.both -/
def sh106 (o_1 : Int) (a_p2 : Option Addr) (a_n3 : Nat) (a_c4 : Nat) (b_p5 : Option Addr) (b_n6 : Nat) (b_c7 : Nat) (R : Ending → World → Prop) (w : World) : Prop :=
 let K10 : Bool → World → Prop := fun (x8 : Bool) (w9 : World) => 
 R (.returned (.bool x8)) w9
 doCall Try.prog (.func (.func 49) #[] #[]) #[.int .u8 o_1, .slice a_p2 a_n3 a_c4] w (retS (fun v12 w13 => ∃ (x11 : Bool), v12 = (.bool x11 : Value) ∧ (
 ifB x11 (
 doCall Try.prog (.func (.func 49) #[] #[]) #[.int .u8 o_1, .slice b_p5 b_n6 b_c7] w13 (retS (fun v15 w16 => ∃ (x14 : Bool), v15 = (.bool x14 : Value) ∧ (
 K10 x14 w16)) (fun ch w => Kfn R ch [] w))) (
 R (.returned (.bool false)) w13))) (fun ch w => Kfn R ch [] w))
set_option maxRecDepth 100000 in
theorem sh106_ok (o_1 : Int) (a_p2 : Option Addr) (a_n3 : Nat) (a_c4 : Nat) (b_p5 : Option Addr) (b_n6 : Nat) (b_c7 : Nat) {R : Ending → World → Prop} {w : World} : sh106 o_1 a_p2 a_n3 a_c4 b_p5 b_n6 b_c7 R w → Calls Try.prog 106 #[.int .u8 o_1, .slice a_p2 a_n3 a_c4, .slice b_p5 b_n6 b_c7] w R :=
  calls_of_eq (ann := fun _ => []) (fn := Try.f106) (c := bodyOf Try.f106) (args := #[.int .u8 o_1, .slice a_p2 a_n3 a_c4, .slice b_p5 b_n6 b_c7]) 400 follows_mixed Try.func106 (by kernel_rfl) (by kernel_rfl)
set_option maxRecDepth 100000 in
/-- joinery/rowset.Range$1 -/
def sh107 (x_1 : Int) (x_2 : Int) (x_3 : Int) (x_4 : Bool) (x_5 : Bool) (x6 : Addr) (x7 : Addr) (x8 : Addr) (R : Ending → World → Prop) (w : World) : Prop :=
 doAl (.cells #[.int .i64 x_1, .int .i64 x_2, .int .i64 x_3, .bool x_4, .bool x_5] 122) w (fun b9 w10 =>
 let K13 : Bool → World → Prop := fun (x11 : Bool) (w12 : World) => 
 R (.returned (.bool x11)) w12
 ∃ (x14 : Int), World.cell? w10 x6 = some (.int .u8 x14) ∧ (
 ∃ (x15 : Int), World.cell? w10 ((blk b9).add 0) = some (.int .i64 x15) ∧ (
 ∃ (x16 : Int), World.cell? w10 x7 = some (.int .i64 x16) ∧ (
 doCall Try.prog (.func (.func 93) #[] #[]) #[.int .u8 x14, .int .i64 x15, .int .i64 x16] w10 (retS (fun v18 w19 => ∃ (x17 : Int), v18 = (.int .i64 x17 : Value) ∧ (
 ifB (decide ((x17 : Int) ≥ 0)) (
 ∃ (x20 : Int), World.cell? w19 x6 = some (.int .u8 x20) ∧ (
 ∃ (x21 : Int), World.cell? w19 ((blk b9).add 0) = some (.int .i64 x21) ∧ (
 ∃ (x22 : Int), World.cell? w19 x8 = some (.int .i64 x22) ∧ (
 doCall Try.prog (.func (.func 93) #[] #[]) #[.int .u8 x20, .int .i64 x21, .int .i64 x22] w19 (retS (fun v24 w25 => ∃ (x23 : Int), v24 = (.int .i64 x23 : Value) ∧ (
 K13 (decide ((x23 : Int) ≤ 0)) w25)) (fun ch w => Kfn R ch [] w)))))) (
 R (.returned (.bool false)) w19))) (fun ch w => Kfn R ch [] w))))))
set_option maxRecDepth 100000 in
theorem sh107_ok (x_1 : Int) (x_2 : Int) (x_3 : Int) (x_4 : Bool) (x_5 : Bool) (x6 : Addr) (x7 : Addr) (x8 : Addr) {R : Ending → World → Prop} {w : World} : sh107 x_1 x_2 x_3 x_4 x_5 x6 x7 x8 R w → Calls Try.prog 107 #[.agg #[.int .i64 x_1, .int .i64 x_2, .int .i64 x_3, .bool x_4, .bool x_5], .pointer (some x6), .pointer (some x7), .pointer (some x8)] w R :=
  calls_of_eq (ann := fun _ => []) (fn := Try.f107) (c := bodyOf Try.f107) (args := #[.agg #[.int .i64 x_1, .int .i64 x_2, .int .i64 x_3, .bool x_4, .bool x_5], .pointer (some x6), .pointer (some x7), .pointer (some x8)]) 400 follows_mixed Try.func107 (by kernel_rfl) (by kernel_rfl)
set_option maxRecDepth 100000 in
/-- joinery/joineryref09.ends -/
def sh108 (l_p1 : Option Addr) (l_n2 : Nat) (l_c3 : Nat) (at_4 : Int) (deep_5 : Int) (R : Ending → World → Prop) (w : World) : Prop :=
 let K8 : Bool → World → Prop := fun (x6 : Bool) (w7 : World) => 
 ifB x6 (
 R (.returned (.int .i64 (-1))) w7) (
 let K11 : Int → World → Prop := fun (n_9 : Int) (w10 : World) => 
 let K14 : Int → World → Prop := fun (n_12 : Int) (w13 : World) => 
 R (.returned (.int .i64 n_12)) w13
 doIx l_p1 l_n2 7 (at_4) (fun a15 =>
 ∃ (x16 : Bool), World.cell? w10 (a15.add 6) = some (.bool x16) ∧ (
 ifB x16 (
 doCall Try.prog (.func (.func 108) #[] #[]) #[.slice l_p1 l_n2 l_c3, .int .i64 (IntKind.wrap .i64 (at_4 + n_9)), .int .i64 (IntKind.wrap .i64 (deep_5 + 1))] w10 (retS (fun v18 w19 => ∃ (x17 : Int), v18 = (.int .i64 x17 : Value) ∧ (
 ifB (decide ((x17 : Int) < 0)) (
 R (.returned (.int .i64 (-1))) w19) (
 K14 (IntKind.wrap .i64 (n_9 + x17)) w19))) (fun ch w => Kfn R ch [] w))) (
 K14 n_9 w10)))
 doIx l_p1 l_n2 7 (at_4) (fun a20 =>
 ∃ (x21 : Bool), World.cell? w7 (a20.add 5) = some (.bool x21) ∧ (
 ifB x21 (
 doCall Try.prog (.func (.func 108) #[] #[]) #[.slice l_p1 l_n2 l_c3, .int .i64 (IntKind.wrap .i64 (at_4 + 1)), .int .i64 (IntKind.wrap .i64 (deep_5 + 1))] w7 (retS (fun v23 w24 => ∃ (x22 : Int), v23 = (.int .i64 x22 : Value) ∧ (
 ifB (decide ((x22 : Int) < 0)) (
 R (.returned (.int .i64 (-1))) w24) (
 K11 (IntKind.wrap .i64 (1 + x22)) w24))) (fun ch w => Kfn R ch [] w))) (
 K11 1 w7))))
 ifB (decide ((at_4 : Int) ≥ ((l_n2 : Nat) : Int))) (
 R (.returned (.int .i64 (-1))) w) (
 K8 (decide ((deep_5 : Int) > 5000)) w)
set_option maxRecDepth 100000 in
theorem sh108_ok (l_p1 : Option Addr) (l_n2 : Nat) (l_c3 : Nat) (at_4 : Int) (deep_5 : Int) {R : Ending → World → Prop} {w : World} : sh108 l_p1 l_n2 l_c3 at_4 deep_5 R w → Calls Try.prog 108 #[.slice l_p1 l_n2 l_c3, .int .i64 at_4, .int .i64 deep_5] w R :=
  calls_of_eq (ann := fun _ => []) (fn := Try.f108) (c := bodyOf Try.f108) (args := #[.slice l_p1 l_n2 l_c3, .int .i64 at_4, .int .i64 deep_5]) 400 follows_mixed Try.func108 (by kernel_rfl) (by kernel_rfl)
end Go.Proofs.Ytinkkhcffoikmaa
