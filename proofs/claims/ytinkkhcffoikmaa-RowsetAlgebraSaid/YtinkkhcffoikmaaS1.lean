/-
  Printed by a program (gen.py): what the functions of the program do, as formulas; each with the proof that its call is what the formula says.
-/
import Derived.Test.YtinkkhcffoikmaaCd
import Derived.Test.YtinkkhcffoikmaaProg
namespace Go.Proofs.Ytinkkhcffoikmaa
open Go Go.Sh
theorem follows_mixed : Try.prog.follows .mixedOrders = true := by kernel_rfl
set_option maxRecDepth 100000 in
/-- joinery/joinerylaw09.Long -/
def sh13 (l_p1 : Option Addr) (l_n2 : Nat) (l_c3 : Nat) (R : Ending → World → Prop) (w : World) : Prop :=
 let K6 : Bool → World → Prop := fun (x4 : Bool) (w5 : World) => 
 R (.returned (.bool x4)) w5
 ifB (decide ((((l_n2 : Nat) : Int) : Int) > 400)) (
 R (.returned (.bool true)) w) (
 doCall Try.prog (.func (.func 68) #[] #[]) #[.slice l_p1 l_n2 l_c3] w (retS (fun v8 w9 => ∃ (x7 : Bool), v8 = (.bool x7 : Value) ∧ (
 K6 (!x7) w9)) (fun ch w => Kfn R ch [] w)))
set_option maxRecDepth 100000 in
theorem sh13_ok (l_p1 : Option Addr) (l_n2 : Nat) (l_c3 : Nat) {R : Ending → World → Prop} {w : World} : sh13 l_p1 l_n2 l_c3 R w → Calls Try.prog 13 #[.slice l_p1 l_n2 l_c3] w R :=
  calls_of_eq (ann := fun _ => []) (fn := Try.f13) (c := bodyOf Try.f13) (args := #[.slice l_p1 l_n2 l_c3]) 400 follows_mixed Try.func13 (by kernel_rfl) (by kernel_rfl)
set_option maxRecDepth 100000 in
/-- joinery/joinerylaw32.alive -/
def sh14  (R : Ending → World → Prop) (w : World) : Prop :=
 doCall Try.prog (.func (.func 69) #[] #[]) #[.pointer none, .int .i64 1, .int .i64 10, .int .u64 0, .pointer none] w (retS (fun v2 w3 => ∃ (x1 : Option Addr), v2 = (.pointer x1 : Value) ∧ (
 doCall Try.prog (.func (.func 69) #[] #[]) #[.pointer x1, .int .i64 3, .int .i64 30, .int .u64 0, .pointer none] w3 (retS (fun v5 w6 => ∃ (x4 : Option Addr), v5 = (.pointer x4 : Value) ∧ (
 doCall Try.prog (.func (.func 17) #[] #[]) #[.int .u8 1, .pointer x4, .int .i64 1] w6 (retS (fun v9 w10 => ∃ (x7 : Int), ∃ (x8 : Bool), v9 = (.tuple #[.int .i64 x7, .bool x8] : Value) ∧ (
 doCall Try.prog (.func (.func 17) #[] #[]) #[.int .u8 1, .pointer x4, .int .i64 2] w10 (retS (fun v13 w14 => ∃ (x11 : Int), ∃ (x12 : Bool), v13 = (.tuple #[.int .i64 x11, .bool x12] : Value) ∧ (
 doCall Try.prog (.func (.func 17) #[] #[]) #[.int .u8 1, .pointer x4, .int .i64 9] w14 (retS (fun v17 w18 => ∃ (x15 : Int), ∃ (x16 : Bool), v17 = (.tuple #[.int .i64 x15, .bool x16] : Value) ∧ (
 doCall Try.prog (.func (.func 20) #[] #[]) #[.pointer x4, .int .i64 1] w18 (retS (fun v22 w23 => ∃ (x19 : Int), ∃ (x20 : Int), ∃ (x21 : Int), v22 = (.tuple #[.agg #[.int .i64 x19, .int .i64 x20], .int .i64 x21] : Value) ∧ (
 doAl (.cells #[.int .i64 0, .int .i64 0] 38) w23 (fun b24 w25 =>
 doSt ((blk b24).add 0) (.int .i64 x19) w25 (fun w26 =>
 doSt ((blk b24).add 1) (.int .i64 x20) w26 (fun w27 =>
 doCall Try.prog (.func (.func 20) #[] #[]) #[.pointer x4, .int .i64 2] w27 (retS (fun v31 w32 => ∃ (x28 : Int), ∃ (x29 : Int), ∃ (x30 : Int), v31 = (.tuple #[.agg #[.int .i64 x28, .int .i64 x29], .int .i64 x30] : Value) ∧ (
 doAl (.cells #[.int .i64 0, .int .i64 0] 38) w32 (fun b33 w34 =>
 doSt ((blk b33).add 0) (.int .i64 x28) w34 (fun w35 =>
 doSt ((blk b33).add 1) (.int .i64 x29) w35 (fun w36 =>
 doCall Try.prog (.func (.func 20) #[] #[]) #[.pointer none, .int .i64 0] w36 (retS (fun v40 w41 => ∃ (x37 : Int), ∃ (x38 : Int), ∃ (x39 : Int), v40 = (.tuple #[.agg #[.int .i64 x37, .int .i64 x38], .int .i64 x39] : Value) ∧ (
 doAl (.cells #[.int .i64 0, .int .i64 0] 38) w41 (fun b42 w43 =>
 doSt ((blk b42).add 0) (.int .i64 x37) w43 (fun w44 =>
 doSt ((blk b42).add 1) (.int .i64 x38) w44 (fun w45 =>
 let K48 : Bool → World → Prop := fun (x46 : Bool) (w47 : World) => 
 R (.returned (.bool x46)) w47
 ifB ((x7 : Int) == 0) (
 ifB x8 (
 ifB ((x11 : Int) == 1) (
 ifB (!x12) (
 ifB ((x15 : Int) == 2) (
 ifB (!x16) (
 ∃ (x49 : Int), World.cell? w45 ((blk b24).add 0) = some (.int .i64 x49) ∧ (
 ∃ (x50 : Int), World.cell? w45 ((blk b24).add 1) = some (.int .i64 x50) ∧ (
 ifB (((x49 : Int) == 3) && (((x50 : Int) == 30) && true)) (
 ifB ((x21 : Int) == 0) (
 ifB ((x30 : Int) == 320) (
 K48 ((x39 : Int) == 320) w45) (
 R (.returned (.bool false)) w45)) (
 R (.returned (.bool false)) w45)) (
 R (.returned (.bool false)) w45)))) (
 R (.returned (.bool false)) w45)) (
 R (.returned (.bool false)) w45)) (
 R (.returned (.bool false)) w45)) (
 R (.returned (.bool false)) w45)) (
 R (.returned (.bool false)) w45)) (
 R (.returned (.bool false)) w45)))))) (fun ch w => Kfn R ch [] w))))))) (fun ch w => Kfn R ch [] w))))))) (fun ch w => Kfn R ch [] w)))) (fun ch w => Kfn R ch [] w)))) (fun ch w => Kfn R ch [] w)))) (fun ch w => Kfn R ch [] w)))) (fun ch w => Kfn R ch [] w)))) (fun ch w => Kfn R ch [] w))
set_option maxRecDepth 100000 in
theorem sh14_ok  {R : Ending → World → Prop} {w : World} : sh14  R w → Calls Try.prog 14 #[] w R :=
  calls_of_eq (ann := fun _ => []) (fn := Try.f14) (c := bodyOf Try.f14) (args := #[]) 400 follows_mixed Try.func14 (by kernel_rfl) (by kernel_rfl)
set_option maxRecDepth 100000 in
/-- joinery/joinerylaw09.Make -/
def sh15 (l_p1 : Option Addr) (l_n2 : Nat) (l_c3 : Nat) (R : Ending → World → Prop) (w : World) : Prop :=
 ifB ((((l_n2 : Nat) : Int) : Int) == 0) (
 R (.returned (.pointer none)) w) (
 doCall Try.prog (.func (.func 70) #[] #[]) #[.slice l_p1 l_n2 l_c3] w (retS (fun v17 w18 => ∃ (x4 : Int), ∃ (x5 : Int), ∃ (x6 : Int), ∃ (x7 : Int), ∃ (x8 : Int), ∃ (x9 : Bool), ∃ (x10 : Bool), ∃ (xp11 : Option Addr), ∃ (xn12 : Nat), ∃ (xc13 : Nat), ∃ (xp14 : Option Addr), ∃ (xn15 : Nat), ∃ (xc16 : Nat), v17 = (.tuple #[.agg #[.int .i64 x4, .int .i64 x5, .int .i64 x6, .int .i64 x7, .int .u64 x8, .bool x9, .bool x10], .slice xp11 xn12 xc13, .slice xp14 xn15 xc16] : Value) ∧ (
 doAl (.cells #[.int .i64 0, .int .i64 0, .int .i64 0, .int .i64 0, .int .u64 0, .bool false, .bool false] 88) w18 (fun b19 w20 =>
 doSt ((blk b19).add 0) (.int .i64 x4) w20 (fun w21 =>
 doSt ((blk b19).add 1) (.int .i64 x5) w21 (fun w22 =>
 doSt ((blk b19).add 2) (.int .i64 x6) w22 (fun w23 =>
 doSt ((blk b19).add 3) (.int .i64 x7) w23 (fun w24 =>
 doSt ((blk b19).add 4) (.int .u64 x8) w24 (fun w25 =>
 doSt ((blk b19).add 5) (.bool x9) w25 (fun w26 =>
 doSt ((blk b19).add 6) (.bool x10) w26 (fun w27 =>
 doDr w27 (fun w29 =>
 ∃ (C28 : World → Prop), C28 w29 ∧ (
 ∃ (x30 : Int), (∀ w, C28 w → World.cell? w ((blk b19).add 0) = some (.int .i64 x30)) ∧ (
 ∃ (x31 : Int), (∀ w, C28 w → World.cell? w ((blk b19).add 1) = some (.int .i64 x31)) ∧ (
 ∃ (x32 : Int), (∀ w, C28 w → World.cell? w ((blk b19).add 4) = some (.int .u64 x32)) ∧ (
 doCall Try.prog (.func (.func 15) #[] #[]) #[.slice xp11 xn12 xc13] w29 (retS (fun v34 w35 => ∃ (x33 : Option Addr), v34 = (.pointer x33 : Value) ∧ (
 C28 w35 ∧ (
 doCall Try.prog (.func (.func 15) #[] #[]) #[.slice xp14 xn15 xc16] w35 (retS (fun v37 w38 => ∃ (x36 : Option Addr), v37 = (.pointer x36 : Value) ∧ (
 C28 w38 ∧ (
 doCall Try.prog (.func (.func 69) #[] #[]) #[.pointer x33, .int .i64 x30, .int .i64 x31, .int .u64 x32, .pointer x36] w38 (retS (fun v40 w41 => ∃ (x39 : Option Addr), v40 = (.pointer x39 : Value) ∧ (
 R (.returned (.pointer x39)) w41)) (fun ch w => Kfn R ch [] w))))) (fun ch w => Kfn R ch [] w))))) (fun ch w => Kfn R ch [] w))))))))))))))))) (fun ch w => Kfn R ch [] w)))
set_option maxRecDepth 100000 in
theorem sh15_ok (l_p1 : Option Addr) (l_n2 : Nat) (l_c3 : Nat) {R : Ending → World → Prop} {w : World} : sh15 l_p1 l_n2 l_c3 R w → Calls Try.prog 15 #[.slice l_p1 l_n2 l_c3] w R :=
  calls_of_eq (ann := fun _ => []) (fn := Try.f15) (c := bodyOf Try.f15) (args := #[.slice l_p1 l_n2 l_c3]) 400 follows_mixed Try.func15 (by kernel_rfl) (by kernel_rfl)
set_option maxRecDepth 100000 in
/-- joinery/rank.Ranks -/
def sh16 (o_1 : Int) (t_2 : Option Addr) (keys_p3 : Option Addr) (keys_n4 : Nat) (_keys_c5 : Nat) (R : Ending → World → Prop) (w : World) : Prop :=
 ∃ (I6 : List Value → World → Prop) (μ7 : List Value → World → Nat), I6 [.slice none 0 0, .int .i64 0] w ∧ (∀ (out_p10 : Option Addr), ∀ (out_n11 : Nat), ∀ (out_c12 : Nat), ∀ (x13 : Int), ∀ (_j8 : Nat → Value) (w9 : World), I6 [.slice out_p10 out_n11 out_c12, .int .i64 x13] w9 → (
 ifB (decide ((x13 : Int) < ((keys_n4 : Nat) : Int))) (
 doIx keys_p3 keys_n4 1 (x13) (fun a14 =>
 ∃ (x15 : Int), World.cell? w9 a14 = some (.int .i64 x15) ∧ (
 doCall Try.prog (.func (.func 17) #[] #[]) #[.int .u8 o_1, .pointer t_2, .int .i64 x15] w9 (retS (fun v18 w19 => ∃ (x16 : Int), ∃ (x17 : Bool), v18 = (.tuple #[.int .i64 x16, .bool x17] : Value) ∧ (
 doAl (.cells #[.int .i64 x16] 3) w19 (fun b20 w21 =>
 doGo Try.prog (.builtin .append #[24, 24] 24 #[false, false]) #[.slice out_p10 out_n11 out_c12, .slice (some (blk b20)) 1 1] w21 (retS (fun v25 w26 => ∃ (xp22 : Option Addr), ∃ (xn23 : Nat), ∃ (xc24 : Nat), v25 = (.slice xp22 xn23 xc24 : Value) ∧ (
 I6 [.slice xp22 xn23 xc24, .int .i64 (IntKind.wrap .i64 (x13 + 1))] w26 ∧ μ7 [.slice xp22 xn23 xc24, .int .i64 (IntKind.wrap .i64 (x13 + 1))] w26 < μ7 [.slice out_p10 out_n11 out_c12, .int .i64 x13] w9)) (fun ch w => Kfn R ch [] w))))) (fun ch w => Kfn R ch [] w))))) (
 R (.returned (.slice out_p10 out_n11 out_c12)) w9)))
set_option maxRecDepth 100000 in
theorem sh16_ok (o_1 : Int) (t_2 : Option Addr) (keys_p3 : Option Addr) (keys_n4 : Nat) (keys_c5 : Nat) {R : Ending → World → Prop} {w : World} : sh16 o_1 t_2 keys_p3 keys_n4 keys_c5 R w → Calls Try.prog 16 #[.int .u8 o_1, .pointer t_2, .slice keys_p3 keys_n4 keys_c5] w R :=
  calls_of_eq (ann := fun i => if i = 0 then [(6, .slice none 0 0), (13, .int .i64 0)] else []) (fn := Try.f16) (c := bodyOf Try.f16) (args := #[.int .u8 o_1, .pointer t_2, .slice keys_p3 keys_n4 keys_c5]) 400 follows_mixed Try.func16 (by kernel_rfl) (by kernel_rfl)
set_option maxRecDepth 100000 in
/-- joinery/rank.Rank -/
def sh17 (o_1 : Int) (t_2 : Option Addr) (key_3 : Int) (R : Ending → World → Prop) (w : World) : Prop :=
 doAl (.cells #[.bool false] 4) w (fun b4 w5 =>
 doCall Try.prog (.func (.func 71) #[] #[]) #[] w5 (retS (fun v12 w13 => ∃ (xf6 : Fn), ∃ (xx7 : Array Value), ∃ (xc8 : Array Value), ∃ (xf9 : Fn), ∃ (xx10 : Array Value), ∃ (xc11 : Array Value), v12 = (.tuple #[.func xf6 xx7 xc8, .func xf9 xx10 xc11] : Value) ∧ (
 doAl (.cells #[.nilFunc] 91) w13 (fun b14 w15 =>
 doSt ((blk b14).add 0) (.func xf6 xx7 xc8) w15 (fun w16 =>
 doCall Try.prog (.func (.func 72) #[] #[]) #[.int .u8 o_1, .pointer t_2, .int .i64 key_3] w16 (retS (fun v20 w21 => ∃ (xf17 : Fn), ∃ (xx18 : Array Value), ∃ (xc19 : Array Value), v20 = (.func xf17 xx18 xc19 : Value) ∧ (
 rfW Try.prog (.func xf17 xx18 xc19) (mkLoop #[.int .u8 o_1, .pointer t_2, .int .i64 key_3, undef, undef, undef, .int .i64 0, .pointer (some (blk b4)), .pointer (some (blk b14)), .func xf9 xx10 xc11, undef, undef, .tuple #[.func xf6 xx7 xc8, .func xf9 xx10 xc11], .tuple #[.func xf6 xx7 xc8, .func xf9 xx10 xc11], .func xf6 xx7 xc8, .func xf9 xx10 xc11, .int .u8 o_1, .pointer t_2, .int .i64 key_3, .func xf17 xx18 xc19, undef, undef, undef, undef, undef, undef, undef, undef, undef, undef, undef, undef, undef, undef, undef, undef, undef, undef] (rfOf Try.f17 0).1 (rfOf Try.f17 0).2.1 (rfOf Try.f17 0).2.2)
 (fun w22 =>
 doDr w22 (fun w24 =>
 ∃ (C23 : World → Prop), C23 w24 ∧ (
 ∃ (x25 : Bool), (∀ w, C23 w → World.cell? w (blk b4) = some (.bool x25)) ∧ (
 doCall Try.prog (.func xf9 xx10 xc11) #[] w24 (retS (fun v27 w28 => ∃ (x26 : Int), v27 = (.int .i64 x26 : Value) ∧ (
 C23 w28 ∧ (
 doSt ((blk b4).add 0) (.bool x25) w28 (fun w29 =>
 w29.heap[w21.heap.size]? = some (.deferred (some [])) ∧ (
 let w30 : World := w29.putObj w21.heap.size (.deferred none)
 ∃ (x31 : Bool), World.cell? w30 (blk b4) = some (.bool x31) ∧ (
 R (.returned (.tuple #[.int .i64 x26, .bool x31])) w30)))))) (fun ch w => Kfn R ch [{ target := .collected w21.heap.size, args := #[] }] w))))))
 (fun w32 =>
 w32.heap[w21.heap.size]? = some (.deferred (some [])) ∧ (
 let w33 : World := w32.putObj w21.heap.size (.deferred none)
 ∃ (x34 : Bool), World.cell? w33 (blk b4) = some (.bool x34) ∧ (
 R (.returned (.tuple #[.int .i64 0, .bool x34])) w33)))
 [] w21)) (fun ch w => Kfn R ch [] w)))))) (fun ch w => Kfn R ch [] w)))
set_option maxRecDepth 100000 in
theorem sh17_ok (o_1 : Int) (t_2 : Option Addr) (key_3 : Int) {R : Ending → World → Prop} {w : World} : sh17 o_1 t_2 key_3 R w → Calls Try.prog 17 #[.int .u8 o_1, .pointer t_2, .int .i64 key_3] w R :=
  calls_of_eq (ann := fun _ => []) (fn := Try.f17) (c := bodyOf Try.f17) (args := #[.int .u8 o_1, .pointer t_2, .int .i64 key_3]) 400 follows_mixed Try.func17 (by kernel_rfl) (by kernel_rfl)
set_option maxRecDepth 100000 in
/-- joinery/rank.Rank, a round of loop 0 -/
def sh17_0 (is_1 : Addr) (add_2 : Addr) (y39 : Option Addr) (y40 : Int) (l : Nat) (R : Ending → World → Prop) (w : World) : Prop :=
 ∃ (r41 : Loop), w.heap[l]? = some (.loop r41) ∧ r41.state = .ready ∧ (
 let w42 : World := w.putObj l (.loop { r41 with state := .busy })
 let K44 : World → Prop := fun (w43 : World) => 
 let K46 : World → Prop := fun (w45 : World) => 
 doSt (is_1.add 0) (.bool ((y40 : Int) == 0)) w45 (fun w47 =>
 ∃ (r48 : Loop), w47.heap[l]? = some (.loop r48) ∧ R (.returned (.bool true)) (w47.putObj l (.loop { r48 with state := .ready, pending := none })))
 ifB (decide ((y40 : Int) ≥ 0)) (
 doDr w43 (fun w50 =>
 ∃ (C49 : World → Prop), C49 w50 ∧ (
 ∃ (xf51 : Fn), ∃ (xx52 : Array Value), ∃ (xc53 : Array Value), (∀ w, C49 w → World.cell? w add_2 = some (.func xf51 xx52 xc53)) ∧ (
 doCall Try.prog (.func (.func 73) #[] #[]) #[.pointer y39] w50 (retS (fun v55 w56 => ∃ (x54 : Option Addr), v55 = (.pointer x54 : Value) ∧ (
 C49 w56 ∧ (
 doCall Try.prog (.func (.func 74) #[] #[]) #[.pointer x54] w56 (retS (fun v58 w59 => ∃ (x57 : Int), v58 = (.int .i64 x57 : Value) ∧ (
 C49 w59 ∧ (
 doCall Try.prog (.func xf51 xx52 xc53) #[.int .i64 x57] w59 (retS (fun v60 w61 => v60 = (.tuple #[] : Value) ∧ (
 K46 w61)) (fun _ _ => False))))) (fun _ _ => False))))) (fun _ _ => False)))))) (
 K46 w43)
 ifB (decide ((y40 : Int) > 0)) (
 ∃ (xf62 : Fn), ∃ (xx63 : Array Value), ∃ (xc64 : Array Value), World.cell? w42 add_2 = some (.func xf62 xx63 xc64) ∧ (
 doCall Try.prog (.func xf62 xx63 xc64) #[.int .i64 1] w42 (retS (fun v65 w66 => v65 = (.tuple #[] : Value) ∧ (
 K44 w66)) (fun _ _ => False)))) (
 K44 w42))
set_option maxRecDepth 100000 in
theorem sh17_0_ok {dd3 : Value} {dd4 : Value} {dd5 : Value} {dd6 : Value} {dd7 : Value} {dd8 : Value} {dd9 : Value} {dd10 : Value} {dd11 : Value} {dd12 : Value} {dd13 : Value} {dd14 : Value} {dd15 : Value} {dd16 : Value} {dd17 : Value} {dd18 : Value} {dd19 : Value} {dd20 : Value} {dd21 : Value} {dd22 : Value} {dd23 : Value} {dd24 : Value} {dd25 : Value} {dd26 : Value} {dd27 : Value} {dd28 : Value} {dd29 : Value} {dd30 : Value} {dd31 : Value} {dd32 : Value} {dd33 : Value} {dd34 : Value} {dd35 : Value} {dd36 : Value} {dd37 : Value} {dd38 : Value} {is_1 : Addr} {add_2 : Addr} {y39 : Option Addr} {y40 : Int} {l fn D : Nat} {R : Ending → World → Prop} {w : World} (hl : w.heap[l]? = some (.loop (mkLoop #[dd3, dd4, dd5, dd6, dd7, dd8, dd9, .pointer (some is_1), .pointer (some add_2), dd10, dd11, dd12, dd13, dd14, dd15, dd16, dd17, dd18, dd19, dd20, dd21, dd22, dd23, dd24, dd25, dd26, dd27, dd28, dd29, dd30, dd31, dd32, dd33, dd34, dd35, dd36, dd37, dd38] (rfOf Try.f17 0).1 (rfOf Try.f17 0).2.1 (rfOf Try.f17 0).2.2 fn D))) : sh17_0 is_1 add_2 y39 y40 l R w → doCall Try.prog (.func (.yield l) #[] #[]) #[.pointer y39, .int .i64 y40] w R :=
  fun h => ⟨round_of_eq (ann := fun _ => []) 400 follows_mixed hl (by kernel_rfl) (by kernel_rfl) h⟩
set_option maxRecDepth 100000 in
/-- joinery/joineryref32.Rank -/
def sh18 (o_1 : Int) (t_p2 : Option Addr) (t_n3 : Nat) (t_c4 : Nat) (key_5 : Int) (R : Ending → World → Prop) (w : World) : Prop :=
 let K8 : Bool → World → Prop := fun (x6 : Bool) (w7 : World) => 
 ifB x6 (
 R (.returned (.tuple #[.int .i64 0, .bool false])) w7) (
 doCall Try.prog (.func (.func 70) #[] #[]) #[.slice t_p2 t_n3 t_c4] w7 (retS (fun v22 w23 => ∃ (x9 : Int), ∃ (x10 : Int), ∃ (x11 : Int), ∃ (x12 : Int), ∃ (x13 : Int), ∃ (x14 : Bool), ∃ (x15 : Bool), ∃ (xp16 : Option Addr), ∃ (xn17 : Nat), ∃ (xc18 : Nat), ∃ (xp19 : Option Addr), ∃ (xn20 : Nat), ∃ (xc21 : Nat), v22 = (.tuple #[.agg #[.int .i64 x9, .int .i64 x10, .int .i64 x11, .int .i64 x12, .int .u64 x13, .bool x14, .bool x15], .slice xp16 xn17 xc18, .slice xp19 xn20 xc21] : Value) ∧ (
 doAl (.cells #[.int .i64 0, .int .i64 0, .int .i64 0, .int .i64 0, .int .u64 0, .bool false, .bool false] 88) w23 (fun b24 w25 =>
 doSt ((blk b24).add 0) (.int .i64 x9) w25 (fun w26 =>
 doSt ((blk b24).add 1) (.int .i64 x10) w26 (fun w27 =>
 doSt ((blk b24).add 2) (.int .i64 x11) w27 (fun w28 =>
 doSt ((blk b24).add 3) (.int .i64 x12) w28 (fun w29 =>
 doSt ((blk b24).add 4) (.int .u64 x13) w29 (fun w30 =>
 doSt ((blk b24).add 5) (.bool x14) w30 (fun w31 =>
 doSt ((blk b24).add 6) (.bool x15) w31 (fun w32 =>
 ∃ (x33 : Int), World.cell? w32 ((blk b24).add 0) = some (.int .i64 x33) ∧ (
 doCall Try.prog (.func (.func 41) #[] #[]) #[.int .u8 o_1, .int .i64 key_5, .int .i64 x33] w32 (retS (fun v35 w36 => ∃ (x34 : Int), v35 = (.int .i64 x34 : Value) ∧ (
 ifB ((x34 : Int) == 0) (
 R (.returned (.tuple #[.int .i64 ((xn17 : Nat) : Int), .bool true])) w36) (
 ifB ((x34 : Int) == (-1)) (
 doCall Try.prog (.func (.func 18) #[] #[]) #[.int .u8 o_1, .slice xp16 xn17 xc18, .int .i64 key_5] w36 (retS (fun v39 w40 => ∃ (x37 : Int), ∃ (x38 : Bool), v39 = (.tuple #[.int .i64 x37, .bool x38] : Value) ∧ (
 R (.returned (.tuple #[.int .i64 x37, .bool x38])) w40)) (fun ch w => Kfn R ch [] w))) (
 doCall Try.prog (.func (.func 18) #[] #[]) #[.int .u8 o_1, .slice xp19 xn20 xc21, .int .i64 key_5] w36 (retS (fun v43 w44 => ∃ (x41 : Int), ∃ (x42 : Bool), v43 = (.tuple #[.int .i64 x41, .bool x42] : Value) ∧ (
 R (.returned (.tuple #[.int .i64 (IntKind.wrap .i64 ((IntKind.wrap .i64 (((xn17 : Nat) : Int) + 1)) + x41)), .bool x42])) w44)) (fun ch w => Kfn R ch [] w)))))) (fun ch w => Kfn R ch [] w))))))))))))) (fun ch w => Kfn R ch [] w)))
 ifB ((((t_n3 : Nat) : Int) : Int) == 0) (
 R (.returned (.tuple #[.int .i64 0, .bool false])) w) (
 doCall Try.prog (.func (.func 75) #[] #[]) #[.int .u8 o_1] w (retS (fun v46 w47 => ∃ (x45 : Bool), v46 = (.bool x45 : Value) ∧ (
 K8 (!x45) w47)) (fun ch w => Kfn R ch [] w)))
set_option maxRecDepth 100000 in
theorem sh18_ok (o_1 : Int) (t_p2 : Option Addr) (t_n3 : Nat) (t_c4 : Nat) (key_5 : Int) {R : Ending → World → Prop} {w : World} : sh18 o_1 t_p2 t_n3 t_c4 key_5 R w → Calls Try.prog 18 #[.int .u8 o_1, .slice t_p2 t_n3 t_c4, .int .i64 key_5] w R :=
  calls_of_eq (ann := fun _ => []) (fn := Try.f18) (c := bodyOf Try.f18) (args := #[.int .u8 o_1, .slice t_p2 t_n3 t_c4, .int .i64 key_5]) 400 follows_mixed Try.func18 (by kernel_rfl) (by kernel_rfl)
set_option maxRecDepth 100000 in
/-- joinery/rank.Many -/
def sh19 (t_1 : Option Addr) (l_p2 : Option Addr) (l_n3 : Nat) (_l_c4 : Nat) (R : Ending → World → Prop) (w : World) : Prop :=
 ∃ (I5 : List Value → World → Prop) (μ6 : List Value → World → Nat), I5 [.slice none 0 0, .int .i64 0] w ∧ (∀ (out_p9 : Option Addr), ∀ (out_n10 : Nat), ∀ (out_c11 : Nat), ∀ (x12 : Int), ∀ (_j7 : Nat → Value) (w8 : World), I5 [.slice out_p9 out_n10 out_c11, .int .i64 x12] w8 → (
 ifB (decide ((x12 : Int) < ((l_n3 : Nat) : Int))) (
 doIx l_p2 l_n3 1 (x12) (fun a13 =>
 ∃ (x14 : Int), World.cell? w8 a13 = some (.int .i64 x14) ∧ (
 doCall Try.prog (.func (.func 20) #[] #[]) #[.pointer t_1, .int .i64 x14] w8 (retS (fun v18 w19 => ∃ (x15 : Int), ∃ (x16 : Int), ∃ (x17 : Int), v18 = (.tuple #[.agg #[.int .i64 x15, .int .i64 x16], .int .i64 x17] : Value) ∧ (
 doAl (.cells #[.int .i64 0, .int .i64 0] 38) w19 (fun b20 w21 =>
 doSt ((blk b20).add 0) (.int .i64 x15) w21 (fun w22 =>
 doSt ((blk b20).add 1) (.int .i64 x16) w22 (fun w23 =>
 ifB ((x17 : Int) != 0) (
 R (.returned (.tuple #[.slice none 0 0, .int .i64 x17])) w23) (
 ∃ (x24 : Int), World.cell? w23 ((blk b20).add 0) = some (.int .i64 x24) ∧ (
 ∃ (x25 : Int), World.cell? w23 ((blk b20).add 1) = some (.int .i64 x25) ∧ (
 doAl (.cells #[.int .i64 x24, .int .i64 x25] 38) w23 (fun b26 w27 =>
 doGo Try.prog (.builtin .append #[33, 33] 33 #[false, false]) #[.slice out_p9 out_n10 out_c11, .slice (some (blk b26)) 1 1] w27 (retS (fun v31 w32 => ∃ (xp28 : Option Addr), ∃ (xn29 : Nat), ∃ (xc30 : Nat), v31 = (.slice xp28 xn29 xc30 : Value) ∧ (
 I5 [.slice xp28 xn29 xc30, .int .i64 (IntKind.wrap .i64 (x12 + 1))] w32 ∧ μ6 [.slice xp28 xn29 xc30, .int .i64 (IntKind.wrap .i64 (x12 + 1))] w32 < μ6 [.slice out_p9 out_n10 out_c11, .int .i64 x12] w8)) (fun ch w => Kfn R ch [] w))))))))))) (fun ch w => Kfn R ch [] w))))) (
 R (.returned (.tuple #[.slice out_p9 out_n10 out_c11, .int .i64 0])) w8)))
set_option maxRecDepth 100000 in
theorem sh19_ok (t_1 : Option Addr) (l_p2 : Option Addr) (l_n3 : Nat) (l_c4 : Nat) {R : Ending → World → Prop} {w : World} : sh19 t_1 l_p2 l_n3 l_c4 R w → Calls Try.prog 19 #[.pointer t_1, .slice l_p2 l_n3 l_c4] w R :=
  calls_of_eq (ann := fun i => if i = 0 then [(4, .slice none 0 0), (12, .int .i64 0)] else []) (fn := Try.f19) (c := bodyOf Try.f19) (args := #[.pointer t_1, .slice l_p2 l_n3 l_c4]) 400 follows_mixed Try.func19 (by kernel_rfl) (by kernel_rfl)
set_option maxRecDepth 100000 in
/-- joinery/rank.Select -/
def sh20 (t_1 : Option Addr) (n_2 : Int) (R : Ending → World → Prop) (w : World) : Prop :=
 doAl (.cells #[.int .i64 0, .int .i64 0] 38) w (fun b3 w4 =>
 let K7 : Bool → World → Prop := fun (x5 : Bool) (w6 : World) => 
 ifB x5 (
 doSt ((blk b3).add 0) (.int .i64 0) w6 (fun w8 =>
 doSt ((blk b3).add 1) (.int .i64 0) w8 (fun w9 =>
 ∃ (x10 : Int), World.cell? w9 ((blk b3).add 0) = some (.int .i64 x10) ∧ (
 ∃ (x11 : Int), World.cell? w9 ((blk b3).add 1) = some (.int .i64 x11) ∧ (
 R (.returned (.tuple #[.agg #[.int .i64 x10, .int .i64 x11], .int .i64 320])) w9))))) (
 ∃ (I12 : List Value → World → Prop) (μ13 : List Value → World → Nat), I12 [.pointer t_1, .int .i64 n_2] w6 ∧ (∀ (t_16 : Option Addr), ∀ (n_17 : Int), ∀ (_j14 : Nat → Value) (w15 : World), I12 [.pointer t_16, .int .i64 n_17] w15 → (
 doCall Try.prog (.func (.func 73) #[] #[]) #[.pointer t_16] w15 (retS (fun v19 w20 => ∃ (x18 : Option Addr), v19 = (.pointer x18 : Value) ∧ (
 doCall Try.prog (.func (.func 74) #[] #[]) #[.pointer x18] w20 (retS (fun v22 w23 => ∃ (x21 : Int), v22 = (.int .i64 x21 : Value) ∧ (
 ifB (decide ((n_17 : Int) < x21)) (
 doCall Try.prog (.func (.func 73) #[] #[]) #[.pointer t_16] w23 (retS (fun v25 w26 => ∃ (x24 : Option Addr), v25 = (.pointer x24 : Value) ∧ (
 I12 [.pointer x24, .int .i64 n_17] w26 ∧ μ13 [.pointer x24, .int .i64 n_17] w26 < μ13 [.pointer t_16, .int .i64 n_17] w15)) (fun ch w => Kfn R ch [] w))) (
 ifB ((n_17 : Int) == x21) (
 doCall Try.prog (.func (.func 76) #[] #[]) #[.pointer t_16] w23 (retS (fun v28 w29 => ∃ (x27 : Int), v28 = (.int .i64 x27 : Value) ∧ (
 doCall Try.prog (.func (.func 77) #[] #[]) #[.pointer t_16] w29 (retS (fun v31 w32 => ∃ (x30 : Int), v31 = (.int .i64 x30 : Value) ∧ (
 doSt ((blk b3).add 0) (.int .i64 x27) w32 (fun w33 =>
 doSt ((blk b3).add 1) (.int .i64 x30) w33 (fun w34 =>
 ∃ (x35 : Int), World.cell? w34 ((blk b3).add 0) = some (.int .i64 x35) ∧ (
 ∃ (x36 : Int), World.cell? w34 ((blk b3).add 1) = some (.int .i64 x36) ∧ (
 R (.returned (.tuple #[.agg #[.int .i64 x35, .int .i64 x36], .int .i64 0])) w34)))))) (fun ch w => Kfn R ch [] w)))) (fun ch w => Kfn R ch [] w))) (
 doCall Try.prog (.func (.func 78) #[] #[]) #[.pointer t_16] w23 (retS (fun v38 w39 => ∃ (x37 : Option Addr), v38 = (.pointer x37 : Value) ∧ (
 I12 [.pointer x37, .int .i64 (IntKind.wrap .i64 ((IntKind.wrap .i64 (n_17 - x21)) - 1))] w39 ∧ μ13 [.pointer x37, .int .i64 (IntKind.wrap .i64 ((IntKind.wrap .i64 (n_17 - x21)) - 1))] w39 < μ13 [.pointer t_16, .int .i64 n_17] w15)) (fun ch w => Kfn R ch [] w)))))) (fun ch w => Kfn R ch [] w)))) (fun ch w => Kfn R ch [] w)))))
 ifB (decide ((n_2 : Int) < 0)) (
 doSt ((blk b3).add 0) (.int .i64 0) w4 (fun w40 =>
 doSt ((blk b3).add 1) (.int .i64 0) w40 (fun w41 =>
 ∃ (x42 : Int), World.cell? w41 ((blk b3).add 0) = some (.int .i64 x42) ∧ (
 ∃ (x43 : Int), World.cell? w41 ((blk b3).add 1) = some (.int .i64 x43) ∧ (
 R (.returned (.tuple #[.agg #[.int .i64 x42, .int .i64 x43], .int .i64 320])) w41))))) (
 doCall Try.prog (.func (.func 74) #[] #[]) #[.pointer t_1] w4 (retS (fun v45 w46 => ∃ (x44 : Int), v45 = (.int .i64 x44 : Value) ∧ (
 K7 (decide ((n_2 : Int) ≥ x44)) w46)) (fun ch w => Kfn R ch [] w))))
set_option maxRecDepth 100000 in
theorem sh20_ok (t_1 : Option Addr) (n_2 : Int) {R : Ending → World → Prop} {w : World} : sh20 t_1 n_2 R w → Calls Try.prog 20 #[.pointer t_1, .int .i64 n_2] w R :=
  calls_of_eq (ann := fun i => if i = 0 then [(0, .pointer none), (1, .int .i64 0)] else []) (fn := Try.f20) (c := bodyOf Try.f20) (args := #[.pointer t_1, .int .i64 n_2]) 400 follows_mixed Try.func20 (by kernel_rfl) (by kernel_rfl)
set_option maxRecDepth 100000 in
/-- joinery/joineryref32.Select -/
def sh21 (t_p1 : Option Addr) (t_n2 : Nat) (t_c3 : Nat) (n_4 : Int) (R : Ending → World → Prop) (w : World) : Prop :=
 doAl (.cells #[.int .i64 0, .int .i64 0] 38) w (fun b5 w6 =>
 doCall Try.prog (.func (.func 79) #[] #[]) #[.slice t_p1 t_n2 t_c3] w6 (retS (fun v10 w11 => ∃ (xp7 : Option Addr), ∃ (xn8 : Nat), ∃ (xc9 : Nat), v10 = (.slice xp7 xn8 xc9 : Value) ∧ (
 let K14 : Bool → World → Prop := fun (x12 : Bool) (w13 : World) => 
 ifB x12 (
 doSt ((blk b5).add 0) (.int .i64 0) w13 (fun w15 =>
 doSt ((blk b5).add 1) (.int .i64 0) w15 (fun w16 =>
 ∃ (x17 : Int), World.cell? w16 ((blk b5).add 0) = some (.int .i64 x17) ∧ (
 ∃ (x18 : Int), World.cell? w16 ((blk b5).add 1) = some (.int .i64 x18) ∧ (
 R (.returned (.tuple #[.agg #[.int .i64 x17, .int .i64 x18], .int .i64 320])) w16))))) (
 doIx xp7 xn8 2 (n_4) (fun a19 =>
 ∃ (x20 : Int), World.cell? w13 (a19.add 0) = some (.int .i64 x20) ∧ (
 ∃ (x21 : Int), World.cell? w13 (a19.add 1) = some (.int .i64 x21) ∧ (
 doSt ((blk b5).add 0) (.int .i64 x20) w13 (fun w22 =>
 doSt ((blk b5).add 1) (.int .i64 x21) w22 (fun w23 =>
 ∃ (x24 : Int), World.cell? w23 ((blk b5).add 0) = some (.int .i64 x24) ∧ (
 ∃ (x25 : Int), World.cell? w23 ((blk b5).add 1) = some (.int .i64 x25) ∧ (
 R (.returned (.tuple #[.agg #[.int .i64 x24, .int .i64 x25], .int .i64 0])) w23))))))))
 ifB (decide ((n_4 : Int) < 0)) (
 doSt ((blk b5).add 0) (.int .i64 0) w11 (fun w26 =>
 doSt ((blk b5).add 1) (.int .i64 0) w26 (fun w27 =>
 ∃ (x28 : Int), World.cell? w27 ((blk b5).add 0) = some (.int .i64 x28) ∧ (
 ∃ (x29 : Int), World.cell? w27 ((blk b5).add 1) = some (.int .i64 x29) ∧ (
 R (.returned (.tuple #[.agg #[.int .i64 x28, .int .i64 x29], .int .i64 320])) w27))))) (
 K14 (decide ((n_4 : Int) ≥ ((xn8 : Nat) : Int))) w11))) (fun ch w => Kfn R ch [] w)))
set_option maxRecDepth 100000 in
theorem sh21_ok (t_p1 : Option Addr) (t_n2 : Nat) (t_c3 : Nat) (n_4 : Int) {R : Ending → World → Prop} {w : World} : sh21 t_p1 t_n2 t_c3 n_4 R w → Calls Try.prog 21 #[.slice t_p1 t_n2 t_c3, .int .i64 n_4] w R :=
  calls_of_eq (ann := fun _ => []) (fn := Try.f21) (c := bodyOf Try.f21) (args := #[.slice t_p1 t_n2 t_c3, .int .i64 n_4]) 400 follows_mixed Try.func21 (by kernel_rfl) (by kernel_rfl)
set_option maxRecDepth 100000 in
/-- joinery/joineryref09.SamePairs -/
def sh22 (a_p1 : Option Addr) (a_n2 : Nat) (_a_c3 : Nat) (b_p4 : Option Addr) (b_n5 : Nat) (_b_c6 : Nat) (R : Ending → World → Prop) (w : World) : Prop :=
 ifB ((((a_n2 : Nat) : Int) : Int) != ((b_n5 : Nat) : Int)) (
 R (.returned (.bool false)) w) (
 ∃ (I7 : List Value → World → Prop) (μ8 : List Value → World → Nat), I7 [.int .i64 0] w ∧ (∀ (i_11 : Int), ∀ (_j9 : Nat → Value) (w10 : World), I7 [.int .i64 i_11] w10 → (
 ifB (decide ((i_11 : Int) < ((a_n2 : Nat) : Int))) (
 doDr w10 (fun w13 =>
 ∃ (C12 : World → Prop), C12 w13 ∧ (
 doIx a_p1 a_n2 2 (i_11) (fun a14 =>
 ∃ (x15 : Int), (∀ w, C12 w → World.cell? w (a14.add 0) = some (.int .i64 x15)) ∧ (
 ∃ (x16 : Int), (∀ w, C12 w → World.cell? w (a14.add 1) = some (.int .i64 x16)) ∧ (
 doIx b_p4 b_n5 2 (i_11) (fun a17 =>
 ∃ (x18 : Int), (∀ w, C12 w → World.cell? w (a17.add 0) = some (.int .i64 x18)) ∧ (
 ∃ (x19 : Int), (∀ w, C12 w → World.cell? w (a17.add 1) = some (.int .i64 x19)) ∧ (
 ifB (!(((x15 : Int) == x18) && (((x16 : Int) == x19) && true))) (
 R (.returned (.bool false)) w13) (
 I7 [.int .i64 (IntKind.wrap .i64 (i_11 + 1))] w13 ∧ μ8 [.int .i64 (IntKind.wrap .i64 (i_11 + 1))] w13 < μ8 [.int .i64 i_11] w10)))))))))) (
 R (.returned (.bool true)) w10))))
set_option maxRecDepth 100000 in
theorem sh22_ok (a_p1 : Option Addr) (a_n2 : Nat) (a_c3 : Nat) (b_p4 : Option Addr) (b_n5 : Nat) (b_c6 : Nat) {R : Ending → World → Prop} {w : World} : sh22 a_p1 a_n2 a_c3 b_p4 b_n5 b_c6 R w → Calls Try.prog 22 #[.slice a_p1 a_n2 a_c3, .slice b_p4 b_n5 b_c6] w R :=
  calls_of_eq (ann := fun i => if i = 0 then [(5, .int .i64 0)] else []) (fn := Try.f22) (c := bodyOf Try.f22) (args := #[.slice a_p1 a_n2 a_c3, .slice b_p4 b_n5 b_c6]) 400 follows_mixed Try.func22 (by kernel_rfl) (by kernel_rfl)
set_option maxRecDepth 100000 in
/-- joinery/joineryref05.Sort -/
def sh23 (o_1 : Int) (p_2 : Int) (l_p3 : Option Addr) (l_n4 : Nat) (_l_c5 : Nat) (R : Ending → World → Prop) (w : World) : Prop :=
 let K8 : Bool → World → Prop := fun (x6 : Bool) (w7 : World) => 
 ifB x6 (
 R (.returned (.tuple #[.slice none 0 0, .int .i64 2])) w7) (
 ∃ (I9 : List Value → World → Prop) (μ10 : List Value → World → Nat), I9 [.slice none 0 0, .int .i64 0] w7 ∧ (∀ (out_p13 : Option Addr), ∀ (out_n14 : Nat), ∀ (out_c15 : Nat), ∀ (i_16 : Int), ∀ (_j11 : Nat → Value) (w12 : World), I9 [.slice out_p13 out_n14 out_c15, .int .i64 i_16] w12 → (
 ifB (decide ((i_16 : Int) < ((l_n4 : Nat) : Int))) (
 doIx l_p3 l_n4 2 (i_16) (fun a17 =>
 ∃ (x18 : Int), World.cell? w12 (a17.add 0) = some (.int .i64 x18) ∧ (
 ∃ (x19 : Int), World.cell? w12 (a17.add 1) = some (.int .i64 x19) ∧ (
 doCall Try.prog (.func (.func 45) #[] #[]) #[.int .u8 o_1, .int .u8 p_2, .slice out_p13 out_n14 out_c15, .agg #[.int .i64 x18, .int .i64 x19]] w12 (retS (fun v24 w25 => ∃ (xp20 : Option Addr), ∃ (xn21 : Nat), ∃ (xc22 : Nat), ∃ (x23 : Int), v24 = (.tuple #[.slice xp20 xn21 xc22, .int .i64 x23] : Value) ∧ (
 I9 [.slice xp20 xn21 xc22, .int .i64 (IntKind.wrap .i64 (i_16 + 1))] w25 ∧ μ10 [.slice xp20 xn21 xc22, .int .i64 (IntKind.wrap .i64 (i_16 + 1))] w25 < μ10 [.slice out_p13 out_n14 out_c15, .int .i64 i_16] w12)) (fun ch w => Kfn R ch [] w)))))) (
 R (.returned (.tuple #[.slice out_p13 out_n14 out_c15, .int .i64 0])) w12))))
 doCall Try.prog (.func (.func 75) #[] #[]) #[.int .u8 o_1] w (retS (fun v27 w28 => ∃ (x26 : Bool), v27 = (.bool x26 : Value) ∧ (
 ifB (!x26) (
 R (.returned (.tuple #[.slice none 0 0, .int .i64 2])) w28) (
 doCall Try.prog (.func (.func 80) #[] #[]) #[.int .u8 p_2] w28 (retS (fun v30 w31 => ∃ (x29 : Bool), v30 = (.bool x29 : Value) ∧ (
 K8 (!x29) w31)) (fun ch w => Kfn R ch [] w))))) (fun ch w => Kfn R ch [] w))
set_option maxRecDepth 100000 in
theorem sh23_ok (o_1 : Int) (p_2 : Int) (l_p3 : Option Addr) (l_n4 : Nat) (l_c5 : Nat) {R : Ending → World → Prop} {w : World} : sh23 o_1 p_2 l_p3 l_n4 l_c5 R w → Calls Try.prog 23 #[.int .u8 o_1, .int .u8 p_2, .slice l_p3 l_n4 l_c5] w R :=
  calls_of_eq (ann := fun i => if i = 0 then [(8, .slice none 0 0), (9, .int .i64 0)] else []) (fn := Try.f23) (c := bodyOf Try.f23) (args := #[.int .u8 o_1, .int .u8 p_2, .slice l_p3 l_n4 l_c5]) 400 follows_mixed Try.func23 (by kernel_rfl) (by kernel_rfl)
set_option maxRecDepth 100000 in
/-- joinery/joineryref25.Shape -/
def sh24 (l_p1 : Option Addr) (l_n2 : Nat) (l_c3 : Nat) (picks_p4 : Option Addr) (picks_n5 : Nat) (picks_c6 : Nat) (R : Ending → World → Prop) (w : World) : Prop :=
 ifB ((((l_n2 : Nat) : Int) : Int) == 0) (
 R (.returned (.slice none 0 0)) w) (
 2 ≠ (0 : Int) ∧ (
 let K12 : (Option Addr) → Nat → Nat → Int → World → Prop := fun (picks_p7 : Option Addr) (picks_n8 : Nat) (picks_c9 : Nat) (k_10 : Int) (w11 : World) => 
 doSl l_p1 l_c3 2 (0) (k_10) (fun p13 n14 c15 =>
 doCall Try.prog (.func (.func 24) #[] #[]) #[.slice p13 n14 c15, .slice picks_p7 picks_n8 picks_c9] w11 (retS (fun v19 w20 => ∃ (xp16 : Option Addr), ∃ (xn17 : Nat), ∃ (xc18 : Nat), v19 = (.slice xp16 xn17 xc18 : Value) ∧ (
 let K25 : (Option Addr) → Nat → Nat → World → Prop := fun (picks_p21 : Option Addr) (picks_n22 : Nat) (picks_c23 : Nat) (w24 : World) => 
 doDr w24 (fun w27 =>
 ∃ (C26 : World → Prop), C26 w27 ∧ (
 doIx l_p1 l_n2 2 (k_10) (fun a28 =>
 ∃ (x29 : Int), (∀ w, C26 w → World.cell? w (a28.add 0) = some (.int .i64 x29)) ∧ (
 doIx l_p1 l_n2 2 (k_10) (fun a30 =>
 ∃ (x31 : Int), (∀ w, C26 w → World.cell? w (a30.add 1) = some (.int .i64 x31)) ∧ (
 doSl l_p1 l_c3 2 (IntKind.wrap .i64 (k_10 + 1)) (((l_n2 : Nat) : Int)) (fun p32 n33 c34 =>
 doCall Try.prog (.func (.func 24) #[] #[]) #[.slice p32 n33 c34, .slice picks_p21 picks_n22 picks_c23] w27 (retS (fun v38 w39 => ∃ (xp35 : Option Addr), ∃ (xn36 : Nat), ∃ (xc37 : Nat), v38 = (.slice xp35 xn36 xc37 : Value) ∧ (
 C26 w39 ∧ (
 doCall Try.prog (.func (.func 81) #[] #[]) #[.slice xp16 xn17 xc18, .int .i64 x29, .int .i64 x31, .int .u64 0, .slice xp35 xn36 xc37] w39 (retS (fun v43 w44 => ∃ (xp40 : Option Addr), ∃ (xn41 : Nat), ∃ (xc42 : Nat), v43 = (.slice xp40 xn41 xc42 : Value) ∧ (
 R (.returned (.slice xp40 xn41 xc42)) w44)) (fun ch w => Kfn R ch [] w))))) (fun ch w => Kfn R ch [] w)))))))))
 ifB (decide ((((picks_n8 : Nat) : Int) : Int) > k_10)) (
 doSl picks_p7 picks_c9 1 (k_10) (((picks_n8 : Nat) : Int)) (fun p45 n46 c47 =>
 K25 p45 n46 c47 w20)) (
 K25 picks_p7 picks_n8 picks_c9 w20))) (fun ch w => Kfn R ch [] w)))
 ifB (decide ((((picks_n5 : Nat) : Int) : Int) > 0)) (
 doIx picks_p4 picks_n5 1 (0) (fun a48 =>
 ∃ (x49 : Int), World.cell? w a48 = some (.int .u8 x49) ∧ (
 ((l_n2 : Nat) : Int) ≠ (0 : Int) ∧ (
 doSl picks_p4 picks_c6 1 (1) (((picks_n5 : Nat) : Int)) (fun p50 n51 c52 =>
 K12 p50 n51 c52 (Int.tmod (IntKind.wrap .i64 x49) ((l_n2 : Nat) : Int)) w))))) (
 K12 picks_p4 picks_n5 picks_c6 (IntKind.wrap .i64 (Int.tdiv ((l_n2 : Nat) : Int) 2)) w)))
set_option maxRecDepth 100000 in
theorem sh24_ok (l_p1 : Option Addr) (l_n2 : Nat) (l_c3 : Nat) (picks_p4 : Option Addr) (picks_n5 : Nat) (picks_c6 : Nat) {R : Ending → World → Prop} {w : World} : sh24 l_p1 l_n2 l_c3 picks_p4 picks_n5 picks_c6 R w → Calls Try.prog 24 #[.slice l_p1 l_n2 l_c3, .slice picks_p4 picks_n5 picks_c6] w R :=
  calls_of_eq (ann := fun _ => []) (fn := Try.f24) (c := bodyOf Try.f24) (args := #[.slice l_p1 l_n2 l_c3, .slice picks_p4 picks_n5 picks_c6]) 400 follows_mixed Try.func24 (by kernel_rfl) (by kernel_rfl)
set_option maxRecDepth 100000 in
/-- joinery/row.Find -/
def sh25 (o_1 : Int) (l_p2 : Option Addr) (l_n3 : Nat) (l_c4 : Nat) (key_5 : Int) (R : Ending → World → Prop) (w : World) : Prop :=
 doCall Try.prog (.func (.func 40) #[] #[]) #[.int .u8 o_1, .slice l_p2 l_n3 l_c4] w (retS (fun v7 w8 => ∃ (x6 : Bool), v7 = (.bool x6 : Value) ∧ (
 ifB (!x6) (
 R (.returned (.tuple #[.int .i64 0, .bool false])) w8) (
 doCall Try.prog (.func (.func 82) #[] #[]) #[.int .u8 o_1, .slice l_p2 l_n3 l_c4, .int .i64 key_5] w8 (retS (fun v10 w11 => ∃ (x9 : Int), v10 = (.int .i64 x9 : Value) ∧ (
 let K14 : Bool → World → Prop := fun (is_12 : Bool) (w13 : World) => 
 R (.returned (.tuple #[.int .i64 x9, .bool is_12])) w13
 doDr w11 (fun w16 =>
 ∃ (C15 : World → Prop), C15 w16 ∧ (
 ifB (decide ((x9 : Int) < ((l_n3 : Nat) : Int))) (
 doIx l_p2 l_n3 2 (x9) (fun a17 =>
 ∃ (x18 : Int), (∀ w, C15 w → World.cell? w (a17.add 0) = some (.int .i64 x18)) ∧ (
 K14 ((x18 : Int) == key_5) w16))) (
 R (.returned (.tuple #[.int .i64 x9, .bool false])) w16))))) (fun ch w => Kfn R ch [] w))))) (fun ch w => Kfn R ch [] w))
set_option maxRecDepth 100000 in
theorem sh25_ok (o_1 : Int) (l_p2 : Option Addr) (l_n3 : Nat) (l_c4 : Nat) (key_5 : Int) {R : Ending → World → Prop} {w : World} : sh25 o_1 l_p2 l_n3 l_c4 key_5 R w → Calls Try.prog 25 #[.int .u8 o_1, .slice l_p2 l_n3 l_c4, .int .i64 key_5] w R :=
  calls_of_eq (ann := fun _ => []) (fn := Try.f25) (c := bodyOf Try.f25) (args := #[.int .u8 o_1, .slice l_p2 l_n3 l_c4, .int .i64 key_5]) 400 follows_mixed Try.func25 (by kernel_rfl) (by kernel_rfl)
set_option maxRecDepth 100000 in
/-- joinery/joinerylaw25.alive -/
def sh26  (R : Ending → World → Prop) (w : World) : Prop :=
 doCall Try.prog (.func (.func 69) #[] #[]) #[.pointer none, .int .i64 1, .int .i64 10, .int .u64 0, .pointer none] w (retS (fun v2 w3 => ∃ (x1 : Option Addr), v2 = (.pointer x1 : Value) ∧ (
 doCall Try.prog (.func (.func 69) #[] #[]) #[.pointer x1, .int .i64 3, .int .i64 30, .int .u64 0, .pointer none] w3 (retS (fun v5 w6 => ∃ (x4 : Option Addr), v5 = (.pointer x4 : Value) ∧ (
 doCall Try.prog (.func (.func 27) #[] #[]) #[.int .u8 1, .pointer x4, .int .i64 1] w6 (retS (fun v9 w10 => ∃ (x7 : Int), ∃ (x8 : Bool), v9 = (.tuple #[.int .i64 x7, .bool x8] : Value) ∧ (
 doCall Try.prog (.func (.func 29) #[] #[]) #[.int .u8 1, .pointer x4, .int .i64 2] w10 (retS (fun v14 w15 => ∃ (x11 : Int), ∃ (x12 : Int), ∃ (x13 : Bool), v14 = (.tuple #[.agg #[.int .i64 x11, .int .i64 x12], .bool x13] : Value) ∧ (
 doAl (.cells #[.int .i64 0, .int .i64 0] 38) w15 (fun b16 w17 =>
 doSt ((blk b16).add 0) (.int .i64 x11) w17 (fun w18 =>
 doSt ((blk b16).add 1) (.int .i64 x12) w18 (fun w19 =>
 doCall Try.prog (.func (.func 31) #[] #[]) #[.int .u8 1, .pointer x4, .int .i64 2] w19 (retS (fun v23 w24 => ∃ (x20 : Int), ∃ (x21 : Int), ∃ (x22 : Bool), v23 = (.tuple #[.agg #[.int .i64 x20, .int .i64 x21], .bool x22] : Value) ∧ (
 doAl (.cells #[.int .i64 0, .int .i64 0] 38) w24 (fun b25 w26 =>
 doSt ((blk b25).add 0) (.int .i64 x20) w26 (fun w27 =>
 doSt ((blk b25).add 1) (.int .i64 x21) w27 (fun w28 =>
 doCall Try.prog (.func (.func 34) #[] #[]) #[.pointer x4] w28 (retS (fun v32 w33 => ∃ (x29 : Int), ∃ (x30 : Int), ∃ (x31 : Bool), v32 = (.tuple #[.agg #[.int .i64 x29, .int .i64 x30], .bool x31] : Value) ∧ (
 doAl (.cells #[.int .i64 0, .int .i64 0] 38) w33 (fun b34 w35 =>
 doSt ((blk b34).add 0) (.int .i64 x29) w35 (fun w36 =>
 doSt ((blk b34).add 1) (.int .i64 x30) w36 (fun w37 =>
 doCall Try.prog (.func (.func 33) #[] #[]) #[.pointer none] w37 (retS (fun v41 w42 => ∃ (x38 : Int), ∃ (x39 : Int), ∃ (x40 : Bool), v41 = (.tuple #[.agg #[.int .i64 x38, .int .i64 x39], .bool x40] : Value) ∧ (
 doAl (.cells #[.int .i64 0, .int .i64 0] 38) w42 (fun b43 w44 =>
 doSt ((blk b43).add 0) (.int .i64 x38) w44 (fun w45 =>
 doSt ((blk b43).add 1) (.int .i64 x39) w45 (fun w46 =>
 let K49 : Bool → World → Prop := fun (x47 : Bool) (w48 : World) => 
 R (.returned (.bool x47)) w48
 doCall Try.prog (.func (.func 35) #[] #[]) #[.int .u8 1, .pointer x4, .int .i64 2] w46 (retS (fun v53 w54 => ∃ (xp50 : Option Addr), ∃ (xn51 : Nat), ∃ (xc52 : Nat), v53 = (.slice xp50 xn51 xc52 : Value) ∧ (
 doAl (.cells #[.int .i64 3, .int .i64 1] 2) w54 (fun b55 w56 =>
 doCall Try.prog (.func (.func 83) #[] #[]) #[.slice xp50 xn51 xc52, .slice (some (blk b55)) 2 2] w56 (retS (fun v58 w59 => ∃ (x57 : Bool), v58 = (.bool x57 : Value) ∧ (
 ifB x57 (
 ifB ((x7 : Int) == 10) (
 ifB x8 (
 ∃ (x60 : Int), World.cell? w59 ((blk b16).add 0) = some (.int .i64 x60) ∧ (
 ∃ (x61 : Int), World.cell? w59 ((blk b16).add 1) = some (.int .i64 x61) ∧ (
 ifB (((x60 : Int) == 1) && (((x61 : Int) == 10) && true)) (
 ifB x13 (
 ∃ (x62 : Int), World.cell? w59 ((blk b25).add 0) = some (.int .i64 x62) ∧ (
 ∃ (x63 : Int), World.cell? w59 ((blk b25).add 1) = some (.int .i64 x63) ∧ (
 ifB (((x62 : Int) == 3) && (((x63 : Int) == 30) && true)) (
 ifB x22 (
 ∃ (x64 : Int), World.cell? w59 ((blk b34).add 0) = some (.int .i64 x64) ∧ (
 ∃ (x65 : Int), World.cell? w59 ((blk b34).add 1) = some (.int .i64 x65) ∧ (
 ∃ (x66 : Int), World.cell? w59 ((blk b25).add 0) = some (.int .i64 x66) ∧ (
 ∃ (x67 : Int), World.cell? w59 ((blk b25).add 1) = some (.int .i64 x67) ∧ (
 ifB (((x64 : Int) == x66) && (((x65 : Int) == x67) && true)) (
 ifB x31 (
 ifB (!x40) (
 doCall Try.prog (.func (.func 35) #[] #[]) #[.int .u8 0, .pointer x4, .int .i64 2] w59 (retS (fun v71 w72 => ∃ (xp68 : Option Addr), ∃ (xn69 : Nat), ∃ (xc70 : Nat), v71 = (.slice xp68 xn69 xc70 : Value) ∧ (
 K49 ((((xn69 : Nat) : Int) : Int) == 0) w72)) (fun ch w => Kfn R ch [] w))) (
 R (.returned (.bool false)) w59)) (
 R (.returned (.bool false)) w59)) (
 R (.returned (.bool false)) w59)))))) (
 R (.returned (.bool false)) w59)) (
 R (.returned (.bool false)) w59)))) (
 R (.returned (.bool false)) w59)) (
 R (.returned (.bool false)) w59)))) (
 R (.returned (.bool false)) w59)) (
 R (.returned (.bool false)) w59)) (
 R (.returned (.bool false)) w59))) (fun ch w => Kfn R ch [] w))))) (fun ch w => Kfn R ch [] w))))))) (fun ch w => Kfn R ch [] w))))))) (fun ch w => Kfn R ch [] w))))))) (fun ch w => Kfn R ch [] w))))))) (fun ch w => Kfn R ch [] w)))) (fun ch w => Kfn R ch [] w)))) (fun ch w => Kfn R ch [] w)))) (fun ch w => Kfn R ch [] w))
set_option maxRecDepth 100000 in
theorem sh26_ok  {R : Ending → World → Prop} {w : World} : sh26  R w → Calls Try.prog 26 #[] w R :=
  calls_of_eq (ann := fun _ => []) (fn := Try.f26) (c := bodyOf Try.f26) (args := #[]) 400 follows_mixed Try.func26 (by kernel_rfl) (by kernel_rfl)
set_option maxRecDepth 100000 in
/-- joinery/find.Get -/
def sh27 (o_1 : Int) (t_2 : Option Addr) (key_3 : Int) (R : Ending → World → Prop) (w : World) : Prop :=
 doCall Try.prog (.func (.func 84) #[] #[]) #[] w (retS (fun v10 w11 => ∃ (xf4 : Fn), ∃ (xx5 : Array Value), ∃ (xc6 : Array Value), ∃ (xf7 : Fn), ∃ (xx8 : Array Value), ∃ (xc9 : Array Value), v10 = (.tuple #[.func xf4 xx5 xc6, .func xf7 xx8 xc9] : Value) ∧ (
 doAl (.cells #[.nilFunc] 105) w11 (fun b12 w13 =>
 doSt ((blk b12).add 0) (.func xf4 xx5 xc6) w13 (fun w14 =>
 doCall Try.prog (.func (.func 85) #[] #[]) #[.int .u8 o_1, .pointer t_2, .int .i64 key_3] w14 (retS (fun v18 w19 => ∃ (xf15 : Fn), ∃ (xx16 : Array Value), ∃ (xc17 : Array Value), v18 = (.func xf15 xx16 xc17 : Value) ∧ (
 rfW Try.prog (.func xf15 xx16 xc17) (mkLoop #[.int .u8 o_1, .pointer t_2, .int .i64 key_3, undef, undef, undef, .int .i64 0, .bool false, .pointer (some (blk b12)), .func xf7 xx8 xc9, undef, undef, undef, undef, .tuple #[.func xf4 xx5 xc6, .func xf7 xx8 xc9], .tuple #[.func xf4 xx5 xc6, .func xf7 xx8 xc9], .func xf4 xx5 xc6, .func xf7 xx8 xc9, .int .u8 o_1, .pointer t_2, .int .i64 key_3, .func xf15 xx16 xc17, undef, undef, undef, undef, undef, undef, undef, undef, undef, undef, undef, undef, undef, undef, undef, undef] (rfOf Try.f27 0).1 (rfOf Try.f27 0).2.1 (rfOf Try.f27 0).2.2)
 (fun w20 =>
 doCall Try.prog (.func xf7 xx8 xc9) #[] w20 (retS (fun v22 w23 => ∃ (x21 : Option Addr), v22 = (.pointer x21 : Value) ∧ (
 doCall Try.prog (.func (.func 86) #[] #[]) #[.pointer x21] w23 (retS (fun v27 w28 => ∃ (x24 : Int), ∃ (x25 : Int), ∃ (x26 : Bool), v27 = (.tuple #[.agg #[.int .i64 x24, .int .i64 x25], .bool x26] : Value) ∧ (
 doAl (.cells #[.int .i64 0, .int .i64 0] 38) w28 (fun b29 w30 =>
 doSt ((blk b29).add 0) (.int .i64 x24) w30 (fun w31 =>
 doSt ((blk b29).add 1) (.int .i64 x25) w31 (fun w32 =>
 ∃ (x33 : Int), World.cell? w32 ((blk b29).add 1) = some (.int .i64 x33) ∧ (
 w32.heap[w19.heap.size]? = some (.deferred (some [])) ∧ (
 let w34 : World := w32.putObj w19.heap.size (.deferred none)
 R (.returned (.tuple #[.int .i64 x33, .bool x26])) w34))))))) (fun ch w => Kfn R ch [{ target := .collected w19.heap.size, args := #[] }] w)))) (fun ch w => Kfn R ch [{ target := .collected w19.heap.size, args := #[] }] w)))
 (fun w35 =>
 w35.heap[w19.heap.size]? = some (.deferred (some [])) ∧ (
 let w36 : World := w35.putObj w19.heap.size (.deferred none)
 R (.returned (.tuple #[.int .i64 0, .bool false])) w36))
 [] w19)) (fun ch w => Kfn R ch [] w)))))) (fun ch w => Kfn R ch [] w))
set_option maxRecDepth 100000 in
theorem sh27_ok (o_1 : Int) (t_2 : Option Addr) (key_3 : Int) {R : Ending → World → Prop} {w : World} : sh27 o_1 t_2 key_3 R w → Calls Try.prog 27 #[.int .u8 o_1, .pointer t_2, .int .i64 key_3] w R :=
  calls_of_eq (ann := fun _ => []) (fn := Try.f27) (c := bodyOf Try.f27) (args := #[.int .u8 o_1, .pointer t_2, .int .i64 key_3]) 400 follows_mixed Try.func27 (by kernel_rfl) (by kernel_rfl)
set_option maxRecDepth 100000 in
/-- joinery/find.Get, a round of loop 0 -/
def sh27_0 (keep_1 : Addr) (y39 : Option Addr) (y40 : Int) (l : Nat) (R : Ending → World → Prop) (w : World) : Prop :=
 ∃ (r41 : Loop), w.heap[l]? = some (.loop r41) ∧ r41.state = .ready ∧ (
 let w42 : World := w.putObj l (.loop { r41 with state := .busy })
 ∃ (xf43 : Fn), ∃ (xx44 : Array Value), ∃ (xc45 : Array Value), World.cell? w42 keep_1 = some (.func xf43 xx44 xc45) ∧ (
 doCall Try.prog (.func xf43 xx44 xc45) #[.pointer y39, .bool ((y40 : Int) == 0)] w42 (retS (fun v46 w47 => v46 = (.tuple #[] : Value) ∧ (
 ∃ (r48 : Loop), w47.heap[l]? = some (.loop r48) ∧ R (.returned (.bool true)) (w47.putObj l (.loop { r48 with state := .ready, pending := none })))) (fun _ _ => False))))
set_option maxRecDepth 100000 in
theorem sh27_0_ok {dd2 : Value} {dd3 : Value} {dd4 : Value} {dd5 : Value} {dd6 : Value} {dd7 : Value} {dd8 : Value} {dd9 : Value} {dd10 : Value} {dd11 : Value} {dd12 : Value} {dd13 : Value} {dd14 : Value} {dd15 : Value} {dd16 : Value} {dd17 : Value} {dd18 : Value} {dd19 : Value} {dd20 : Value} {dd21 : Value} {dd22 : Value} {dd23 : Value} {dd24 : Value} {dd25 : Value} {dd26 : Value} {dd27 : Value} {dd28 : Value} {dd29 : Value} {dd30 : Value} {dd31 : Value} {dd32 : Value} {dd33 : Value} {dd34 : Value} {dd35 : Value} {dd36 : Value} {dd37 : Value} {dd38 : Value} {keep_1 : Addr} {y39 : Option Addr} {y40 : Int} {l fn D : Nat} {R : Ending → World → Prop} {w : World} (hl : w.heap[l]? = some (.loop (mkLoop #[dd2, dd3, dd4, dd5, dd6, dd7, dd8, dd9, .pointer (some keep_1), dd10, dd11, dd12, dd13, dd14, dd15, dd16, dd17, dd18, dd19, dd20, dd21, dd22, dd23, dd24, dd25, dd26, dd27, dd28, dd29, dd30, dd31, dd32, dd33, dd34, dd35, dd36, dd37, dd38] (rfOf Try.f27 0).1 (rfOf Try.f27 0).2.1 (rfOf Try.f27 0).2.2 fn D))) : sh27_0 keep_1 y39 y40 l R w → doCall Try.prog (.func (.yield l) #[] #[]) #[.pointer y39, .int .i64 y40] w R :=
  fun h => ⟨round_of_eq (ann := fun _ => []) 400 follows_mixed hl (by kernel_rfl) (by kernel_rfl) h⟩
set_option maxRecDepth 100000 in
/-- joinery/row.Get -/
def sh28 (o_1 : Int) (l_p2 : Option Addr) (l_n3 : Nat) (l_c4 : Nat) (key_5 : Int) (R : Ending → World → Prop) (w : World) : Prop :=
 doCall Try.prog (.func (.func 25) #[] #[]) #[.int .u8 o_1, .slice l_p2 l_n3 l_c4, .int .i64 key_5] w (retS (fun v8 w9 => ∃ (x6 : Int), ∃ (x7 : Bool), v8 = (.tuple #[.int .i64 x6, .bool x7] : Value) ∧ (
 ifB (!x7) (
 R (.returned (.tuple #[.int .i64 0, .bool false])) w9) (
 doIx l_p2 l_n3 2 (x6) (fun a10 =>
 ∃ (x11 : Int), World.cell? w9 (a10.add 1) = some (.int .i64 x11) ∧ (
 R (.returned (.tuple #[.int .i64 x11, .bool true])) w9))))) (fun ch w => Kfn R ch [] w))
set_option maxRecDepth 100000 in
theorem sh28_ok (o_1 : Int) (l_p2 : Option Addr) (l_n3 : Nat) (l_c4 : Nat) (key_5 : Int) {R : Ending → World → Prop} {w : World} : sh28 o_1 l_p2 l_n3 l_c4 key_5 R w → Calls Try.prog 28 #[.int .u8 o_1, .slice l_p2 l_n3 l_c4, .int .i64 key_5] w R :=
  calls_of_eq (ann := fun _ => []) (fn := Try.f28) (c := bodyOf Try.f28) (args := #[.int .u8 o_1, .slice l_p2 l_n3 l_c4, .int .i64 key_5]) 400 follows_mixed Try.func28 (by kernel_rfl) (by kernel_rfl)
end Go.Proofs.Ytinkkhcffoikmaa
