/-
  Printed by a program (gen.py): what the functions of the program do, as formulas; each with the proof that its call is what the formula says.
-/
import Derived.Test.YtinkkhcffoikmaaCd
import Derived.Test.YtinkkhcffoikmaaProg
import Derived.Test.YtinkkhcffoikmaaS1
namespace Go.Proofs.Ytinkkhcffoikmaa
open Go Go.Sh
set_option maxRecDepth 100000 in
/-- joinery/order.down -/
def sh141 (c_1 : Int) (R : Ending → World → Prop) (w : World) : Prop :=
 R (.returned (.int .i64 (IntKind.wrap .i64 (bXor .u64 c_1 9223372036854775808)))) w
set_option maxRecDepth 100000 in
theorem sh141_ok (c_1 : Int) {R : Ending → World → Prop} {w : World} : sh141 c_1 R w → Calls Try.prog 141 #[.int .u64 c_1] w R :=
  calls_of_eq (ann := fun _ => []) (fn := Try.f141) (c := bodyOf Try.f141) (args := #[.int .u64 c_1]) 400 follows_mixed Try.func141 (by kernel_rfl) (by kernel_rfl)
set_option maxRecDepth 100000 in
/-- joinery/order.kinds$1 -/
def sh142 (k_1 : Int) (R : Ending → World → Prop) (w : World) : Prop :=
 doCall Try.prog (.func (.func 140) #[] #[]) #[.int .i64 k_1] w (retS (fun v3 w4 => ∃ (x2 : Int), v3 = (.int .u64 x2 : Value) ∧ (
 R (.returned (.int .u64 (bXor .u64 (IntKind.max .u64) x2))) w4)) (fun ch w => Kfn R ch [] w))
set_option maxRecDepth 100000 in
theorem sh142_ok (k_1 : Int) {R : Ending → World → Prop} {w : World} : sh142 k_1 R w → Calls Try.prog 142 #[.int .i64 k_1] w R :=
  calls_of_eq (ann := fun _ => []) (fn := Try.f142) (c := bodyOf Try.f142) (args := #[.int .i64 k_1]) 400 follows_mixed Try.func142 (by kernel_rfl) (by kernel_rfl)
set_option maxRecDepth 100000 in
/-- joinery/order.kinds$2 -/
def sh143 (c_1 : Int) (R : Ending → World → Prop) (w : World) : Prop :=
 doCall Try.prog (.func (.func 141) #[] #[]) #[.int .u64 (bXor .u64 (IntKind.max .u64) c_1)] w (retS (fun v3 w4 => ∃ (x2 : Int), v3 = (.int .i64 x2 : Value) ∧ (
 R (.returned (.int .i64 x2)) w4)) (fun ch w => Kfn R ch [] w))
set_option maxRecDepth 100000 in
theorem sh143_ok (c_1 : Int) {R : Ending → World → Prop} {w : World} : sh143 c_1 R w → Calls Try.prog 143 #[.int .u64 c_1] w R :=
  calls_of_eq (ann := fun _ => []) (fn := Try.f143) (c := bodyOf Try.f143) (args := #[.int .u64 c_1]) 400 follows_mixed Try.func143 (by kernel_rfl) (by kernel_rfl)
set_option maxRecDepth 100000 in
/-- joinery/order.kinds$3 -/
def sh144 (k_1 : Int) (R : Ending → World → Prop) (w : World) : Prop :=
 (0 : Int) ≤ 1 ∧ (
 (0 : Int) ≤ 63 ∧ (
 R (.returned (.int .u64 (IntKind.wrap .u64 (bXor .i64 (IntKind.wrap .i64 (k_1 * 2 ^ (min (1 : Int).toNat (IntKind.bits .i64)))) (Int.fdiv k_1 (2 ^ (min (63 : Int).toNat (IntKind.bits .i64)))))))) w))
set_option maxRecDepth 100000 in
theorem sh144_ok (k_1 : Int) {R : Ending → World → Prop} {w : World} : sh144 k_1 R w → Calls Try.prog 144 #[.int .i64 k_1] w R :=
  calls_of_eq (ann := fun _ => []) (fn := Try.f144) (c := bodyOf Try.f144) (args := #[.int .i64 k_1]) 400 follows_mixed Try.func144 (by kernel_rfl) (by kernel_rfl)
set_option maxRecDepth 100000 in
/-- joinery/order.kinds$4 -/
def sh145 (c_1 : Int) (R : Ending → World → Prop) (w : World) : Prop :=
 (0 : Int) ≤ 1 ∧ (
 R (.returned (.int .i64 (bXor .i64 (IntKind.wrap .i64 (Int.fdiv c_1 (2 ^ (min (1 : Int).toNat (IntKind.bits .u64))))) (IntKind.wrap .i64 (0 - (IntKind.wrap .i64 (bAnd .u64 c_1 1))))))) w)
set_option maxRecDepth 100000 in
theorem sh145_ok (c_1 : Int) {R : Ending → World → Prop} {w : World} : sh145 c_1 R w → Calls Try.prog 145 #[.int .u64 c_1] w R :=
  calls_of_eq (ann := fun _ => []) (fn := Try.f145) (c := bodyOf Try.f145) (args := #[.int .u64 c_1]) 400 follows_mixed Try.func145 (by kernel_rfl) (by kernel_rfl)
set_option maxRecDepth 100000 in
/-- joinery/order.kinds$5 -/
def sh146 (k_1 : Int) (R : Ending → World → Prop) (w : World) : Prop :=
 doCall Try.prog (.func (.func 147) #[] #[]) #[.int .u64 (IntKind.wrap .u64 k_1)] w (retS (fun v3 w4 => ∃ (x2 : Int), v3 = (.int .u64 x2 : Value) ∧ (
 R (.returned (.int .u64 x2)) w4)) (fun ch w => Kfn R ch [] w))
set_option maxRecDepth 100000 in
theorem sh146_ok (k_1 : Int) {R : Ending → World → Prop} {w : World} : sh146 k_1 R w → Calls Try.prog 146 #[.int .i64 k_1] w R :=
  calls_of_eq (ann := fun _ => []) (fn := Try.f146) (c := bodyOf Try.f146) (args := #[.int .i64 k_1]) 400 follows_mixed Try.func146 (by kernel_rfl) (by kernel_rfl)
set_option maxRecDepth 100000 in
/-- joinery/mix.Flip -/
def sh147 (x_1 : Int) (R : Ending → World → Prop) (w : World) : Prop :=
 doCall Try.prog (.func (.func 163) #[] #[]) #[.int .u64 x_1] w (retS (fun v3 w4 => ∃ (x2 : Int), v3 = (.int .u64 x2 : Value) ∧ (
 R (.returned (.int .u64 x2)) w4)) (fun ch w => Kfn R ch [] w))
set_option maxRecDepth 100000 in
theorem sh147_ok (x_1 : Int) {R : Ending → World → Prop} {w : World} : sh147 x_1 R w → Calls Try.prog 147 #[.int .u64 x_1] w R :=
  calls_of_eq (ann := fun _ => []) (fn := Try.f147) (c := bodyOf Try.f147) (args := #[.int .u64 x_1]) 400 follows_mixed Try.func147 (by kernel_rfl) (by kernel_rfl)
set_option maxRecDepth 100000 in
/-- joinery/order.kinds$6 -/
def sh148 (c_1 : Int) (R : Ending → World → Prop) (w : World) : Prop :=
 doCall Try.prog (.func (.func 147) #[] #[]) #[.int .u64 c_1] w (retS (fun v3 w4 => ∃ (x2 : Int), v3 = (.int .u64 x2 : Value) ∧ (
 R (.returned (.int .i64 (IntKind.wrap .i64 x2))) w4)) (fun ch w => Kfn R ch [] w))
set_option maxRecDepth 100000 in
theorem sh148_ok (c_1 : Int) {R : Ending → World → Prop} {w : World} : sh148 c_1 R w → Calls Try.prog 148 #[.int .u64 c_1] w R :=
  calls_of_eq (ann := fun _ => []) (fn := Try.f148) (c := bodyOf Try.f148) (args := #[.int .u64 c_1]) 400 follows_mixed Try.func148 (by kernel_rfl) (by kernel_rfl)
set_option maxRecDepth 100000 in
/-- joinery/order.kinds$7 -/
def sh149 (k_1 : Int) (R : Ending → World → Prop) (w : World) : Prop :=
 doCall Try.prog (.func (.func 140) #[] #[]) #[.int .i64 k_1] w (retS (fun v3 w4 => ∃ (x2 : Int), v3 = (.int .u64 x2 : Value) ∧ (
 doCall Try.prog (.func (.func 150) #[] #[]) #[.int .u64 x2, .int .i64 (-1)] w4 (retS (fun v6 w7 => ∃ (x5 : Int), v6 = (.int .u64 x5 : Value) ∧ (
 R (.returned (.int .u64 x5)) w7)) (fun ch w => Kfn R ch [] w)))) (fun ch w => Kfn R ch [] w))
set_option maxRecDepth 100000 in
theorem sh149_ok (k_1 : Int) {R : Ending → World → Prop} {w : World} : sh149 k_1 R w → Calls Try.prog 149 #[.int .i64 k_1] w R :=
  calls_of_eq (ann := fun _ => []) (fn := Try.f149) (c := bodyOf Try.f149) (args := #[.int .i64 k_1]) 400 follows_mixed Try.func149 (by kernel_rfl) (by kernel_rfl)
set_option maxRecDepth 100000 in
/-- joinery/mix.Turn -/
def sh150 (x_1 : Int) (n_2 : Int) (R : Ending → World → Prop) (w : World) : Prop :=
 64 ≠ (0 : Int) ∧ (
 doCall Try.prog (.func (.func 164) #[] #[]) #[.int .u64 x_1, .int .i64 (Int.tmod n_2 64)] w (retS (fun v4 w5 => ∃ (x3 : Int), v4 = (.int .u64 x3 : Value) ∧ (
 R (.returned (.int .u64 x3)) w5)) (fun ch w => Kfn R ch [] w)))
set_option maxRecDepth 100000 in
theorem sh150_ok (x_1 : Int) (n_2 : Int) {R : Ending → World → Prop} {w : World} : sh150 x_1 n_2 R w → Calls Try.prog 150 #[.int .u64 x_1, .int .i64 n_2] w R :=
  calls_of_eq (ann := fun _ => []) (fn := Try.f150) (c := bodyOf Try.f150) (args := #[.int .u64 x_1, .int .i64 n_2]) 400 follows_mixed Try.func150 (by kernel_rfl) (by kernel_rfl)
set_option maxRecDepth 100000 in
/-- joinery/order.kinds$8 -/
def sh151 (c_1 : Int) (R : Ending → World → Prop) (w : World) : Prop :=
 doCall Try.prog (.func (.func 150) #[] #[]) #[.int .u64 c_1, .int .i64 1] w (retS (fun v3 w4 => ∃ (x2 : Int), v3 = (.int .u64 x2 : Value) ∧ (
 doCall Try.prog (.func (.func 141) #[] #[]) #[.int .u64 x2] w4 (retS (fun v6 w7 => ∃ (x5 : Int), v6 = (.int .i64 x5 : Value) ∧ (
 R (.returned (.int .i64 x5)) w7)) (fun ch w => Kfn R ch [] w)))) (fun ch w => Kfn R ch [] w))
set_option maxRecDepth 100000 in
theorem sh151_ok (c_1 : Int) {R : Ending → World → Prop} {w : World} : sh151 c_1 R w → Calls Try.prog 151 #[.int .u64 c_1] w R :=
  calls_of_eq (ann := fun _ => []) (fn := Try.f151) (c := bodyOf Try.f151) (args := #[.int .u64 c_1]) 400 follows_mixed Try.func151 (by kernel_rfl) (by kernel_rfl)
set_option maxRecDepth 100000 in
/-- joinery/order.kinds$9 -/
def sh152 (k_1 : Int) (R : Ending → World → Prop) (w : World) : Prop :=
 doCall Try.prog (.func (.func 140) #[] #[]) #[.int .i64 k_1] w (retS (fun v3 w4 => ∃ (x2 : Int), v3 = (.int .u64 x2 : Value) ∧ (
 doCall Try.prog (.func (.func 150) #[] #[]) #[.int .u64 x2, .int .i64 32] w4 (retS (fun v6 w7 => ∃ (x5 : Int), v6 = (.int .u64 x5 : Value) ∧ (
 R (.returned (.int .u64 x5)) w7)) (fun ch w => Kfn R ch [] w)))) (fun ch w => Kfn R ch [] w))
set_option maxRecDepth 100000 in
theorem sh152_ok (k_1 : Int) {R : Ending → World → Prop} {w : World} : sh152 k_1 R w → Calls Try.prog 152 #[.int .i64 k_1] w R :=
  calls_of_eq (ann := fun _ => []) (fn := Try.f152) (c := bodyOf Try.f152) (args := #[.int .i64 k_1]) 400 follows_mixed Try.func152 (by kernel_rfl) (by kernel_rfl)
set_option maxRecDepth 100000 in
/-- joinery/order.kinds$10 -/
def sh153 (c_1 : Int) (R : Ending → World → Prop) (w : World) : Prop :=
 doCall Try.prog (.func (.func 150) #[] #[]) #[.int .u64 c_1, .int .i64 32] w (retS (fun v3 w4 => ∃ (x2 : Int), v3 = (.int .u64 x2 : Value) ∧ (
 doCall Try.prog (.func (.func 141) #[] #[]) #[.int .u64 x2] w4 (retS (fun v6 w7 => ∃ (x5 : Int), v6 = (.int .i64 x5 : Value) ∧ (
 R (.returned (.int .i64 x5)) w7)) (fun ch w => Kfn R ch [] w)))) (fun ch w => Kfn R ch [] w))
set_option maxRecDepth 100000 in
theorem sh153_ok (c_1 : Int) {R : Ending → World → Prop} {w : World} : sh153 c_1 R w → Calls Try.prog 153 #[.int .u64 c_1] w R :=
  calls_of_eq (ann := fun _ => []) (fn := Try.f153) (c := bodyOf Try.f153) (args := #[.int .u64 c_1]) 400 follows_mixed Try.func153 (by kernel_rfl) (by kernel_rfl)
set_option maxRecDepth 100000 in
/-- joinery/order.kinds$11 -/
def sh154 (k_1 : Int) (R : Ending → World → Prop) (w : World) : Prop :=
 doCall Try.prog (.func (.func 155) #[] #[]) #[.int .u64 (IntKind.wrap .u64 k_1)] w (retS (fun v3 w4 => ∃ (x2 : Int), v3 = (.int .u64 x2 : Value) ∧ (
 R (.returned (.int .u64 x2)) w4)) (fun ch w => Kfn R ch [] w))
set_option maxRecDepth 100000 in
theorem sh154_ok (k_1 : Int) {R : Ending → World → Prop} {w : World} : sh154 k_1 R w → Calls Try.prog 154 #[.int .i64 k_1] w R :=
  calls_of_eq (ann := fun _ => []) (fn := Try.f154) (c := bodyOf Try.f154) (args := #[.int .i64 k_1]) 400 follows_mixed Try.func154 (by kernel_rfl) (by kernel_rfl)
set_option maxRecDepth 100000 in
/-- joinery/mix.Mix -/
def sh155 (x_1 : Int) (R : Ending → World → Prop) (w : World) : Prop :=
 doAl (.cells #[.int .u64 x_1] 86) w (fun b2 w3 =>
 doCall Try.prog (.func (.func 165) #[] #[]) #[.bool false] w3 (retS (fun v7 w8 => ∃ (xf4 : Fn), ∃ (xx5 : Array Value), ∃ (xc6 : Array Value), v7 = (.func xf4 xx5 xc6 : Value) ∧ (
 rfW Try.prog (.func xf4 xx5 xc6) (mkLoop #[.int .u64 x_1, .pointer (some (blk b2)), .int .u64 0, undef, .func xf4 xx5 xc6, undef, undef, undef, undef, undef, undef, undef, undef, undef, undef, undef] (rfOf Try.f155 0).1 (rfOf Try.f155 0).2.1 (rfOf Try.f155 0).2.2)
 (fun w9 =>
 ∃ (x10 : Int), World.cell? w9 (blk b2) = some (.int .u64 x10) ∧ (
 w9.heap[w8.heap.size]? = some (.deferred (some [])) ∧ (
 let w11 : World := w9.putObj w8.heap.size (.deferred none)
 R (.returned (.int .u64 x10)) w11)))
 (fun w12 =>
 w12.heap[w8.heap.size]? = some (.deferred (some [])) ∧ (
 let w13 : World := w12.putObj w8.heap.size (.deferred none)
 R (.returned (.int .u64 0)) w13))
 [] w8)) (fun ch w => Kfn R ch [] w)))
set_option maxRecDepth 100000 in
theorem sh155_ok (x_1 : Int) {R : Ending → World → Prop} {w : World} : sh155 x_1 R w → Calls Try.prog 155 #[.int .u64 x_1] w R :=
  calls_of_eq (ann := fun _ => []) (fn := Try.f155) (c := bodyOf Try.f155) (args := #[.int .u64 x_1]) 400 follows_mixed Try.func155 (by kernel_rfl) (by kernel_rfl)
set_option maxRecDepth 100000 in
/-- joinery/mix.Mix, a round of loop 0 -/
def sh155_0 (x_1 : Addr) (y17 : Int) (y18 : Int) (l : Nat) (R : Ending → World → Prop) (w : World) : Prop :=
 doAl (.cells #[.int .i64 0, .int .u64 0] 175) w (fun b19 w20 =>
 doSt ((blk b19).add 0) (.int .i64 y17) w20 (fun w21 =>
 doSt ((blk b19).add 1) (.int .u64 y18) w21 (fun w22 =>
 ∃ (r23 : Loop), w22.heap[l]? = some (.loop r23) ∧ r23.state = .ready ∧ (
 let w24 : World := w22.putObj l (.loop { r23 with state := .busy })
 doDr w24 (fun w26 =>
 ∃ (C25 : World → Prop), C25 w26 ∧ (
 ∃ (x27 : Int), (∀ w, C25 w → World.cell? w x_1 = some (.int .u64 x27)) ∧ (
 ∃ (x28 : Int), (∀ w, C25 w → World.cell? w x_1 = some (.int .u64 x28)) ∧ (
 ∃ (x29 : Int), (∀ w, C25 w → World.cell? w ((blk b19).add 0) = some (.int .i64 x29)) ∧ (
 (0 : Int) ≤ x29 ∧ (
 ∃ (x30 : Int), (∀ w, C25 w → World.cell? w ((blk b19).add 1) = some (.int .u64 x30)) ∧ (
 doSt (x_1.add 0) (.int .u64 (IntKind.wrap .u64 ((bXor .u64 x27 (Int.fdiv x28 (2 ^ (min (x29 : Int).toNat (IntKind.bits .u64))))) * x30))) w26 (fun w31 =>
 ∃ (r32 : Loop), w31.heap[l]? = some (.loop r32) ∧ R (.returned (.bool true)) (w31.putObj l (.loop { r32 with state := .ready, pending := none }))))))))))))))
set_option maxRecDepth 100000 in
theorem sh155_0_ok {dd2 : Value} {dd3 : Value} {dd4 : Value} {dd5 : Value} {dd6 : Value} {dd7 : Value} {dd8 : Value} {dd9 : Value} {dd10 : Value} {dd11 : Value} {dd12 : Value} {dd13 : Value} {dd14 : Value} {dd15 : Value} {dd16 : Value} {x_1 : Addr} {y17 : Int} {y18 : Int} {l fn D : Nat} {R : Ending → World → Prop} {w : World} (hl : w.heap[l]? = some (.loop (mkLoop #[dd2, .pointer (some x_1), dd3, dd4, dd5, dd6, dd7, dd8, dd9, dd10, dd11, dd12, dd13, dd14, dd15, dd16] (rfOf Try.f155 0).1 (rfOf Try.f155 0).2.1 (rfOf Try.f155 0).2.2 fn D))) : sh155_0 x_1 y17 y18 l R w → doCall Try.prog (.func (.yield l) #[] #[]) #[.agg #[.int .i64 y17, .int .u64 y18]] w R :=
  fun h => ⟨round_of_eq (ann := fun _ => []) 400 follows_mixed hl (by kernel_rfl) (by kernel_rfl) h⟩
set_option maxRecDepth 100000 in
/-- joinery/order.kinds$12 -/
def sh156 (c_1 : Int) (R : Ending → World → Prop) (w : World) : Prop :=
 doCall Try.prog (.func (.func 157) #[] #[]) #[.int .u64 c_1] w (retS (fun v3 w4 => ∃ (x2 : Int), v3 = (.int .u64 x2 : Value) ∧ (
 R (.returned (.int .i64 (IntKind.wrap .i64 x2))) w4)) (fun ch w => Kfn R ch [] w))
set_option maxRecDepth 100000 in
theorem sh156_ok (c_1 : Int) {R : Ending → World → Prop} {w : World} : sh156 c_1 R w → Calls Try.prog 156 #[.int .u64 c_1] w R :=
  calls_of_eq (ann := fun _ => []) (fn := Try.f156) (c := bodyOf Try.f156) (args := #[.int .u64 c_1]) 400 follows_mixed Try.func156 (by kernel_rfl) (by kernel_rfl)
end Go.Proofs.Ytinkkhcffoikmaa
