/-
  Printed by a program (gen.py): what the functions of the program do, as formulas; each with the proof that its call is what the formula says.
-/
import Derived.Test.YtmkpkmdnapccgaaGreatDoorZ04
import Derived.Test.YtmkpkmdnapccgaaGreatDoorProg
import Derived.Test.YtmkpkmdnapccgaaGreatDoorZ05
import Derived.Test.YtmkpkmdnapccgaaGreatDoorZ03
import Derived.Test.YtmkpkmdnapccgaaGreatDoorZ06
import Derived.Test.YtmkpkmdnapccgaaGreatDoorZ07
import Derived.Test.YtmkpkmdnapccgaaGreatDoorZ08
import Derived.Test.YtmkpkmdnapccgaaGreatDoorZ09
import Derived.Test.YtmkpkmdnapccgaaGreatDoorZ10
import Derived.Test.YtmkpkmdnapccgaaGreatDoorZ11
import Derived.Test.YtmkpkmdnapccgaaGreatDoorZ12
import Derived.Test.YtmkpkmdnapccgaaGreatDoorZ13

set_option maxRecDepth 100000
set_option maxHeartbeats 6400000
namespace Go.Proofs.YtmkpkmdnapccgaaGreatDoor
open Go Go.Sh
def sh161 (c_1 : OA) (k_2 : OA) (_xp3 : OA) (_xn4 : Nat) (_xc5 : Nat) (R : EW) (w : World) : Prop :=
 doDr w (fun w7 =>
 ∃ (C6 : World → Prop), C6 w7 ∧ (
 ∃ q8, c_1 = some q8 ∧ (
 ∃ xp9 xn10 xc11, (∀ w, C6 w → w.cell? (q8.add 0) = some (.slice xp9 xn10 xc11)) ∧ (
 ∃ q12, k_2 = some q12 ∧ (
 ∃ x13, (∀ w, C6 w → w.cell? q12 = some (.int .u8 x13)) ∧ (
 doAl (.cells #[.int .u8 x13] 5) w7 (fun b14 w15 =>
 C6 w15 ∧ (
 doGo Tryz.prog (.builtin .append #[51, 51] 51 #[false, false]) #[.slice xp9 xn10 xc11, .slice (some (blk b14)) 1 1] w15 (retS (fun v19 w20 => ∃ xp16 xn17 xc18, v19 = (.slice xp16 xn17 xc18 : Value) ∧ (
 C6 w20 ∧ (
 ∃ q21, c_1 = some q21 ∧ (
 doSt ((q21.add 0).add 0) (.slice xp16 xn17 xc18) w20 (fun w22 =>
 R (.returned (.tuple #[])) w22))))) (kN R))))))))))
theorem sh161_ok (c_1 : OA) (k_2 : OA) (xp3 : OA) (xn4 : Nat) (xc5 : Nat) {R : EW} {w : World} : sh161 c_1 k_2 xp3 xn4 xc5 R w → Calls Tryz.prog 161 #[.pointer c_1, .pointer k_2, .slice xp3 xn4 xc5] w R :=
  ceq Tryz.func161 (by kernel_rfl) (by kernel_rfl)
def sh162 (o_1 : Int) (key_2 : Int) (R : EW) (w : World) : Prop :=
 let K6 : Addr → Bool → World → Prop := fun k_3 is_4 w5 => 
 ifB (!is_4) (
 R (.returned (.tuple #[.int .u64 0, .int .i64 2])) w5) (
 ∃ xf7 xx8 xc9, w5.cell? (k_3.add 1) = some (.func xf7 xx8 xc9) ∧ (
 doCall Tryz.prog (.func xf7 xx8 xc9) #[.int .i64 key_2] w5 (retS (fun v11 w12 => ∃ x10, v11 = (.int .u64 x10 : Value) ∧ (
 R (.returned (.tuple #[.int .u64 x10, .int .i64 0])) w12)) (kN R))))
 doCall Tryz.prog (.func (.func 163) #[] #[]) #[] w (retS (fun v14 w15 => ∃ x13, v14 = (.map x13 : Value) ∧ (
 doLk Tryz.prog 216 (.map x13) (.int .u8 o_1) true w15 (fun v24 => (∃ x16 xf17 xx18 xc19 xf20 xx21 xc22 x23, v24 = (.tuple #[.agg #[.string x16, .func xf17 xx18 xc19, .func xf20 xx21 xc22], .bool x23] : Value) ∧ (
 doAl (.cells #[.string (⟨#[]⟩ : ByteArray), .nilFunc, .nilFunc] 214) w15 (fun b25 w26 =>
 doSt ((blk b25).add 0) (.string x16) w26 (fun w27 =>
 doSt ((blk b25).add 1) (.func xf17 xx18 xc19) w27 (fun w28 =>
 doSt ((blk b25).add 2) (.func xf20 xx21 xc22) w28 (fun w29 =>
 K6 (blk b25) x23 w29)))))) ∨ (v24 = (.tuple #[.agg #[.string (⟨#[]⟩ : ByteArray), .nilFunc, .nilFunc], .bool false] : Value) ∧ (
 doAl (.cells #[.string (⟨#[]⟩ : ByteArray), .nilFunc, .nilFunc] 214) w15 (fun b30 w31 =>
 doSt ((blk b30).add 0) (.string (⟨#[]⟩ : ByteArray)) w31 (fun w32 =>
 doSt ((blk b30).add 1) (.nilFunc) w32 (fun w33 =>
 doSt ((blk b30).add 2) (.nilFunc) w33 (fun w34 =>
 K6 (blk b30) false w34))))))))) (kN R))
theorem sh162_ok (o_1 : Int) (key_2 : Int) {R : EW} {w : World} : sh162 o_1 key_2 R w → Calls Tryz.prog 162 #[.int .u8 o_1, .int .i64 key_2] w R :=
  ceq Tryz.func162 (by kernel_rfl) (by kernel_rfl)
def sh163  (R : EW) (w : World) : Prop :=
 doAl (.map #[] 0) w (fun b1 w2 =>
 doMu Tryz.prog 216 (.map (some b1)) (.int .u8 1) (.agg #[.string (⟨#[117, 112]⟩ : ByteArray), .func (.func 164) #[] #[], .func (.func 165) #[] #[]]) w2 (fun w3 =>
 doMu Tryz.prog 216 (.map (some b1)) (.int .u8 2) (.agg #[.string (⟨#[100, 111, 119, 110]⟩ : ByteArray), .func (.func 166) #[] #[], .func (.func 167) #[] #[]]) w3 (fun w4 =>
 doMu Tryz.prog 216 (.map (some b1)) (.int .u8 3) (.agg #[.string (⟨#[115, 105, 122, 101]⟩ : ByteArray), .func (.func 168) #[] #[], .func (.func 169) #[] #[]]) w4 (fun w5 =>
 doMu Tryz.prog 216 (.map (some b1)) (.int .u8 4) (.agg #[.string (⟨#[98, 105, 116, 115]⟩ : ByteArray), .func (.func 170) #[] #[], .func (.func 172) #[] #[]]) w5 (fun w6 =>
 doMu Tryz.prog 216 (.map (some b1)) (.int .u8 5) (.agg #[.string (⟨#[101, 118, 101, 110]⟩ : ByteArray), .func (.func 173) #[] #[], .func (.func 175) #[] #[]]) w6 (fun w7 =>
 doMu Tryz.prog 216 (.map (some b1)) (.int .u8 6) (.agg #[.string (⟨#[108, 111, 119]⟩ : ByteArray), .func (.func 176) #[] #[], .func (.func 177) #[] #[]]) w7 (fun w8 =>
 doMu Tryz.prog 216 (.map (some b1)) (.int .u8 7) (.agg #[.string (⟨#[109, 105, 120]⟩ : ByteArray), .func (.func 178) #[] #[], .func (.func 180) #[] #[]]) w8 (fun w9 =>
 R (.returned (.map (some b1))) w9))))))))
theorem sh163_ok  {R : EW} {w : World} : sh163  R w → Calls Tryz.prog 163 #[] w R :=
  ceq Tryz.func163 (by kernel_rfl) (by kernel_rfl)
def sh164 (k_1 : Int) (R : EW) (w : World) : Prop :=
 R (.returned (.int .u64 (bXor .u64 (IntKind.wrap .u64 k_1) 9223372036854775808))) w
theorem sh164_ok (k_1 : Int) {R : EW} {w : World} : sh164 k_1 R w → Calls Tryz.prog 164 #[.int .i64 k_1] w R :=
  ceq Tryz.func164 (by kernel_rfl) (by kernel_rfl)
def sh166 (k_1 : Int) (R : EW) (w : World) : Prop :=
 doCall Tryz.prog (.func (.func 164) #[] #[]) #[.int .i64 k_1] w (retS (fun v3 w4 => ∃ x2, v3 = (.int .u64 x2 : Value) ∧ (
 R (.returned (.int .u64 (bXor .u64 (IntKind.max .u64) x2))) w4)) (kN R))
theorem sh166_ok (k_1 : Int) {R : EW} {w : World} : sh166 k_1 R w → Calls Tryz.prog 166 #[.int .i64 k_1] w R :=
  ceq Tryz.func166 (by kernel_rfl) (by kernel_rfl)
def sh168 (k_1 : Int) (R : EW) (w : World) : Prop :=
 (0 : Int) ≤ 1 ∧ (
 (0 : Int) ≤ 63 ∧ (
 R (.returned (.int .u64 (IntKind.wrap .u64 (bXor .i64 (IntKind.wrap .i64 (k_1 * 2 ^ (min (1 : Int).toNat (IntKind.bits .i64)))) (Int.fdiv k_1 (2 ^ (min (63 : Int).toNat (IntKind.bits .i64)))))))) w))
theorem sh168_ok (k_1 : Int) {R : EW} {w : World} : sh168 k_1 R w → Calls Tryz.prog 168 #[.int .i64 k_1] w R :=
  ceq Tryz.func168 (by kernel_rfl) (by kernel_rfl)
def sh169 (c_1 : Int) (R : EW) (w : World) : Prop :=
 (0 : Int) ≤ 1 ∧ (
 R (.returned (.int .i64 (bXor .i64 (IntKind.wrap .i64 (Int.fdiv c_1 (2 ^ (min (1 : Int).toNat (IntKind.bits .u64))))) (IntKind.wrap .i64 (0 - (IntKind.wrap .i64 (bAnd .u64 c_1 1))))))) w)
theorem sh169_ok (c_1 : Int) {R : EW} {w : World} : sh169 c_1 R w → Calls Tryz.prog 169 #[.int .u64 c_1] w R :=
  ceq Tryz.func169 (by kernel_rfl) (by kernel_rfl)
def sh170 (k_1 : Int) (R : EW) (w : World) : Prop :=
 doCall Tryz.prog (.func (.func 171) #[] #[]) #[.int .u64 (IntKind.wrap .u64 k_1)] w (retS (fun v3 w4 => ∃ x2, v3 = (.int .u64 x2 : Value) ∧ (
 R (.returned (.int .u64 x2)) w4)) (kN R))
theorem sh170_ok (k_1 : Int) {R : EW} {w : World} : sh170 k_1 R w → Calls Tryz.prog 170 #[.int .i64 k_1] w R :=
  ceq Tryz.func170 (by kernel_rfl) (by kernel_rfl)
def sh171 (x_1 : Int) (R : EW) (w : World) : Prop :=
 doCall Tryz.prog (.func (.func 182) #[] #[]) #[.int .u64 x_1] w (retS (fun v3 w4 => ∃ x2, v3 = (.int .u64 x2 : Value) ∧ (
 R (.returned (.int .u64 x2)) w4)) (kN R))
theorem sh171_ok (x_1 : Int) {R : EW} {w : World} : sh171 x_1 R w → Calls Tryz.prog 171 #[.int .u64 x_1] w R :=
  ceq Tryz.func171 (by kernel_rfl) (by kernel_rfl)
def sh173 (k_1 : Int) (R : EW) (w : World) : Prop :=
 doCall Tryz.prog (.func (.func 164) #[] #[]) #[.int .i64 k_1] w (retS (fun v3 w4 => ∃ x2, v3 = (.int .u64 x2 : Value) ∧ (
 doCall Tryz.prog (.func (.func 174) #[] #[]) #[.int .u64 x2, .int .i64 (-1)] w4 (retS (fun v6 w7 => ∃ x5, v6 = (.int .u64 x5 : Value) ∧ (
 R (.returned (.int .u64 x5)) w7)) (kN R)))) (kN R))
theorem sh173_ok (k_1 : Int) {R : EW} {w : World} : sh173 k_1 R w → Calls Tryz.prog 173 #[.int .i64 k_1] w R :=
  ceq Tryz.func173 (by kernel_rfl) (by kernel_rfl)
def sh174 (x_1 : Int) (n_2 : Int) (R : EW) (w : World) : Prop :=
 64 ≠ (0 : Int) ∧ (
 doCall Tryz.prog (.func (.func 183) #[] #[]) #[.int .u64 x_1, .int .i64 (Int.tmod n_2 64)] w (retS (fun v4 w5 => ∃ x3, v4 = (.int .u64 x3 : Value) ∧ (
 R (.returned (.int .u64 x3)) w5)) (kN R)))
theorem sh174_ok (x_1 : Int) (n_2 : Int) {R : EW} {w : World} : sh174 x_1 n_2 R w → Calls Tryz.prog 174 #[.int .u64 x_1, .int .i64 n_2] w R :=
  ceq Tryz.func174 (by kernel_rfl) (by kernel_rfl)
def sh176 (k_1 : Int) (R : EW) (w : World) : Prop :=
 doCall Tryz.prog (.func (.func 164) #[] #[]) #[.int .i64 k_1] w (retS (fun v3 w4 => ∃ x2, v3 = (.int .u64 x2 : Value) ∧ (
 doCall Tryz.prog (.func (.func 174) #[] #[]) #[.int .u64 x2, .int .i64 32] w4 (retS (fun v6 w7 => ∃ x5, v6 = (.int .u64 x5 : Value) ∧ (
 R (.returned (.int .u64 x5)) w7)) (kN R)))) (kN R))
theorem sh176_ok (k_1 : Int) {R : EW} {w : World} : sh176 k_1 R w → Calls Tryz.prog 176 #[.int .i64 k_1] w R :=
  ceq Tryz.func176 (by kernel_rfl) (by kernel_rfl)
def sh178 (k_1 : Int) (R : EW) (w : World) : Prop :=
 doCall Tryz.prog (.func (.func 179) #[] #[]) #[.int .u64 (IntKind.wrap .u64 k_1)] w (retS (fun v3 w4 => ∃ x2, v3 = (.int .u64 x2 : Value) ∧ (
 R (.returned (.int .u64 x2)) w4)) (kN R))
theorem sh178_ok (k_1 : Int) {R : EW} {w : World} : sh178 k_1 R w → Calls Tryz.prog 178 #[.int .i64 k_1] w R :=
  ceq Tryz.func178 (by kernel_rfl) (by kernel_rfl)
def sh179 (x_1 : Int) (R : EW) (w : World) : Prop :=
 doAl (.cells #[.int .u64 x_1] 127) w (fun b2 w3 =>
 doCall Tryz.prog (.func (.func 184) #[] #[]) #[.bool false] w3 (retS (fun v7 w8 => ∃ xf4 xx5 xc6, v7 = (.func xf4 xx5 xc6 : Value) ∧ (
 rfW Tryz.prog (.func xf4 xx5 xc6) (mkLoop #[.int .u64 x_1, .pointer (some (blk b2)), .int .u64 0, undef, .func xf4 xx5 xc6, undef, undef, undef, undef, undef, undef, undef, undef, undef, undef, undef] (rfOf Tryz.f179 0).1 (rfOf Tryz.f179 0).2.1 (rfOf Tryz.f179 0).2.2)
 (fun w9 =>
 ∃ x10, w9.cell? (blk b2) = some (.int .u64 x10) ∧ (
 w9.heap[w8.heap.size]? = some (.deferred (some [])) ∧ (
 let w11 : World := w9.putObj w8.heap.size (.deferred none)
 R (.returned (.int .u64 x10)) w11)))
 (fun w12 =>
 w12.heap[w8.heap.size]? = some (.deferred (some [])) ∧ (
 let w13 : World := w12.putObj w8.heap.size (.deferred none)
 R (.returned (.int .u64 0)) w13))
 [] w8)) (kN R)))
theorem sh179_ok (x_1 : Int) {R : EW} {w : World} : sh179 x_1 R w → Calls Tryz.prog 179 #[.int .u64 x_1] w R :=
  ceq Tryz.func179 (by kernel_rfl) (by kernel_rfl)
def sh179_0 (x_1 : Addr) (y17 : Int) (y18 : Int) (l : Nat) (R : EW) (w : World) : Prop :=
 doAl (.cells #[.int .i64 0, .int .u64 0] 222) w (fun b19 w20 =>
 doSt ((blk b19).add 0) (.int .i64 y17) w20 (fun w21 =>
 doSt ((blk b19).add 1) (.int .u64 y18) w21 (fun w22 =>
 ∃ r23, w22.heap[l]? = some (.loop r23) ∧ r23.state = .ready ∧ (
 let w24 : World := w22.putObj l (.loop { r23 with state := .busy })
 doDr w24 (fun w26 =>
 ∃ (C25 : World → Prop), C25 w26 ∧ (
 ∃ x27, (∀ w, C25 w → w.cell? x_1 = some (.int .u64 x27)) ∧ (
 ∃ x28, (∀ w, C25 w → w.cell? x_1 = some (.int .u64 x28)) ∧ (
 ∃ x29, (∀ w, C25 w → w.cell? ((blk b19).add 0) = some (.int .i64 x29)) ∧ (
 (0 : Int) ≤ x29 ∧ (
 ∃ x30, (∀ w, C25 w → w.cell? ((blk b19).add 1) = some (.int .u64 x30)) ∧ (
 doSt (x_1.add 0) (.int .u64 (IntKind.wrap .u64 ((bXor .u64 x27 (Int.fdiv x28 (2 ^ (min (x29 : Int).toNat (IntKind.bits .u64))))) * x30))) w26 (fun w31 =>
 ∃ r32, w31.heap[l]? = some (.loop r32) ∧ R (.returned (.bool true)) (w31.putObj l (.loop { r32 with state := .ready, pending := none }))))))))))))))
theorem sh179_0_ok {dd2 : Value} {dd3 : Value} {dd4 : Value} {dd5 : Value} {dd6 : Value} {dd7 : Value} {dd8 : Value} {dd9 : Value} {dd10 : Value} {dd11 : Value} {dd12 : Value} {dd13 : Value} {dd14 : Value} {dd15 : Value} {dd16 : Value} {x_1 : Addr} {y17 : Int} {y18 : Int} {l fn D : Nat} {R : EW} {w : World} (hl : w.heap[l]? = some (.loop (mkLoop #[dd2, .pointer (some x_1), dd3, dd4, dd5, dd6, dd7, dd8, dd9, dd10, dd11, dd12, dd13, dd14, dd15, dd16] (rfOf Tryz.f179 0).1 (rfOf Tryz.f179 0).2.1 (rfOf Tryz.f179 0).2.2 fn D))) : sh179_0 x_1 y17 y18 l R w → doCall Tryz.prog (.func (.yield l) #[] #[]) #[.agg #[.int .i64 y17, .int .u64 y18]] w R :=
  fun h => ⟨Old.round_of_eq (ann := fun _ => []) 400 follows_mixed hl (by kernel_rfl) (by kernel_rfl) h⟩
def sh182 (x_1 : Int) (R : EW) (w : World) : Prop :=
 (0 : Int) ≤ 1 ∧ (
 (0 : Int) ≤ 1 ∧ (
 (0 : Int) ≤ 2 ∧ (
 (0 : Int) ≤ 2 ∧ (
 (0 : Int) ≤ 4 ∧ (
 (0 : Int) ≤ 4 ∧ (
 doCall Tryz.prog (.func (.func 186) #[] #[]) #[.int .u64 (bOr .u64 (bAnd .u64 (Int.fdiv (bOr .u64 (bAnd .u64 (Int.fdiv (bOr .u64 (bAnd .u64 (Int.fdiv x_1 (2 ^ (min (1 : Int).toNat (IntKind.bits .u64)))) 6148914691236517205) (IntKind.wrap .u64 ((bAnd .u64 x_1 6148914691236517205) * 2 ^ (min (1 : Int).toNat (IntKind.bits .u64))))) (2 ^ (min (2 : Int).toNat (IntKind.bits .u64)))) 3689348814741910323) (IntKind.wrap .u64 ((bAnd .u64 (bOr .u64 (bAnd .u64 (Int.fdiv x_1 (2 ^ (min (1 : Int).toNat (IntKind.bits .u64)))) 6148914691236517205) (IntKind.wrap .u64 ((bAnd .u64 x_1 6148914691236517205) * 2 ^ (min (1 : Int).toNat (IntKind.bits .u64))))) 3689348814741910323) * 2 ^ (min (2 : Int).toNat (IntKind.bits .u64))))) (2 ^ (min (4 : Int).toNat (IntKind.bits .u64)))) 1085102592571150095) (IntKind.wrap .u64 ((bAnd .u64 (bOr .u64 (bAnd .u64 (Int.fdiv (bOr .u64 (bAnd .u64 (Int.fdiv x_1 (2 ^ (min (1 : Int).toNat (IntKind.bits .u64)))) 6148914691236517205) (IntKind.wrap .u64 ((bAnd .u64 x_1 6148914691236517205) * 2 ^ (min (1 : Int).toNat (IntKind.bits .u64))))) (2 ^ (min (2 : Int).toNat (IntKind.bits .u64)))) 3689348814741910323) (IntKind.wrap .u64 ((bAnd .u64 (bOr .u64 (bAnd .u64 (Int.fdiv x_1 (2 ^ (min (1 : Int).toNat (IntKind.bits .u64)))) 6148914691236517205) (IntKind.wrap .u64 ((bAnd .u64 x_1 6148914691236517205) * 2 ^ (min (1 : Int).toNat (IntKind.bits .u64))))) 3689348814741910323) * 2 ^ (min (2 : Int).toNat (IntKind.bits .u64))))) 1085102592571150095) * 2 ^ (min (4 : Int).toNat (IntKind.bits .u64)))))] w (retS (fun v3 w4 => ∃ x2, v3 = (.int .u64 x2 : Value) ∧ (
 R (.returned (.int .u64 x2)) w4)) (kN R))))))))
theorem sh182_ok (x_1 : Int) {R : EW} {w : World} : sh182 x_1 R w → Calls Tryz.prog 182 #[.int .u64 x_1] w R :=
  ceq Tryz.func182 (by kernel_rfl) (by kernel_rfl)
def sh183 (x_1 : Int) (k_2 : Int) (R : EW) (w : World) : Prop :=
 (0 : Int) ≤ (bAnd .u64 (IntKind.wrap .u64 k_2) 63) ∧ (
 (0 : Int) ≤ (IntKind.wrap .u64 (64 - (bAnd .u64 (IntKind.wrap .u64 k_2) 63))) ∧ (
 R (.returned (.int .u64 (bOr .u64 (IntKind.wrap .u64 (x_1 * 2 ^ (min ((bAnd .u64 (IntKind.wrap .u64 k_2) 63) : Int).toNat (IntKind.bits .u64)))) (Int.fdiv x_1 (2 ^ (min ((IntKind.wrap .u64 (64 - (bAnd .u64 (IntKind.wrap .u64 k_2) 63))) : Int).toNat (IntKind.bits .u64))))))) w))
theorem sh183_ok (x_1 : Int) (k_2 : Int) {R : EW} {w : World} : sh183 x_1 k_2 R w → Calls Tryz.prog 183 #[.int .u64 x_1, .int .i64 k_2] w R :=
  ceq Tryz.func183 (by kernel_rfl) (by kernel_rfl)
def sh184 (back_1 : Bool) (R : EW) (w : World) : Prop :=
 doAl (.cells #[.bool back_1] 4) w (fun b2 w3 =>
 doCall Tryz.prog (.func (.func 187) #[] #[]) #[] w3 (retS (fun v10 w11 => ∃ x4 x5 x6 x7 x8 x9, v10 = (.agg #[.int .i64 x4, .int .u64 x5, .int .i64 x6, .int .u64 x7, .int .i64 x8, .int .u64 x9] : Value) ∧ (
 doAl (.cells #[.int .i64 0, .int .u64 0, .int .i64 0, .int .u64 0, .int .i64 0, .int .u64 0] 223) w11 (fun b12 w13 =>
 doSt ((blk b12).add 0) (.int .i64 x4) w13 (fun w14 =>
 doSt ((blk b12).add 1) (.int .u64 x5) w14 (fun w15 =>
 doSt ((blk b12).add 2) (.int .i64 x6) w15 (fun w16 =>
 doSt ((blk b12).add 3) (.int .u64 x7) w16 (fun w17 =>
 doSt ((blk b12).add 4) (.int .i64 x8) w17 (fun w18 =>
 doSt ((blk b12).add 5) (.int .u64 x9) w18 (fun w19 =>
 R (.returned (.func (.func 188) #[] #[.pointer (some (blk b2)), .pointer (some (blk b12))])) w19))))))))) (kN R)))
theorem sh184_ok (back_1 : Bool) {R : EW} {w : World} : sh184 back_1 R w → Calls Tryz.prog 184 #[.bool back_1] w R :=
  ceq Tryz.func184 (by kernel_rfl) (by kernel_rfl)
def sh186 (x_1 : Int) (R : EW) (w : World) : Prop :=
 (0 : Int) ≤ 8 ∧ (
 (0 : Int) ≤ 8 ∧ (
 (0 : Int) ≤ 16 ∧ (
 (0 : Int) ≤ 16 ∧ (
 (0 : Int) ≤ 32 ∧ (
 (0 : Int) ≤ 32 ∧ (
 R (.returned (.int .u64 (bOr .u64 (Int.fdiv (bOr .u64 (bAnd .u64 (Int.fdiv (bOr .u64 (bAnd .u64 (Int.fdiv x_1 (2 ^ (min (8 : Int).toNat (IntKind.bits .u64)))) 71777214294589695) (IntKind.wrap .u64 ((bAnd .u64 x_1 71777214294589695) * 2 ^ (min (8 : Int).toNat (IntKind.bits .u64))))) (2 ^ (min (16 : Int).toNat (IntKind.bits .u64)))) 281470681808895) (IntKind.wrap .u64 ((bAnd .u64 (bOr .u64 (bAnd .u64 (Int.fdiv x_1 (2 ^ (min (8 : Int).toNat (IntKind.bits .u64)))) 71777214294589695) (IntKind.wrap .u64 ((bAnd .u64 x_1 71777214294589695) * 2 ^ (min (8 : Int).toNat (IntKind.bits .u64))))) 281470681808895) * 2 ^ (min (16 : Int).toNat (IntKind.bits .u64))))) (2 ^ (min (32 : Int).toNat (IntKind.bits .u64)))) (IntKind.wrap .u64 ((bOr .u64 (bAnd .u64 (Int.fdiv (bOr .u64 (bAnd .u64 (Int.fdiv x_1 (2 ^ (min (8 : Int).toNat (IntKind.bits .u64)))) 71777214294589695) (IntKind.wrap .u64 ((bAnd .u64 x_1 71777214294589695) * 2 ^ (min (8 : Int).toNat (IntKind.bits .u64))))) (2 ^ (min (16 : Int).toNat (IntKind.bits .u64)))) 281470681808895) (IntKind.wrap .u64 ((bAnd .u64 (bOr .u64 (bAnd .u64 (Int.fdiv x_1 (2 ^ (min (8 : Int).toNat (IntKind.bits .u64)))) 71777214294589695) (IntKind.wrap .u64 ((bAnd .u64 x_1 71777214294589695) * 2 ^ (min (8 : Int).toNat (IntKind.bits .u64))))) 281470681808895) * 2 ^ (min (16 : Int).toNat (IntKind.bits .u64))))) * 2 ^ (min (32 : Int).toNat (IntKind.bits .u64))))))) w))))))
theorem sh186_ok (x_1 : Int) {R : EW} {w : World} : sh186 x_1 R w → Calls Tryz.prog 186 #[.int .u64 x_1] w R :=
  ceq Tryz.func186 (by kernel_rfl) (by kernel_rfl)
end Go.Proofs.YtmkpkmdnapccgaaGreatDoor

namespace Go.Proofs.YtmkpkmdnapccgaaGreatDoor
open Go Go.Sh
def sh187  (R : EW) (w : World) : Prop :=
 doAl (.cells #[.int .i64 0, .int .u64 0, .int .i64 0, .int .u64 0, .int .i64 0, .int .u64 0] 223) w (fun b1 w2 =>
 doSt ((blk b1).add 0) (.int .i64 30) w2 (fun w3 =>
 doSt ((blk b1).add 1) (.int .u64 13787848793156543929) w3 (fun w4 =>
 doSt ((blk b1).add 2) (.int .i64 27) w4 (fun w5 =>
 doSt ((blk b1).add 3) (.int .u64 10723151780598845931) w5 (fun w6 =>
 doSt ((blk b1).add 4) (.int .i64 31) w6 (fun w7 =>
 doSt ((blk b1).add 5) (.int .u64 1) w7 (fun w8 =>
 ∃ x9, w8.cell? ((blk b1).add 0) = some (.int .i64 x9) ∧ (
 ∃ x10, w8.cell? ((blk b1).add 1) = some (.int .u64 x10) ∧ (
 ∃ x11, w8.cell? ((blk b1).add 2) = some (.int .i64 x11) ∧ (
 ∃ x12, w8.cell? ((blk b1).add 3) = some (.int .u64 x12) ∧ (
 ∃ x13, w8.cell? ((blk b1).add 4) = some (.int .i64 x13) ∧ (
 ∃ x14, w8.cell? ((blk b1).add 5) = some (.int .u64 x14) ∧ (
 R (.returned (.agg #[.int .i64 x9, .int .u64 x10, .int .i64 x11, .int .u64 x12, .int .i64 x13, .int .u64 x14])) w8)))))))))))))
theorem sh187_ok  {R : EW} {w : World} : sh187  R w → Calls Tryz.prog 187 #[] w R :=
  ceq Tryz.func187 (by kernel_rfl) (by kernel_rfl)
def sh188 (yield_f1 : Fn) (yield_x2 : Array Value) (yield_c3 : Array Value) (x4 : Addr) (x5 : Addr) (R : EW) (w : World) : Prop :=
 ∃ (I6 : List Value → World → Prop) (μ7 : List Value → World → Nat), I6 [.int .i64 0] w ∧ (∀ (x10 : Int), ∀ (_j8 : Nat → Value) (w9 : World), I6 [.int .i64 x10] w9 → (
 ifB (decide ((x10 : Int) < 3)) (
 let K13 : Int → World → Prop := fun k_11 w12 => 
 doIx (some x5) 3 2 (k_11) (fun a14 =>
 ∃ x15, w12.cell? (a14.add 0) = some (.int .i64 x15) ∧ (
 ∃ x16, w12.cell? (a14.add 1) = some (.int .u64 x16) ∧ (
 doCall Tryz.prog (.func yield_f1 yield_x2 yield_c3) #[.agg #[.int .i64 x15, .int .u64 x16]] w12 (retS (fun v18 w19 => ∃ x17, v18 = (.bool x17 : Value) ∧ (
 ifB (!x17) (
 R (.returned (.tuple #[])) w19) (
 I6 [.int .i64 (IntKind.wrap .i64 (x10 + 1))] w19 ∧ μ7 [.int .i64 (IntKind.wrap .i64 (x10 + 1))] w19 < μ7 [.int .i64 x10] w9))) (kN R)))))
 ∃ x20, w9.cell? x4 = some (.bool x20) ∧ (
 ifB x20 (
 K13 (IntKind.wrap .i64 (2 - x10)) w9) (
 K13 x10 w9))) (
 R (.returned (.tuple #[])) w9)))
theorem sh188_ok (yield_f1 : Fn) (yield_x2 : Array Value) (yield_c3 : Array Value) (x4 : Addr) (x5 : Addr) {R : EW} {w : World} : sh188 yield_f1 yield_x2 yield_c3 x4 x5 R w → Calls Tryz.prog 188 #[.func yield_f1 yield_x2 yield_c3, .pointer (some x4), .pointer (some x5)] w R :=
  Old.calls_of_eq (ann := fun i => if i = 0 then [(5, .int .i64 0)] else []) (fn := Tryz.f188) (c := bodyOf Tryz.f188) (args := #[.func yield_f1 yield_x2 yield_c3, .pointer (some x4), .pointer (some x5)]) 400 follows_mixed Tryz.func188 (by kernel_rfl) (by kernel_rfl)
def sh195 (c_1 : OA) (is_2 : OA) (R : EW) (w : World) : Prop :=
 doAl (.cells #[.int .u8 0] 5) w (fun b3 w4 =>
 doCall Tryz.prog (.func (.func 199) #[] #[]) #[.pointer c_1, .pointer (some (blk b3)), .slice none 0 0] w4 (retS (fun v5 w6 => v5 = (.tuple #[] : Value) ∧ (
 ∃ x7, w6.cell? (blk b3) = some (.int .u8 x7) ∧ (
 doCall Tryz.prog (.func (.func 42) #[] #[]) #[.bool (decide ((x7 : Int) < 2))] w6 (retS (fun v8 w9 => v8 = (.tuple #[] : Value) ∧ (
 ∃ x10, w9.cell? (blk b3) = some (.int .u8 x10) ∧ (
 ∃ q11, is_2 = some q11 ∧ (
 doSt (q11.add 0) (.bool ((x10 : Int) == 1)) w9 (fun w12 =>
 R (.returned (.tuple #[])) w12))))) (kN R))))) (kN R)))
theorem sh195_ok (c_1 : OA) (is_2 : OA) {R : EW} {w : World} : sh195 c_1 is_2 R w → Calls Tryz.prog 195 #[.pointer c_1, .pointer is_2] w R :=
  ceq Tryz.func195 (by kernel_rfl) (by kernel_rfl)
def sh196 (c_1 : OA) (n_2 : OA) (R : EW) (w : World) : Prop :=
 doAl (.cells #[.int .i64 0] 2) w (fun b3 w4 =>
 doCall Tryz.prog (.func (.func 197) #[] #[]) #[.pointer c_1, .pointer (some (blk b3))] w4 (retS (fun v5 w6 => v5 = (.tuple #[] : Value) ∧ (
 let K8 : World → Prop := fun w7 => 
 ∃ x9, w7.cell? (blk b3) = some (.int .i64 x9) ∧ (
 ∃ q10, n_2 = some q10 ∧ (
 doSt (q10.add 0) (.int .i64 x9) w7 (fun w11 =>
 R (.returned (.tuple #[])) w11)))
 ∃ x12, w6.cell? (blk b3) = some (.int .i64 x12) ∧ (
 ifB (decide ((x12 : Int) ≥ 0)) (
 ∃ x13, w6.cell? (blk b3) = some (.int .i64 x13) ∧ (
 doCall Tryz.prog (.func (.func 42) #[] #[]) #[.bool (decide ((x13 : Int) ≤ 4096))] w6 (retS (fun v14 w15 => v14 = (.tuple #[] : Value) ∧ (
 K8 w15)) (kN R)))) (
 doCall Tryz.prog (.func (.func 42) #[] #[]) #[.bool false] w6 (retS (fun v16 w17 => v16 = (.tuple #[] : Value) ∧ (
 K8 w17)) (kN R)))))) (kN R)))
theorem sh196_ok (c_1 : OA) (n_2 : OA) {R : EW} {w : World} : sh196 c_1 n_2 R w → Calls Tryz.prog 196 #[.pointer c_1, .pointer n_2] w R :=
  ceq Tryz.func196 (by kernel_rfl) (by kernel_rfl)
def sh197 (c_1 : OA) (v_2 : OA) (R : EW) (w : World) : Prop :=
 ∃ (I3 : List Value → World → Prop) (μ4 : List Value → World → Nat), I3 [.int .u64 0, .int .i64 0] w ∧ (∀ (u_7 : Int), ∀ (k_8 : Int), ∀ (_j5 : Nat → Value) (w6 : World), I3 [.int .u64 u_7, .int .i64 k_8] w6 → (
 doAl (.cells #[.int .u8 0] 5) w6 (fun b9 w10 =>
 doCall Tryz.prog (.func (.func 199) #[] #[]) #[.pointer c_1, .pointer (some (blk b9)), .slice none 0 0] w10 (retS (fun v11 w12 => v11 = (.tuple #[] : Value) ∧ (
 let K14 : World → Prop := fun w13 => 
 ∃ x15, w13.cell? (blk b9) = some (.int .u8 x15) ∧ (
 (0 : Int) ≤ (IntKind.wrap .i64 (7 * k_8)) ∧ (
 ∃ x16, w13.cell? (blk b9) = some (.int .u8 x16) ∧ (
 ifB (decide ((x16 : Int) < 128)) (
 doCall Tryz.prog (.func (.func 200) #[] #[]) #[.int .u8 3, .int .u64 (bOr .u64 u_7 (IntKind.wrap .u64 ((IntKind.wrap .u64 (bAnd .u8 x15 127)) * 2 ^ (min ((IntKind.wrap .i64 (7 * k_8)) : Int).toNat (IntKind.bits .u64)))))] w13 (retS (fun v19 w20 => ∃ x17 x18, v19 = (.tuple #[.int .i64 x17, .int .i64 x18] : Value) ∧ (
 ∃ q21, v_2 = some q21 ∧ (
 doSt (q21.add 0) (.int .i64 x17) w20 (fun w22 =>
 R (.returned (.tuple #[])) w22)))) (kN R))) (
 I3 [.int .u64 (bOr .u64 u_7 (IntKind.wrap .u64 ((IntKind.wrap .u64 (bAnd .u8 x15 127)) * 2 ^ (min ((IntKind.wrap .i64 (7 * k_8)) : Int).toNat (IntKind.bits .u64))))), .int .i64 (IntKind.wrap .i64 (k_8 + 1))] w13 ∧ μ4 [.int .u64 (bOr .u64 u_7 (IntKind.wrap .u64 ((IntKind.wrap .u64 (bAnd .u8 x15 127)) * 2 ^ (min ((IntKind.wrap .i64 (7 * k_8)) : Int).toNat (IntKind.bits .u64))))), .int .i64 (IntKind.wrap .i64 (k_8 + 1))] w13 < μ4 [.int .u64 u_7, .int .i64 k_8] w6))))
 ifB (decide ((k_8 : Int) < 9)) (
 ifB ((k_8 : Int) == 0) (
 doCall Tryz.prog (.func (.func 42) #[] #[]) #[.bool true] w12 (retS (fun v23 w24 => v23 = (.tuple #[] : Value) ∧ (
 K14 w24)) (kN R))) (
 ∃ x25, w12.cell? (blk b9) = some (.int .u8 x25) ∧ (
 doCall Tryz.prog (.func (.func 42) #[] #[]) #[.bool ((x25 : Int) != 0)] w12 (retS (fun v26 w27 => v26 = (.tuple #[] : Value) ∧ (
 K14 w27)) (kN R))))) (
 ∃ x28, w12.cell? (blk b9) = some (.int .u8 x28) ∧ (
 ifB (decide ((x28 : Int) < 2)) (
 ifB ((k_8 : Int) == 0) (
 doCall Tryz.prog (.func (.func 42) #[] #[]) #[.bool true] w12 (retS (fun v29 w30 => v29 = (.tuple #[] : Value) ∧ (
 K14 w30)) (kN R))) (
 ∃ x31, w12.cell? (blk b9) = some (.int .u8 x31) ∧ (
 doCall Tryz.prog (.func (.func 42) #[] #[]) #[.bool ((x31 : Int) != 0)] w12 (retS (fun v32 w33 => v32 = (.tuple #[] : Value) ∧ (
 K14 w33)) (kN R))))) (
 doCall Tryz.prog (.func (.func 42) #[] #[]) #[.bool false] w12 (retS (fun v34 w35 => v34 = (.tuple #[] : Value) ∧ (
 K14 w35)) (kN R))))))) (kN R)))))
theorem sh197_ok (c_1 : OA) (v_2 : OA) {R : EW} {w : World} : sh197 c_1 v_2 R w → Calls Tryz.prog 197 #[.pointer c_1, .pointer v_2] w R :=
  Old.calls_of_eq (ann := fun i => if i = 0 then [(4, .int .u64 0), (5, .int .i64 0)] else []) (fn := Tryz.f197) (c := bodyOf Tryz.f197) (args := #[.pointer c_1, .pointer v_2]) 400 follows_mixed Tryz.func197 (by kernel_rfl) (by kernel_rfl)
def sh198 (c_1 : OA) (x_2 : OA) (R : EW) (w : World) : Prop :=
 ∃ q3, x_2 = some q3 ∧ (
 doCall Tryz.prog (.func (.func 197) #[] #[]) #[.pointer c_1, .pointer (some (q3.add 0))] w (retS (fun v4 w5 => v4 = (.tuple #[] : Value) ∧ (
 ∃ q6, x_2 = some q6 ∧ (
 doCall Tryz.prog (.func (.func 197) #[] #[]) #[.pointer c_1, .pointer (some (q6.add 1))] w5 (retS (fun v7 w8 => v7 = (.tuple #[] : Value) ∧ (
 R (.returned (.tuple #[])) w8)) (kN R))))) (kN R)))
theorem sh198_ok (c_1 : OA) (x_2 : OA) {R : EW} {w : World} : sh198 c_1 x_2 R w → Calls Tryz.prog 198 #[.pointer c_1, .pointer x_2] w R :=
  ceq Tryz.func198 (by kernel_rfl) (by kernel_rfl)
def sh199 (c_1 : OA) (k_2 : OA) (_xp3 : OA) (_xn4 : Nat) (_xc5 : Nat) (R : EW) (w : World) : Prop :=
 ∃ q6, c_1 = some q6 ∧ (
 ∃ x7, w.cell? (q6.add 0) = some (.string x7) ∧ (
 doCall Tryz.prog (.func (.func 42) #[] #[]) #[.bool (!(x7.toList == (⟨#[]⟩ : ByteArray).toList))] w (retS (fun v8 w9 => v8 = (.tuple #[] : Value) ∧ (
 doDr w9 (fun w11 =>
 ∃ (C10 : World → Prop), C10 w11 ∧ (
 ∃ q12, c_1 = some q12 ∧ (
 ∃ x13, (∀ w, C10 w → w.cell? (q12.add 0) = some (.string x13)) ∧ (
 ∃ b14, (0 : Int) ≤ 0 ∧ x13[(0 : Int).toNat]? = some b14 ∧ (
 ∃ q15, c_1 = some q15 ∧ (
 ∃ x16, (∀ w, C10 w → w.cell? (q15.add 0) = some (.string x16)) ∧ (
 doSs x16 (1) (((x16).size : Int)) (fun s17 =>
 ∃ q18, k_2 = some q18 ∧ (
 doSt (q18.add 0) (.int .u8 ((b14.toNat : Nat) : Int)) w11 (fun w19 =>
 ∃ q20, c_1 = some q20 ∧ (
 doSt ((q20.add 0).add 0) (.string s17) w19 (fun w21 =>
 R (.returned (.tuple #[])) w21)))))))))))))) (kN R))))
theorem sh199_ok (c_1 : OA) (k_2 : OA) (xp3 : OA) (xn4 : Nat) (xc5 : Nat) {R : EW} {w : World} : sh199 c_1 k_2 xp3 xn4 xc5 R w → Calls Tryz.prog 199 #[.pointer c_1, .pointer k_2, .slice xp3 xn4 xc5] w R :=
  ceq Tryz.func199 (by kernel_rfl) (by kernel_rfl)
def sh200 (o_1 : Int) (code_2 : Int) (R : EW) (w : World) : Prop :=
 let K6 : Addr → Bool → World → Prop := fun k_3 is_4 w5 => 
 ifB (!is_4) (
 R (.returned (.tuple #[.int .i64 0, .int .i64 2])) w5) (
 ∃ xf7 xx8 xc9, w5.cell? (k_3.add 2) = some (.func xf7 xx8 xc9) ∧ (
 doCall Tryz.prog (.func xf7 xx8 xc9) #[.int .u64 code_2] w5 (retS (fun v11 w12 => ∃ x10, v11 = (.int .i64 x10 : Value) ∧ (
 R (.returned (.tuple #[.int .i64 x10, .int .i64 0])) w12)) (kN R))))
 doCall Tryz.prog (.func (.func 163) #[] #[]) #[] w (retS (fun v14 w15 => ∃ x13, v14 = (.map x13 : Value) ∧ (
 doLk Tryz.prog 216 (.map x13) (.int .u8 o_1) true w15 (fun v24 => (∃ x16 xf17 xx18 xc19 xf20 xx21 xc22 x23, v24 = (.tuple #[.agg #[.string x16, .func xf17 xx18 xc19, .func xf20 xx21 xc22], .bool x23] : Value) ∧ (
 doAl (.cells #[.string (⟨#[]⟩ : ByteArray), .nilFunc, .nilFunc] 214) w15 (fun b25 w26 =>
 doSt ((blk b25).add 0) (.string x16) w26 (fun w27 =>
 doSt ((blk b25).add 1) (.func xf17 xx18 xc19) w27 (fun w28 =>
 doSt ((blk b25).add 2) (.func xf20 xx21 xc22) w28 (fun w29 =>
 K6 (blk b25) x23 w29)))))) ∨ (v24 = (.tuple #[.agg #[.string (⟨#[]⟩ : ByteArray), .nilFunc, .nilFunc], .bool false] : Value) ∧ (
 doAl (.cells #[.string (⟨#[]⟩ : ByteArray), .nilFunc, .nilFunc] 214) w15 (fun b30 w31 =>
 doSt ((blk b30).add 0) (.string (⟨#[]⟩ : ByteArray)) w31 (fun w32 =>
 doSt ((blk b30).add 1) (.nilFunc) w32 (fun w33 =>
 doSt ((blk b30).add 2) (.nilFunc) w33 (fun w34 =>
 K6 (blk b30) false w34))))))))) (kN R))
theorem sh200_ok (o_1 : Int) (code_2 : Int) {R : EW} {w : World} : sh200 o_1 code_2 R w → Calls Tryz.prog 200 #[.int .u8 o_1, .int .u64 code_2] w R :=
  ceq Tryz.func200 (by kernel_rfl) (by kernel_rfl)
end Go.Proofs.YtmkpkmdnapccgaaGreatDoor

namespace Go.Sh
open Go

def U (x : BitVec 64) : Int := (x.toNat : Int)
theorem U_lt (x : BitVec 64) : 0 ≤ U x ∧ U x < 18446744073709551616 := by
  have := x.isLt
  unfold U; omega
theorem U_inj {x y : BitVec 64} (h : U x = U y) : x = y := BitVec.eq_of_toNat_eq (by unfold U at h; omega)
theorem wrap64u (n : Int) : IntKind.wrap .u64 n = n % 18446744073709551616 := by simp [IntKind.wrap, IntKind.bits, IntKind.signed]
theorem wrap_U (x : Int) : IntKind.wrap .u64 x = U (BitVec.ofInt 64 x) := by
  rw [wrap64u]; unfold U; simp
  omega
theorem ofInt_U (x : BitVec 64) : BitVec.ofInt 64 (U x) = x := by
  apply BitVec.eq_of_toNat_eq
  have := x.isLt
  simp [U]
theorem bits_u64 : IntKind.bits .u64 = 64 := rfl
theorem bXor_U (x y : BitVec 64) : bXor .u64 (U x) (U y) = U (x ^^^ y) := by
  unfold bXor
  rw [bits_u64, ofInt_U, ofInt_U]
  rw [wrap_U]
  exact congrArg U (ofInt_U (x ^^^ y))
theorem bAnd_U (x y : BitVec 64) : bAnd .u64 (U x) (U y) = U (x &&& y) := by
  unfold bAnd
  rw [bits_u64, ofInt_U, ofInt_U]
  rw [wrap_U]
  exact congrArg U (ofInt_U (x &&& y))
theorem bOr_U (x y : BitVec 64) : bOr .u64 (U x) (U y) = U (x ||| y) := by
  unfold bOr
  rw [bits_u64, ofInt_U, ofInt_U]
  rw [wrap_U]
  exact congrArg U (ofInt_U (x ||| y))
theorem shr_U (x : BitVec 64) (s : Nat) (hs : s ≤ 64) : Int.fdiv (U x) (2 ^ (min ((s : Int)).toNat (IntKind.bits .u64))) = U (x >>> s) := by
  rw [bits_u64, Int.toNat_natCast, Nat.min_eq_left hs]
  unfold U
  rw [BitVec.toNat_ushiftRight, Nat.shiftRight_eq_div_pow, Int.fdiv_eq_ediv_of_nonneg _ (Int.pow_nonneg (by omega))]
  simp
theorem shl_U (x : BitVec 64) (s : Nat) (hs : s ≤ 64) : IntKind.wrap .u64 (U x * 2 ^ (min ((s : Int)).toNat (IntKind.bits .u64))) = U (x <<< s) := by
  rw [bits_u64, Int.toNat_natCast, Nat.min_eq_left hs, wrap64u]
  unfold U
  rw [BitVec.toNat_shiftLeft, Nat.shiftLeft_eq]
  simp
theorem mul_U (x y : BitVec 64) : IntKind.wrap .u64 (U x * U y) = U (x * y) := by
  rw [wrap64u]; unfold U; rw [BitVec.toNat_mul]; simp
theorem add_U (x y : BitVec 64) : IntKind.wrap .u64 (U x + U y) = U (x + y) := by
  rw [wrap64u]; unfold U; rw [BitVec.toNat_add]; simp
def xs (s : Nat) (x : BitVec 64) : BitVec 64 := x ^^^ (x >>> s)
def mixB (x : BitVec 64) : BitVec 64 := xs 31 (xs 27 (xs 30 x * 13787848793156543929#64) * 10723151780598845931#64)
def swapB (m : BitVec 64) (s : Nat) (x : BitVec 64) : BitVec 64 := ((x >>> s) &&& m) ||| ((x &&& m) <<< s)
def revBytes (x : BitVec 64) : BitVec 64 :=
  let a := swapB 71777214294589695#64 8 x
  let b := swapB 281470681808895#64 16 a
  (b >>> 32) ||| (b <<< 32)
def revB (x : BitVec 64) : BitVec 64 := revBytes (swapB 1085102592571150095#64 4 (swapB 3689348814741910323#64 2 (swapB 6148914691236517205#64 1 x)))
def In (x : Int) : Prop := -9223372036854775808 ≤ x ∧ x < 9223372036854775808
def upI (k : Int) : Int := k + 9223372036854775808
def codeI (o k : Int) : Int :=
  if o = 1 then upI k
  else if o = 2 then 18446744073709551615 - upI k
  else if o = 3 then (if k < 0 then -2 * k - 1 else 2 * k)
  else if o = 4 then U (revB (BitVec.ofInt 64 k))
  else if o = 5 then upI k / 2 + (if k % 2 = 1 then 9223372036854775808 else 0)
  else if o = 6 then upI k % 4294967296 * 4294967296 + upI k / 4294967296
  else U (mixB (BitVec.ofInt 64 k))
theorem codeI_rng {o k : Int} (hk : In k) : 0 ≤ codeI o k ∧ codeI o k < 18446744073709551616 := by
  unfold codeI upI
  unfold In at hk
  split
  · omega
  split
  · omega
  split
  · split <;> omega
  split
  · exact U_lt _
  split
  · split <;> omega
  split
  · omega
  · exact U_lt _
def cmpI (o a b : Int) : Int := if 1 ≤ o ∧ o ≤ 7 then (if codeI o a < codeI o b then -1 else if codeI o b < codeI o a then 1 else 0) else 0

theorem xor_top (x : BitVec 64) : x ^^^ 9223372036854775808#64 = x + 9223372036854775808#64 := by
  apply BitVec.eq_of_getLsbD_eq
  intro i hi
  rw [BitVec.getLsbD_xor]
  have e : (x + 9223372036854775808#64).getLsbD i = ((2 ^ 63 + x.toNat) % 2 ^ 64).testBit i := by
    rw [BitVec.getLsbD, BitVec.toNat_add, Nat.add_comm]; rfl
  rw [e, Nat.testBit_mod_two_pow, decide_eq_true hi, Bool.true_and]
  have ht : ∀ k : Fin 64, (9223372036854775808#64).getLsbD k.val = decide (k.val = 63) := by decide
  rw [ht ⟨i, hi⟩]
  by_cases h : i = 63
  · subst h
    rw [Nat.testBit_two_pow_add_eq]
    simp [BitVec.getLsbD]
  · rw [Nat.testBit_two_pow_add_gt (by omega)]
    simp [h, BitVec.getLsbD]
theorem U_ofInt (x : Int) : U (BitVec.ofInt 64 x) = x % 18446744073709551616 := by rw [← wrap_U, wrap64u]
theorem upB_U {k : Int} (hk : In k) : bXor .u64 (IntKind.wrap .u64 k) 9223372036854775808 = upI k := by
  rw [wrap_U, show (9223372036854775808 : Int) = U 9223372036854775808#64 from rfl, bXor_U, xor_top, ← add_U, U_ofInt, wrap64u]
  unfold upI In at *
  rw [show U 9223372036854775808#64 = 9223372036854775808 from rfl]
  omega
theorem not_U {x : Int} (h0 : 0 ≤ x) (h1 : x < 18446744073709551616) : bXor .u64 (IntKind.max .u64) x = 18446744073709551615 - x := by
  have hx : U (BitVec.ofInt 64 x) = x := by rw [U_ofInt]; omega
  have hm : IntKind.max .u64 = U (BitVec.allOnes 64) := by decide
  rw [hm, ← hx, bXor_U, BitVec.allOnes_xor]
  unfold U
  rw [BitVec.toNat_not]
  have := (BitVec.ofInt 64 x).isLt
  omega
theorem size_U {k : Int} (hk : In k) : IntKind.wrap .u64 (bXor .i64 (IntKind.wrap .i64 (k * 2 ^ (min (1 : Int).toNat (IntKind.bits .i64)))) (Int.fdiv k (2 ^ (min (63 : Int).toNat (IntKind.bits .i64))))) = if k < 0 then -2 * k - 1 else 2 * k := by
  have e1 : (2 : Int) ^ (min (1 : Int).toNat (IntKind.bits .i64)) = 2 := by decide
  have e2 : (2 : Int) ^ (min (63 : Int).toNat (IntKind.bits .i64)) = 9223372036854775808 := by decide
  rw [e1, e2]
  have key : ∀ x y : Int, IntKind.wrap .u64 (bXor .i64 x y) = U (BitVec.ofInt 64 x ^^^ BitVec.ofInt 64 y) := fun x y => by
    unfold bXor
    rw [show IntKind.bits .i64 = 64 from rfl]
    have := (BitVec.ofInt 64 x ^^^ BitVec.ofInt 64 y).isLt
    unfold U
    generalize (BitVec.ofInt 64 x ^^^ BitVec.ofInt 64 y).toNat = n at this ⊢
    rw [wrap64u]
    simp [IntKind.wrap, IntKind.bits, IntKind.signed]
    omega
  rw [key]
  have hw : BitVec.ofInt 64 (IntKind.wrap .i64 (k * 2)) = BitVec.ofInt 64 (k * 2) := by
    apply U_inj
    rw [U_ofInt, U_ofInt]
    simp [IntKind.wrap, IntKind.bits, IntKind.signed]
    omega
  rw [hw]
  unfold In at hk
  rw [Int.fdiv_eq_ediv_of_nonneg _ (by omega)]
  by_cases h : k < 0
  · rw [if_pos h, show k / 9223372036854775808 = -1 by omega, show BitVec.ofInt 64 (-1) = BitVec.allOnes 64 from rfl, BitVec.xor_allOnes]
    have : U (~~~ BitVec.ofInt 64 (k * 2)) = 18446744073709551615 - U (BitVec.ofInt 64 (k * 2)) := by
      unfold U; rw [BitVec.toNat_not]
      have := (BitVec.ofInt 64 (k * 2)).isLt
      omega
    rw [this, U_ofInt]; omega
  · rw [if_neg h, show k / 9223372036854775808 = 0 by omega, show BitVec.ofInt 64 0 = 0#64 from rfl, BitVec.xor_zero, U_ofInt]; omega
theorem rot_U (x : BitVec 64) {s : Nat} (h0 : 0 < s) (hs : s < 64) : U ((x <<< s) ||| (x >>> (64 - s))) = ((x.toNat % 2 ^ (64 - s) * 2 ^ s + x.toNat / 2 ^ (64 - s) : Nat) : Int) := by
  unfold U
  rw [BitVec.toNat_or, BitVec.toNat_shiftLeft, BitVec.toNat_ushiftRight, Nat.shiftLeft_eq, Nat.shiftRight_eq_div_pow]
  have e : x.toNat * 2 ^ s % 2 ^ 64 = 2 ^ s * (x.toNat % 2 ^ (64 - s)) := by
    have : (2 : Nat) ^ 64 = 2 ^ (64 - s) * 2 ^ s := by rw [← Nat.pow_add]; congr 1; omega
    rw [this, Nat.mul_mod_mul_right, Nat.mul_comm]
  have hlt : x.toNat / 2 ^ (64 - s) < 2 ^ s := by
    apply Nat.div_lt_of_lt_mul
    rw [← Nat.pow_add, show 64 - s + s = 64 by omega]
    exact x.isLt
  rw [e, ← Nat.two_pow_add_eq_or_of_lt hlt, Nat.mul_comm]

theorem shr_1 (x : BitVec 64) : Int.fdiv (U x) (2 ^ (min (1 : Int).toNat (IntKind.bits .u64))) = U (x >>> 1) := shr_U x 1 (by omega)
theorem shl_1 (x : BitVec 64) : IntKind.wrap .u64 (U x * 2 ^ (min (1 : Int).toNat (IntKind.bits .u64))) = U (x <<< 1) := shl_U x 1 (by omega)
theorem shr_2 (x : BitVec 64) : Int.fdiv (U x) (2 ^ (min (2 : Int).toNat (IntKind.bits .u64))) = U (x >>> 2) := shr_U x 2 (by omega)
theorem shl_2 (x : BitVec 64) : IntKind.wrap .u64 (U x * 2 ^ (min (2 : Int).toNat (IntKind.bits .u64))) = U (x <<< 2) := shl_U x 2 (by omega)
theorem shr_4 (x : BitVec 64) : Int.fdiv (U x) (2 ^ (min (4 : Int).toNat (IntKind.bits .u64))) = U (x >>> 4) := shr_U x 4 (by omega)
theorem shl_4 (x : BitVec 64) : IntKind.wrap .u64 (U x * 2 ^ (min (4 : Int).toNat (IntKind.bits .u64))) = U (x <<< 4) := shl_U x 4 (by omega)
theorem shr_8 (x : BitVec 64) : Int.fdiv (U x) (2 ^ (min (8 : Int).toNat (IntKind.bits .u64))) = U (x >>> 8) := shr_U x 8 (by omega)
theorem shl_8 (x : BitVec 64) : IntKind.wrap .u64 (U x * 2 ^ (min (8 : Int).toNat (IntKind.bits .u64))) = U (x <<< 8) := shl_U x 8 (by omega)
theorem shr_16 (x : BitVec 64) : Int.fdiv (U x) (2 ^ (min (16 : Int).toNat (IntKind.bits .u64))) = U (x >>> 16) := shr_U x 16 (by omega)
theorem shl_16 (x : BitVec 64) : IntKind.wrap .u64 (U x * 2 ^ (min (16 : Int).toNat (IntKind.bits .u64))) = U (x <<< 16) := shl_U x 16 (by omega)
theorem shr_32 (x : BitVec 64) : Int.fdiv (U x) (2 ^ (min (32 : Int).toNat (IntKind.bits .u64))) = U (x >>> 32) := shr_U x 32 (by omega)
theorem shl_32 (x : BitVec 64) : IntKind.wrap .u64 (U x * 2 ^ (min (32 : Int).toNat (IntKind.bits .u64))) = U (x <<< 32) := shl_U x 32 (by omega)
theorem and_a (x : BitVec 64) : bAnd .u64 (U x) 6148914691236517205 = U (x &&& 6148914691236517205#64) := bAnd_U x 6148914691236517205#64
theorem and_b (x : BitVec 64) : bAnd .u64 (U x) 3689348814741910323 = U (x &&& 3689348814741910323#64) := bAnd_U x 3689348814741910323#64
theorem and_c (x : BitVec 64) : bAnd .u64 (U x) 1085102592571150095 = U (x &&& 1085102592571150095#64) := bAnd_U x 1085102592571150095#64
theorem and_d (x : BitVec 64) : bAnd .u64 (U x) 71777214294589695 = U (x &&& 71777214294589695#64) := bAnd_U x 71777214294589695#64
theorem and_e (x : BitVec 64) : bAnd .u64 (U x) 281470681808895 = U (x &&& 281470681808895#64) := bAnd_U x 281470681808895#64

def isO (o : Int) : Bool := decide (1 ≤ o) && decide (o ≤ 7)
def nameB (o : Int) : ByteArray :=
  if o = 1 then ⟨#[117, 112]⟩ else if o = 2 then ⟨#[100, 111, 119, 110]⟩ else if o = 3 then ⟨#[115, 105, 122, 101]⟩ else if o = 4 then ⟨#[98, 105, 116, 115]⟩
  else if o = 5 then ⟨#[101, 118, 101, 110]⟩ else if o = 6 then ⟨#[108, 111, 119]⟩ else if o = 7 then ⟨#[109, 105, 120]⟩ else ⟨#[]⟩
theorem isO_cases {o : Int} (h : isO o = true) : o = 1 ∨ o = 2 ∨ o = 3 ∨ o = 4 ∨ o = 5 ∨ o = 6 ∨ o = 7 := by
  simp [isO] at h; omega
end Go.Sh

